/- Parts of the proof of SequencesSame: merged and given short names by a program of ours. -/
import Derived.Laws.IdiomStrings
import Derived.Test.YtaggdjhhmbnhoaaDoorSsA
set_option linter.unusedVariables false
set_option linter.unusedSimpArgs false
open Array renaming length_toList → alQ, getElem?_eq_none → amP
open Bool renaming false_eq_true → aiS, and_eq_true → ajH, not_true → akS, not_false → amW, or_eq_false_iff → amZ
open Int renaming toNat_natCast → aiM, tmod_eq_emod_of_nonneg → ajZ, tdiv_eq_ediv_of_nonneg → alU, fdiv_eq_ediv_of_nonneg → amG
open List renaming getElem?_eq_getElem → aiN, length_append → aiO, getElem?_cons_zero → aiP, getElem?_cons_succ → aiQ, take_succ_cons → aiT, set_cons_zero → aiV, set_cons_succ → aiW, length_map → aiX, drop_zero → aiY, take_zero → aiZ, append_assoc → ajB, getD_eq_getElem?_getD → ajD, mem_cons_of_mem → ajE, getElem?_append_left → ajF, getElem?_eq_none → ajJ, length_cons → ajK, length_take → ajL, getElem_mem → ajM, getElem?_map → ajO, getElem?_take_of_lt → ajR, length_eq_zero_iff → ajV, getElem?_append_right → ajY, drop_eq_getElem_cons → akA, nil_append → akC, mem_range → akD, mem_cons → akE, mem_map → akF, length_drop → akG, getElem_map → akH, append_nil → akM, map_append → akN, getElem_range → akU, replicate_succ → akV, take_add_one → akW, getElem?_toArray → akX, getElem?_drop → alB, cons_append → alE, ext_getElem → alF, count_append → alH, mem_append → alO, map_congr_left → alP, drop_of_length_le → alT, take_append_drop → alX, count_cons → amB, map_cons → amE, set_append_right → amF, getLast?_eq_getElem? → amI, take_length → amK, drop_succ_cons → amM, getElem_cons_zero → amS, length_range → amT, length_erase_of_mem → anE, getElem_cons_succ → anJ, getElem_set_self → anP, mem_filter → anQ, range_succ → anR
open Nat renaming zero_add → aiR, le_refl → aiU, pow_le_pow_right → ajA, lt_or_ge → ajI, mod_eq_of_lt → ajP, pow_succ → ajS, two_pow_pos → ajU, mul_le_mul_right → ajX, add_zero → akJ, min_eq_left → akO, add_mul → akQ, mul_comm → akT, add_sub_cancel → alC, eq_zero_or_pos → alK, add_assoc → alL, testBit_eq_decide_div_mod_eq → alV, div_lt_iff_lt_mul → alY, mod_lt → amA, le_trans → amJ, mul_one → amQ, pow_add → amR, sub_self → amV, le_div_iff_mul_le → amX, div_mul_le_self → anB, succ_mul → anF, sub_zero → anG, div_div_eq_div_mul → anK, div_le_self → anS
open Option renaming isNone_some → ajN, map_some → akB
open Option.some renaming inj → ajG
open UInt8 renaming toNat_lt → akI
namespace Go.Proofs.YtaggdjhhmbnhoaaDoor
open Go Go.En
set_option maxRecDepth 20000
attribute [local irreducible] Go.En.bG
variable (Q : Exit -> Env -> anV -> Prop) (g : Env) (w : anV)
def Bq : FA := ⟨lL, fun i => .leaf ([], []) []⟩
def Ci : List ResultVar := [.cell 2 142]
noncomputable def zR : Code := dC Tryd.f63
def tL (R : K1) (s_0 : anW) (w : anV) : Prop :=
 aC pg (BA 47 s_0) w fun s_1 w =>
 aC pg (cM 142) w fun t2 w =>
 aC pg (aQ 47 s_1 0) w fun t3 w =>
 aC pg (aJ 43 t3) w fun t4 w =>
 aC pg (aQ 47 s_1 2) w fun t5 w =>
 aC pg (aJ 43 t5) w fun t6 w =>
 aC pg (aQ 47 s_1 1) w fun t7 w =>
 aC pg (aJ 43 t7) w fun t8 w =>
 aC pg (cA 142 [(0, t4), (1, t6), (2, t8)]) w fun t9 w =>
 aC pg (aR 142 t2 t9) w fun _u w =>
 xA pg 142 t2 w fun r0 => R r0 w
theorem Hv (R : K1) (hr : HR Ci R Q) (h : tL R (g 0) w) : bG pg Bq zR Q g w :=
 eC (kn := no) (l := []) h fH hr trivial
def Gr (a0 : anW) (w : anV) (R : K1) : Prop :=
 tL R a0 w
theorem Jb {a0 : anW} {w : anV} {R : K1} (h : Gr a0 w R) : aU pg lL #[a0] w R := by
 refine xB (ann := Bq) Tryd.f63 zR [a0] Ci 10 TrydM.mixed Tryd.func63 ?_
 exact (Hv _ _ _ R (fun _ _ h => h) h)
def mD : FA := ⟨Ii, fun i => match Nat.beq i 8 with | true => .leaf ([], []) [(false, []), (false, []), (false, []), (false, []), (false, []), (false, []), (false, []), (false, [])] | false => .leaf ([], []) []⟩
def rY : List ResultVar := [.tmp 4, .tmp 5, .tmp 6]
noncomputable def kZ : Code := dC Tryd.f64
def EF (R : K1)  (w : anV) : Prop :=
 R (.tuple #[(.int .i64 0), (.int .u32 0), (.int .i64 17)]) w
theorem R0 (R : K1) (hr : HR rY R Q) (h : EF R w) : bG pg mD (aB 1 (aB 6 kZ)) Q g w :=
 eC (kn := no) (l := []) h fH hr trivial
def Er (kn : K5) (k1 : K0) (R : K1) (fC kM t58 t59 t60 : anW) (w : anV) : Prop :=
 aC pg (aF .lss 3 aL aL t60 t59) w fun t61 w =>
 fL t61
  (aC pg (bB 77 t58 t60) w fun t63 w =>
  aC pg (aJ 3 t63) w fun t64 w =>
  aC pg (aF .shl 43 aL aL (.int .u32 1) t64) w fun t67 w =>
  aC pg (aF .lss 43 aL aL fC t67) w fun t68 w =>
  fL t68
   (aC pg (aF .add 3 aL aL kM t60) w fun t71 w =>
   R (.tuple #[t71, fC, (.int .i64 0)]) w)
   (aC pg (aF .shl 43 aL aL (.int .u32 1) t64) w fun t75 w =>
   aC pg (aF .sub 43 aL aL fC t75) w fun t76 w =>
   aC pg (aF .add 3 aL aL t60 (.int .i64 1)) w fun t77 w =>
   kn t76 kM t58 t59 t77 w))
  (k1 w)
theorem SC (kn : K5) (k1 : K0) (R : K1) (hn : N5 Q kn 1 7 58 59 60) (h1 : E0 Q k1 1) (hr : HR rY R Q) (h : Er kn k1 R (g 1) (g 7) (g 58) (g 59) (g 60) w) : bG pg mD (bI (bI (aB 1 (aE 1 (aB 6 kZ))))) Q g w :=
 eC (l := [(1, fun g w => k1 w)]) h hn hr ⟨h1, trivial⟩
def J1 (k1 : K0) (R : K1) (fC kM t58 t59 t60 : anW) (w : anV) : Prop :=
 cO (fun (X : (anW × anW) -> K0) (t : anW × anW) (w : anV) => Er (fun fC _ _ _ t60 w => X (fC, t60) w) k1 R t.1 kM t58 t59 t.2 w) (fC, t60) w
theorem SN (k1 : K0) (R : K1) (h1 : E0 Q k1 1) (hr : HR rY R Q) (h : J1 k1 R (g 1) (g 7) (g 58) (g 59) (g 60) w) : bG pg mD (bI (aB 1 (aE 1 (aB 6 kZ)))) Q g w := by
 refine JK (fun g : Env => (g 1, g 60)) (fun X t w => Er (fun fC _ _ _ t60 w => X (fC, t60) w) k1 R t.1 (g 7) (g 58) (g 59) t.2 w) h (fun X g1 w1 ha hL => ?_)
 rw [<- fM 7 ha, <- fM 58 ha, <- fM 59 ha] at hL
 exact (SC _ g1 w1 (fun fC _ _ _ t60 w => X (fC, t60) w) k1 R (fun _ _ h => h) h1 hr hL)
def Kk (kn : K0) (R : K1) (fC kM t58 t59 t60 : anW) (w : anV) : Prop :=
 J1 kn R fC kM t58 t59 t60 w
def KJ (kn : K5) (fC kM EU : anW) (w : anV) : Prop :=
 aC pg (jI .len #[77] 3 [EU]) w fun t59 w =>
 kn fC kM EU t59 (.int .i64 0) w
theorem R6 (kn : K5) (hn : N5 Q kn 1 7 58 59 60) (h : KJ kn (g 1) (g 7) (g 9) w) : bG pg mD (aE 1 (aE 1 (aB 6 kZ))) Q g w :=
 eC (kr := no) (l := []) h hn fH trivial
def Kh (kn : K0) (R : K1) (fC kM EU : anW) (w : anV) : Prop :=
 KJ (fun fC kM t58 t59 t60 w => Kk kn R fC kM t58 t59 t60 w) fC kM EU w
def J3 (R : K1) (fC kM EU : anW) (w : anV) : Prop :=
 Kh (fun  w => EF R w) R fC kM EU w
theorem RS (kn : K0) (R : K1) (hn : N0 Q kn) (hr : HR rY R Q) (h : Kh kn R (g 1) (g 7) (g 9) w) : bG pg mD (aE 1 (aB 6 kZ)) Q g w :=
 gM 1 (R6 _ g w (Kk kn R) (fun g w h => aK (Ca 1 (SN _ g w kn R hn hr h))) h)
def J7 (kn : K3) (R : K1) (aT fC : anW) (w : anV) : Prop :=
 aU pg wX #[aT] w fun t15 w =>
 aC pg (bT t15 0) w fun t16 w =>
 aC pg (bT t15 1) w fun t17 w =>
 aC pg (bT t15 2) w fun t18 w =>
 aU pg pN #[aT] w fun t21 w =>
 aC pg (aF .lss 3 aL aL t21 (.int .i64 0)) w fun t22 w =>
 fL t22
  (R (.tuple #[(.int .i64 0), (.int .u32 0), (.int .i64 1)]) w)
  (aC pg (aF .eql 3 (.tmp 24) (.const (.int .i64 1)) aT (.int .i64 1)) w fun t25 w =>
  Gd (fA t25 true) (fun K => K fC w) w fun t27 w =>
  Gd (fA t25 true) (fun K => aC pg (aF .eql 43 (.tmp 27) (.const (.int .u32 0)) t27 (.int .u32 0)) w K) w fun t28 w =>
  aC pg (fR t25 t28 (.bool false)) w fun t29 w =>
  fL t29
   (R (.tuple #[(.int .i64 0), (.int .u32 0), (.int .i64 17)]) w)
   (aC pg (aF .eql 3 (.tmp 31) (.const (.int .i64 1)) aT (.int .i64 1)) w fun t32 w =>
   fL t32
    (aU pg mI #[fC] w fun t34 w =>
    aC pg (aF .sub 3 aL aL t34 (.int .i64 1)) w fun t35 w =>
    (dr w) = (dr w) /\
    (dr w) = (dr w) /\
    (dr w) = (dr w) /\
    aC pg (aF .shl 43 aL aL (.int .u32 1) t35) (dr w) fun t39 w_ => w_ = (dr w) /\
    aC pg (aF .sub 43 aL aL fC t39) (dr w) fun t40 w_ => w_ = (dr w) /\
    (dr w) = (dr w) /\
    (dr w) = (dr w) /\
    (dr w) = (dr w) /\
    R (.tuple #[t35, t40, (.int .i64 0)]) (dr w))
    (aC pg (aF .lss 43 aL aL fC t17) w fun t44 w =>
    fL t44
     (R (.tuple #[(.int .i64 0), (.int .u32 0), (.int .i64 17)]) w)
     (aC pg (aF .sub 43 aL aL fC t17) w fun t47 w =>
     aC pg (fG 3 43 t16) w fun t50 w =>
     aC pg (aF .lss 43 aL aL t47 t50) w fun t51 w =>
     fL t51
      (aC pg (fG 43 3 t47) w fun t53 w =>
      R (.tuple #[t53, (.int .u32 0), (.int .i64 0)]) w)
      (aC pg (fG 3 43 t16) w fun t56 w =>
      aC pg (aF .sub 43 aL aL t47 t56) w fun t57 w =>
      kn t57 t16 t18 w)))))
theorem RL (kn : K3) (R : K1) (hn : N3 Q kn 1 7 9) (hr : HR rY R Q) (h : J7 kn R (g 0) (g 1) w) : bG pg mD (aE 6 kZ) Q g w :=
 eC (l := []) h hn hr trivial
def KM (R : K1) (aT fC : anW) (w : anV) : Prop :=
 J7 (fun fC kM EU w => J3 R fC kM EU w) R aT fC w
theorem R1 (R : K1) (hr : HR rY R Q) (h : KM R (g 0) (g 1) w) : bG pg mD kZ Q g w :=
 gM 6 (RL _ g w (J3 R) R (fun g w h => aK (gM 1 (RS _ g w (fun  w => EF R w) R (fun g w h => aK (R0 _ g w R hr h)) hr h))) hr h)
def Vy (a0 a1 : anW) (w : anV) (R : K1) : Prop :=
 KM R a0 a1 w
theorem Tc {a0 a1 : anW} {w : anV} {R : K1} (h : Vy a0 a1 w R) : aU pg Ii #[a0, a1] w R := by
 refine xB (ann := mD) Tryd.f64 kZ [a0, a1] rY 78 TrydM.mixed Tryd.func64 ?_
 exact (R1 _ _ _ R (fun _ _ h => h) h)
def KS : FA := ⟨pN, fun i => .leaf ([], []) []⟩
def Mg : List ResultVar := [.tmp 2]
noncomputable def IM : Code := dC Tryd.f65
def Fk (R : K1) (aT : anW) (w : anV) : Prop :=
 aC pg (aF .eql 3 (.tmp 6) (.const (.int .i64 1)) aT (.int .i64 1)) w fun t7 w =>
 fL t7
  (R (.int .i64 31) w)
  (aU pg wX #[aT] w fun t10 w =>
  aC pg (bT t10 0) w fun t11 w =>
  aC pg (bT t10 1) w fun t12 w =>
  aC pg (bT t10 2) w fun t13 w =>
  aC pg (jI .len #[77] 3 [t13]) w fun t16 w =>
  aC pg (aF .add 3 aL aL t11 t16) w fun t17 w =>
  aC pg (aF .sub 3 aL aL t17 (.int .i64 1)) w fun t18 w =>
  R t18 w)
theorem P3 (R : K1) (hr : HR Mg R Q) (h : Fk R (g 0) w) : bG pg KS IM Q g w :=
 eC (kn := no) (l := []) h fH hr trivial
def SQ (a0 : anW) (w : anV) (R : K1) : Prop :=
 Fk R a0 w
theorem Rw {a0 : anW} {w : anV} {R : K1} (h : SQ a0 w R) : aU pg pN #[a0] w R := by
 refine xB (ann := KS) Tryd.f65 IM [a0] Mg 19 TrydM.mixed Tryd.func65 ?_
 exact (P3 _ _ _ R (fun _ _ h => h) h)
def Hg : FA := ⟨rD, fun i => .leaf ([], []) []⟩
def I2 : List ResultVar := [.cell 2 145]
noncomputable def Em : Code := dC Tryd.f66
def BM (R : K1) (aT : anW) (w : anV) : Prop :=
 aC pg (cM 145) w fun t2 w =>
 aC pg (aF .eql 3 (.tmp 6) (.const (.int .i64 0)) aT (.int .i64 0)) w fun t8 w =>
 fL t8
  (aC pg (aJ 174 (.pointer (some ⟨0, 0, none⟩))) w fun t9 w =>
  aC pg (cM 174) w fun l_3 w =>
  aC pg (aR 174 l_3 t9) w fun _u w =>
  aC pg (fW 174 l_3 none none none) w fun t10 w =>
  aC pg (cA 145 [(0, (.int .i64 6)), (1, t10)]) w fun t11 w =>
  aC pg (aR 145 t2 t11) w fun _u w =>
  xA pg 145 t2 w fun r0 => R r0 w)
  (aC pg (aF .eql 3 (.tmp 6) (.const (.int .i64 1)) aT (.int .i64 1)) w fun t13 w =>
  fL t13
   (aC pg (aJ 175 (.pointer (some ⟨1, 0, none⟩))) w fun t14 w =>
   aC pg (cM 175) w fun l_4 w =>
   aC pg (aR 175 l_4 t14) w fun _u w =>
   aC pg (fW 175 l_4 none none none) w fun t15 w =>
   aC pg (cA 145 [(0, (.int .i64 5)), (1, t15)]) w fun t16 w =>
   aC pg (aR 145 t2 t16) w fun _u w =>
   xA pg 145 t2 w fun r0 => R r0 w)
   (aC pg (aF .eql 3 (.tmp 6) (.const (.int .i64 2)) aT (.int .i64 2)) w fun t18 w =>
   fL t18
    (aC pg (aJ 176 (.pointer (some ⟨2, 0, none⟩))) w fun t19 w =>
    aC pg (cM 176) w fun l_5 w =>
    aC pg (aR 176 l_5 t19) w fun _u w =>
    aC pg (fW 176 l_5 none none none) w fun t20 w =>
    aC pg (cA 145 [(0, (.int .i64 6)), (1, t20)]) w fun t21 w =>
    aC pg (aR 145 t2 t21) w fun _u w =>
    xA pg 145 t2 w fun r0 => R r0 w)
    (aC pg (cA 145 []) w fun t22 w =>
    aC pg (aR 145 t2 t22) w fun _u w =>
    xA pg 145 t2 w fun r0 => R r0 w)))
theorem MJ (R : K1) (hr : HR I2 R Q) (h : BM R (g 0) w) : bG pg Hg Em Q g w :=
 eC (kn := no) (l := []) h fH hr trivial
def NZ (a0 : anW) (w : anV) (R : K1) : Prop :=
 BM R a0 w
theorem Nv {a0 : anW} {w : anV} {R : K1} (h : NZ a0 w R) : aU pg rD #[a0] w R := by
 refine xB (ann := Hg) Tryd.f66 Em [a0] I2 23 TrydM.mixed Tryd.func66 ?_
 exact (MJ _ _ _ R (fun _ _ h => h) h)
def dM : FA := ⟨mE, fun i => match Nat.beq i 3 with | true => .split 3 5 (.perm [0, 1, 2, 3, 4, 5, 6] [(3, 5)] ([3, 5, 6], [(0, 3), (0, 5), (1, 3), (1, 5), (4, 5)]) [(false, []), (false, []), (false, []), (true, [1, 2]), (false, []), (true, [0, 3, 4]), (true, [])]) (.perm [0, 1, 2, 5, 3, 4, 6] [(5, 3)] ([3, 4, 6], [(0, 3), (0, 4), (1, 3), (1, 4), (2, 3)]) [(false, []), (false, []), (false, []), (true, [0, 1, 2]), (true, [2, 3]), (false, []), (true, [])]) | false => match Nat.beq i 16 with | true => .leaf ([5, 10], [(1, 5), (2, 5)]) [(false, []), (false, []), (false, []), (false, []), (false, []), (true, [2, 3]), (false, []), (false, []), (false, []), (false, []), (true, [])] | false => match Nat.beq i 17 with | true => .leaf ([13], []) [(false, []), (false, []), (false, []), (false, []), (false, []), (false, []), (false, []), (false, []), (false, []), (false, []), (false, []), (false, []), (false, []), (true, [])] | false => .leaf ([], []) []⟩
def Cn : List ResultVar := [.cell 2 27, .tmp 3]
noncomputable def dA : Code := dC Tryd.f67
def Cy (R : K1) (t2 t4 : anW) (w : anV) : Prop :=
 aC pg (aJ 27 t4) w fun t90 w =>
 aC pg (aR 27 t2 t90) w fun _u w =>
 xA pg 27 t2 w fun r0 => R (.tuple #[r0, (.int .i64 0)]) w
theorem QW (R : K1) (hr : HR Cn R Q) (h : Cy R (g 2) (g 4) w) : bG pg dM (aB 1 (aB 1 (aB 1 (aB 3 dA)))) Q g w :=
 eC (kn := no) (l := []) h fH hr trivial
def Cq (kn : K6) (cL t2 t4 bV t42 t43 : anW) (w : anV) : Prop :=
 aC pg (aF .add 3 aL aL t43 (.int .i64 1)) w fun t89 w =>
 kn cL t2 t4 bV t42 t89 w
theorem QU (kn : K6) (hn : N6 Q kn 1 2 4 5 42 43) (h : Cq kn (g 1) (g 2) (g 4) (g 5) (g 42) (g 43) w) : bG pg dM (aB 1 (aB 2 (bI (bI (aB 1 (aE 1 (aB 1 (aB 1 (aB 3 dA))))))))) Q g w :=
 eC (kr := no) (l := []) h hn fH trivial
def CE (kn : K6) (cL t2 t4 bV WO NA t42 t43 : anW) (w : anV) : Prop :=
 (dr w) = (dr w) /\
 (dr w) = (dr w) /\
 (dr w) = (dr w) /\
 aC pg (lE WO) (dr w) fun t79 w_ => w_ = (dr w) /\
 aC pg (aQ 123 t79 1) (dr w) fun t80 w_ => w_ = (dr w) /\
 aC pg (aJ 3 t80) (dr w) fun t81 w_ => w_ = (dr w) /\
 aC pg (aF .shl 3 aL aL NA t81) (dr w) fun t82 w_ => w_ = (dr w) /\
 aC pg (aQ 27 t4 1) (dr w) fun t83 w_ => w_ = (dr w) /\
 aC pg (aJ 25 t83) (dr w) fun t84 w_ => w_ = (dr w) /\
 aC pg (jI .len #[25] 3 [t84]) (dr w) fun t85 w_ => w_ = (dr w) /\
 aC pg (aF .sub 3 aL aL t82 t85) (dr w) fun t86 w_ => w_ = (dr w) /\
 aC pg (lE WO) (dr w) fun t87 w_ => w_ = (dr w) /\
 aC pg (aQ 123 t87 2) (dr w) fun t88 w_ => w_ = (dr w) /\
 aC pg (aR 3 t88 t86) (dr w) fun _u13 adS =>
 kn cL t2 t4 bV t42 t43 adS
theorem QN (kn : K6) (hn : N6 Q kn 1 2 4 5 42 43) (h : CE kn (g 1) (g 2) (g 4) (g 5) (g 9) (g 10) (g 42) (g 43) w) : bG pg dM (aB 1 (aB 4 (bI (aE 1 (aB 2 (bI (bI (aB 1 (aE 1 (aB 1 (aB 1 (aB 3 dA)))))))))))) Q g w :=
 eC (kr := no) (l := []) h hn fH trivial
def Hy (kn : K8) (cL t2 t4 bV WO NA t42 t43 : anW) (w : anV) : Prop :=
 (dr w) = (dr w) /\
 aC pg (aQ 145 cL 0) (dr w) fun t67 w_ => w_ = (dr w) /\
 aC pg (aJ 3 t67) (dr w) fun t68 w_ => w_ = (dr w) /\
 (dr w) = (dr w) /\
 aC pg (fG 3 94 NA) (dr w) fun t70 w_ => w_ = (dr w) /\
 aU pg mB #[t70] (dr w) fun t71 Kb =>
 (eE pg (aJ 3 t67) t68 Kb /\ eE pg (aQ 145 cL 0) t67 Kb /\ True) /\
 aC pg (aF .sub 3 aL aL t68 t71) Kb fun t72 w_ => w_ = Kb /\
 aC pg (aF .add 3 aL aL t72 (.int .i64 1)) Kb fun t73 w_ => w_ = Kb /\
 aC pg (lE WO) Kb fun t74 w_ => w_ = Kb /\
 aC pg (aQ 123 t74 1) Kb fun t75 w_ => w_ = Kb /\
 aC pg (aR 3 t75 t73) Kb fun _u10 aeI =>
 kn cL t2 t4 bV WO NA t42 t43 aeI
theorem QK (kn : K8) (hn : N8 Q kn 1 2 4 5 9 10 42 43) (h : Hy kn (g 1) (g 2) (g 4) (g 5) (g 9) (g 10) (g 42) (g 43) w) : bG pg dM (aE 1 (aB 4 (bI (aE 1 (aB 2 (bI (bI (aB 1 (aE 1 (aB 1 (aB 1 (aB 3 dA)))))))))))) Q g w :=
 eC (kr := no) (l := []) h hn fH trivial
def IA (kn : K6) (cL t2 t4 bV WO NA t42 t43 : anW) (w : anV) : Prop :=
 Hy (fun cL t2 t4 bV WO NA t42 t43 w => CE kn cL t2 t4 bV WO NA t42 t43 w) cL t2 t4 bV WO NA t42 t43 w
def Hr (kn : K8) (cL t2 t4 bV t42 t43 : anW) (w : anV) : Prop :=
 aC pg (aQ 27 t4 1) w fun t46 w =>
 aC pg (aJ 25 t46) w fun t47 w =>
 aC pg (bB 25 t47 t43) w fun t49 w =>
 aC pg (lE t49) w fun t52 w =>
 aC pg (aQ 123 t52 0) w fun t53 w =>
 aC pg (aJ 5 t53) w fun t54 w =>
 aC pg (bB 77 bV t54) w fun t55 w =>
 aC pg (aJ 3 t55) w fun t56 w =>
 aC pg (lE t49) w fun t59 w =>
 aC pg (aQ 123 t59 0) w fun t60 w =>
 aC pg (aJ 5 t60) w fun t61 w =>
 aC pg (bB 77 bV t61) w fun t62 w =>
 aC pg (aJ 3 t62) w fun t63 w =>
 aC pg (aF .add 3 aL aL t63 (.int .i64 1)) w fun t64 w =>
 aC pg (bB 77 bV t61) w fun t65 w =>
 aC pg (aR 3 t65 t64) w fun _u w =>
 kn cL t2 t4 bV t49 t56 t42 t43 w
theorem QJ (kn : K8) (hn : N8 Q kn 1 2 4 5 9 10 42 43) (h : Hr kn (g 1) (g 2) (g 4) (g 5) (g 42) (g 43) w) : bG pg dM (aE 4 (bI (aE 1 (aB 2 (bI (bI (aB 1 (aE 1 (aB 1 (aB 1 (aB 3 dA))))))))))) Q g w :=
 eC (kr := no) (l := []) h hn fH trivial
def OK (kn : K6) (cL t2 t4 bV t42 t43 : anW) (w : anV) : Prop :=
 Hr (fun cL t2 t4 bV WO NA t42 t43 w => IA kn cL t2 t4 bV WO NA t42 t43 w) cL t2 t4 bV t42 t43 w
def Is (kn : K6) (cL t2 t4 bV t42 t43 : anW) (w : anV) : Prop :=
 OK kn cL t2 t4 bV t42 t43 w
def Cz (kn : K6) (cL t2 t4 bV t42 t43 : anW) (w : anV) : Prop :=
 Is (fun cL t2 t4 bV t42 t43 w => Cq kn cL t2 t4 bV t42 t43 w) cL t2 t4 bV t42 t43 w
theorem Rt (kn : K6) (hn : N6 Q kn 1 2 4 5 42 43) (h : Is kn (g 1) (g 2) (g 4) (g 5) (g 42) (g 43) w) : bG pg dM (aE 1 (aB 2 (bI (bI (aB 1 (aE 1 (aB 1 (aB 1 (aB 3 dA))))))))) Q g w :=
 Ca 3 (gM 4 (QJ _ g w (IA kn) (fun g w h => aK (gM 1 (QK _ g w (CE kn) (fun g w h => aK (QN _ g w kn hn h)) h))) h))
def EV (kn : K6) (k2 : K2) (cL t2 t4 bV t42 t43 : anW) (w : anV) : Prop :=
 aC pg (aF .lss 3 aL aL t43 t42) w fun t44 w =>
 fL t44
  (kn cL t2 t4 bV t42 t43 w)
  (k2 t2 t4 w)
theorem OZ (kn : K6) (k2 : K2) (hn : N6 Q kn 1 2 4 5 42 43) (h2 : E2 Q k2 2 2 4) (h : EV kn k2 (g 1) (g 2) (g 4) (g 5) (g 42) (g 43) w) : bG pg dM (aE 2 (bI (bI (aB 1 (aE 1 (aB 1 (aB 1 (aB 3 dA)))))))) Q g w :=
 eC (kr := no) (l := [(2, fun g w => k2 (g 2) (g 4) w)]) h hn fH ⟨h2, trivial⟩
def A8 (kn : K6) (k2 : K2) (cL t2 t4 bV t42 t43 : anW) (w : anV) : Prop :=
 EV (fun cL t2 t4 bV t42 t43 w => Cz kn cL t2 t4 bV t42 t43 w) k2 cL t2 t4 bV t42 t43 w
def ER (k2 : K2) (cL t2 t4 bV t42 t43 : anW) (w : anV) : Prop :=
 cO (fun (X : anW -> K0) (t : anW) (w : anV) => A8 (fun _ _ _ _ _ t43 w => X t43 w) k2 cL t2 t4 bV t42 t w) t43 w
theorem Pr (kn : K6) (k2 : K2) (hn : N6 Q kn 1 2 4 5 42 43) (h2 : E2 Q k2 2 2 4) (h : A8 kn k2 (g 1) (g 2) (g 4) (g 5) (g 42) (g 43) w) : bG pg dM (bI (bI (aB 1 (aE 1 (aB 1 (aB 1 (aB 3 dA))))))) Q g w :=
 gM 2 (OZ _ g w (Cz kn) k2 (fun g w h => aK (gM 1 (Rt _ g w (Cq kn) (fun g w h => aK (QU _ g w kn hn h)) h))) h2 h)
theorem Qb (k2 : K2) (h2 : E2 Q k2 2 2 4) (h : ER k2 (g 1) (g 2) (g 4) (g 5) (g 42) (g 43) w) : bG pg dM (bI (aB 1 (aE 1 (aB 1 (aB 1 (aB 3 dA)))))) Q g w := by
 refine JK (fun g : Env => g 43) (fun X t w => A8 (fun _ _ _ _ _ t43 w => X t43 w) k2 (g 1) (g 2) (g 4) (g 5) (g 42) t w) h (fun X g1 w1 ha hL => ?_)
 rw [<- fM 1 ha, <- fM 2 ha, <- fM 4 ha, <- fM 5 ha, <- fM 42 ha] at hL
 exact (Pr _ g1 w1 (fun _ _ _ _ _ t43 w => X t43 w) k2 (fun _ _ h => h) h2 hL)
def FK (kn : K2) (cL t2 t4 bV t42 t43 : anW) (w : anV) : Prop :=
 ER kn cL t2 t4 bV t42 t43 w
def FE (kn : K6) (cL t2 t4 bV : anW) (w : anV) : Prop :=
 aC pg (aQ 27 t4 1) w fun t40 w =>
 aC pg (aJ 25 t40) w fun t41 w =>
 aC pg (jI .len #[25] 3 [t41]) w fun t42 w =>
 kn cL t2 t4 bV t42 (.int .i64 0) w
theorem P6 (kn : K6) (hn : N6 Q kn 1 2 4 5 42 43) (h : FE kn (g 1) (g 2) (g 4) (g 5) w) : bG pg dM (aE 1 (aE 1 (aB 1 (aB 1 (aB 3 dA))))) Q g w :=
 eC (kr := no) (l := []) h hn fH trivial
def Fm (kn : K2) (cL t2 t4 bV : anW) (w : anV) : Prop :=
 FE (fun cL t2 t4 bV t42 t43 w => FK kn cL t2 t4 bV t42 t43 w) cL t2 t4 bV w
def AQ (R : K1) (cL t2 t4 bV : anW) (w : anV) : Prop :=
 Fm (fun t2 t4 w => Cy R t2 t4 w) cL t2 t4 bV w
theorem P9 (kn : K2) (hn : N2 Q kn 2 4) (h : Fm kn (g 1) (g 2) (g 4) (g 5) w) : bG pg dM (aE 1 (aB 1 (aB 1 (aB 3 dA)))) Q g w :=
 gM 1 (P6 _ g w (FK kn) (fun g w h => aK (Ca 2 (Qb _ g w kn hn h))) h)
def uH (kn : K7) (k0 : K4) (cL t2 t4 bV t25 t26 t27 : anW) (w : anV) : Prop :=
 aC pg (aF .lss 3 aL aL t27 t26) w fun t28 w =>
 fL t28
  (aC pg (bB 77 t25 t27) w fun t30 w =>
  aC pg (aJ 3 t30) w fun t31 w =>
  aC pg (sUn .neg t31) w fun t36 w =>
  aC pg (jI .max #[3, 3] 3 [t31, t36]) w fun t37 w =>
  aC pg (bB 77 bV t27) w fun t38 w =>
  aC pg (aR 3 t38 t37) w fun _u w =>
  aC pg (aF .add 3 aL aL t27 (.int .i64 1)) w fun t39 w =>
  kn cL t2 t4 bV t25 t26 t39 w)
  (k0 cL t2 t4 bV w)
theorem PM (kn : K7) (k0 : K4) (hn : N7 Q kn 1 2 4 5 25 26 27) (h0 : E4 Q k0 0 1 2 4 5) (h : uH kn k0 (g 1) (g 2) (g 4) (g 5) (g 25) (g 26) (g 27) w) : bG pg dM (bI (bI (aB 1 (aE 1 (aB 1 (aB 3 dA)))))) Q g w :=
 eC (kr := no) (l := [(0, fun g w => k0 (g 1) (g 2) (g 4) (g 5) w)]) h hn fH ⟨h0, trivial⟩
def FD (k0 : K4) (cL t2 t4 bV t25 t26 t27 : anW) (w : anV) : Prop :=
 cO (fun (X : anW -> K0) (t : anW) (w : anV) => uH (fun _ _ _ _ _ _ t27 w => X t27 w) k0 cL t2 t4 bV t25 t26 t w) t27 w
theorem Qe (k0 : K4) (h0 : E4 Q k0 0 1 2 4 5) (h : FD k0 (g 1) (g 2) (g 4) (g 5) (g 25) (g 26) (g 27) w) : bG pg dM (bI (aB 1 (aE 1 (aB 1 (aB 3 dA))))) Q g w := by
 refine JK (fun g : Env => g 27) (fun X t w => uH (fun _ _ _ _ _ _ t27 w => X t27 w) k0 (g 1) (g 2) (g 4) (g 5) (g 25) (g 26) t w) h (fun X g1 w1 ha hL => ?_)
 rw [<- fM 1 ha, <- fM 2 ha, <- fM 4 ha, <- fM 5 ha, <- fM 25 ha, <- fM 26 ha] at hL
 exact (PM _ g1 w1 (fun _ _ _ _ _ _ t27 w => X t27 w) k0 (fun _ _ h => h) h0 hL)
def EN (kn : K4) (cL t2 t4 bV t25 t26 t27 : anW) (w : anV) : Prop :=
 FD kn cL t2 t4 bV t25 t26 t27 w
def EZ (kn : K7) (cL t2 t4 bV : anW) (w : anV) : Prop :=
 aC pg (aQ 145 cL 1) w fun t24 w =>
 aC pg (aJ 77 t24) w fun t25 w =>
 aC pg (jI .len #[77] 3 [t25]) w fun t26 w =>
 kn cL t2 t4 bV t25 t26 (.int .i64 0) w
theorem Qg (kn : K7) (hn : N7 Q kn 1 2 4 5 25 26 27) (h : EZ kn (g 1) (g 2) (g 4) (g 5) w) : bG pg dM (aE 1 (aE 1 (aB 1 (aB 3 dA)))) Q g w :=
 eC (kr := no) (l := []) h hn fH trivial
def Fb (kn : K4) (cL t2 t4 bV : anW) (w : anV) : Prop :=
 EZ (fun cL t2 t4 bV t25 t26 t27 w => EN kn cL t2 t4 bV t25 t26 t27 w) cL t2 t4 bV w
def Fu (R : K1) (cL t2 t4 bV : anW) (w : anV) : Prop :=
 Fb (fun cL t2 t4 bV w => AQ R cL t2 t4 bV w) cL t2 t4 bV w
theorem P2 (kn : K4) (hn : N4 Q kn 1 2 4 5) (h : Fb kn (g 1) (g 2) (g 4) (g 5) w) : bG pg dM (aE 1 (aB 1 (aB 3 dA))) Q g w :=
 gM 1 (Qg _ g w (EN kn) (fun g w h => aK (Ca 0 (Qe _ g w kn hn h))) h)
def F2 (kn : K4) (cL t2 t4 : anW) (w : anV) : Prop :=
 aC pg (aQ 145 cL 1) w fun t20 w =>
 aC pg (aJ 77 t20) w fun t21 w =>
 aC pg (jI .len #[77] 3 [t21]) w fun t22 w =>
 aC pg (rM 77 t22 t22) w fun t23 w =>
 kn cL t2 t4 t23 w
theorem Qh (kn : K4) (hn : N4 Q kn 1 2 4 5) (h : F2 kn (g 1) (g 2) (g 4) w) : bG pg dM (aE 1 (aB 3 dA)) Q g w :=
 eC (kr := no) (l := []) h hn fH trivial
def uC (R : K1) (cL t2 t4 : anW) (w : anV) : Prop :=
 F2 (fun cL t2 t4 bV w => Fu R cL t2 t4 bV w) cL t2 t4 w
def A4 (kn : K3) (R : K1) (VZ : anW) (w : anV) : Prop :=
 aC pg (BA 145 VZ) w fun cL w =>
 aC pg (cM 27) w fun t2 w =>
 aC pg (aJ 145 cL) w fun t11 w =>
 aU pg yH #[t11, (.int .i64 15)] w fun t12 w =>
 aC pg (aF .neq 30 (.tmp 12) (.const (.int .i64 0)) t12 (.int .i64 0)) w fun t13 w =>
 fL t13
  (aC pg (cA 27 []) w fun t14 w =>
  aC pg (aR 27 t2 t14) w fun _u w =>
  xA pg 27 t2 w fun r0 => R (.tuple #[r0, (.int .i64 1)]) w)
  (Ord (Ua mE 3 (Dz 3 dA) 3 5 w)
   (aC pg (aQ 145 cL 0) (dr w) fun t15 w_ => w_ = (dr w) /\
   aC pg (aJ 3 t15) (dr w) fun t16 w_ => w_ = (dr w) /\
   aC pg (aJ 145 cL) (dr w) fun t17 w_ => w_ = (dr w) /\
   aU pg xZ #[t17] (dr w) fun t18 Tg =>
   (eE pg (aJ 3 t15) t16 Tg /\ eE pg (aQ 145 cL 0) t15 Tg /\ True) /\
   aC pg (cA 27 [(0, t16), (1, t18)]) Tg fun t19 w_ => w_ = Tg /\
   aC pg (cM 27) Tg fun t4 acU =>
   (eE pg (cA 27 [(0, t16), (1, t18)]) t19 acU /\ eE pg (aJ 3 t15) t16 acU /\ eE pg (aQ 145 cL 0) t15 acU /\ True) /\
   aC pg (aR 27 t4 t19) acU fun _u6 aeW =>
   kn cL t2 t4 aeW)
   (aC pg (aQ 145 cL 0) (dr w) fun t15 w_ => w_ = (dr w) /\
   aC pg (aJ 3 t15) (dr w) fun t16 w_ => w_ = (dr w) /\
   aC pg (aJ 145 cL) (dr w) fun t17 w_ => w_ = (dr w) /\
   aC pg (cM 27) (dr w) fun t4 Tg =>
   (eE pg (aJ 145 cL) t17 Tg /\ eE pg (aJ 3 t15) t16 Tg /\ eE pg (aQ 145 cL 0) t15 Tg /\ True) /\
   aU pg xZ #[t17] Tg fun t18 KV =>
   (eE pg (aJ 3 t15) t16 KV /\ eE pg (aQ 145 cL 0) t15 KV /\ True) /\
   aC pg (cA 27 [(0, t16), (1, t18)]) KV fun t19 w_ => w_ = KV /\
   aC pg (aR 27 t4 t19) KV fun _u6 aeW =>
   kn cL t2 t4 aeW))
theorem Pa (kn : K3) (R : K1) (hn : N3 Q kn 1 2 4) (hr : HR Cn R Q) (h : A4 kn R (g 0) w) : bG pg dM (aE 3 dA) Q g w :=
 eC (l := []) h hn hr trivial
def A2 (R : K1) (VZ : anW) (w : anV) : Prop :=
 A4 (fun cL t2 t4 w => uC R cL t2 t4 w) R VZ w
theorem Pm (R : K1) (hr : HR Cn R Q) (h : A2 R (g 0) w) : bG pg dM dA Q g w :=
 gM 3 (Pa _ g w (uC R) R (fun g w h => aK (gM 1 (Qh _ g w (Fu R) (fun g w h => aK (gM 1 (P2 _ g w (AQ R) (fun g w h => aK (gM 1 (P9 _ g w (Cy R) (fun g w h => aK (QW _ g w R hr h)) h))) h))) h))) hr h)
def PQ (a0 : anW) (w : anV) (R : K1) : Prop :=
 A2 R a0 w
theorem JV {a0 : anW} {w : anV} {R : K1} (h : PQ a0 w R) : aU pg mE #[a0] w R := by
 refine xB (ann := dM) Tryd.f67 dA [a0] Cn 91 TrydM.mixed Tryd.func67 ?_
 exact (Pm _ _ _ R (fun _ _ h => h) h)
def eM : FA := ⟨xE, fun i => match Nat.beq i 22 with | true => .leaf ([], []) [(false, []), (false, []), (false, []), (false, []), (false, []), (false, []), (false, []), (false, []), (false, []), (false, []), (false, [])] | false => .leaf ([], []) []⟩
def CB : List ResultVar := [.cell 4 145, .tmp 5]
noncomputable def dR : Code := dC Tryd.f68
def zG (R : K1) (t4 mZ dT bH : anW) (w : anV) : Prop :=
 aC pg (aQ 145 mZ 1) w fun t120 w =>
 aC pg (aJ 77 t120) w fun t121 w =>
 aC pg (bB 77 t121 bH) w fun t123 w =>
 aC pg (aJ 3 t123) w fun t124 w =>
 aC pg (aF .add 3 aL aL t124 dT) w fun t126 w =>
 aC pg (bB 77 t121 bH) w fun t127 w =>
 aC pg (aR 3 t127 t126) w fun _u w =>
 aC pg (aJ 145 mZ) w fun t128 w =>
 aC pg (aR 145 t4 t128) w fun _u w =>
 xA pg 145 t4 w fun r0 => R (.tuple #[r0, (.int .i64 0)]) w
theorem Q0 (R : K1) (hr : HR CB R Q) (h : zG R (g 4) (g 11) (g 12) (g 13) w) : bG pg eM (aB 1 (aB 4 (aB 1 (aB 3 dR)))) Q g w :=
 eC (kn := no) (l := []) h fH hr trivial
def Cr (kn : CH) (dH t4 dK t7 mZ dT bH t78 t79 t80 : anW) (w : anV) : Prop :=
 aC pg (aF .add 3 aL aL t80 (.int .i64 1)) w fun t119 w =>
 kn dH t4 dK t7 mZ dT bH t78 t79 t119 w
theorem Rk (kn : CH) (hn : N10 Q kn 1 4 6 7 11 12 13 78 79 80) (h : Cr kn (g 1) (g 4) (g 6) (g 7) (g 11) (g 12) (g 13) (g 78) (g 79) (g 80) w) : bG pg eM (aB 3 (bI (bI (aB 1 (aE 1 (aB 4 (aB 1 (aB 3 dR)))))))) Q g w :=
 eC (kr := no) (l := []) h hn fH trivial
def HE (kn : CH) (k2 : K4) (dH t4 dK t7 mZ dT bH t78 t79 t80 : anW) (w : anV) : Prop :=
 aC pg (aF .lss 3 aL aL t80 t79) w fun t81 w =>
 fL t81
  (aC pg (bB 91 t78 t80) w fun t83 w =>
  aC pg (aJ 43 t83) w fun t84 w =>
  aC pg (aF .eql 43 (.tmp 85) (.const (.int .u32 0)) t84 (.int .u32 0)) w fun t86 w =>
  fL t86
   (kn dH t4 dK t7 mZ dT bH t78 t79 t80 w)
   (aC pg (fG 43 73 t84) w fun t88 w =>
   aC pg (aF .shl 3 aL aL (.int .i64 1) dH) w fun t90 w =>
   aC pg (aF .sub 3 aL aL t90 t7) w fun t92 w =>
   aC pg (fG 3 73 t92) w fun t93 w =>
   aC pg (aF .mul 73 aL aL t88 t93) w fun t94 w =>
   aC pg (aF .quo 73 aL aL t94 dK) w fun t96 w =>
   aC pg (fG 73 3 t96) w fun t97 w =>
   aC pg (aQ 145 mZ 1) w fun t98 w =>
   aC pg (aJ 77 t98) w fun t99 w =>
   aC pg (aF .add 3 aL aL (.int .i64 1) t97) w fun t102 w =>
   aC pg (bB 77 t99 t80) w fun t103 w =>
   aC pg (aR 3 t103 t102) w fun _u w =>
   aC pg (aF .sub 3 aL aL dT t97) w fun t106 w =>
   aC pg (aQ 145 mZ 1) (dr w) fun t107 w_ => w_ = (dr w) /\
   aC pg (aJ 77 t107) (dr w) fun t108 w_ => w_ = (dr w) /\
   (dr w) = (dr w) /\
   aC pg (bB 77 t108 t80) (dr w) fun t110 w_ => w_ = (dr w) /\
   aC pg (aJ 3 t110) (dr w) fun t111 w_ => w_ = (dr w) /\
   aC pg (aQ 145 mZ 1) (dr w) fun t112 w_ => w_ = (dr w) /\
   aC pg (aJ 77 t112) (dr w) fun t113 w_ => w_ = (dr w) /\
   (dr w) = (dr w) /\
   aC pg (bB 77 t113 bH) (dr w) fun t115 w_ => w_ = (dr w) /\
   aC pg (aJ 3 t115) (dr w) fun t116 w_ => w_ = (dr w) /\
   aC pg (aF .gtr 3 aL aL t111 t116) (dr w) fun t117 w_ => w_ = (dr w) /\
   fL t117
    (kn dH t4 dK t7 mZ t106 t80 t78 t79 t80 (dr w))
    (kn dH t4 dK t7 mZ t106 bH t78 t79 t80 (dr w))))
  (k2 t4 mZ dT bH w)
theorem Rc (kn : CH) (k2 : K4) (hn : N10 Q kn 1 4 6 7 11 12 13 78 79 80) (h2 : E4 Q k2 2 4 11 12 13) (h : HE kn k2 (g 1) (g 4) (g 6) (g 7) (g 11) (g 12) (g 13) (g 78) (g 79) (g 80) w) : bG pg eM (aE 3 (bI (bI (aB 1 (aE 1 (aB 4 (aB 1 (aB 3 dR)))))))) Q g w :=
 eC (kr := no) (l := [(2, fun g w => k2 (g 4) (g 11) (g 12) (g 13) w)]) h hn fH ⟨h2, trivial⟩
def CF (kn : CH) (k2 : K4) (dH t4 dK t7 mZ dT bH t78 t79 t80 : anW) (w : anV) : Prop :=
 HE (fun dH t4 dK t7 mZ dT bH t78 t79 t80 w => Cr kn dH t4 dK t7 mZ dT bH t78 t79 t80 w) k2 dH t4 dK t7 mZ dT bH t78 t79 t80 w
def IE (k2 : K4) (dH t4 dK t7 mZ dT bH t78 t79 t80 : anW) (w : anV) : Prop :=
 cO (fun (X : (anW × anW × anW) -> K0) (t : anW × anW × anW) (w : anV) => CF (fun _ _ _ _ _ dT bH _ _ t80 w => X (dT, bH, t80) w) k2 dH t4 dK t7 mZ t.1 t.2.1 t78 t79 t.2.2 w) (dT, bH, t80) w
theorem Rl (kn : CH) (k2 : K4) (hn : N10 Q kn 1 4 6 7 11 12 13 78 79 80) (h2 : E4 Q k2 2 4 11 12 13) (h : CF kn k2 (g 1) (g 4) (g 6) (g 7) (g 11) (g 12) (g 13) (g 78) (g 79) (g 80) w) : bG pg eM (bI (bI (aB 1 (aE 1 (aB 4 (aB 1 (aB 3 dR))))))) Q g w :=
 gM 3 (Rc _ g w (Cr kn) k2 (fun g w h => aK (Rk _ g w kn hn h)) h2 h)
theorem QX (k2 : K4) (h2 : E4 Q k2 2 4 11 12 13) (h : IE k2 (g 1) (g 4) (g 6) (g 7) (g 11) (g 12) (g 13) (g 78) (g 79) (g 80) w) : bG pg eM (bI (aB 1 (aE 1 (aB 4 (aB 1 (aB 3 dR)))))) Q g w := by
 refine JK (fun g : Env => (g 12, g 13, g 80)) (fun X t w => CF (fun _ _ _ _ _ dT bH _ _ t80 w => X (dT, bH, t80) w) k2 (g 1) (g 4) (g 6) (g 7) (g 11) t.1 t.2.1 (g 78) (g 79) t.2.2 w) h (fun X g1 w1 ha hL => ?_)
 rw [<- fM 1 ha, <- fM 4 ha, <- fM 6 ha, <- fM 7 ha, <- fM 11 ha, <- fM 78 ha, <- fM 79 ha] at hL
 exact (Rl _ g1 w1 (fun _ _ _ _ _ dT bH _ _ t80 w => X (dT, bH, t80) w) k2 (fun _ _ h => h) h2 hL)
def Io (kn : K4) (dH t4 dK t7 mZ dT bH t78 t79 t80 : anW) (w : anV) : Prop :=
 IE kn dH t4 dK t7 mZ dT bH t78 t79 t80 w
def Ix (kn : CH) (cH dH t4 dK t7 bF mZ dT bH : anW) (w : anV) : Prop :=
 aC pg (aF .add 3 aL aL bF (.int .i64 1)) w fun t77 w =>
 aC pg (fW 91 cH none (some t77) none) w fun t78 w =>
 aC pg (jI .len #[91] 3 [t78]) w fun t79 w =>
 kn dH t4 dK t7 mZ dT bH t78 t79 (.int .i64 0) w
theorem Q9 (kn : CH) (hn : N10 Q kn 1 4 6 7 11 12 13 78 79 80) (h : Ix kn (g 0) (g 1) (g 4) (g 6) (g 7) (g 8) (g 11) (g 12) (g 13) w) : bG pg eM (aE 1 (aE 1 (aB 4 (aB 1 (aB 3 dR))))) Q g w :=
 eC (kr := no) (l := []) h hn fH trivial
def Ie (kn : K4) (cH dH t4 dK t7 bF mZ dT bH : anW) (w : anV) : Prop :=
 Ix (fun dH t4 dK t7 mZ dT bH t78 t79 t80 w => Io kn dH t4 dK t7 mZ dT bH t78 t79 t80 w) cH dH t4 dK t7 bF mZ dT bH w
def Cp (R : K1) (cH dH t4 dK t7 bF mZ dT bH : anW) (w : anV) : Prop :=
 Ie (fun t4 mZ dT bH w => zG R t4 mZ dT bH w) cH dH t4 dK t7 bF mZ dT bH w
theorem Rf (kn : K4) (hn : N4 Q kn 4 11 12 13) (h : Ie kn (g 0) (g 1) (g 4) (g 6) (g 7) (g 8) (g 11) (g 12) (g 13) w) : bG pg eM (aE 1 (aB 4 (aB 1 (aB 3 dR)))) Q g w :=
 gM 1 (Q9 _ g w (Io kn) (fun g w h => aK (Ca 2 (QX _ g w kn hn h))) h)
def FZ (kn : K9) (R : K1) (cH dH t4 dK t7 bF : anW) (w : anV) : Prop :=
 aC pg (aF .lss 3 aL aL dH (.int .i64 5)) w fun t35 w =>
 Gd (fA t35 false) (fun K => K dH w) w fun t37 w =>
 Gd (fA t35 false) (fun K => aC pg (aF .gtr 3 aL aL t37 (.int .i64 15)) w K) w fun t38 w =>
 aC pg (fR t35 (.bool true) t38) w fun t39 w =>
 Gd (fA t39 false) (fun K => K cH w) w fun t41 w =>
 Gd (fA t39 false) (fun K => aC pg (jI .len #[91] 3 [t41]) w K) w fun t42 w =>
 Gd (fA t39 false) (fun K => aC pg (aF .lss 3 aL aL t42 (.int .i64 1)) w K) w fun t43 w =>
 aC pg (fR t39 (.bool true) t43) w fun t44 w =>
 Gd (fA t44 false) (fun K => K cH w) w fun t46 w =>
 Gd (fA t44 false) (fun K => aC pg (jI .len #[91] 3 [t46]) w K) w fun t47 w =>
 Gd (fA t44 false) (fun K => aC pg (aF .gtr 3 aL aL t47 (.int .i64 256)) w K) w fun t48 w =>
 aC pg (fR t44 (.bool true) t48) w fun t49 w =>
 Gd (fA t49 false) (fun K => K t7 w) w fun t51 w =>
 Gd (fA t49 false) (fun K => aC pg (aF .lss 3 aL aL t51 (.int .i64 2)) w K) w fun t52 w =>
 aC pg (fR t49 (.bool true) t52) w fun t53 w =>
 Gd (fA t53 false) (fun K => K t7 w) w fun t55 w =>
 Gd (fA t53 false) (fun K => K dH w) w fun t56 w =>
 Gd (fA t53 false) (fun K => aC pg (aF .shl 3 aL aL (.int .i64 1) t56) w K) w fun t57 w =>
 Gd (fA t53 false) (fun K => aC pg (aF .gtr 3 aL aL t55 t57) w K) w fun t58 w =>
 aC pg (fR t53 (.bool true) t58) w fun t59 w =>
 Gd (fA t59 false) (fun K => K dK w) w fun t61 w =>
 Gd (fA t59 false) (fun K => aC pg (aF .gtr 73 aL aL t61 (.int .u64 2147483647)) w K) w fun t62 w =>
 aC pg (fR t59 (.bool true) t62) w fun t63 w =>
 fL t63
  (aC pg (cA 145 []) w fun t64 w =>
  aC pg (aR 145 t4 t64) w fun _u w =>
  xA pg 145 t4 w fun r0 => R (.tuple #[r0, (.int .i64 1)]) w)
  (aC pg (aF .add 3 aL aL bF (.int .i64 1)) w fun t67 w =>
  aC pg (rM 77 t67 t67) w fun t68 w =>
  aC pg (cA 145 [(0, dH), (1, t68)]) w fun t69 w =>
  aC pg (cM 145) w fun mZ w =>
  aC pg (aR 145 mZ t69) w fun _u w =>
  aC pg (aF .shl 3 aL aL (.int .i64 1) dH) w fun t71 w =>
  aC pg (aF .sub 3 aL aL t71 t7) w fun t73 w =>
  kn cH dH t4 dK t7 bF mZ t73 bF w)
theorem Qj (kn : K9) (R : K1) (hn : N9 Q kn 0 1 4 6 7 8 11 12 13) (hr : HR CB R Q) (h : FZ kn R (g 0) (g 1) (g 4) (g 6) (g 7) (g 8) w) : bG pg eM (aE 4 (aB 1 (aB 3 dR))) Q g w :=
 eC (l := []) h hn hr trivial
def AW (R : K1) (cH dH t4 dK t7 bF : anW) (w : anV) : Prop :=
 FZ (fun cH dH t4 dK t7 bF mZ dT bH w => Cp R cH dH t4 dK t7 bF mZ dT bH w) R cH dH t4 dK t7 bF w
def uG (kn : K9) (cH dH t4 dK t7 bF t17 t18 t19 : anW) (w : anV) : Prop :=
 aC pg (aF .add 3 aL aL t19 (.int .i64 1)) w fun t33 w =>
 kn cH dH t4 dK t7 bF t17 t18 t33 w
theorem OW (kn : K9) (hn : N9 Q kn 0 1 4 6 7 8 17 18 19) (h : uG kn (g 0) (g 1) (g 4) (g 6) (g 7) (g 8) (g 17) (g 18) (g 19) w) : bG pg eM (aB 3 (bI (bI (aB 1 (aE 1 (aB 3 dR)))))) Q g w :=
 eC (kr := no) (l := []) h hn fH trivial
def FM (kn : K9) (k0 : K6) (cH dH t4 dK t7 bF t17 t18 t19 : anW) (w : anV) : Prop :=
 aC pg (aF .lss 3 aL aL t19 t18) w fun t20 w =>
 fL t20
  (aC pg (bB 91 t17 t19) w fun t22 w =>
  aC pg (aJ 43 t22) w fun t23 w =>
  aC pg (fG 43 73 t23) w fun t26 w =>
  aC pg (aF .add 73 aL aL dK t26) w fun t27 w =>
  aC pg (aF .gtr 43 aL aL t23 (.int .u32 0)) w fun t29 w =>
  fL t29
   (aC pg (aF .add 3 aL aL t7 (.int .i64 1)) w fun t31 w =>
   kn cH dH t4 t27 t31 t19 t17 t18 t19 w)
   (kn cH dH t4 t27 t7 bF t17 t18 t19 w))
  (k0 cH dH t4 dK t7 bF w)
theorem PW (kn : K9) (k0 : K6) (hn : N9 Q kn 0 1 4 6 7 8 17 18 19) (h0 : E6 Q k0 0 0 1 4 6 7 8) (h : FM kn k0 (g 0) (g 1) (g 4) (g 6) (g 7) (g 8) (g 17) (g 18) (g 19) w) : bG pg eM (aE 3 (bI (bI (aB 1 (aE 1 (aB 3 dR)))))) Q g w :=
 eC (kr := no) (l := [(0, fun g w => k0 (g 0) (g 1) (g 4) (g 6) (g 7) (g 8) w)]) h hn fH ⟨h0, trivial⟩
def AZ (kn : K9) (k0 : K6) (cH dH t4 dK t7 bF t17 t18 t19 : anW) (w : anV) : Prop :=
 FM (fun cH dH t4 dK t7 bF t17 t18 t19 w => uG kn cH dH t4 dK t7 bF t17 t18 t19 w) k0 cH dH t4 dK t7 bF t17 t18 t19 w
def FT (k0 : K6) (cH dH t4 dK t7 bF t17 t18 t19 : anW) (w : anV) : Prop :=
 cO (fun (X : (anW × anW × anW × anW) -> K0) (t : anW × anW × anW × anW) (w : anV) => AZ (fun _ _ _ dK t7 bF _ _ t19 w => X (dK, t7, bF, t19) w) k0 cH dH t4 t.1 t.2.1 t.2.2.1 t17 t18 t.2.2.2 w) (dK, t7, bF, t19) w
theorem PI (kn : K9) (k0 : K6) (hn : N9 Q kn 0 1 4 6 7 8 17 18 19) (h0 : E6 Q k0 0 0 1 4 6 7 8) (h : AZ kn k0 (g 0) (g 1) (g 4) (g 6) (g 7) (g 8) (g 17) (g 18) (g 19) w) : bG pg eM (bI (bI (aB 1 (aE 1 (aB 3 dR))))) Q g w :=
 gM 3 (PW _ g w (uG kn) k0 (fun g w h => aK (OW _ g w kn hn h)) h0 h)
theorem O3 (k0 : K6) (h0 : E6 Q k0 0 0 1 4 6 7 8) (h : FT k0 (g 0) (g 1) (g 4) (g 6) (g 7) (g 8) (g 17) (g 18) (g 19) w) : bG pg eM (bI (aB 1 (aE 1 (aB 3 dR)))) Q g w := by
 refine JK (fun g : Env => (g 6, g 7, g 8, g 19)) (fun X t w => AZ (fun _ _ _ dK t7 bF _ _ t19 w => X (dK, t7, bF, t19) w) k0 (g 0) (g 1) (g 4) t.1 t.2.1 t.2.2.1 (g 17) (g 18) t.2.2.2 w) h (fun X g1 w1 ha hL => ?_)
 rw [<- fM 0 ha, <- fM 1 ha, <- fM 4 ha, <- fM 17 ha, <- fM 18 ha] at hL
 exact (PI _ g1 w1 (fun _ _ _ dK t7 bF _ _ t19 w => X (dK, t7, bF, t19) w) k0 (fun _ _ h => h) h0 hL)
def EX (kn : K6) (cH dH t4 dK t7 bF t17 t18 t19 : anW) (w : anV) : Prop :=
 FT kn cH dH t4 dK t7 bF t17 t18 t19 w
def Fv (kn : K9) (cH dH t4 dK t7 bF : anW) (w : anV) : Prop :=
 aC pg (jI .len #[91] 3 [cH]) w fun t18 w =>
 kn cH dH t4 dK t7 bF cH t18 (.int .i64 0) w
theorem Pf (kn : K9) (hn : N9 Q kn 0 1 4 6 7 8 17 18 19) (h : Fv kn (g 0) (g 1) (g 4) (g 6) (g 7) (g 8) w) : bG pg eM (aE 1 (aE 1 (aB 3 dR))) Q g w :=
 eC (kr := no) (l := []) h hn fH trivial
def F8 (kn : K6) (cH dH t4 dK t7 bF : anW) (w : anV) : Prop :=
 Fv (fun cH dH t4 dK t7 bF t17 t18 t19 w => EX kn cH dH t4 dK t7 bF t17 t18 t19 w) cH dH t4 dK t7 bF w
def A7 (R : K1) (cH dH t4 dK t7 bF : anW) (w : anV) : Prop :=
 F8 (fun cH dH t4 dK t7 bF w => AW R cH dH t4 dK t7 bF w) cH dH t4 dK t7 bF w
theorem Pg (kn : K6) (hn : N6 Q kn 0 1 4 6 7 8) (h : F8 kn (g 0) (g 1) (g 4) (g 6) (g 7) (g 8) w) : bG pg eM (aE 1 (aB 3 dR)) Q g w :=
 gM 1 (Pf _ g w (EX kn) (fun g w h => aK (Ca 0 (O3 _ g w kn hn h))) h)
def Fx (kn : K6) (cH dH : anW) (w : anV) : Prop :=
 aC pg (cM 145) w fun t4 w =>
 kn cH dH t4 (.int .u64 0) (.int .i64 0) (.int .i64 0) w
theorem PD (kn : K6) (hn : N6 Q kn 0 1 4 6 7 8) (h : Fx kn (g 0) (g 1) w) : bG pg eM (aE 3 dR) Q g w :=
 eC (kr := no) (l := []) h hn fH trivial
def Gb (R : K1) (cH dH : anW) (w : anV) : Prop :=
 Fx (fun cH dH t4 dK t7 bF w => A7 R cH dH t4 dK t7 bF w) cH dH w
theorem O0 (R : K1) (hr : HR CB R Q) (h : Gb R (g 0) (g 1) w) : bG pg eM dR Q g w :=
 gM 3 (PD _ g w (A7 R) (fun g w h => aK (gM 1 (Pg _ g w (AW R) (fun g w h => aK (gM 4 (Qj _ g w (Cp R) R (fun g w h => aK (gM 1 (Rf _ g w (zG R) (fun g w h => aK (Q0 _ g w R hr h)) h))) hr h))) h))) h)
def T0 (a0 a1 : anW) (w : anV) (R : K1) : Prop :=
 Gb R a0 a1 w
theorem SK {a0 a1 : anW} {w : anV} {R : K1} (h : T0 a0 a1 w R) : aU pg xE #[a0, a1] w R := by
 refine xB (ann := eM) Tryd.f68 dR [a0, a1] CB 129 TrydM.mixed Tryd.func68 ?_
 exact (O0 _ _ _ R (fun _ _ h => h) h)
def iU : FA := ⟨mV, fun i => .leaf ([], []) []⟩
def sO : List ResultVar := [.tmp 2]
noncomputable def iC : Code := dC Tryd.f69
def yB (R : K1)  (w : anV) : Prop :=
 R (.int .i64 0) w
theorem NO (R : K1) (hr : HR sO R Q) (h : yB R w) : bG pg iU (aB 1 (aB 1 iC)) Q g w :=
 eC (kn := no) (l := []) h fH hr trivial
def lO (kn : K0) (R : K1) (t3 t4 : anW) (w : anV) : Prop :=
 fL t4
  (R (.int .i64 9) w)
  (aC pg (aF .eql 3 (.tmp 3) (.const (.int .i64 1)) t3 (.int .i64 1)) w fun t8 w =>
  fL t8
   (R (.int .i64 8) w)
   (kn w))
theorem On (kn : K0) (R : K1) (hn : N0 Q kn) (hr : HR sO R Q) (h : lO kn R (g 3) (g 4) w) : bG pg iU (aB 1 (bI (aB 1 (aE 1 (aB 1 iC))))) Q g w :=
 eC (l := []) h hn hr trivial
def D5 (kn : K2) (t3 : anW) (w : anV) : Prop :=
 aC pg (aF .eql 3 (.tmp 3) (.const (.int .i64 0)) t3 (.int .i64 0)) w fun t5 w =>
 fL t5
  (kn t3 t5 w)
  (aC pg (aF .eql 3 (.tmp 3) (.const (.int .i64 2)) t3 (.int .i64 2)) w fun t6 w =>
  kn t3 t6 w)
theorem NY (kn : K2) (hn : N2 Q kn 3 4) (h : D5 kn (g 3) w) : bG pg iU (aE 1 (bI (aB 1 (aE 1 (aB 1 iC))))) Q g w :=
 eC (kr := no) (l := []) h hn fH trivial
def Le (kn : K0) (R : K1) (t3 : anW) (w : anV) : Prop :=
 D5 (fun t3 t4 w => lO kn R t3 t4 w) t3 w
def Dq (kn : K0) (R : K1) (t3 : anW) (w : anV) : Prop :=
 Le kn R t3 w
def D1 (kn : K1) (aT : anW) (w : anV) : Prop :=
 kn aT w
theorem NW (kn : K1) (hn : N1 Q kn 3) (h : D1 kn (g 0) w) : bG pg iU (aE 1 (aE 1 (aB 1 iC))) Q g w :=
 eC (kr := no) (l := []) h hn fH trivial
def DD (kn : K0) (R : K1) (aT : anW) (w : anV) : Prop :=
 D1 (fun t3 w => Dq kn R t3 w) aT w
def De (R : K1) (aT : anW) (w : anV) : Prop :=
 DD (fun  w => yB R w) R aT w
theorem Nl (kn : K0) (R : K1) (hn : N0 Q kn) (hr : HR sO R Q) (h : DD kn R (g 0) w) : bG pg iU (aE 1 (aB 1 iC)) Q g w :=
 gM 1 (NW _ g w (Dq kn R) (fun g w h => aK (Ca 0 (gM 1 (NY _ g w (lO kn R) (fun g w h => aK (On _ g w kn R hn hr h)) h)))) h)
def Dv (kn : K1) (aT : anW) (w : anV) : Prop :=
 kn aT w
theorem NI (kn : K1) (hn : N1 Q kn 0) (h : Dv kn (g 0) w) : bG pg iU (aE 1 iC) Q g w :=
 eC (kr := no) (l := []) h hn fH trivial
def BG (R : K1) (aT : anW) (w : anV) : Prop :=
 Dv (fun aT w => De R aT w) aT w
theorem MQ (R : K1) (hr : HR sO R Q) (h : BG R (g 0) w) : bG pg iU iC Q g w :=
 gM 1 (NI _ g w (De R) (fun g w h => aK (gM 1 (Nl _ g w (fun  w => yB R w) R (fun g w h => aK (NO _ g w R hr h)) hr h))) h)
def Qw (a0 : anW) (w : anV) (R : K1) : Prop :=
 BG R a0 w
theorem O1 {a0 : anW} {w : anV} {R : K1} (h : Qw a0 w R) : aU pg mV #[a0] w R := by
 refine xB (ann := iU) Tryd.f69 iC [a0] sO 9 TrydM.mixed Tryd.func69 ?_
 exact (MQ _ _ _ R (fun _ _ h => h) h)
def bW : FA := ⟨yD, fun i => .leaf ([], []) []⟩
def uO : List ResultVar := [.tmp 2, .tmp 3]
noncomputable def bS : Code := dC Tryd.f70
def qA (R : K1) (gN : anW) (w : anV) : Prop :=
 aU pg qY #[gN] w fun t107 w =>
 R (.tuple #[t107, (.int .i64 0)]) w
theorem MP (R : K1) (hr : HR uO R Q) (h : qA R (g 4) w) : bG pg bW (aB 1 (aB 5 bS)) Q g w :=
 eC (kn := no) (l := []) h fH hr trivial
def qB (kn : K4) (cL gN bJ lH : anW) (w : anV) : Prop :=
 aC pg (aF .add 3 aL aL lH (.int .i64 1)) w fun t31 w =>
 kn cL gN bJ t31 w
theorem Nb (kn : K4) (hn : N4 Q kn 1 4 5 6) (h : qB kn (g 1) (g 4) (g 5) (g 6) w) : bG pg bW (aB 1 (aB 1 (bI (bI (aB 1 (aE 1 (aB 5 bS))))))) Q g w :=
 eC (kr := no) (l := []) h hn fH trivial
def uT (kn : K4) (cL gN bJ lH dN : anW) (w : anV) : Prop :=
 aC pg (fG 3 73 dN) w fun t104 w =>
 aU pg cZ #[gN, t104, (.int .i64 2)] w fun t105 w =>
 kn cL gN bJ lH w
theorem MS (kn : K4) (hn : N4 Q kn 1 4 5 6) (h : uT kn (g 1) (g 4) (g 5) (g 6) (g 11) w) : bG pg bW (aB 1 (aB 1 (aB 1 (aB 3 (aB 5 (bI (aE 1 (aB 1 (bI (bI (aB 1 (aE 1 (aB 5 bS))))))))))))) Q g w :=
 eC (kr := no) (l := []) h hn fH trivial
def uX (kn : K5) (k5 : K5) (cL gN bJ lH dN : anW) (w : anV) : Prop :=
 aC pg (aF .geq 3 aL aL dN (.int .i64 3)) w fun t97 w =>
 fL t97
  (aU pg cZ #[gN, (.int .u64 3), (.int .i64 2)] w fun t101 w =>
  aC pg (aF .sub 3 aL aL dN (.int .i64 3)) w fun t99 w =>
  kn cL gN bJ lH t99 w)
  (k5 cL gN bJ lH dN w)
theorem M9 (kn : K5) (k5 : K5) (hn : N5 Q kn 1 4 5 6 11) (h5 : E5 Q k5 5 1 4 5 6 11) (h : uX kn k5 (g 1) (g 4) (g 5) (g 6) (g 11) w) : bG pg bW (bI (bI (aE 1 (aB 1 (aB 1 (aB 3 (aB 5 (bI (aE 1 (aB 1 (bI (bI (aB 1 (aE 1 (aB 5 bS))))))))))))))) Q g w :=
 eC (kr := no) (l := [(5, fun g w => k5 (g 1) (g 4) (g 5) (g 6) (g 11) w)]) h hn fH ⟨h5, trivial⟩
def BH (k5 : K5) (cL gN bJ lH dN : anW) (w : anV) : Prop :=
 cO (fun (X : anW -> K0) (t : anW) (w : anV) => uX (fun _ _ _ _ dN w => X dN w) k5 cL gN bJ lH t w) dN w
theorem MU (k5 : K5) (h5 : E5 Q k5 5 1 4 5 6 11) (h : BH k5 (g 1) (g 4) (g 5) (g 6) (g 11) w) : bG pg bW (bI (aE 1 (aB 1 (aB 1 (aB 3 (aB 5 (bI (aE 1 (aB 1 (bI (bI (aB 1 (aE 1 (aB 5 bS)))))))))))))) Q g w := by
 refine JK (fun g : Env => g 11) (fun X t w => uX (fun _ _ _ _ dN w => X dN w) k5 (g 1) (g 4) (g 5) (g 6) t w) h (fun X g1 w1 ha hL => ?_)
 rw [<- fM 1 ha, <- fM 4 ha, <- fM 5 ha, <- fM 6 ha] at hL
 exact (M9 _ g1 w1 (fun _ _ _ _ dN w => X dN w) k5 (fun _ _ h => h) h5 hL)
def BY (kn : K5) (cL gN bJ lH dN : anW) (w : anV) : Prop :=
 BH kn cL gN bJ lH dN w
def uV (kn : K4) (cL gN bJ lH dN : anW) (w : anV) : Prop :=
 BY (fun cL gN bJ lH dN w => uT kn cL gN bJ lH dN w) cL gN bJ lH dN w
theorem Mz (kn : K5) (hn : N5 Q kn 1 4 5 6 11) (h : BY kn (g 1) (g 4) (g 5) (g 6) (g 11) w) : bG pg bW (aE 1 (aB 1 (aB 1 (aB 3 (aB 5 (bI (aE 1 (aB 1 (bI (bI (aB 1 (aE 1 (aB 5 bS))))))))))))) Q g w :=
 Ca 5 (MU _ g w kn hn h)
def BI (kn : K5) (cL gN bJ lH dN : anW) (w : anV) : Prop :=
 aC pg (aF .add 3 aL aL lH dN) w fun t95 w =>
 kn cL gN bJ t95 dN w
theorem Mx (kn : K5) (hn : N5 Q kn 1 4 5 6 11) (h : BI kn (g 1) (g 4) (g 5) (g 6) (g 11) w) : bG pg bW (aE 1 (aB 1 (aB 3 (aB 5 (bI (aE 1 (aB 1 (bI (bI (aB 1 (aE 1 (aB 5 bS)))))))))))) Q g w :=
 eC (kr := no) (l := []) h hn fH trivial
def B2 (kn : K4) (cL gN bJ lH dN : anW) (w : anV) : Prop :=
 BI (fun cL gN bJ lH dN w => uV kn cL gN bJ lH dN w) cL gN bJ lH dN w
def tA (kn : K5) (k3 : K5) (cL gN bJ lH dN : anW) (w : anV) : Prop :=
 aC pg (aQ 145 cL 1) w fun t82 w =>
 aC pg (aJ 77 t82) w fun t83 w =>
 aC pg (aF .add 3 aL aL lH (.int .i64 1)) w fun t85 w =>
 aC pg (aF .add 3 aL aL t85 dN) w fun t87 w =>
 aC pg (bB 77 t83 t87) w fun t88 w =>
 aC pg (aJ 3 t88) w fun t89 w =>
 aC pg (aF .eql 3 (.tmp 89) (.const (.int .i64 0)) t89 (.int .i64 0)) w fun t90 w =>
 fL t90
  (aC pg (aF .add 3 aL aL dN (.int .i64 1)) w fun t92 w =>
  kn cL gN bJ lH t92 w)
  (k3 cL gN bJ lH dN w)
theorem LC (kn : K5) (k3 : K5) (hn : N5 Q kn 1 4 5 6 11) (h3 : E5 Q k3 3 1 4 5 6 11) (h : tA kn k3 (g 1) (g 4) (g 5) (g 6) (g 11) w) : bG pg bW (bI (bI (aE 1 (aB 3 (aB 5 (bI (aE 1 (aB 1 (bI (bI (aB 1 (aE 1 (aB 5 bS))))))))))))) Q g w :=
 eC (kr := no) (l := [(3, fun g w => k3 (g 1) (g 4) (g 5) (g 6) (g 11) w)]) h hn fH ⟨h3, trivial⟩
def sT (k3 : K5) (cL gN bJ lH dN : anW) (w : anV) : Prop :=
 cO (fun (X : anW -> K0) (t : anW) (w : anV) => tA (fun _ _ _ _ dN w => X dN w) k3 cL gN bJ lH t w) dN w
theorem LO (k3 : K5) (h3 : E5 Q k3 3 1 4 5 6 11) (h : sT k3 (g 1) (g 4) (g 5) (g 6) (g 11) w) : bG pg bW (bI (aE 1 (aB 3 (aB 5 (bI (aE 1 (aB 1 (bI (bI (aB 1 (aE 1 (aB 5 bS)))))))))))) Q g w := by
 refine JK (fun g : Env => g 11) (fun X t w => tA (fun _ _ _ _ dN w => X dN w) k3 (g 1) (g 4) (g 5) (g 6) t w) h (fun X g1 w1 ha hL => ?_)
 rw [<- fM 1 ha, <- fM 4 ha, <- fM 5 ha, <- fM 6 ha] at hL
 exact (LC _ g1 w1 (fun _ _ _ _ dN w => X dN w) k3 (fun _ _ h => h) h3 hL)
def Ao (kn : K5) (cL gN bJ lH dN : anW) (w : anV) : Prop :=
 sT kn cL gN bJ lH dN w
def AD (kn : K4) (cL gN bJ lH dN : anW) (w : anV) : Prop :=
 Ao (fun cL gN bJ lH dN w => B2 kn cL gN bJ lH dN w) cL gN bJ lH dN w
theorem Lx (kn : K5) (hn : N5 Q kn 1 4 5 6 11) (h : Ao kn (g 1) (g 4) (g 5) (g 6) (g 11) w) : bG pg bW (aE 1 (aB 3 (aB 5 (bI (aE 1 (aB 1 (bI (bI (aB 1 (aE 1 (aB 5 bS))))))))))) Q g w :=
 Ca 3 (LO _ g w kn hn h)
def AK (kn : K5) (k1 : K4) (cL gN bJ lH p_7 : anW) (w : anV) : Prop :=
 aU pg lN #[p_7] w fun t78 w =>
 aC pg (aF .sub 3 aL aL bJ t78) w fun t79 w =>
 aC pg (aF .neq 3 (.tmp 80) (.const (.int .i64 0)) p_7 (.int .i64 0)) w fun t81 w =>
 fL t81
  (k1 cL gN t79 lH w)
  (kn cL gN t79 lH (.int .i64 0) w)
theorem LK (kn : K5) (k1 : K4) (hn : N5 Q kn 1 4 5 6 11) (h1 : E4 Q k1 1 1 4 5 6) (h : AK kn k1 (g 1) (g 4) (g 5) (g 6) (g 7) w) : bG pg bW (aE 3 (aB 5 (bI (aE 1 (aB 1 (bI (bI (aB 1 (aE 1 (aB 5 bS)))))))))) Q g w :=
 eC (kr := no) (l := [(1, fun g w => k1 (g 1) (g 4) (g 5) (g 6) w)]) h hn fH ⟨h1, trivial⟩
def AF (kn : K4) (k1 : K4) (cL gN bJ lH p_7 : anW) (w : anV) : Prop :=
 AK (fun cL gN bJ lH dN w => AD kn cL gN bJ lH dN w) k1 cL gN bJ lH p_7 w
def sQ (kn : K5) (cL gN bJ lH : anW) (w : anV) : Prop :=
 aC pg (aQ 145 cL 1) w fun t32 w =>
 aC pg (aJ 77 t32) w fun t33 w =>
 aC pg (bB 77 t33 lH) w fun t35 w =>
 aC pg (aJ 3 t35) w fun t36 w =>
 aC pg (aF .add 3 aL aL bJ (.int .i64 1)) w fun t38 w =>
 aC pg (fG 3 94 t38) w fun t39 w =>
 aU pg mB #[t39] w fun t40 w =>
 aC pg (aF .shl 3 aL aL (.int .i64 1) t40) w fun t42 w =>
 aC pg (aF .sub 3 aL aL t42 (.int .i64 2)) w fun t43 w =>
 aC pg (aF .sub 3 aL aL t43 bJ) w fun t45 w =>
 aC pg (aF .add 3 aL aL t36 (.int .i64 1)) w fun t47 w =>
 aC pg (aF .lss 3 aL aL t47 t45) w fun t58 w =>
 fL t58
  (aC pg (fG 3 73 t47) w fun t61 w =>
  aC pg (aF .sub 3 aL aL t40 (.int .i64 1)) w fun t63 w =>
  aU pg cZ #[gN, t61, t63] w fun t64 w =>
  kn cL gN bJ lH t36 w)
  (aC pg (aF .sub 3 aL aL t40 (.int .i64 1)) w fun t68 w =>
  aC pg (aF .shl 3 aL aL (.int .i64 1) t68) w fun t69 w =>
  aC pg (aF .lss 3 aL aL t47 t69) w fun t70 w =>
  fL t70
   (aC pg (fG 3 73 t47) w fun t73 w =>
   aU pg cZ #[gN, t73, t40] w fun t75 w =>
   kn cL gN bJ lH t36 w)
   (aC pg (aF .add 3 aL aL t47 t45) w fun t51 w =>
   aC pg (fG 3 73 t51) w fun t52 w =>
   aU pg cZ #[gN, t52, t40] w fun t54 w =>
   kn cL gN bJ lH t36 w))
theorem LW (kn : K5) (hn : N5 Q kn 1 4 5 6 7) (h : sQ kn (g 1) (g 4) (g 5) (g 6) w) : bG pg bW (aE 5 (bI (aE 1 (aB 1 (bI (bI (aB 1 (aE 1 (aB 5 bS))))))))) Q g w :=
 eC (kr := no) (l := []) h hn fH trivial
def GP (kn : K4) (k1 : K4) (cL gN bJ lH : anW) (w : anV) : Prop :=
 sQ (fun cL gN bJ lH p_7 w => AF kn k1 cL gN bJ lH p_7 w) cL gN bJ lH w
def Al (kn : K4) (cL gN bJ lH : anW) (w : anV) : Prop :=
 GP kn kn cL gN bJ lH w
def AE (kn : K4) (cL gN bJ lH : anW) (w : anV) : Prop :=
 Al (fun cL gN bJ lH w => qB kn cL gN bJ lH w) cL gN bJ lH w
theorem LM (kn : K4) (hn : N4 Q kn 1 4 5 6) (h : Al kn (g 1) (g 4) (g 5) (g 6) w) : bG pg bW (aE 1 (aB 1 (bI (bI (aB 1 (aE 1 (aB 5 bS))))))) Q g w :=
 Ca 1 (gM 5 (LW _ g w (AF kn kn) (fun g w h => aK (gM 3 (LK _ g w (AD kn) kn (fun g w h => aK (gM 1 (Lx _ g w (B2 kn) (fun g w h => aK (gM 1 (Mx _ g w (uV kn) (fun g w h => aK (gM 1 (Mz _ g w (uT kn) (fun g w h => aK (MS _ g w kn hn h)) h))) h))) h))) hn h))) h))
def Ah (kn : K4) (k0 : K1) (cL gN bJ lH : anW) (w : anV) : Prop :=
 aC pg (aQ 145 cL 1) w fun t26 w =>
 aC pg (aJ 77 t26) w fun t27 w =>
 aC pg (jI .len #[77] 3 [t27]) w fun t28 w =>
 aC pg (aF .lss 3 aL aL lH t28) w fun t29 w =>
 fL t29
  (kn cL gN bJ lH w)
  (k0 gN w)
theorem LA (kn : K4) (k0 : K1) (hn : N4 Q kn 1 4 5 6) (h0 : E1 Q k0 0 4) (h : Ah kn k0 (g 1) (g 4) (g 5) (g 6) w) : bG pg bW (aE 1 (bI (bI (aB 1 (aE 1 (aB 5 bS)))))) Q g w :=
 eC (kr := no) (l := [(0, fun g w => k0 (g 4) w)]) h hn fH ⟨h0, trivial⟩
def tC (kn : K4) (k0 : K1) (cL gN bJ lH : anW) (w : anV) : Prop :=
 Ah (fun cL gN bJ lH w => AE kn cL gN bJ lH w) k0 cL gN bJ lH w
def AB (k0 : K1) (cL gN bJ lH : anW) (w : anV) : Prop :=
 cO (fun (X : (anW × anW) -> K0) (t : anW × anW) (w : anV) => tC (fun _ _ bJ lH w => X (bJ, lH) w) k0 cL gN t.1 t.2 w) (bJ, lH) w
theorem LX (kn : K4) (k0 : K1) (hn : N4 Q kn 1 4 5 6) (h0 : E1 Q k0 0 4) (h : tC kn k0 (g 1) (g 4) (g 5) (g 6) w) : bG pg bW (bI (bI (aB 1 (aE 1 (aB 5 bS))))) Q g w :=
 gM 1 (LA _ g w (AE kn) k0 (fun g w h => aK (gM 1 (LM _ g w (qB kn) (fun g w h => aK (Nb _ g w kn hn h)) h))) h0 h)
theorem LL (k0 : K1) (h0 : E1 Q k0 0 4) (h : AB k0 (g 1) (g 4) (g 5) (g 6) w) : bG pg bW (bI (aB 1 (aE 1 (aB 5 bS)))) Q g w := by
 refine JK (fun g : Env => (g 5, g 6)) (fun X t w => tC (fun _ _ bJ lH w => X (bJ, lH) w) k0 (g 1) (g 4) t.1 t.2 w) h (fun X g1 w1 ha hL => ?_)
 rw [<- fM 1 ha, <- fM 4 ha] at hL
 exact (LX _ g1 w1 (fun _ _ bJ lH w => X (bJ, lH) w) k0 (fun _ _ h => h) h0 hL)
def Au (kn : K1) (cL gN bJ lH : anW) (w : anV) : Prop :=
 AB kn cL gN bJ lH w
def Ar (kn : K4) (cL gN bJ : anW) (w : anV) : Prop :=
 kn cL gN bJ (.int .i64 0) w
theorem Ly (kn : K4) (hn : N4 Q kn 1 4 5 6) (h : Ar kn (g 1) (g 4) (g 5) w) : bG pg bW (aE 1 (aE 1 (aB 5 bS))) Q g w :=
 eC (kr := no) (l := []) h hn fH trivial
def Av (kn : K1) (cL gN bJ : anW) (w : anV) : Prop :=
 Ar (fun cL gN bJ lH w => Au kn cL gN bJ lH w) cL gN bJ w
def tB (R : K1) (cL gN bJ : anW) (w : anV) : Prop :=
 Av (fun gN w => qA R gN w) cL gN bJ w
theorem L6 (kn : K1) (hn : N1 Q kn 4) (h : Av kn (g 1) (g 4) (g 5) w) : bG pg bW (aE 1 (aB 5 bS)) Q g w :=
 gM 1 (Ly _ g w (Au kn) (fun g w h => aK (Ca 0 (LL _ g w kn hn h))) h)
def Ap (kn : K3) (R : K1) (VZ : anW) (w : anV) : Prop :=
 aC pg (BA 145 VZ) w fun cL w =>
 aC pg (aJ 145 cL) w fun t12 w =>
 aU pg yT #[t12] w fun t13 w =>
 aC pg (sUn .not t13) w fun t14 w =>
 fL t14
  (R (.tuple #[(.slice none 0 0), (.int .i64 1)]) w)
  (aU pg lG #[] w fun t15 w =>
  aC pg (aQ 145 cL 0) w fun t17 w =>
  aC pg (aJ 3 t17) w fun t18 w =>
  aC pg (aF .sub 3 aL aL t18 (.int .i64 5)) w fun t19 w =>
  aC pg (fG 3 73 t19) w fun t20 w =>
  aU pg cZ #[t15, t20, (.int .i64 4)] w fun t21 w =>
  aC pg (aQ 145 cL 0) w fun t22 w =>
  aC pg (aJ 3 t22) w fun t23 w =>
  aC pg (aF .shl 3 aL aL (.int .i64 1) t23) w fun t24 w =>
  kn cL t15 t24 w)
theorem LQ (kn : K3) (R : K1) (hn : N3 Q kn 1 4 5) (hr : HR uO R Q) (h : Ap kn R (g 0) w) : bG pg bW (aE 5 bS) Q g w :=
 eC (l := []) h hn hr trivial
def Ak (R : K1) (VZ : anW) (w : anV) : Prop :=
 Ap (fun cL gN bJ w => tB R cL gN bJ w) R VZ w
theorem Ma (R : K1) (hr : HR uO R Q) (h : Ak R (g 0) w) : bG pg bW bS Q g w :=
 gM 5 (LQ _ g w (tB R) R (fun g w h => aK (gM 1 (L6 _ g w (qA R) (fun g w h => aK (MP _ g w R hr h)) h))) hr h)
def Ok (a0 : anW) (w : anV) (R : K1) : Prop :=
 Ak R a0 w
theorem Oa {a0 : anW} {w : anV} {R : K1} (h : Ok a0 w R) : aU pg yD #[a0] w R := by
 refine xB (ann := bW) Tryd.f70 bS [a0] uO 108 TrydM.mixed Tryd.func70 ?_
 exact (Ma _ _ _ R (fun _ _ h => h) h)
def CL : FA := ⟨lG, fun i => .leaf ([], []) []⟩
def EH : List ResultVar := [.tmp 0]
noncomputable def Cj : Code := dC Tryd.f71
def qZ (R : K1)  (w : anV) : Prop :=
 aC pg (cA 183 []) w fun t1 w =>
 aC pg (BA 183 t1) w fun t2 w =>
 R t2 w
theorem Kl (R : K1) (hr : HR EH R Q) (h : qZ R w) : bG pg CL Cj Q g w :=
 eC (kn := no) (l := []) h fH hr trivial
def C2 (w : anV) (R : K1) : Prop :=
 qZ R w
theorem Cm {w : anV} {R : K1} (h : C2 w R) : aU pg lG #[] w R := by
 refine xB (ann := CL) Tryd.f71 Cj [] EH 3 TrydM.mixed Tryd.func71 ?_
 exact (Kl _ _ _ R (fun _ _ h => h) h)
def lC : FA := ⟨Eu, fun i => .leaf ([], []) []⟩
def tE : List ResultVar := [.tmp 4, .tmp 5]
noncomputable def jT : Code := dC Tryd.f72
def CD (R : K1)  (w : anV) : Prop :=
 R (.tuple #[(.int .i64 0), (.int .i64 21)]) w
theorem Rj (R : K1) (hr : HR tE R Q) (h : CD R w) : bG pg lC (aB 1 (aB 1 jT)) Q g w :=
 eC (kn := no) (l := []) h fH hr trivial
def CC (kn : K4) (k0 : K0) (R : K1) (gE t9 t10 t11 : anW) (w : anV) : Prop :=
 aC pg (aF .lss 3 aL aL t11 t10) w fun t12 w =>
 fL t12
  (aC pg (bB 25 t9 t11) w fun t14 w =>
  aC pg (aJ 123 t14) w fun t15 w =>
  aC pg (cM 123) w fun Hp w =>
  aC pg (aR 123 Hp t15) w fun _u w =>
  aC pg (aQ 123 Hp 0) w fun t16 w =>
  aC pg (aJ 5 t16) w fun t17 w =>
  aC pg (aF .eql 5 (.tmp 17) (.tmp 18) t17 gE) w fun t19 w =>
  fL t19
   (R (.tuple #[t11, (.int .i64 0)]) w)
   (aC pg (aF .add 3 aL aL t11 (.int .i64 1)) w fun t21 w =>
   kn gE t9 t10 t21 w))
  (k0 w)
theorem QP (kn : K4) (k0 : K0) (R : K1) (hn : N4 Q kn 1 9 10 11) (h0 : E0 Q k0 0) (hr : HR tE R Q) (h : CC kn k0 R (g 1) (g 9) (g 10) (g 11) w) : bG pg lC (bI (bI (aB 1 (aE 1 (aB 1 jT))))) Q g w :=
 eC (l := [(0, fun g w => k0 w)]) h hn hr ⟨h0, trivial⟩
def HM (k0 : K0) (R : K1) (gE t9 t10 t11 : anW) (w : anV) : Prop :=
 cO (fun (X : anW -> K0) (t : anW) (w : anV) => CC (fun _ _ _ t11 w => X t11 w) k0 R gE t9 t10 t w) t11 w
theorem Q1 (k0 : K0) (R : K1) (h0 : E0 Q k0 0) (hr : HR tE R Q) (h : HM k0 R (g 1) (g 9) (g 10) (g 11) w) : bG pg lC (bI (aB 1 (aE 1 (aB 1 jT)))) Q g w := by
 refine JK (fun g : Env => g 11) (fun X t w => CC (fun _ _ _ t11 w => X t11 w) k0 R (g 1) (g 9) (g 10) t w) h (fun X g1 w1 ha hL => ?_)
 rw [<- fM 1 ha, <- fM 9 ha, <- fM 10 ha] at hL
 exact (QP _ g1 w1 (fun _ _ _ t11 w => X t11 w) k0 R (fun _ _ h => h) h0 hr hL)
def HH (kn : K0) (R : K1) (gE t9 t10 t11 : anW) (w : anV) : Prop :=
 HM kn R gE t9 t10 t11 w
def H6 (kn : K4) (gE t2 : anW) (w : anV) : Prop :=
 aC pg (aQ 27 t2 1) w fun t8 w =>
 aC pg (aJ 25 t8) w fun t9 w =>
 aC pg (jI .len #[25] 3 [t9]) w fun t10 w =>
 kn gE t9 t10 (.int .i64 0) w
theorem Rv (kn : K4) (hn : N4 Q kn 1 9 10 11) (h : H6 kn (g 1) (g 2) w) : bG pg lC (aE 1 (aE 1 (aB 1 jT))) Q g w :=
 eC (kr := no) (l := []) h hn fH trivial
def Iz (kn : K0) (R : K1) (gE t2 : anW) (w : anV) : Prop :=
 H6 (fun gE t9 t10 t11 w => HH kn R gE t9 t10 t11 w) gE t2 w
def Iq (R : K1) (gE t2 : anW) (w : anV) : Prop :=
 Iz (fun  w => CD R w) R gE t2 w
theorem Rx (kn : K0) (R : K1) (hn : N0 Q kn) (hr : HR tE R Q) (h : Iz kn R (g 1) (g 2) w) : bG pg lC (aE 1 (aB 1 jT)) Q g w :=
 gM 1 (Rv _ g w (HH kn R) (fun g w h => aK (Ca 0 (Q1 _ g w kn R hn hr h))) h)
def Ip (kn : K2) (t0 gE : anW) (w : anV) : Prop :=
 aC pg (BA 27 t0) w fun t2 w =>
 kn gE t2 w
theorem QY (kn : K2) (hn : N2 Q kn 1 2) (h : Ip kn (g 0) (g 1) w) : bG pg lC (aE 1 jT) Q g w :=
 eC (kr := no) (l := []) h hn fH trivial
def HN (R : K1) (t0 gE : anW) (w : anV) : Prop :=
 Ip (fun gE t2 w => Iq R gE t2 w) t0 gE w
theorem Q6 (R : K1) (hr : HR tE R Q) (h : HN R (g 0) (g 1) w) : bG pg lC jT Q g w :=
 gM 1 (QY _ g w (Iq R) (fun g w h => aK (gM 1 (Rx _ g w (fun  w => CD R w) R (fun g w h => aK (Rj _ g w R hr h)) hr h))) h)
def TQ (a0 a1 : anW) (w : anV) (R : K1) : Prop :=
 HN R a0 a1 w
theorem R2 {a0 a1 : anW} {w : anV} {R : K1} (h : TQ a0 a1 w R) : aU pg Eu #[a0, a1] w R := by
 refine xB (ann := lC) Tryd.f72 jT [a0, a1] tE 22 TrydM.mixed Tryd.func72 ?_
 exact (Q6 _ _ _ R (fun _ _ h => h) h)
def jQ : FA := ⟨Cx, fun i => match Nat.beq i 8 with | true => .leaf ([], []) [(false, []), (false, []), (false, []), (false, []), (false, []), (false, []), (false, []), (false, []), (false, [])] | false => .leaf ([], []) []⟩
def mW : List ResultVar := [.tmp 6, .tmp 7, .tmp 8, .tmp 9]
noncomputable def iS : Code := dC Tryd.f73
def A3 (R : K1)  (w : anV) : Prop :=
 R (.tuple #[(.int .i64 0), (.int .u64 0), (.int .i64 0), (.int .i64 21)]) w
theorem PN (R : K1) (hr : HR mW R Q) (h : A3 R w) : bG pg jQ (aB 1 (aB 2 iS)) Q g w :=
 eC (kn := no) (l := []) h fH hr trivial
def AU (kn : K5) (k0 : K0) (R : K1) (fZ gF t23 t24 t25 : anW) (w : anV) : Prop :=
 aC pg (aF .lss 3 aL aL t25 t24) w fun t26 w =>
 fL t26
  (aC pg (bB 25 t23 t25) w fun t28 w =>
  aC pg (aJ 123 t28) w fun t29 w =>
  aC pg (cM 123) w fun Zi w =>
  aC pg (aR 123 Zi t29) w fun _u w =>
  aC pg (aQ 123 Zi 2) w fun t31 w =>
  aC pg (aJ 3 t31) w fun t32 w =>
  aC pg (aF .sub 3 aL aL fZ t32) w fun t33 w =>
  aC pg (aQ 123 Zi 0) w fun t34 w =>
  aC pg (aJ 5 t34) w fun t35 w =>
  aC pg (aF .eql 5 (.tmp 35) (.tmp 36) t35 gF) w fun t37 w =>
  Gd (fA t37 true) (fun K => K t33 w) w fun t39 w =>
  Gd (fA t37 true) (fun K => aC pg (aF .geq 3 aL aL t39 (.int .i64 0)) w K) w fun t40 w =>
  aC pg (fR t37 t40 (.bool false)) w fun t41 w =>
  Gd (fA t41 true) (fun K => K t33 w) w fun t43 w =>
  Gd (fA t41 true) (fun K => aC pg (aQ 123 Zi 1) w K) w fun t44 w =>
  Gd (fA t41 true) (fun K => aC pg (aJ 3 t44) w K) w fun t45 w =>
  Gd (fA t41 true) (fun K => aC pg (aF .shl 3 aL aL (.int .i64 1) t45) w K) w fun t46 w =>
  Gd (fA t41 true) (fun K => aC pg (aF .lss 3 aL aL t43 t46) w K) w fun t47 w =>
  aC pg (fR t41 t47 (.bool false)) w fun t48 w =>
  fL t48
   ((dr w) = (dr w) /\
   (dr w) = (dr w) /\
   aC pg (fG 3 73 t33) (dr w) fun t51 w_ => w_ = (dr w) /\
   aC pg (aQ 123 Zi 1) (dr w) fun t52 w_ => w_ = (dr w) /\
   aC pg (aJ 3 t52) (dr w) fun t53 w_ => w_ = (dr w) /\
   (dr w) = (dr w) /\
   (dr w) = (dr w) /\
   (dr w) = (dr w) /\
   (dr w) = (dr w) /\
   R (.tuple #[t25, t51, t53, (.int .i64 0)]) (dr w))
   (aC pg (aF .add 3 aL aL t25 (.int .i64 1)) w fun t54 w =>
   kn fZ gF t23 t24 t54 w))
  (k0 w)
theorem Pb (kn : K5) (k0 : K0) (R : K1) (hn : N5 Q kn 1 2 23 24 25) (h0 : E0 Q k0 0) (hr : HR mW R Q) (h : AU kn k0 R (g 1) (g 2) (g 23) (g 24) (g 25) w) : bG pg jQ (bI (bI (aB 1 (aE 1 (aB 2 iS))))) Q g w :=
 eC (l := [(0, fun g w => k0 w)]) h hn hr ⟨h0, trivial⟩
def Fq (k0 : K0) (R : K1) (fZ gF t23 t24 t25 : anW) (w : anV) : Prop :=
 cO (fun (X : anW -> K0) (t : anW) (w : anV) => AU (fun _ _ _ _ t25 w => X t25 w) k0 R fZ gF t23 t24 t w) t25 w
theorem PL (k0 : K0) (R : K1) (h0 : E0 Q k0 0) (hr : HR mW R Q) (h : Fq k0 R (g 1) (g 2) (g 23) (g 24) (g 25) w) : bG pg jQ (bI (aB 1 (aE 1 (aB 2 iS)))) Q g w := by
 refine JK (fun g : Env => g 25) (fun X t w => AU (fun _ _ _ _ t25 w => X t25 w) k0 R (g 1) (g 2) (g 23) (g 24) t w) h (fun X g1 w1 ha hL => ?_)
 rw [<- fM 1 ha, <- fM 2 ha, <- fM 23 ha, <- fM 24 ha] at hL
 exact (Pb _ g1 w1 (fun _ _ _ _ t25 w => X t25 w) k0 R (fun _ _ h => h) h0 hr hL)
def FJ (kn : K0) (R : K1) (fZ gF t23 t24 t25 : anW) (w : anV) : Prop :=
 Fq kn R fZ gF t23 t24 t25 w
def Ff (kn : K5) (fZ gF t3 : anW) (w : anV) : Prop :=
 aC pg (aQ 27 t3 1) w fun t22 w =>
 aC pg (aJ 25 t22) w fun t23 w =>
 aC pg (jI .len #[25] 3 [t23]) w fun t24 w =>
 kn fZ gF t23 t24 (.int .i64 0) w
theorem O9 (kn : K5) (hn : N5 Q kn 1 2 23 24 25) (h : Ff kn (g 1) (g 2) (g 3) w) : bG pg jQ (aE 1 (aE 1 (aB 2 iS))) Q g w :=
 eC (kr := no) (l := []) h hn fH trivial
def FP (kn : K0) (R : K1) (fZ gF t3 : anW) (w : anV) : Prop :=
 Ff (fun fZ gF t23 t24 t25 w => FJ kn R fZ gF t23 t24 t25 w) fZ gF t3 w
def Fp (R : K1) (fZ gF t3 : anW) (w : anV) : Prop :=
 FP (fun  w => A3 R w) R fZ gF t3 w
theorem Qn (kn : K0) (R : K1) (hn : N0 Q kn) (hr : HR mW R Q) (h : FP kn R (g 1) (g 2) (g 3) w) : bG pg jQ (aE 1 (aB 2 iS)) Q g w :=
 gM 1 (O9 _ g w (FJ kn R) (fun g w h => aK (Ca 0 (PL _ g w kn R hn hr h))) h)
def FN (kn : K3) (R : K1) (t0 fZ gF : anW) (w : anV) : Prop :=
 aC pg (BA 27 t0) w fun t3 w =>
 aC pg (aF .lss 3 aL aL fZ (.int .i64 0)) w fun t14 w =>
 Gd (fA t14 false) (fun K => K fZ w) w fun t16 w =>
 Gd (fA t14 false) (fun K => aC pg (aQ 27 t3 1) w K) w fun t17 w =>
 Gd (fA t14 false) (fun K => aC pg (aJ 25 t17) w K) w fun t18 w =>
 Gd (fA t14 false) (fun K => aC pg (jI .len #[25] 3 [t18]) w K) w fun t19 w =>
 Gd (fA t14 false) (fun K => aC pg (aF .geq 3 aL aL t16 t19) w K) w fun t20 w =>
 aC pg (fR t14 (.bool true) t20) w fun t21 w =>
 fL t21
  (R (.tuple #[(.int .i64 0), (.int .u64 0), (.int .i64 0), (.int .i64 1)]) w)
  (kn fZ gF t3 w)
theorem Px (kn : K3) (R : K1) (hn : N3 Q kn 1 2 3) (hr : HR mW R Q) (h : FN kn R (g 0) (g 1) (g 2) w) : bG pg jQ (aE 2 iS) Q g w :=
 eC (l := []) h hn hr trivial
def EW (R : K1) (t0 fZ gF : anW) (w : anV) : Prop :=
 FN (fun fZ gF t3 w => Fp R fZ gF t3 w) R t0 fZ gF w
theorem O5 (R : K1) (hr : HR mW R Q) (h : EW R (g 0) (g 1) (g 2) w) : bG pg jQ iS Q g w :=
 gM 2 (Px _ g w (Fp R) R (fun g w h => aK (gM 1 (Qn _ g w (fun  w => A3 R w) R (fun g w h => aK (PN _ g w R hr h)) hr h))) hr h)
def RO (a0 a1 a2 : anW) (w : anV) (R : K1) : Prop :=
 EW R a0 a1 a2 w
theorem Rd {a0 a1 a2 : anW} {w : anV} {R : K1} (h : RO a0 a1 a2 w R) : aU pg Cx #[a0, a1, a2] w R := by
 refine xB (ann := jQ) Tryd.f73 iS [a0, a1, a2] mW 55 TrydM.mixed Tryd.func73 ?_
 exact (O5 _ _ _ R (fun _ _ h => h) h)
def dW : FA := ⟨cZ, fun i => match Nat.beq i 6 with | true => .leaf ([25], []) [(false, []), (false, []), (false, []), (false, []), (false, []), (false, []), (false, []), (false, []), (false, []), (false, []), (false, []), (false, []), (false, []), (false, []), (false, []), (false, []), (false, []), (false, []), (false, []), (false, []), (false, []), (false, []), (false, []), (false, []), (false, []), (true, [])] | false => .leaf ([], []) []⟩
def sM : List ResultVar := []
noncomputable def dP : Code := dC Tryd.f74
def jR (kn : K4) (oF zV t17 t18 : anW) (w : anV) : Prop :=
 aC pg (aF .add 3 aL aL t18 (.int .i64 1)) w fun t68 w =>
 kn oF zV t17 t68 w
theorem GO (kn : K4) (hn : N4 Q kn 0 1 17 18) (h : jR kn (g 0) (g 1) (g 17) (g 18) w) : bG pg dW (aB 1 (aB 2 (bI (bI (aB 2 dP))))) Q g w :=
 eC (kr := no) (l := []) h hn fH trivial
def gJ (kn : K4) (oF zV lH t17 t18 : anW) (w : anV) : Prop :=
 (dr w) = (dr w) /\
 aC pg (lE oF) (dr w) fun t37 w_ => w_ = (dr w) /\
 aC pg (aQ 183 t37 0) (dr w) fun t38 w_ => w_ = (dr w) /\
 aC pg (aJ 22 t38) (dr w) fun t39 w_ => w_ = (dr w) /\
 (dr w) = (dr w) /\
 aC pg (lE oF) (dr w) fun t41 w_ => w_ = (dr w) /\
 aC pg (aQ 183 t41 1) (dr w) fun t42 w_ => w_ = (dr w) /\
 aC pg (aJ 3 t42) (dr w) fun t43 w_ => w_ = (dr w) /\
 aC pg (aF .quo 3 aL aL t43 (.int .i64 8)) (dr w) fun t44 w_ => w_ = (dr w) /\
 aC pg (bB 22 t39 t44) (dr w) fun t45 w_ => w_ = (dr w) /\
 aC pg (aJ 5 t45) (dr w) fun t46 w_ => w_ = (dr w) /\
 (dr w) = (dr w) /\
 (dr w) = (dr w) /\
 aC pg (fG 3 94 lH) (dr w) fun t49 w_ => w_ = (dr w) /\
 aC pg (aF .shr 73 aL aL zV t49) (dr w) fun t50 w_ => w_ = (dr w) /\
 aC pg (aF .and 73 aL aL t50 (.int .u64 1)) (dr w) fun t51 w_ => w_ = (dr w) /\
 aC pg (fG 73 5 t51) (dr w) fun t52 w_ => w_ = (dr w) /\
 (dr w) = (dr w) /\
 aC pg (lE oF) (dr w) fun t54 w_ => w_ = (dr w) /\
 aC pg (aQ 183 t54 1) (dr w) fun t55 w_ => w_ = (dr w) /\
 aC pg (aJ 3 t55) (dr w) fun t56 w_ => w_ = (dr w) /\
 aC pg (aF .rem 3 aL aL t56 (.int .i64 8)) (dr w) fun t57 w_ => w_ = (dr w) /\
 aC pg (aF .shl 5 aL aL t52 t57) (dr w) fun t58 w_ => w_ = (dr w) /\
 aC pg (aF .or 5 aL aL t46 t58) (dr w) fun t59 w_ => w_ = (dr w) /\
 aC pg (bB 22 t39 t44) (dr w) fun t60 w_ => w_ = (dr w) /\
 aC pg (aR 5 t60 t59) (dr w) fun _u25 agM =>
 aC pg (lE oF) agM fun t62 w =>
 aC pg (aQ 183 t62 1) w fun t63 w =>
 aC pg (aJ 3 t63) w fun t64 w =>
 aC pg (aF .add 3 aL aL t64 (.int .i64 1)) w fun t65 w =>
 aC pg (lE oF) w fun t66 w =>
 aC pg (aQ 183 t66 1) w fun t67 w =>
 aC pg (aR 3 t67 t65) w fun _u w =>
 kn oF zV t17 t18 w
theorem GA (kn : K4) (hn : N4 Q kn 0 1 17 18) (h : gJ kn (g 0) (g 1) (g 6) (g 17) (g 18) w) : bG pg dW (aB 2 (bI (aE 1 (aB 2 (bI (bI (aB 2 dP))))))) Q g w :=
 eC (kr := no) (l := []) h hn fH trivial
def mQ (kn : K5) (oF zV t17 t18 : anW) (w : anV) : Prop :=
 aC pg (lE oF) w fun t22 w =>
 aC pg (aQ 183 t22 1) w fun t23 w =>
 aC pg (aJ 3 t23) w fun t24 w =>
 aC pg (aF .rem 3 aL aL t24 (.int .i64 8)) w fun t25 w =>
 aC pg (aF .eql 3 (.tmp 25) (.const (.int .i64 0)) t25 (.int .i64 0)) w fun t26 w =>
 fL t26
  (aC pg (lE oF) w fun t29 w =>
  aC pg (aQ 183 t29 0) w fun t30 w =>
  aC pg (aJ 22 t30) w fun t31 w =>
  aC pg (dB 22 1 [(0, (.int .u8 0))]) w fun t32 w =>
  aC pg (jI .append #[22, 22] 22 [t31, t32]) w fun t33 w =>
  aC pg (lE oF) w fun t34 w =>
  aC pg (aQ 183 t34 0) w fun t35 w =>
  aC pg (aR 22 t35 t33) w fun _u w =>
  kn oF zV t18 t17 t18 w)
  (kn oF zV t18 t17 t18 w)
theorem Hc (kn : K5) (hn : N5 Q kn 0 1 6 17 18) (h : mQ kn (g 0) (g 1) (g 17) (g 18) w) : bG pg dW (aE 2 (bI (aE 1 (aB 2 (bI (bI (aB 2 dP))))))) Q g w :=
 eC (kr := no) (l := []) h hn fH trivial
def jS (kn : K4) (oF zV t17 t18 : anW) (w : anV) : Prop :=
 mQ (fun oF zV lH t17 t18 w => gJ kn oF zV lH t17 t18 w) oF zV t17 t18 w
def mR (kn : K4) (oF zV t17 t18 : anW) (w : anV) : Prop :=
 jS kn oF zV t17 t18 w
def mJ (kn : K4) (oF zV t17 t18 : anW) (w : anV) : Prop :=
 mR (fun oF zV t17 t18 w => jR kn oF zV t17 t18 w) oF zV t17 t18 w
theorem Hh (kn : K4) (hn : N4 Q kn 0 1 17 18) (h : mR kn (g 0) (g 1) (g 17) (g 18) w) : bG pg dW (aE 1 (aB 2 (bI (bI (aB 2 dP))))) Q g w :=
 Ca 1 (gM 2 (Hc _ g w (gJ kn) (fun g w h => aK (GA _ g w kn hn h)) h))
def mN (kn : K4) (k0 : K0) (oF zV t17 t18 : anW) (w : anV) : Prop :=
 aC pg (aF .lss 3 aL aL t18 t17) w fun t19 w =>
 fL t19
  (kn oF zV t17 t18 w)
  (k0 w)
theorem G7 (kn : K4) (k0 : K0) (hn : N4 Q kn 0 1 17 18) (h0 : E0 Q k0 0) (h : mN kn k0 (g 0) (g 1) (g 17) (g 18) w) : bG pg dW (aE 2 (bI (bI (aB 2 dP)))) Q g w :=
 eC (kr := no) (l := [(0, fun g w => k0 w)]) h hn fH ⟨h0, trivial⟩
def jZ (kn : K4) (k0 : K0) (oF zV t17 t18 : anW) (w : anV) : Prop :=
 mN (fun oF zV t17 t18 w => mJ kn oF zV t17 t18 w) k0 oF zV t17 t18 w
def mG (k0 : K0) (oF zV t17 t18 : anW) (w : anV) : Prop :=
 cO (fun (X : anW -> K0) (t : anW) (w : anV) => jZ (fun _ _ _ t18 w => X t18 w) k0 oF zV t17 t w) t18 w
theorem GC (kn : K4) (k0 : K0) (hn : N4 Q kn 0 1 17 18) (h0 : E0 Q k0 0) (h : jZ kn k0 (g 0) (g 1) (g 17) (g 18) w) : bG pg dW (bI (bI (aB 2 dP))) Q g w :=
 gM 2 (G7 _ g w (mJ kn) k0 (fun g w h => aK (gM 1 (Hh _ g w (jR kn) (fun g w h => aK (GO _ g w kn hn h)) h))) h0 h)
theorem GN (k0 : K0) (h0 : E0 Q k0 0) (h : mG k0 (g 0) (g 1) (g 17) (g 18) w) : bG pg dW (bI (aB 2 dP)) Q g w := by
 refine JK (fun g : Env => g 18) (fun X t w => jZ (fun _ _ _ t18 w => X t18 w) k0 (g 0) (g 1) (g 17) t w) h (fun X g1 w1 ha hL => ?_)
 rw [<- fM 0 ha, <- fM 1 ha, <- fM 17 ha] at hL
 exact (GC _ g1 w1 (fun _ _ _ t18 w => X t18 w) k0 (fun _ _ h => h) h0 hL)
def lX (kn : K0) (oF zV t17 t18 : anW) (w : anV) : Prop :=
 mG kn oF zV t17 t18 w
def lY (kn : K4) (R : K1) (oF zV uR : anW) (w : anV) : Prop :=
 aC pg (aF .eql 151 (.tmp 7) (.const (.pointer none)) oF (.pointer none)) w fun t8 w =>
 Gd (fA t8 false) (fun K => K uR w) w fun t10 w =>
 Gd (fA t8 false) (fun K => aC pg (aF .lss 3 aL aL t10 (.int .i64 1)) w K) w fun t11 w =>
 aC pg (fR t8 (.bool true) t11) w fun t12 w =>
 Gd (fA t12 false) (fun K => K uR w) w fun t14 w =>
 Gd (fA t12 false) (fun K => aC pg (aF .gtr 3 aL aL t14 (.int .i64 56)) w K) w fun t15 w =>
 aC pg (fR t12 (.bool true) t15) w fun t16 w =>
 fL t16
  (R (.tuple #[]) w)
  (kn oF zV uR (.int .i64 0) w)
theorem FX (kn : K4) (R : K1) (hn : N4 Q kn 0 1 17 18) (hr : HR sM R Q) (h : lY kn R (g 0) (g 1) (g 2) w) : bG pg dW (aE 2 dP) Q g w :=
 eC (l := []) h hn hr trivial
def lU (kn : K0) (R : K1) (oF zV uR : anW) (w : anV) : Prop :=
 lY (fun oF zV t17 t18 w => lX kn oF zV t17 t18 w) R oF zV uR w
theorem FY (kn : K0) (R : K1) (hn : N0 Q kn) (hr : HR sM R Q) (h : lU kn R (g 0) (g 1) (g 2) w) : bG pg dW dP Q g w :=
 gM 2 (FX _ g w (lX kn) R (fun g w h => aK (Ca 0 (GN _ g w kn hn h))) hr h)
def yW (a0 a1 a2 : anW) (w : anV) (R : K1) : Prop :=
 lU (fun  w => R (.tuple #[]) w) R a0 a1 a2 w
theorem yI {a0 a1 a2 : anW} {w : anV} {R : K1} (h : yW a0 a1 a2 w R) : aU pg cZ #[a0, a1, a2] w R := by
 refine xB (ann := dW) Tryd.f74 dP [a0, a1, a2] sM 69 TrydM.mixed Tryd.func74 ?_
 exact (FY _ _ _ (fun  w => R (.tuple #[]) w) R (fun _ _ h => h) (fun _ _ h => h) h)
def zI : FA := ⟨mS, fun i => match Nat.beq i 3 with | true => .leaf ([4, 10], [(4, 6), (4, 7), (4, 8)]) [(false, []), (false, []), (false, []), (false, []), (true, []), (false, []), (false, [1]), (false, [2]), (false, [3]), (false, []), (true, []), (false, [])] | false => .leaf ([], []) []⟩
def zZ : List ResultVar := [.tmp 2]
noncomputable def xL : Code := dC Tryd.f75
def qH (R : K1) (oF : anW) (w : anV) : Prop :=
 aC pg (aF .eql 151 (.tmp 4) (.const (.pointer none)) oF (.pointer none)) w fun t5 w =>
 fL t5
  (R (.slice none 0 0) w)
  ((dr w) = (dr w) /\
  aC pg (lE oF) (dr w) fun t7 w_ => w_ = (dr w) /\
  aC pg (aQ 183 t7 0) (dr w) fun t8 w_ => w_ = (dr w) /\
  aC pg (aJ 22 t8) (dr w) fun t9 w_ => w_ = (dr w) /\
  aU pg fJ #[t9] (dr w) fun t10 KV =>
  KV = KV /\
  aC pg (lE oF) KV fun t12 w_ => w_ = KV /\
  (eE pg (lE oF) t12 (dr w) /\ True) /\
  aC pg (aQ 183 t12 1) KV fun t13 w_ => w_ = KV /\
  (eE pg (aQ 183 t12 1) t13 (dr w) /\ True) /\
  aC pg (aJ 3 t13) KV fun t14 w_ => w_ = KV /\
  (eE pg (aJ 3 t13) t14 (dr w) /\ True) /\
  aC pg (cA 183 [(0, t10), (1, t14)]) KV fun t15 w_ => w_ = KV /\
  aC pg (BA 183 t15) KV fun t16 Z1 =>
  Z1 = Z1 /\
  aU pg cZ #[t16, (.int .u64 1), (.int .i64 1)] Z1 fun t18 w =>
  aC pg (lE t16) w fun t20 w =>
  aC pg (aQ 183 t20 0) w fun t21 w =>
  aC pg (aJ 22 t21) w fun t22 w =>
  R t22 w)
theorem FB (R : K1) (hr : HR zZ R Q) (h : qH R (g 0) w) : bG pg zI xL Q g w :=
 eC (kn := no) (l := []) h fH hr trivial
def DI (a0 : anW) (w : anV) (R : K1) : Prop :=
 qH R a0 w
theorem Gi {a0 : anW} {w : anV} {R : K1} (h : DI a0 w R) : aU pg mS #[a0] w R := by
 refine xB (ann := zI) Tryd.f75 xL [a0] zZ 23 TrydM.mixed Tryd.func75 ?_
 exact (FB _ _ _ R (fun _ _ h => h) h)
def gL : FA := ⟨A0, fun i => match Nat.beq i 25 with | true => .leaf ([2, 3], [(0, 2)]) [(false, []), (false, []), (true, [1]), (true, []), (false, []), (false, [])] | false => .leaf ([], []) []⟩
def iP : List ResultVar := [.cell 6 145, .tmp 7, .tmp 8]
noncomputable def gA : Code := dC Tryd.f76
def zE (R : K1) (t6 H4 kT : anW) (w : anV) : Prop :=
 aC pg (aJ 145 kT) (dr w) fun t101 w_ => w_ = (dr w) /\
 (dr w) = (dr w) /\
 aU pg nE #[H4] (dr w) fun t103 adF =>
 (eE pg (aJ 145 kT) t101 adF /\ True) /\
 aC pg (aR 145 t6 t101) adF fun _u3 To =>
 To = To /\
 To = To /\
 xA pg 145 t6 To fun r0 => R (.tuple #[r0, t103, (.int .i64 0)]) To
theorem Ot (R : K1) (hr : HR iP R Q) (h : zE R (g 6) (g 9) (g 12) w) : bG pg gL (aB 1 (aB 7 gA)) Q g w :=
 eC (kn := no) (l := []) h fH hr trivial
def rV (kn : K5) (R : K1) (cQ t6 H4 kT eA : anW) (w : anV) : Prop :=
 aC pg (aQ 145 kT 1) w fun t91 w =>
 aC pg (aJ 77 t91) w fun t92 w =>
 aC pg (jI .len #[77] 3 [t92]) w fun t93 w =>
 aC pg (aF .gtr 3 aL aL t93 cQ) w fun t95 w =>
 Gd (fA t95 false) (fun K => K eA w) w fun t97 w =>
 Gd (fA t95 false) (fun K => aC pg (aF .lss 3 aL aL t97 (.int .i64 0)) w K) w fun t98 w =>
 aC pg (fR t95 (.bool true) t98) w fun t99 w =>
 fL t99
  (aC pg (cA 145 []) w fun t100 w =>
  aC pg (aR 145 t6 t100) w fun _u w =>
  xA pg 145 t6 w fun r0 => R (.tuple #[r0, (.int .i64 0), (.int .i64 11)]) w)
  (kn cQ t6 H4 kT eA w)
theorem Nm (kn : K5) (R : K1) (hn : N5 Q kn 2 6 9 12 13) (hr : HR iP R Q) (h : rV kn R (g 2) (g 6) (g 9) (g 12) (g 13) w) : bG pg gL (aB 6 (bI (aB 1 (bI (bI (aE 1 (aB 7 gA))))))) Q g w :=
 eC (l := []) h hn hr trivial
def DO (kn : K5) (R : K1) (cQ t6 H4 kT eA : anW) (w : anV) : Prop :=
 aU pg yV #[H4, eA] w fun t52 w =>
 aC pg (bT t52 0) w fun t53 w =>
 aC pg (bT t52 1) w fun t54 w =>
 aC pg (aF .neq 30 (.tmp 55) (.const (.int .i64 0)) t54 (.int .i64 0)) w fun t56 w =>
 fL t56
  (aC pg (cA 145 []) w fun t57 w =>
  aC pg (aR 145 t6 t57) w fun _u w =>
  xA pg 145 t6 w fun r0 => R (.tuple #[r0, (.int .i64 0), t54]) w)
  (aC pg (aF .sub 3 aL aL t53 (.int .i64 1)) w fun t60 w =>
  aU pg lN #[t60] w fun t63 w =>
  aC pg (aF .sub 3 aL aL eA t63) w fun t64 w =>
  aC pg (aQ 145 kT 1) w fun t65 w =>
  aC pg (aJ 77 t65) w fun t66 w =>
  aC pg (dB 77 1 [(0, t60)]) w fun t68 w =>
  aC pg (jI .append #[77, 77] 77 [t66, t68]) w fun t69 w =>
  aC pg (aQ 145 kT 1) w fun t70 w =>
  aC pg (aR 77 t70 t69) w fun _u w =>
  aC pg (aF .eql 3 (.tmp 71) (.const (.int .i64 0)) t60 (.int .i64 0)) w fun t72 w =>
  fL t72
   (aU pg sV #[H4] w fun t75 w =>
   aC pg (bT t75 0) w fun t76 w =>
   aC pg (bT t75 1) w fun t77 w =>
   aC pg (aF .neq 30 (.tmp 78) (.const (.int .i64 0)) t77 (.int .i64 0)) w fun t79 w =>
   fL t79
    (aC pg (cA 145 []) w fun t80 w =>
    aC pg (aR 145 t6 t80) w fun _u w =>
    xA pg 145 t6 w fun r0 => R (.tuple #[r0, (.int .i64 0), t77]) w)
    (aC pg (aF .gtr 3 aL aL t76 cQ) w fun t84 w =>
    fL t84
     (aC pg (cA 145 []) w fun t85 w =>
     aC pg (aR 145 t6 t85) w fun _u w =>
     xA pg 145 t6 w fun r0 => R (.tuple #[r0, (.int .i64 0), (.int .i64 11)]) w)
     (aC pg (aQ 145 kT 1) w fun t86 w =>
     aC pg (aJ 77 t86) w fun t87 w =>
     aC pg (jI .append #[77, 3] 77 [t87, t76]) w fun t89 w =>
     aC pg (aQ 145 kT 1) w fun t90 w =>
     aC pg (aR 77 t90 t89) w fun _u w =>
     kn cQ t6 H4 kT t64 w)))
   (kn cQ t6 H4 kT t64 w))
theorem Og (kn : K5) (R : K1) (hn : N5 Q kn 2 6 9 12 13) (hr : HR iP R Q) (h : DO kn R (g 2) (g 6) (g 9) (g 12) (g 13) w) : bG pg gL (aE 6 (bI (aB 1 (bI (bI (aE 1 (aB 7 gA))))))) Q g w :=
 eC (l := []) h hn hr trivial
def J0 (kn : K5) (R : K1) (cQ t6 H4 kT eA : anW) (w : anV) : Prop :=
 DO (fun cQ t6 H4 kT eA w => rV kn R cQ t6 H4 kT eA w) R cQ t6 H4 kT eA w
def CU (kn : K5) (R : K1) (cQ t6 H4 kT eA : anW) (w : anV) : Prop :=
 J0 kn R cQ t6 H4 kT eA w
def DX (kn : K5) (k0 : K3) (cQ t6 H4 kT eA : anW) (w : anV) : Prop :=
 aC pg (aF .gtr 3 aL aL eA (.int .i64 0)) w fun t48 w =>
 fL t48
  (kn cQ t6 H4 kT eA w)
  (k0 t6 H4 kT w)
theorem Ol (kn : K5) (k0 : K3) (hn : N5 Q kn 2 6 9 12 13) (h0 : E3 Q k0 0 6 9 12) (h : DX kn k0 (g 2) (g 6) (g 9) (g 12) (g 13) w) : bG pg gL (aE 1 (bI (bI (aE 1 (aB 7 gA))))) Q g w :=
 eC (kr := no) (l := [(0, fun g w => k0 (g 6) (g 9) (g 12) w)]) h hn fH ⟨h0, trivial⟩
def xT (kn : K5) (k0 : K3) (R : K1) (cQ t6 H4 kT eA : anW) (w : anV) : Prop :=
 DX (fun cQ t6 H4 kT eA w => CU kn R cQ t6 H4 kT eA w) k0 cQ t6 H4 kT eA w
def Dj (k0 : K3) (R : K1) (cQ t6 H4 kT eA : anW) (w : anV) : Prop :=
 cO (fun (X : anW -> K0) (t : anW) (w : anV) => xT (fun _ _ _ _ eA w => X eA w) k0 R cQ t6 H4 kT t w) eA w
theorem Ou (kn : K5) (k0 : K3) (R : K1) (hn : N5 Q kn 2 6 9 12 13) (h0 : E3 Q k0 0 6 9 12) (hr : HR iP R Q) (h : xT kn k0 R (g 2) (g 6) (g 9) (g 12) (g 13) w) : bG pg gL (bI (bI (aE 1 (aB 7 gA)))) Q g w :=
 gM 1 (Ol _ g w (CU kn R) k0 (fun g w h => aK (Ca 1 (gM 6 (Og _ g w (rV kn R) R (fun g w h => aK (Nm _ g w kn R hn hr h)) hr h)))) h0 h)
theorem Oy (k0 : K3) (R : K1) (h0 : E3 Q k0 0 6 9 12) (hr : HR iP R Q) (h : Dj k0 R (g 2) (g 6) (g 9) (g 12) (g 13) w) : bG pg gL (bI (aE 1 (aB 7 gA))) Q g w := by
 refine JK (fun g : Env => g 13) (fun X t w => xT (fun _ _ _ _ eA w => X eA w) k0 R (g 2) (g 6) (g 9) (g 12) t w) h (fun X g1 w1 ha hL => ?_)
 rw [<- fM 2 ha, <- fM 6 ha, <- fM 9 ha, <- fM 12 ha] at hL
 exact (Ou _ g1 w1 (fun _ _ _ _ eA w => X eA w) k0 R (fun _ _ h => h) h0 hr hL)
def Db (kn : K3) (R : K1) (cQ t6 H4 kT eA : anW) (w : anV) : Prop :=
 Dj kn R cQ t6 H4 kT eA w
def uY (R : K1) (cQ t6 H4 kT eA : anW) (w : anV) : Prop :=
 Db (fun t6 H4 kT w => zE R t6 H4 kT w) R cQ t6 H4 kT eA w
theorem NU (kn : K3) (R : K1) (hn : N3 Q kn 6 9 12) (hr : HR iP R Q) (h : Db kn R (g 2) (g 6) (g 9) (g 12) (g 13) w) : bG pg gL (aE 1 (aB 7 gA)) Q g w :=
 Ca 0 (Oy _ g w kn R hn hr h)
def BP (kn : K5) (R : K1) (CK RP cQ : anW) (w : anV) : Prop :=
 aC pg (cM 145) w fun t6 w =>
 aU pg qX #[CK] w fun t20 w =>
 aU pg gT #[t20, (.int .i64 4)] w fun t23 w =>
 aC pg (bT t23 0) w fun t24 w =>
 aC pg (bT t23 1) w fun t25 w =>
 aC pg (aF .neq 30 (.tmp 26) (.const (.int .i64 0)) t25 (.int .i64 0)) w fun t27 w =>
 fL t27
  (aC pg (cA 145 []) w fun t28 w =>
  aC pg (aR 145 t6 t28) w fun _u w =>
  xA pg 145 t6 w fun r0 => R (.tuple #[r0, (.int .i64 0), t25]) w)
  (aC pg (fG 73 3 t24) w fun t31 w =>
  aC pg (aF .add 3 aL aL t31 (.int .i64 5)) w fun t32 w =>
  aC pg (cA 145 [(0, t32)]) w fun t33 w =>
  aC pg (cM 145) w fun kT w =>
  aC pg (aR 145 kT t33) w fun _u w =>
  aC pg (aQ 145 kT 0) w fun t34 w =>
  aC pg (aJ 3 t34) w fun t35 w =>
  aC pg (aF .gtr 3 aL aL t35 RP) w fun t37 w =>
  Gd (fA t37 false) (fun K => aC pg (aQ 145 kT 0) w K) w fun t39 w =>
  Gd (fA t37 false) (fun K => aC pg (aJ 3 t39) w K) w fun t40 w =>
  Gd (fA t37 false) (fun K => aC pg (aF .gtr 3 aL aL t40 (.int .i64 15)) w K) w fun t41 w =>
  aC pg (fR t37 (.bool true) t41) w fun t42 w =>
  fL t42
   (aC pg (cA 145 []) w fun t43 w =>
   aC pg (aR 145 t6 t43) w fun _u w =>
   xA pg 145 t6 w fun r0 => R (.tuple #[r0, (.int .i64 0), (.int .i64 12)]) w)
   (aC pg (aQ 145 kT 0) w fun t44 w =>
   aC pg (aJ 3 t44) w fun t45 w =>
   aC pg (aF .shl 3 aL aL (.int .i64 1) t45) w fun t46 w =>
   kn cQ t6 t20 kT t46 w))
theorem MO (kn : K5) (R : K1) (hn : N5 Q kn 2 6 9 12 13) (hr : HR iP R Q) (h : BP kn R (g 0) (g 1) (g 2) w) : bG pg gL (aE 7 gA) Q g w :=
 eC (l := []) h hn hr trivial
def BF (R : K1) (CK RP cQ : anW) (w : anV) : Prop :=
 BP (fun cQ t6 H4 kT eA w => uY R cQ t6 H4 kT eA w) R CK RP cQ w
theorem MC (R : K1) (hr : HR iP R Q) (h : BF R (g 0) (g 1) (g 2) w) : bG pg gL gA Q g w :=
 gM 7 (MO _ g w (uY R) R (fun g w h => aK (gM 1 (NU _ g w (zE R) R (fun g w h => aK (Ot _ g w R hr h)) hr h))) hr h)
def QB (a0 a1 a2 : anW) (w : anV) (R : K1) : Prop :=
 BF R a0 a1 a2 w
theorem PR {a0 a1 a2 : anW} {w : anV} {R : K1} (h : QB a0 a1 a2 w R) : aU pg A0 #[a0, a1, a2] w R := by
 refine xB (ann := gL) Tryd.f76 gA [a0, a1, a2] iP 104 TrydM.mixed Tryd.func76 ?_
 exact (MC _ _ _ R (fun _ _ h => h) h)
def lB : FA := ⟨Bx, fun i => .leaf ([], []) []⟩
def HP : List ResultVar := [.tmp 6]
noncomputable def jO : Code := dC Tryd.f77
def Cs (R : K1) (Hp : anW) (w : anV) : Prop :=
 R Hp w
theorem Rq (R : K1) (hr : HR HP R Q) (h : Cs R (g 7) w) : bG pg lB (aB 1 (aB 2 jO)) Q g w :=
 eC (kn := no) (l := []) h fH hr trivial
def Ct (kn : K5) (k0 : K1) (CK Cv Hp t10 t11 : anW) (w : anV) : Prop :=
 aC pg (aF .lss 3 aL aL t11 t10) w fun t12 w =>
 fL t12
  (aC pg (aF .add 3 aL aL Cv t11) w fun t16 w =>
  aC pg (aF .quo 3 aL aL t16 (.int .i64 8)) w fun t20 w =>
  aC pg (bB 22 CK t20) w fun t21 w =>
  aC pg (aJ 5 t21) w fun t22 w =>
  aC pg (aF .rem 3 aL aL t16 (.int .i64 8)) w fun t24 w =>
  aC pg (aF .shr 5 aL aL t22 t24) w fun t25 w =>
  aC pg (aF .and 5 aL aL t25 (.int .u8 1)) w fun t26 w =>
  aC pg (fG 5 73 t26) w fun t27 w =>
  aC pg (fG 3 94 t11) w fun t29 w =>
  aC pg (aF .shl 73 aL aL t27 t29) w fun t30 w =>
  aC pg (aF .or 73 aL aL Hp t30) w fun t31 w =>
  aC pg (aF .add 3 aL aL t11 (.int .i64 1)) w fun t32 w =>
  kn CK Cv t31 t10 t32 w)
  (k0 Hp w)
theorem Ru (kn : K5) (k0 : K1) (hn : N5 Q kn 0 1 7 10 11) (h0 : E1 Q k0 0 7) (h : Ct kn k0 (g 0) (g 1) (g 7) (g 10) (g 11) w) : bG pg lB (bI (bI (aB 1 (aE 1 (aB 2 jO))))) Q g w :=
 eC (kr := no) (l := [(0, fun g w => k0 (g 7) w)]) h hn fH ⟨h0, trivial⟩
def HF (k0 : K1) (CK Cv Hp t10 t11 : anW) (w : anV) : Prop :=
 cO (fun (X : (anW × anW) -> K0) (t : anW × anW) (w : anV) => Ct (fun _ _ Hp _ t11 w => X (Hp, t11) w) k0 CK Cv t.1 t10 t.2 w) (Hp, t11) w
theorem Ri (k0 : K1) (h0 : E1 Q k0 0 7) (h : HF k0 (g 0) (g 1) (g 7) (g 10) (g 11) w) : bG pg lB (bI (aB 1 (aE 1 (aB 2 jO)))) Q g w := by
 refine JK (fun g : Env => (g 7, g 11)) (fun X t w => Ct (fun _ _ Hp _ t11 w => X (Hp, t11) w) k0 (g 0) (g 1) t.1 (g 10) t.2 w) h (fun X g1 w1 ha hL => ?_)
 rw [<- fM 0 ha, <- fM 1 ha, <- fM 10 ha] at hL
 exact (Ru _ g1 w1 (fun _ _ Hp _ t11 w => X (Hp, t11) w) k0 (fun _ _ h => h) h0 hL)
def H7 (kn : K1) (CK Cv Hp t10 t11 : anW) (w : anV) : Prop :=
 HF kn CK Cv Hp t10 t11 w
def HG (kn : K5) (CK Cv uR Hp : anW) (w : anV) : Prop :=
 kn CK Cv Hp uR (.int .i64 0) w
theorem QQ (kn : K5) (hn : N5 Q kn 0 1 7 10 11) (h : HG kn (g 0) (g 1) (g 2) (g 7) w) : bG pg lB (aE 1 (aE 1 (aB 2 jO))) Q g w :=
 eC (kr := no) (l := []) h hn fH trivial
def Ib (kn : K1) (CK Cv uR Hp : anW) (w : anV) : Prop :=
 HG (fun CK Cv Hp t10 t11 w => H7 kn CK Cv Hp t10 t11 w) CK Cv uR Hp w
def Ij (R : K1) (CK Cv uR Hp : anW) (w : anV) : Prop :=
 Ib (fun Hp w => Cs R Hp w) CK Cv uR Hp w
theorem QM (kn : K1) (hn : N1 Q kn 7) (h : Ib kn (g 0) (g 1) (g 2) (g 7) w) : bG pg lB (aE 1 (aB 2 jO)) Q g w :=
 gM 1 (QQ _ g w (H7 kn) (fun g w h => aK (Ca 0 (Ri _ g w kn hn h))) h)
def H5 (kn : K4) (CK Cv uR : anW) (w : anV) : Prop :=
 kn CK Cv uR (.int .u64 0) w
theorem QV (kn : K4) (hn : N4 Q kn 0 1 2 7) (h : H5 kn (g 0) (g 1) (g 2) w) : bG pg lB (aE 2 jO) Q g w :=
 eC (kr := no) (l := []) h hn fH trivial
def Hq (R : K1) (CK Cv uR : anW) (w : anV) : Prop :=
 H5 (fun CK Cv uR Hp w => Ij R CK Cv uR Hp w) CK Cv uR w
theorem Re (R : K1) (hr : HR HP R Q) (h : Hq R (g 0) (g 1) (g 2) w) : bG pg lB jO Q g w :=
 gM 2 (QV _ g w (Ij R) (fun g w h => aK (gM 1 (QM _ g w (Cs R) (fun g w h => aK (Rq _ g w R hr h)) h))) h)
def TE (a0 a1 a2 : anW) (w : anV) (R : K1) : Prop :=
 Hq R a0 a1 a2 w
theorem Sf {a0 a1 a2 : anW} {w : anV} {R : K1} (h : TE a0 a1 a2 w R) : aU pg Bx #[a0, a1, a2] w R := by
 refine xB (ann := lB) Tryd.f77 jO [a0, a1, a2] HP 34 TrydM.mixed Tryd.func77 ?_
 exact (Re _ _ _ R (fun _ _ h => h) h)
def Mi : FA := ⟨wX, fun i => match Nat.beq i 4 with | true => .leaf ([], []) [(false, []), (false, []), (false, []), (false, [])] | false => match Nat.beq i 7 with | true => .leaf ([], []) [(false, []), (false, []), (false, []), (false, [])] | false => .leaf ([], []) []⟩
def ON : List ResultVar := [.tmp 2, .tmp 3, .tmp 4]
noncomputable def Km : Code := dC Tryd.f78
def HW (R : K1) (aT : anW) (w : anV) : Prop :=
 aC pg (aF .eql 3 (.tmp 7) (.const (.int .i64 0)) aT (.int .i64 0)) w fun t9 w =>
 fL t9
  (aC pg (aJ 190 (.pointer (some ⟨3, 0, none⟩))) w fun t10 w =>
  aC pg (cM 190) w fun l_5 w =>
  aC pg (aR 190 l_5 t10) w fun _u w =>
  aC pg (fW 190 l_5 none none none) (dr w) fun t11 w_ => w_ = (dr w) /\
  (dr w) = (dr w) /\
  (dr w) = (dr w) /\
  (dr w) = (dr w) /\
  R (.tuple #[(.int .i64 16), (.int .u32 0), t11]) (dr w))
  (aC pg (aF .eql 3 (.tmp 7) (.const (.int .i64 2)) aT (.int .i64 2)) w fun t13 w =>
  fL t13
   (aC pg (aJ 191 (.pointer (some ⟨4, 0, none⟩))) w fun t14 w =>
   aC pg (cM 191) w fun l_6 w =>
   aC pg (aR 191 l_6 t14) w fun _u w =>
   aC pg (fW 191 l_6 none none none) (dr w) fun t15 w_ => w_ = (dr w) /\
   (dr w) = (dr w) /\
   (dr w) = (dr w) /\
   (dr w) = (dr w) /\
   R (.tuple #[(.int .i64 32), (.int .u32 3), t15]) (dr w))
   (R (.tuple #[(.int .i64 0), (.int .u32 0), (.slice none 0 0)]) w))
theorem QL (R : K1) (hr : HR ON R Q) (h : HW R (g 0) w) : bG pg Mi Km Q g w :=
 eC (kn := no) (l := []) h fH hr trivial
def TX (a0 : anW) (w : anV) (R : K1) : Prop :=
 HW R a0 w
theorem RM {a0 : anW} {w : anV} {R : K1} (h : TX a0 w R) : aU pg wX #[a0] w R := by
 refine xB (ann := Mi) Tryd.f78 Km [a0] ON 16 TrydM.mixed Tryd.func78 ?_
 exact (QL _ _ _ R (fun _ _ h => h) h)
def kP : FA := ⟨mI, fun i => .leaf ([], []) []⟩
def wG : List ResultVar := [.tmp 2]
noncomputable def jX : Code := dC Tryd.f86
def lJ (R : K1) (zJ uR : anW) (w : anV) : Prop :=
 aC pg (fG 43 5 zJ) w fun t15 w =>
 aC pg (GH 9 (.string ⟨#[0, 1, 2, 2, 3, 3, 3, 3, 4, 4, 4, 4, 4, 4, 4, 4, 5, 5, 5, 5, 5, 5, 5, 5, 5, 5, 5, 5, 5, 5, 5, 5, 6, 6, 6, 6, 6, 6, 6, 6, 6, 6, 6, 6, 6, 6, 6, 6, 6, 6, 6, 6, 6, 6, 6, 6, 6, 6, 6, 6, 6, 6, 6, 6, 7, 7, 7, 7, 7, 7, 7, 7, 7, 7, 7, 7, 7, 7, 7, 7, 7, 7, 7, 7, 7, 7, 7, 7, 7, 7, 7, 7, 7, 7, 7, 7, 7, 7, 7, 7, 7, 7, 7, 7, 7, 7, 7, 7, 7, 7, 7, 7, 7, 7, 7, 7, 7, 7, 7, 7, 7, 7, 7, 7, 7, 7, 7, 7, 8, 8, 8, 8, 8, 8, 8, 8, 8, 8, 8, 8, 8, 8, 8, 8, 8, 8, 8, 8, 8, 8, 8, 8, 8, 8, 8, 8, 8, 8, 8, 8, 8, 8, 8, 8, 8, 8, 8, 8, 8, 8, 8, 8, 8, 8, 8, 8, 8, 8, 8, 8, 8, 8, 8, 8, 8, 8, 8, 8, 8, 8, 8, 8, 8, 8, 8, 8, 8, 8, 8, 8, 8, 8, 8, 8, 8, 8, 8, 8, 8, 8, 8, 8, 8, 8, 8, 8, 8, 8, 8, 8, 8, 8, 8, 8, 8, 8, 8, 8, 8, 8, 8, 8, 8, 8, 8, 8, 8, 8, 8, 8, 8, 8, 8, 8, 8, 8, 8, 8, 8, 8, 8, 8, 8, 8, 8, 8]⟩) t15) w fun t16 w =>
 aC pg (fG 5 3 t16) w fun t17 w =>
 aC pg (aF .add 3 aL aL uR t17) w fun t18 w =>
 R t18 w
theorem JH (R : K1) (hr : HR wG R Q) (h : lJ R (g 0) (g 2) w) : bG pg kP (aB 1 (aB 2 jX)) Q g w :=
 eC (kn := no) (l := []) h fH hr trivial
def vY (kn : K2) (zJ uR : anW) (w : anV) : Prop :=
 aC pg (aF .geq 43 aL aL zJ (.int .u32 256)) w fun t8 w =>
 fL t8
  (aC pg (aF .shr 43 aL aL zJ (.int .u64 8)) w fun t10 w =>
  aC pg (aF .add 3 aL aL uR (.int .i64 8)) w fun t12 w =>
  kn t10 t12 w)
  (kn zJ uR w)
theorem Jz (kn : K2) (hn : N2 Q kn 0 2) (h : vY kn (g 0) (g 2) w) : bG pg kP (aE 1 (aB 2 jX)) Q g w :=
 eC (kr := no) (l := []) h hn fH trivial
def pG (R : K1) (zJ uR : anW) (w : anV) : Prop :=
 vY (fun zJ uR w => lJ R zJ uR w) zJ uR w
def wF (kn : K2) (zJ : anW) (w : anV) : Prop :=
 aC pg (aF .geq 43 aL aL zJ (.int .u32 65536)) w fun t4 w =>
 fL t4
  (aC pg (aF .shr 43 aL aL zJ (.int .u64 16)) w fun t6 w =>
  kn t6 (.int .i64 16) w)
  (kn zJ (.int .i64 0) w)
theorem JO (kn : K2) (hn : N2 Q kn 0 2) (h : wF kn (g 0) w) : bG pg kP (aE 2 jX) Q g w :=
 eC (kr := no) (l := []) h hn fH trivial
def vX (R : K1) (zJ : anW) (w : anV) : Prop :=
 wF (fun zJ uR w => pG R zJ uR w) zJ w
theorem Jr (R : K1) (hr : HR wG R Q) (h : vX R (g 0) w) : bG pg kP jX Q g w :=
 gM 2 (JO _ g w (pG R) (fun g w h => aK (gM 1 (Jz _ g w (lJ R) (fun g w h => aK (JH _ g w R hr h)) h))) h)
def I0 (a0 : anW) (w : anV) (R : K1) : Prop :=
 vX R a0 w
theorem Kq {a0 : anW} {w : anV} {R : K1} (h : I0 a0 w R) : aU pg mI #[a0] w R := by
 refine xB (ann := kP) Tryd.f86 jX [a0] wG 19 TrydM.mixed Tryd.func86 ?_
 exact (Jr _ _ _ R (fun _ _ h => h) h)
def Hj : FA := ⟨yH, fun i => .leaf ([], []) []⟩
def IV : List ResultVar := [.tmp 4]
noncomputable def Eo : Code := dC Tryd.f87
def BS (R : K1) (VZ RP : anW) (w : anV) : Prop :=
 aC pg (BA 145 VZ) w fun c_2 w =>
 aC pg (aJ 145 c_2) w fun t6 w =>
 aU pg yT #[t6] w fun t7 w =>
 aC pg (sUn .not t7) w fun t8 w =>
 fL t8
  (R (.int .i64 1) w)
  (aC pg (aQ 145 c_2 0) w fun t10 w =>
  aC pg (aJ 3 t10) w fun t11 w =>
  aC pg (aF .gtr 3 aL aL t11 RP) w fun t13 w =>
  fL t13
   (R (.int .i64 12) w)
   (R (.int .i64 0) w))
theorem M8 (R : K1) (hr : HR IV R Q) (h : BS R (g 0) (g 1) w) : bG pg Hj Eo Q g w :=
 eC (kn := no) (l := []) h fH hr trivial
def Oq (a0 a1 : anW) (w : anV) (R : K1) : Prop :=
 BS R a0 a1 w
theorem NB {a0 a1 : anW} {w : anV} {R : K1} (h : Oq a0 a1 w R) : aU pg yH #[a0, a1] w R := by
 refine xB (ann := Hj) Tryd.f87 Eo [a0, a1] IV 14 TrydM.mixed Tryd.func87 ?_
 exact (M8 _ _ _ R (fun _ _ h => h) h)
def bN : FA := ⟨xZ, fun i => .leaf ([], []) []⟩
def ET : List ResultVar := [.tmp 2]
noncomputable def bL : Code := dC Tryd.f88
def Ba (R : K1) (aP : anW) (w : anV) : Prop :=
 R aP w
theorem Ps (R : K1) (hr : HR ET R Q) (h : Ba R (g 4) w) : bG pg bN (aB 1 (aB 1 (aB 1 (aB 4 bL)))) Q g w :=
 eC (kn := no) (l := []) h fH hr trivial
def AS (kn : K7) (gY aP aS dO t37 t38 t39 : anW) (w : anV) : Prop :=
 aC pg (aF .add 3 aL aL t39 (.int .i64 1)) w fun t68 w =>
 kn gY aP aS dO t37 t38 t68 w
theorem O7 (kn : K7) (hn : N7 Q kn 3 4 5 8 37 38 39) (h : AS kn (g 3) (g 4) (g 5) (g 8) (g 37) (g 38) (g 39) w) : bG pg bN (aB 1 (aB 2 (bI (bI (aB 1 (aE 1 (aB 1 (aB 1 (aB 4 bL))))))))) Q g w :=
 eC (kr := no) (l := []) h hn fH trivial
def A9 (kn : CH) (gY aP aS dO BE t37 t38 t39 t45 t46 : anW) (w : anV) : Prop :=
 aC pg (aF .add 3 aL aL t46 (.int .i64 1)) w fun t67 w =>
 kn gY aP aS dO BE t37 t38 t39 t45 t67 w
theorem P0 (kn : CH) (hn : N10 Q kn 3 4 5 8 9 37 38 39 45 46) (h : A9 kn (g 3) (g 4) (g 5) (g 8) (g 9) (g 37) (g 38) (g 39) (g 45) (g 46) w) : bG pg bN (aB 1 (aB 2 (bI (bI (aB 2 (bI (aB 1 (bI (aE 1 (aB 2 (bI (bI (aB 1 (aE 1 (aB 1 (aB 1 (aB 4 bL))))))))))))))))) Q g w :=
 eC (kr := no) (l := []) h hn fH trivial
def AR (kn : CH) (k5 : CH) (gY aP aS dO BE t37 t38 t39 t45 t46 : anW) (w : anV) : Prop :=
 aC pg (aF .shr 3 aL aL gY (.int .u64 1)) w fun t56 w =>
 aC pg (aF .add 3 aL aL dO t56) w fun t57 w =>
 aC pg (aF .shr 3 aL aL gY (.int .u64 3)) w fun t59 w =>
 aC pg (aF .add 3 aL aL t57 t59) w fun t60 w =>
 aC pg (aF .add 3 aL aL t60 (.int .i64 3)) w fun t61 w =>
 aC pg (aF .rem 3 aL aL t61 gY) w fun t63 w =>
 aC pg (aF .lss 3 aL aL t63 aS) w fun t66 w =>
 fL t66
  (k5 gY aP aS t63 BE t37 t38 t39 t45 t46 w)
  (kn gY aP aS t63 BE t37 t38 t39 t45 t46 w)
theorem Pd (kn : CH) (k5 : CH) (hn : N10 Q kn 3 4 5 8 9 37 38 39 45 46) (h5 : E10 Q k5 5 3 4 5 8 9 37 38 39 45 46) (h : AR kn k5 (g 3) (g 4) (g 5) (g 8) (g 9) (g 37) (g 38) (g 39) (g 45) (g 46) w) : bG pg bN (bI (bI (aB 1 (bI (aE 1 (aB 2 (bI (bI (aB 2 (bI (aB 1 (bI (aE 1 (aB 2 (bI (bI (aB 1 (aE 1 (aB 1 (aB 1 (aB 4 bL))))))))))))))))))))) Q g w :=
 eC (kr := no) (l := [(5, fun g w => k5 (g 3) (g 4) (g 5) (g 8) (g 9) (g 37) (g 38) (g 39) (g 45) (g 46) w)]) h hn fH ⟨h5, trivial⟩
def AV (k5 : CH) (gY aP aS dO BE t37 t38 t39 t45 t46 : anW) (w : anV) : Prop :=
 cO (fun (X : anW -> K0) (t : anW) (w : anV) => AR (fun _ _ _ dO _ _ _ _ _ _ w => X dO w) k5 gY aP aS t BE t37 t38 t39 t45 t46 w) dO w
theorem PB (k5 : CH) (h5 : E10 Q k5 5 3 4 5 8 9 37 38 39 45 46) (h : AV k5 (g 3) (g 4) (g 5) (g 8) (g 9) (g 37) (g 38) (g 39) (g 45) (g 46) w) : bG pg bN (bI (aB 1 (bI (aE 1 (aB 2 (bI (bI (aB 2 (bI (aB 1 (bI (aE 1 (aB 2 (bI (bI (aB 1 (aE 1 (aB 1 (aB 1 (aB 4 bL)))))))))))))))))))) Q g w := by
 refine JK (fun g : Env => g 8) (fun X t w => AR (fun _ _ _ dO _ _ _ _ _ _ w => X dO w) k5 (g 3) (g 4) (g 5) t (g 9) (g 37) (g 38) (g 39) (g 45) (g 46) w) h (fun X g1 w1 ha hL => ?_)
 rw [<- fM 3 ha, <- fM 4 ha, <- fM 5 ha, <- fM 9 ha, <- fM 37 ha, <- fM 38 ha, <- fM 39 ha, <- fM 45 ha, <- fM 46 ha] at hL
 exact (Pd _ g1 w1 (fun _ _ _ dO _ _ _ _ _ _ w => X dO w) k5 (fun _ _ h => h) h5 hL)
def FU (k5 : CH) (gY aP aS dO BE t37 t38 t39 t45 t46 : anW) (w : anV) : Prop :=
 AV k5 gY aP aS dO BE t37 t38 t39 t45 t46 w
def FG (kn : CH) (gY aP aS dO BE t37 t38 t39 t45 t46 : anW) (w : anV) : Prop :=
 aC pg (fG 3 5 BE) w fun t51 w =>
 aC pg (bB 25 aP dO) w fun t52 w =>
 aC pg (aQ 123 t52 0) w fun t53 w =>
 aC pg (aR 5 t53 t51) w fun _u w =>
 kn gY aP aS dO BE t37 t38 t39 t45 t46 w
theorem Pv (kn : CH) (hn : N10 Q kn 3 4 5 8 9 37 38 39 45 46) (h : FG kn (g 3) (g 4) (g 5) (g 8) (g 9) (g 37) (g 38) (g 39) (g 45) (g 46) w) : bG pg bN (aE 1 (bI (aE 1 (aB 2 (bI (bI (aB 2 (bI (aB 1 (bI (aE 1 (aB 2 (bI (bI (aB 1 (aE 1 (aB 1 (aB 1 (aB 4 bL))))))))))))))))))) Q g w :=
 eC (kr := no) (l := []) h hn fH trivial
def Mm (k5 : CH) (gY aP aS dO BE t37 t38 t39 t45 t46 : anW) (w : anV) : Prop :=
 FG (fun gY aP aS dO BE t37 t38 t39 t45 t46 w => FU k5 gY aP aS dO BE t37 t38 t39 t45 t46 w) gY aP aS dO BE t37 t38 t39 t45 t46 w
def FQ (kn : CH) (gY aP aS dO BE t37 t38 t39 t45 t46 : anW) (w : anV) : Prop :=
 Mm kn gY aP aS dO BE t37 t38 t39 t45 t46 w
def CV (kn : CH) (gY aP aS dO BE t37 t38 t39 t45 t46 : anW) (w : anV) : Prop :=
 FQ (fun gY aP aS dO BE t37 t38 t39 t45 t46 w => A9 kn gY aP aS dO BE t37 t38 t39 t45 t46 w) gY aP aS dO BE t37 t38 t39 t45 t46 w
theorem P4 (kn : CH) (hn : N10 Q kn 3 4 5 8 9 37 38 39 45 46) (h : FQ kn (g 3) (g 4) (g 5) (g 8) (g 9) (g 37) (g 38) (g 39) (g 45) (g 46) w) : bG pg bN (aE 1 (aB 2 (bI (bI (aB 2 (bI (aB 1 (bI (aE 1 (aB 2 (bI (bI (aB 1 (aE 1 (aB 1 (aB 1 (aB 4 bL))))))))))))))))) Q g w :=
 Ca 5 (gM 1 (Pv _ g w (FU kn) (fun g w h => aK (Ca 6 (PB _ g w kn hn h))) h))
def zD (kn : CH) (k4 : K7) (gY aP aS dO BE t37 t38 t39 t45 t46 : anW) (w : anV) : Prop :=
 aC pg (aF .lss 3 aL aL t46 t45) w fun t47 w =>
 fL t47
  (kn gY aP aS dO BE t37 t38 t39 t45 t46 w)
  (k4 gY aP aS dO t37 t38 t39 w)
theorem OM (kn : CH) (k4 : K7) (hn : N10 Q kn 3 4 5 8 9 37 38 39 45 46) (h4 : E7 Q k4 4 3 4 5 8 37 38 39) (h : zD kn k4 (g 3) (g 4) (g 5) (g 8) (g 9) (g 37) (g 38) (g 39) (g 45) (g 46) w) : bG pg bN (aE 2 (bI (bI (aB 2 (bI (aB 1 (bI (aE 1 (aB 2 (bI (bI (aB 1 (aE 1 (aB 1 (aB 1 (aB 4 bL)))))))))))))))) Q g w :=
 eC (kr := no) (l := [(4, fun g w => k4 (g 3) (g 4) (g 5) (g 8) (g 37) (g 38) (g 39) w)]) h hn fH ⟨h4, trivial⟩
def sD (kn : CH) (k4 : K7) (gY aP aS dO BE t37 t38 t39 t45 t46 : anW) (w : anV) : Prop :=
 zD (fun gY aP aS dO BE t37 t38 t39 t45 t46 w => CV kn gY aP aS dO BE t37 t38 t39 t45 t46 w) k4 gY aP aS dO BE t37 t38 t39 t45 t46 w
def DS (k4 : K7) (gY aP aS dO BE t37 t38 t39 t45 t46 : anW) (w : anV) : Prop :=
 cO (fun (X : (anW × anW) -> K0) (t : anW × anW) (w : anV) => sD (fun _ _ _ dO _ _ _ _ _ t46 w => X (dO, t46) w) k4 gY aP aS t.1 BE t37 t38 t39 t45 t.2 w) (dO, t46) w
theorem NP (kn : CH) (k4 : K7) (hn : N10 Q kn 3 4 5 8 9 37 38 39 45 46) (h4 : E7 Q k4 4 3 4 5 8 37 38 39) (h : sD kn k4 (g 3) (g 4) (g 5) (g 8) (g 9) (g 37) (g 38) (g 39) (g 45) (g 46) w) : bG pg bN (bI (bI (aB 2 (bI (aB 1 (bI (aE 1 (aB 2 (bI (bI (aB 1 (aE 1 (aB 1 (aB 1 (aB 4 bL))))))))))))))) Q g w :=
 gM 2 (OM _ g w (CV kn) k4 (fun g w h => aK (gM 1 (P4 _ g w (A9 kn) (fun g w h => aK (P0 _ g w kn hn h)) h))) h4 h)
theorem OH (k4 : K7) (h4 : E7 Q k4 4 3 4 5 8 37 38 39) (h : DS k4 (g 3) (g 4) (g 5) (g 8) (g 9) (g 37) (g 38) (g 39) (g 45) (g 46) w) : bG pg bN (bI (aB 2 (bI (aB 1 (bI (aE 1 (aB 2 (bI (bI (aB 1 (aE 1 (aB 1 (aB 1 (aB 4 bL)))))))))))))) Q g w := by
 refine JK (fun g : Env => (g 8, g 46)) (fun X t w => sD (fun _ _ _ dO _ _ _ _ _ t46 w => X (dO, t46) w) k4 (g 3) (g 4) (g 5) t.1 (g 9) (g 37) (g 38) (g 39) (g 45) t.2 w) h (fun X g1 w1 ha hL => ?_)
 rw [<- fM 3 ha, <- fM 4 ha, <- fM 5 ha, <- fM 9 ha, <- fM 37 ha, <- fM 38 ha, <- fM 39 ha, <- fM 45 ha] at hL
 exact (NP _ g1 w1 (fun _ _ _ dO _ _ _ _ _ t46 w => X (dO, t46) w) k4 (fun _ _ h => h) h4 hL)
def DU (kn : K7) (gY aP aS dO BE t37 t38 t39 t45 t46 : anW) (w : anV) : Prop :=
 DS kn gY aP aS dO BE t37 t38 t39 t45 t46 w
def CY (kn : CH) (gY aP aS dO BE Uc t37 t38 t39 : anW) (w : anV) : Prop :=
 aC pg (jI .max #[3, 3] 3 [Uc, (.int .i64 0)]) w fun t45 w =>
 kn gY aP aS dO BE t37 t38 t39 t45 (.int .i64 0) w
theorem Nu (kn : CH) (hn : N10 Q kn 3 4 5 8 9 37 38 39 45 46) (h : CY kn (g 3) (g 4) (g 5) (g 8) (g 9) (g 10) (g 37) (g 38) (g 39) w) : bG pg bN (aE 2 (bI (aB 1 (bI (aE 1 (aB 2 (bI (bI (aB 1 (aE 1 (aB 1 (aB 1 (aB 4 bL))))))))))))) Q g w :=
 eC (kr := no) (l := []) h hn fH trivial
def Lc (kn : K7) (gY aP aS dO BE Uc t37 t38 t39 : anW) (w : anV) : Prop :=
 CY (fun gY aP aS dO BE t37 t38 t39 t45 t46 w => DU kn gY aP aS dO BE t37 t38 t39 t45 t46 w) gY aP aS dO BE Uc t37 t38 t39 w
def Dg (kn : K7) (gY aP aS dO BE Uc t37 t38 t39 : anW) (w : anV) : Prop :=
 Lc kn gY aP aS dO BE Uc t37 t38 t39 w
def DZ (kn : K9) (gY aP aS dO t37 t38 t39 : anW) (w : anV) : Prop :=
 aC pg (bB 77 t37 t39) w fun t42 w =>
 aC pg (aJ 3 t42) w fun t43 w =>
 kn gY aP aS dO t39 t43 t37 t38 t39 w
theorem OO (kn : K9) (hn : N9 Q kn 3 4 5 8 9 10 37 38 39) (h : DZ kn (g 3) (g 4) (g 5) (g 8) (g 37) (g 38) (g 39) w) : bG pg bN (aE 1 (bI (aE 1 (aB 2 (bI (bI (aB 1 (aE 1 (aB 1 (aB 1 (aB 4 bL))))))))))) Q g w :=
 eC (kr := no) (l := []) h hn fH trivial
def KN (kn : K7) (gY aP aS dO t37 t38 t39 : anW) (w : anV) : Prop :=
 DZ (fun gY aP aS dO BE Uc t37 t38 t39 w => Dg kn gY aP aS dO BE Uc t37 t38 t39 w) gY aP aS dO t37 t38 t39 w
def DC (kn : K7) (gY aP aS dO t37 t38 t39 : anW) (w : anV) : Prop :=
 KN kn gY aP aS dO t37 t38 t39 w
def Du (kn : K7) (gY aP aS dO t37 t38 t39 : anW) (w : anV) : Prop :=
 DC (fun gY aP aS dO t37 t38 t39 w => AS kn gY aP aS dO t37 t38 t39 w) gY aP aS dO t37 t38 t39 w
theorem OL (kn : K7) (hn : N7 Q kn 3 4 5 8 37 38 39) (h : DC kn (g 3) (g 4) (g 5) (g 8) (g 37) (g 38) (g 39) w) : bG pg bN (aE 1 (aB 2 (bI (bI (aB 1 (aE 1 (aB 1 (aB 1 (aB 4 bL))))))))) Q g w :=
 Ca 3 (gM 1 (OO _ g w (Dg kn) (fun g w h => aK (scD (gM 2 (Nu _ g w (DU kn) (fun g w h => aK (Ca 4 (OH _ g w kn hn h))) h)))) h))
def yS (kn : K7) (k2 : K1) (gY aP aS dO t37 t38 t39 : anW) (w : anV) : Prop :=
 aC pg (aF .lss 3 aL aL t39 t38) w fun t40 w =>
 fL t40
  (kn gY aP aS dO t37 t38 t39 w)
  (k2 aP w)
theorem Ow (kn : K7) (k2 : K1) (hn : N7 Q kn 3 4 5 8 37 38 39) (h2 : E1 Q k2 2 4) (h : yS kn k2 (g 3) (g 4) (g 5) (g 8) (g 37) (g 38) (g 39) w) : bG pg bN (aE 2 (bI (bI (aB 1 (aE 1 (aB 1 (aB 1 (aB 4 bL)))))))) Q g w :=
 eC (kr := no) (l := [(2, fun g w => k2 (g 4) w)]) h hn fH ⟨h2, trivial⟩
def rW (kn : K7) (k2 : K1) (gY aP aS dO t37 t38 t39 : anW) (w : anV) : Prop :=
 yS (fun gY aP aS dO t37 t38 t39 w => Du kn gY aP aS dO t37 t38 t39 w) k2 gY aP aS dO t37 t38 t39 w
def CW (k2 : K1) (gY aP aS dO t37 t38 t39 : anW) (w : anV) : Prop :=
 cO (fun (X : (anW × anW) -> K0) (t : anW × anW) (w : anV) => rW (fun _ _ _ dO _ _ t39 w => X (dO, t39) w) k2 gY aP aS t.1 t37 t38 t.2 w) (dO, t39) w
theorem NC (kn : K7) (k2 : K1) (hn : N7 Q kn 3 4 5 8 37 38 39) (h2 : E1 Q k2 2 4) (h : rW kn k2 (g 3) (g 4) (g 5) (g 8) (g 37) (g 38) (g 39) w) : bG pg bN (bI (bI (aB 1 (aE 1 (aB 1 (aB 1 (aB 4 bL))))))) Q g w :=
 gM 2 (Ow _ g w (Du kn) k2 (fun g w h => aK (gM 1 (OL _ g w (AS kn) (fun g w h => aK (O7 _ g w kn hn h)) h))) h2 h)
theorem Oe (k2 : K1) (h2 : E1 Q k2 2 4) (h : CW k2 (g 3) (g 4) (g 5) (g 8) (g 37) (g 38) (g 39) w) : bG pg bN (bI (aB 1 (aE 1 (aB 1 (aB 1 (aB 4 bL)))))) Q g w := by
 refine JK (fun g : Env => (g 8, g 39)) (fun X t w => rW (fun _ _ _ dO _ _ t39 w => X (dO, t39) w) k2 (g 3) (g 4) (g 5) t.1 (g 37) (g 38) t.2 w) h (fun X g1 w1 ha hL => ?_)
 rw [<- fM 3 ha, <- fM 4 ha, <- fM 5 ha, <- fM 37 ha, <- fM 38 ha] at hL
 exact (NC _ g1 w1 (fun _ _ _ dO _ _ t39 w => X (dO, t39) w) k2 (fun _ _ h => h) h2 hL)
def CP (kn : K1) (gY aP aS dO t37 t38 t39 : anW) (w : anV) : Prop :=
 CW kn gY aP aS dO t37 t38 t39 w
def DQ (kn : K7) (cL gY aP aS dO : anW) (w : anV) : Prop :=
 aC pg (aQ 145 cL 1) w fun t36 w =>
 aC pg (aJ 77 t36) w fun t37 w =>
 aC pg (jI .len #[77] 3 [t37]) w fun t38 w =>
 kn gY aP aS dO t37 t38 (.int .i64 0) w
theorem NH (kn : K7) (hn : N7 Q kn 3 4 5 8 37 38 39) (h : DQ kn (g 1) (g 3) (g 4) (g 5) (g 8) w) : bG pg bN (aE 1 (aE 1 (aB 1 (aB 1 (aB 4 bL))))) Q g w :=
 eC (kr := no) (l := []) h hn fH trivial
def DK (kn : K1) (cL gY aP aS dO : anW) (w : anV) : Prop :=
 DQ (fun gY aP aS dO t37 t38 t39 w => CP kn gY aP aS dO t37 t38 t39 w) cL gY aP aS dO w
def DW (R : K1) (cL gY aP aS dO : anW) (w : anV) : Prop :=
 DK (fun aP w => Ba R aP w) cL gY aP aS dO w
theorem ND (kn : K1) (hn : N1 Q kn 4) (h : DK kn (g 1) (g 3) (g 4) (g 5) (g 8) w) : bG pg bN (aE 1 (aB 1 (aB 1 (aB 4 bL)))) Q g w :=
 gM 1 (NH _ g w (CP kn) (fun g w h => aK (Ca 2 (Oe _ g w kn hn h))) h)
def C8 (kn : K5) (cL gY aP aS : anW) (w : anV) : Prop :=
 kn cL gY aP aS (.int .i64 0) w
theorem NX (kn : K5) (hn : N5 Q kn 1 3 4 5 8) (h : C8 kn (g 1) (g 3) (g 4) (g 5) w) : bG pg bN (aE 1 (aB 1 (aB 4 bL))) Q g w :=
 eC (kr := no) (l := []) h hn fH trivial
def Dm (R : K1) (cL gY aP aS : anW) (w : anV) : Prop :=
 C8 (fun cL gY aP aS dO w => DW R cL gY aP aS dO w) cL gY aP aS w
def yE (kn : K7) (cL gY aP aS t18 t19 t20 : anW) (w : anV) : Prop :=
 aC pg (aF .add 3 aL aL t20 (.int .i64 1)) w fun t35 w =>
 kn cL gY aP aS t18 t19 t35 w
theorem OG (kn : K7) (hn : N7 Q kn 1 3 4 5 18 19 20) (h : yE kn (g 1) (g 3) (g 4) (g 5) (g 18) (g 19) (g 20) w) : bG pg bN (aB 3 (bI (bI (aB 1 (aE 1 (aB 4 bL)))))) Q g w :=
 eC (kr := no) (l := []) h hn fH trivial
def yY (kn : K7) (k0 : K4) (cL gY aP aS t18 t19 t20 : anW) (w : anV) : Prop :=
 aC pg (aF .lss 3 aL aL t20 t19) w fun t21 w =>
 fL t21
  (aC pg (bB 77 t18 t20) w fun t23 w =>
  aC pg (aJ 3 t23) w fun t24 w =>
  aC pg (aF .eql 3 (.tmp 25) (.const (.int .i64 (-1))) t24 (.int .i64 (-1))) w fun t26 w =>
  fL t26
   (aC pg (aF .sub 3 aL aL aS (.int .i64 1)) w fun t28 w =>
   aC pg (fG 3 5 t20) w fun t32 w =>
   aC pg (bB 25 aP t28) w fun t33 w =>
   aC pg (aQ 123 t33 0) w fun t34 w =>
   aC pg (aR 5 t34 t32) w fun _u w =>
   kn cL gY aP t28 t18 t19 t20 w)
   (kn cL gY aP aS t18 t19 t20 w))
  (k0 cL gY aP aS w)
theorem Oc (kn : K7) (k0 : K4) (hn : N7 Q kn 1 3 4 5 18 19 20) (h0 : E4 Q k0 0 1 3 4 5) (h : yY kn k0 (g 1) (g 3) (g 4) (g 5) (g 18) (g 19) (g 20) w) : bG pg bN (aE 3 (bI (bI (aB 1 (aE 1 (aB 4 bL)))))) Q g w :=
 eC (kr := no) (l := [(0, fun g w => k0 (g 1) (g 3) (g 4) (g 5) w)]) h hn fH ⟨h0, trivial⟩
def rJ (kn : K7) (k0 : K4) (cL gY aP aS t18 t19 t20 : anW) (w : anV) : Prop :=
 yY (fun cL gY aP aS t18 t19 t20 w => yE kn cL gY aP aS t18 t19 t20 w) k0 cL gY aP aS t18 t19 t20 w
def C0 (k0 : K4) (cL gY aP aS t18 t19 t20 : anW) (w : anV) : Prop :=
 cO (fun (X : (anW × anW) -> K0) (t : anW × anW) (w : anV) => rJ (fun _ _ _ aS _ _ t20 w => X (aS, t20) w) k0 cL gY aP t.1 t18 t19 t.2 w) (aS, t20) w
theorem OD (kn : K7) (k0 : K4) (hn : N7 Q kn 1 3 4 5 18 19 20) (h0 : E4 Q k0 0 1 3 4 5) (h : rJ kn k0 (g 1) (g 3) (g 4) (g 5) (g 18) (g 19) (g 20) w) : bG pg bN (bI (bI (aB 1 (aE 1 (aB 4 bL))))) Q g w :=
 gM 3 (Oc _ g w (yE kn) k0 (fun g w h => aK (OG _ g w kn hn h)) h0 h)
theorem OA (k0 : K4) (h0 : E4 Q k0 0 1 3 4 5) (h : C0 k0 (g 1) (g 3) (g 4) (g 5) (g 18) (g 19) (g 20) w) : bG pg bN (bI (aB 1 (aE 1 (aB 4 bL)))) Q g w := by
 refine JK (fun g : Env => (g 5, g 20)) (fun X t w => rJ (fun _ _ _ aS _ _ t20 w => X (aS, t20) w) k0 (g 1) (g 3) (g 4) t.1 (g 18) (g 19) t.2 w) h (fun X g1 w1 ha hL => ?_)
 rw [<- fM 1 ha, <- fM 3 ha, <- fM 4 ha, <- fM 18 ha, <- fM 19 ha] at hL
 exact (OD _ g1 w1 (fun _ _ _ aS _ _ t20 w => X (aS, t20) w) k0 (fun _ _ h => h) h0 hL)
def Dw (kn : K4) (cL gY aP aS t18 t19 t20 : anW) (w : anV) : Prop :=
 C0 kn cL gY aP aS t18 t19 t20 w
def Dh (kn : K7) (cL gY aP aS : anW) (w : anV) : Prop :=
 aC pg (aQ 145 cL 1) w fun t17 w =>
 aC pg (aJ 77 t17) w fun t18 w =>
 aC pg (jI .len #[77] 3 [t18]) w fun t19 w =>
 kn cL gY aP aS t18 t19 (.int .i64 0) w
theorem Nz (kn : K7) (hn : N7 Q kn 1 3 4 5 18 19 20) (h : Dh kn (g 1) (g 3) (g 4) (g 5) w) : bG pg bN (aE 1 (aE 1 (aB 4 bL))) Q g w :=
 eC (kr := no) (l := []) h hn fH trivial
def Dr (kn : K4) (cL gY aP aS : anW) (w : anV) : Prop :=
 Dh (fun cL gY aP aS t18 t19 t20 w => Dw kn cL gY aP aS t18 t19 t20 w) cL gY aP aS w
def CX (R : K1) (cL gY aP aS : anW) (w : anV) : Prop :=
 Dr (fun cL gY aP aS w => Dm R cL gY aP aS w) cL gY aP aS w
theorem OQ (kn : K4) (hn : N4 Q kn 1 3 4 5) (h : Dr kn (g 1) (g 3) (g 4) (g 5) w) : bG pg bN (aE 1 (aB 4 bL)) Q g w :=
 gM 1 (Nz _ g w (Dw kn) (fun g w h => aK (Ca 0 (OA _ g w kn hn h))) h)
def CM (kn : K4) (VZ : anW) (w : anV) : Prop :=
 aC pg (BA 145 VZ) w fun cL w =>
 aC pg (aQ 145 cL 0) w fun t11 w =>
 aC pg (aJ 3 t11) w fun t12 w =>
 aC pg (aF .shl 3 aL aL (.int .i64 1) t12) w fun t13 w =>
 aC pg (rM 25 t13 t13) w fun t15 w =>
 kn cL t13 t15 t13 w
theorem NR (kn : K4) (hn : N4 Q kn 1 3 4 5) (h : CM kn (g 0) w) : bG pg bN (aE 4 bL) Q g w :=
 eC (kr := no) (l := []) h hn fH trivial
def DB (R : K1) (VZ : anW) (w : anV) : Prop :=
 CM (fun cL gY aP aS w => CX R cL gY aP aS w) VZ w
theorem Nr (R : K1) (hr : HR ET R Q) (h : DB R (g 0) w) : bG pg bN bL Q g w :=
 gM 4 (NR _ g w (CX R) (fun g w h => aK (gM 1 (OQ _ g w (Dm R) (fun g w h => aK (gM 1 (NX _ g w (DW R) (fun g w h => aK (gM 1 (ND _ g w (Ba R) (fun g w h => aK (Ps _ g w R hr h)) h))) h))) h))) h)
def SE (a0 : anW) (w : anV) (R : K1) : Prop :=
 DB R a0 w
theorem Q4 {a0 : anW} {w : anV} {R : K1} (h : SE a0 w R) : aU pg xZ #[a0] w R := by
 refine xB (ann := bN) Tryd.f88 bL [a0] ET 70 TrydM.mixed Tryd.func88 ?_
 exact (Nr _ _ _ R (fun _ _ h => h) h)
def EB : FA := ⟨mB, fun i => .leaf ([], []) []⟩
def Gx : List ResultVar := [.tmp 2]
noncomputable def D2 : Code := dC Tryd.f89
def AJ (R : K1) (zJ : anW) (w : anV) : Prop :=
 fL (.bool false)
  (aC pg (fG 94 43 zJ) w fun t4 w =>
  aU pg mI #[t4] w fun t5 w =>
  R t5 w)
  (aU pg qO #[zJ] w fun t7 w =>
  R t7 w)
theorem L5 (R : K1) (hr : HR Gx R Q) (h : AJ R (g 0) w) : bG pg EB D2 Q g w :=
 eC (kn := no) (l := []) h fH hr trivial
def Md (a0 : anW) (w : anV) (R : K1) : Prop :=
 AJ R a0 w
theorem MM {a0 : anW} {w : anV} {R : K1} (h : Md a0 w R) : aU pg mB #[a0] w R := by
 refine xB (ann := EB) Tryd.f89 D2 [a0] Gx 8 TrydM.mixed Tryd.func89 ?_
 exact (L5 _ _ _ R (fun _ _ h => h) h)
def jW : FA := ⟨yT, fun i => .leaf ([], []) []⟩
def mY : List ResultVar := [.tmp 2]
noncomputable def iV : Code := dC Tryd.f90
def A6 (R : K1) (gV : anW) (w : anV) : Prop :=
 aC pg (aF .eql 3 (.tmp 60) (.const (.int .i64 0)) gV (.int .i64 0)) w fun t61 w =>
 R t61 w
theorem P8 (R : K1) (hr : HR mY R Q) (h : A6 R (g 3) w) : bG pg jW (aB 1 (aB 3 iV)) Q g w :=
 eC (kn := no) (l := []) h fH hr trivial
def qG (kn : K4) (k0 : K1) (R : K1) (gV t41 t42 t43 : anW) (w : anV) : Prop :=
 aC pg (aF .lss 3 aL aL t43 t42) w fun t44 w =>
 fL t44
  (aC pg (bB 77 t41 t43) w fun t45 w =>
  aC pg (aJ 3 t45) w fun t46 w =>
  aC pg (aF .lss 3 aL aL t46 (.int .i64 (-1))) w fun t48 w =>
  Gd (fA t48 false) (fun K => K t46 w) w fun t50 w =>
  Gd (fA t48 false) (fun K => aU pg lN #[t50] w K) w fun t51 w =>
  Gd (fA t48 false) (fun K => K gV w) w fun t52 w =>
  Gd (fA t48 false) (fun K => aC pg (aF .gtr 3 aL aL t51 t52) w K) w fun t53 w =>
  aC pg (fR t48 (.bool true) t53) w fun t54 w =>
  fL t54
   (R (.bool false) w)
   (aU pg lN #[t46] w fun t57 w =>
   aC pg (aF .sub 3 aL aL gV t57) w fun t58 w =>
   aC pg (aF .add 3 aL aL t43 (.int .i64 1)) w fun t59 w =>
   kn t58 t41 t42 t59 w))
  (k0 gV w)
theorem P7 (kn : K4) (k0 : K1) (R : K1) (hn : N4 Q kn 3 41 42 43) (h0 : E1 Q k0 0 3) (hr : HR mY R Q) (h : qG kn k0 R (g 3) (g 41) (g 42) (g 43) w) : bG pg jW (bI (bI (aB 1 (aE 1 (aB 3 iV))))) Q g w :=
 eC (l := [(0, fun g w => k0 (g 3) w)]) h hn hr ⟨h0, trivial⟩
def F7 (k0 : K1) (R : K1) (gV t41 t42 t43 : anW) (w : anV) : Prop :=
 cO (fun (X : (anW × anW) -> K0) (t : anW × anW) (w : anV) => qG (fun gV _ _ t43 w => X (gV, t43) w) k0 R t.1 t41 t42 t.2 w) (gV, t43) w
theorem PX (k0 : K1) (R : K1) (h0 : E1 Q k0 0 3) (hr : HR mY R Q) (h : F7 k0 R (g 3) (g 41) (g 42) (g 43) w) : bG pg jW (bI (aB 1 (aE 1 (aB 3 iV)))) Q g w := by
 refine JK (fun g : Env => (g 3, g 43)) (fun X t w => qG (fun gV _ _ t43 w => X (gV, t43) w) k0 R t.1 (g 41) (g 42) t.2 w) h (fun X g1 w1 ha hL => ?_)
 rw [<- fM 41 ha, <- fM 42 ha] at hL
 exact (P7 _ g1 w1 (fun gV _ _ t43 w => X (gV, t43) w) k0 R (fun _ _ h => h) h0 hr hL)
def Fh (kn : K1) (R : K1) (gV t41 t42 t43 : anW) (w : anV) : Prop :=
 F7 kn R gV t41 t42 t43 w
def F1 (kn : K4) (cL gV : anW) (w : anV) : Prop :=
 aC pg (aQ 145 cL 1) w fun t40 w =>
 aC pg (aJ 77 t40) w fun t41 w =>
 aC pg (jI .len #[77] 3 [t41]) w fun t42 w =>
 kn gV t41 t42 (.int .i64 0) w
theorem Ql (kn : K4) (hn : N4 Q kn 3 41 42 43) (h : F1 kn (g 1) (g 3) w) : bG pg jW (aE 1 (aE 1 (aB 3 iV))) Q g w :=
 eC (kr := no) (l := []) h hn fH trivial
def Fg (kn : K1) (R : K1) (cL gV : anW) (w : anV) : Prop :=
 F1 (fun gV t41 t42 t43 w => Fh kn R gV t41 t42 t43 w) cL gV w
def Fs (R : K1) (cL gV : anW) (w : anV) : Prop :=
 Fg (fun gV w => A6 R gV w) R cL gV w
theorem Qf (kn : K1) (R : K1) (hn : N1 Q kn 3) (hr : HR mY R Q) (h : Fg kn R (g 1) (g 3) w) : bG pg jW (aE 1 (aB 3 iV)) Q g w :=
 gM 1 (Ql _ g w (Fh kn R) (fun g w h => aK (Ca 0 (PX _ g w kn R hn hr h))) h)
def Ft (kn : K2) (R : K1) (VZ : anW) (w : anV) : Prop :=
 aC pg (BA 145 VZ) w fun cL w =>
 aC pg (aQ 145 cL 0) w fun t6 w =>
 aC pg (aJ 3 t6) w fun t7 w =>
 aC pg (aF .lss 3 aL aL t7 (.int .i64 5)) w fun t8 w =>
 Gd (fA t8 false) (fun K => aC pg (aQ 145 cL 0) w K) w fun t10 w =>
 Gd (fA t8 false) (fun K => aC pg (aJ 3 t10) w K) w fun t11 w =>
 Gd (fA t8 false) (fun K => aC pg (aF .gtr 3 aL aL t11 (.int .i64 15)) w K) w fun t12 w =>
 aC pg (fR t8 (.bool true) t12) w fun t13 w =>
 Gd (fA t13 false) (fun K => aC pg (aQ 145 cL 1) w K) w fun t15 w =>
 Gd (fA t13 false) (fun K => aC pg (aJ 77 t15) w K) w fun t16 w =>
 Gd (fA t13 false) (fun K => aC pg (jI .len #[77] 3 [t16]) w K) w fun t17 w =>
 Gd (fA t13 false) (fun K => aC pg (aF .lss 3 aL aL t17 (.int .i64 1)) w K) w fun t18 w =>
 aC pg (fR t13 (.bool true) t18) w fun t19 w =>
 Gd (fA t19 false) (fun K => aC pg (aQ 145 cL 1) w K) w fun t21 w =>
 Gd (fA t19 false) (fun K => aC pg (aJ 77 t21) w K) w fun t22 w =>
 Gd (fA t19 false) (fun K => aC pg (jI .len #[77] 3 [t22]) w K) w fun t23 w =>
 Gd (fA t19 false) (fun K => aC pg (aF .gtr 3 aL aL t23 (.int .i64 256)) w K) w fun t24 w =>
 aC pg (fR t19 (.bool true) t24) w fun t25 w =>
 Gd (fA t25 false) (fun K => aC pg (aQ 145 cL 1) w K) w fun t27 w =>
 Gd (fA t25 false) (fun K => aC pg (aJ 77 t27) w K) w fun t28 w =>
 Gd (fA t25 false) (fun K => aC pg (aQ 145 cL 1) w K) w fun t29 w =>
 Gd (fA t25 false) (fun K => aC pg (aJ 77 t29) w K) w fun t30 w =>
 Gd (fA t25 false) (fun K => aC pg (jI .len #[77] 3 [t30]) w K) w fun t31 w =>
 Gd (fA t25 false) (fun K => aC pg (aF .sub 3 aL aL t31 (.int .i64 1)) w K) w fun t32 w =>
 Gd (fA t25 false) (fun K => aC pg (bB 77 t28 t32) w K) w fun t33 w =>
 Gd (fA t25 false) (fun K => aC pg (aJ 3 t33) w K) w fun t34 w =>
 Gd (fA t25 false) (fun K => aC pg (aF .eql 3 (.tmp 34) (.const (.int .i64 0)) t34 (.int .i64 0)) w K) w fun t35 w =>
 aC pg (fR t25 (.bool true) t35) w fun t36 w =>
 fL t36
  (R (.bool false) w)
  (aC pg (aQ 145 cL 0) w fun t37 w =>
  aC pg (aJ 3 t37) w fun t38 w =>
  aC pg (aF .shl 3 aL aL (.int .i64 1) t38) w fun t39 w =>
  kn cL t39 w)
theorem OR (kn : K2) (R : K1) (hn : N2 Q kn 1 3) (hr : HR mY R Q) (h : Ft kn R (g 0) w) : bG pg jW (aE 3 iV) Q g w :=
 eC (l := []) h hn hr trivial
def FL (R : K1) (VZ : anW) (w : anV) : Prop :=
 Ft (fun cL gV w => Fs R cL gV w) R VZ w
theorem P1 (R : K1) (hr : HR mY R Q) (h : FL R (g 0) w) : bG pg jW iV Q g w :=
 gM 3 (OR _ g w (Fs R) R (fun g w h => aK (gM 1 (Qf _ g w (A6 R) R (fun g w h => aK (P8 _ g w R hr h)) hr h))) hr h)
def R7 (a0 : anW) (w : anV) (R : K1) : Prop :=
 FL R a0 w
theorem Rg {a0 : anW} {w : anV} {R : K1} (h : R7 a0 w R) : aU pg yT #[a0] w R := by
 refine xB (ann := jW) Tryd.f90 iV [a0] mY 62 TrydM.mixed Tryd.func90 ?_
 exact (P1 _ _ _ R (fun _ _ h => h) h)
def Gj : FA := ⟨lN, fun i => .leaf ([], []) []⟩
def IH : List ResultVar := [.tmp 2]
noncomputable def EJ : Code := dC Tryd.f91
def uU (R : K1) (p_0 : anW) (w : anV) : Prop :=
 aC pg (aF .lss 3 aL aL p_0 (.int .i64 0)) w fun t4 w =>
 fL t4
  (R (.int .i64 1) w)
  (R p_0 w)
theorem MD (R : K1) (hr : HR IH R Q) (h : uU R (g 0) w) : bG pg Gj EJ Q g w :=
 eC (kn := no) (l := []) h fH hr trivial
def Iu (a0 : anW) (w : anV) (R : K1) : Prop :=
 uU R a0 w
theorem OC {a0 : anW} {w : anV} {R : K1} (h : Iu a0 w R) : aU pg lN #[a0] w R := by
 refine xB (ann := Gj) Tryd.f91 EJ [a0] IH 6 TrydM.mixed Tryd.func91 ?_
 exact (MD _ _ _ R (fun _ _ h => h) h)
def B7 : FA := ⟨qY, fun i => .leaf ([], []) []⟩
def CN : List ResultVar := [.tmp 2]
noncomputable def By : Code := dC Tryd.f92
def wL (R : K1) (oF : anW) (w : anV) : Prop :=
 aC pg (aF .eql 151 (.tmp 3) (.const (.pointer none)) oF (.pointer none)) w fun t4 w =>
 fL t4
  (R (.slice none 0 0) w)
  (aC pg (lE oF) w fun t6 w =>
  aC pg (aQ 183 t6 0) w fun t7 w =>
  aC pg (aJ 22 t7) w fun t8 w =>
  aU pg fJ #[t8] w fun t9 w =>
  R t9 w)
theorem Jx (R : K1) (hr : HR CN R Q) (h : wL R (g 0) w) : bG pg B7 By Q g w :=
 eC (kn := no) (l := []) h fH hr trivial
def IZ (a0 : anW) (w : anV) (R : K1) : Prop :=
 wL R a0 w
theorem Ki {a0 : anW} {w : anV} {R : K1} (h : IZ a0 w R) : aU pg qY #[a0] w R := by
 refine xB (ann := B7) Tryd.f92 By [a0] CN 10 TrydM.mixed Tryd.func92 ?_
 exact (Jx _ _ _ R (fun _ _ h => h) h)
def Cg : FA := ⟨qX, fun i => .leaf ([], []) []⟩
def DN : List ResultVar := [.tmp 2]
noncomputable def BC : Code := dC Tryd.f93
def vG (R : K1) (CK : anW) (w : anV) : Prop :=
 aU pg fJ #[CK] w fun t4 w =>
 aC pg (cA 195 [(0, t4)]) w fun t5 w =>
 aC pg (BA 195 t5) w fun t6 w =>
 R t6 w
theorem Jn (R : K1) (hr : HR DN R Q) (h : vG R (g 0) w) : bG pg Cg BC Q g w :=
 eC (kn := no) (l := []) h fH hr trivial
def I1 (a0 : anW) (w : anV) (R : K1) : Prop :=
 vG R a0 w
theorem KK {a0 : anW} {w : anV} {R : K1} (h : I1 a0 w R) : aU pg qX #[a0] w R := by
 refine xB (ann := Cg) Tryd.f93 BC [a0] DN 7 TrydM.mixed Tryd.func93 ?_
 exact (Jn _ _ _ R (fun _ _ h => h) h)
def zY : FA := ⟨gT, fun i => match Nat.beq i 3 with | true => .leaf ([], []) [(false, []), (false, []), (false, []), (false, []), (false, []), (false, []), (false, []), (false, []), (false, []), (false, []), (false, []), (false, []), (false, []), (false, [])] | false => match Nat.beq i 5 with | true => .leaf ([9], []) [(false, []), (false, []), (false, []), (false, []), (false, []), (false, []), (false, []), (false, []), (false, []), (true, []), (false, [])] | false => .leaf ([], []) []⟩
def Bm : List ResultVar := [.tmp 4, .tmp 5]
noncomputable def xU : Code := dC Tryd.f94
def rS (R : K1) (Ho Hn : anW) (w : anV) : Prop :=
 aC pg (aF .eql 184 (.tmp 8) (.const (.pointer none)) Ho (.pointer none)) w fun t9 w =>
 Gd (fA t9 false) (fun K => K Hn w) w fun t11 w =>
 Gd (fA t9 false) (fun K => aC pg (aF .lss 3 aL aL t11 (.int .i64 0)) w K) w fun t12 w =>
 aC pg (fR t9 (.bool true) t12) w fun t13 w =>
 Gd (fA t13 false) (fun K => K Hn w) w fun t15 w =>
 Gd (fA t13 false) (fun K => aC pg (aF .gtr 3 aL aL t15 (.int .i64 32)) w K) w fun t16 w =>
 aC pg (fR t13 (.bool true) t16) w fun t17 w =>
 fL t17
  (R (.tuple #[(.int .u64 0), (.int .i64 1)]) w)
  ((dr w) = (dr w) /\
  aC pg (lE Ho) (dr w) fun t20 w_ => w_ = (dr w) /\
  aC pg (aQ 195 t20 0) (dr w) fun t21 w_ => w_ = (dr w) /\
  aC pg (aJ 22 t21) (dr w) fun t22 w_ => w_ = (dr w) /\
  aC pg (jI .len #[22] 3 [t22]) (dr w) fun t23 w_ => w_ = (dr w) /\
  aC pg (aF .mul 3 aL aL (.int .i64 8) t23) (dr w) fun t24 w_ => w_ = (dr w) /\
  (dr w) = (dr w) /\
  aC pg (lE Ho) (dr w) fun t26 w_ => w_ = (dr w) /\
  aC pg (aQ 195 t26 1) (dr w) fun t27 w_ => w_ = (dr w) /\
  aC pg (aJ 3 t27) (dr w) fun t28 w_ => w_ = (dr w) /\
  aC pg (aF .sub 3 aL aL t24 t28) (dr w) fun t29 w_ => w_ = (dr w) /\
  (dr w) = (dr w) /\
  aC pg (aF .lss 3 aL aL t29 Hn) (dr w) fun t31 w_ => w_ = (dr w) /\
  (dr w) = (dr w) /\
  fL t31
   (R (.tuple #[(.int .u64 0), (.int .i64 10)]) (dr w))
   ((dr (dr w)) = (dr (dr w)) /\
   aC pg (lE Ho) (dr (dr w)) fun t33 w_ => w_ = (dr (dr w)) /\
   aC pg (aQ 195 t33 0) (dr (dr w)) fun t34 w_ => w_ = (dr (dr w)) /\
   aC pg (aJ 22 t34) (dr (dr w)) fun t35 w_ => w_ = (dr (dr w)) /\
   (dr (dr w)) = (dr (dr w)) /\
   aC pg (lE Ho) (dr (dr w)) fun t37 w_ => w_ = (dr (dr w)) /\
   aC pg (aQ 195 t37 1) (dr (dr w)) fun t38 w_ => w_ = (dr (dr w)) /\
   aC pg (aJ 3 t38) (dr (dr w)) fun t39 w_ => w_ = (dr (dr w)) /\
   (dr (dr w)) = (dr (dr w)) /\
   aU pg Bx #[t35, t39, Hn] (dr (dr w)) fun t41 aeP =>
   aeP = aeP /\
   aC pg (lE Ho) aeP fun t43 w =>
   aC pg (aQ 195 t43 1) w fun t44 w =>
   aC pg (aJ 3 t44) w fun t45 w =>
   aC pg (aF .add 3 aL aL t45 Hn) w fun t47 w =>
   aC pg (lE Ho) w fun t48 w =>
   aC pg (aQ 195 t48 1) w fun t49 w =>
   aC pg (aR 3 t49 t47) w fun _u w =>
   R (.tuple #[t41, (.int .i64 0)]) w))
theorem G9 (R : K1) (hr : HR Bm R Q) (h : rS R (g 0) (g 1) w) : bG pg zY xU Q g w :=
 eC (kn := no) (l := []) h fH hr trivial
def EE (a0 a1 : anW) (w : anV) (R : K1) : Prop :=
 rS R a0 a1 w
theorem HZ {a0 a1 : anW} {w : anV} {R : K1} (h : EE a0 a1 w R) : aU pg gT #[a0, a1] w R := by
 refine xB (ann := zY) Tryd.f94 xU [a0, a1] Bm 51 TrydM.mixed Tryd.func94 ?_
 exact (G9 _ _ _ R (fun _ _ h => h) h)
def GJ : FA := ⟨yV, fun i => .leaf ([], []) []⟩
def IX : List ResultVar := [.tmp 4, .tmp 5]
noncomputable def Ev : Code := dC Tryd.f95
def BJ (R : K1) (Ho Z3 : anW) (w : anV) : Prop :=
 aC pg (aF .add 3 aL aL Z3 (.int .i64 1)) w fun t12 w =>
 aC pg (fG 3 94 t12) w fun t13 w =>
 aU pg mB #[t13] w fun t14 w =>
 aC pg (aF .sub 3 aL aL t14 (.int .i64 1)) w fun t18 w =>
 aU pg gT #[Ho, t18] w fun t19 w =>
 aC pg (bT t19 0) w fun t20 w =>
 aC pg (bT t19 1) w fun t21 w =>
 aC pg (aF .neq 30 (.tmp 22) (.const (.int .i64 0)) t21 (.int .i64 0)) w fun t23 w =>
 fL t23
  (R (.tuple #[(.int .i64 0), t21]) w)
  (aC pg (aF .shl 3 aL aL (.int .i64 1) t14) w fun t26 w =>
  aC pg (aF .sub 3 aL aL t26 (.int .i64 2)) w fun t27 w =>
  aC pg (aF .sub 3 aL aL t27 Z3) w fun t29 w =>
  aC pg (fG 73 3 t20) w fun t31 w =>
  aC pg (aF .lss 3 aL aL t31 t29) w fun t33 w =>
  fL t33
   (aC pg (fG 73 3 t20) w fun t35 w =>
   R (.tuple #[t35, (.int .i64 0)]) w)
   (aU pg gT #[Ho, (.int .i64 1)] w fun t38 w =>
   aC pg (bT t38 0) w fun t39 w =>
   aC pg (bT t38 1) w fun t40 w =>
   aC pg (aF .neq 30 (.tmp 42) (.const (.int .i64 0)) t40 (.int .i64 0)) w fun t43 w =>
   fL t43
    (R (.tuple #[(.int .i64 0), t40]) w)
    (aC pg (aF .eql 73 (.tmp 46) (.const (.int .u64 0)) t39 (.int .u64 0)) w fun t47 w =>
    fL t47
     (aC pg (fG 73 3 t20) w fun t49 w =>
     R (.tuple #[t49, (.int .i64 0)]) w)
     (aC pg (fG 73 3 t20) w fun t51 w =>
     aC pg (aF .sub 3 aL aL t14 (.int .i64 1)) w fun t53 w =>
     aC pg (aF .shl 3 aL aL (.int .i64 1) t53) w fun t54 w =>
     aC pg (aF .add 3 aL aL t51 t54) w fun t55 w =>
     aC pg (aF .sub 3 aL aL t55 t29) w fun t57 w =>
     R (.tuple #[t57, (.int .i64 0)]) w))))
theorem M1 (R : K1) (hr : HR IX R Q) (h : BJ R (g 0) (g 1) w) : bG pg GJ Ev Q g w :=
 eC (kn := no) (l := []) h fH hr trivial
def Nw (a0 a1 : anW) (w : anV) (R : K1) : Prop :=
 BJ R a0 a1 w
theorem Oo {a0 a1 : anW} {w : anV} {R : K1} (h : Nw a0 a1 w R) : aU pg yV #[a0, a1] w R := by
 refine xB (ann := GJ) Tryd.f95 Ev [a0, a1] IX 58 TrydM.mixed Tryd.func95 ?_
 exact (M1 _ _ _ R (fun _ _ h => h) h)
def gK : FA := ⟨sV, fun i => .leaf ([], []) []⟩
def kE : List ResultVar := [.tmp 2, .tmp 3]
noncomputable def gC : Code := dC Tryd.f96
def qQ (R : K1) (SB : anW) (w : anV) : Prop :=
 R (.tuple #[SB, (.int .i64 0)]) w
theorem KE (R : K1) (hr : HR kE R Q) (h : qQ R (g 4) w) : bG pg gK (aB 1 (aB 2 (bI (aB 1 gC)))) Q g w :=
 eC (kn := no) (l := []) h fH hr trivial
def qU (kn : K2) (k0 : K1) (R : K1) (Ho SB : anW) (w : anV) : Prop :=
 aU pg gT #[Ho, (.int .i64 2)] w fun t9 w =>
 aC pg (bT t9 0) w fun t10 w =>
 aC pg (bT t9 1) w fun t11 w =>
 aC pg (aF .neq 30 (.tmp 12) (.const (.int .i64 0)) t11 (.int .i64 0)) w fun t13 w =>
 fL t13
  (R (.tuple #[(.int .i64 0), t11]) w)
  (aC pg (fG 73 3 t10) w fun t17 w =>
  aC pg (aF .add 3 aL aL SB t17) w fun t18 w =>
  aC pg (aF .lss 73 aL aL t10 (.int .u64 3)) w fun t20 w =>
  fL t20
   (k0 t18 w)
   (kn Ho t18 w))
theorem JX (kn : K2) (k0 : K1) (R : K1) (hn : N2 Q kn 0 4) (h0 : E1 Q k0 0 4) (hr : HR kE R Q) (h : qU kn k0 R (g 0) (g 4) w) : bG pg gK (bI (bI (aE 1 (aB 2 (bI (aB 1 gC)))))) Q g w :=
 eC (l := [(0, fun g w => k0 (g 4) w)]) h hn hr ⟨h0, trivial⟩
def xN (k0 : K1) (R : K1) (Ho SB : anW) (w : anV) : Prop :=
 cO (fun (X : anW -> K0) (t : anW) (w : anV) => qU (fun _ SB w => X SB w) k0 R Ho t w) SB w
theorem JY (k0 : K1) (R : K1) (h0 : E1 Q k0 0 4) (hr : HR kE R Q) (h : xN k0 R (g 0) (g 4) w) : bG pg gK (bI (aE 1 (aB 2 (bI (aB 1 gC))))) Q g w := by
 refine JK (fun g : Env => g 4) (fun X t w => qU (fun _ SB w => X SB w) k0 R (g 0) t w) h (fun X g1 w1 ha hL => ?_)
 rw [<- fM 0 ha] at hL
 exact (JX _ g1 w1 (fun _ SB w => X SB w) k0 R (fun _ _ h => h) h0 hr hL)
def yG (kn : K1) (R : K1) (Ho SB : anW) (w : anV) : Prop :=
 xN kn R Ho SB w
def yC (R : K1) (Ho SB : anW) (w : anV) : Prop :=
 yG (fun SB w => qQ R SB w) R Ho SB w
theorem KW (kn : K1) (R : K1) (hn : N1 Q kn 4) (hr : HR kE R Q) (h : yG kn R (g 0) (g 4) w) : bG pg gK (aE 1 (aB 2 (bI (aB 1 gC)))) Q g w :=
 Ca 0 (JY _ g w kn R hn hr h)
def zA (kn : K2) (Ho : anW) (w : anV) : Prop :=
 kn Ho (.int .i64 0) w
theorem Kf (kn : K2) (hn : N2 Q kn 0 4) (h : zA kn (g 0) w) : bG pg gK (aE 2 (bI (aB 1 gC))) Q g w :=
 eC (kr := no) (l := []) h hn fH trivial
def EG (R : K1) (Ho : anW) (w : anV) : Prop :=
 zA (fun Ho SB w => yC R Ho SB w) Ho w
def xW (R : K1) (Ho : anW) (w : anV) : Prop :=
 EG R Ho w
def yX (kn : K1) (Ho : anW) (w : anV) : Prop :=
 kn Ho w
theorem KF (kn : K1) (hn : N1 Q kn 0) (h : yX kn (g 0) w) : bG pg gK (aE 1 gC) Q g w :=
 eC (kr := no) (l := []) h hn fH trivial
def wC (R : K1) (Ho : anW) (w : anV) : Prop :=
 yX (fun Ho w => xW R Ho w) Ho w
theorem JB (R : K1) (hr : HR kE R Q) (h : wC R (g 0) w) : bG pg gK gC Q g w :=
 gM 1 (KF _ g w (xW R) (fun g w h => aK (scD (gM 2 (Kf _ g w (yC R) (fun g w h => aK (gM 1 (KW _ g w (qQ R) R (fun g w h => aK (KE _ g w R hr h)) hr h))) h)))) h)
def KT (a0 : anW) (w : anV) (R : K1) : Prop :=
 wC R a0 w
theorem LV {a0 : anW} {w : anV} {R : K1} (h : KT a0 w R) : aU pg sV #[a0] w R := by
 refine xB (ann := gK) Tryd.f96 gC [a0] kE 22 TrydM.mixed Tryd.func96 ?_
 exact (JB _ _ _ R (fun _ _ h => h) h)
def zT : FA := ⟨nE, fun i => .leaf ([], []) []⟩
def Bv : List ResultVar := [.tmp 2]
noncomputable def yM : Code := dC Tryd.f97
def sN (R : K1) (Ho : anW) (w : anV) : Prop :=
 aC pg (aF .eql 184 (.tmp 3) (.const (.pointer none)) Ho (.pointer none)) w fun t4 w =>
 fL t4
  (R (.int .i64 0) w)
  (aC pg (lE Ho) w fun t6 w =>
  aC pg (aQ 195 t6 1) w fun t7 w =>
  aC pg (aJ 3 t7) w fun t8 w =>
  aC pg (aF .add 3 aL aL t8 (.int .i64 7)) w fun t9 w =>
  aC pg (aF .quo 3 aL aL t9 (.int .i64 8)) w fun t10 w =>
  R t10 w)
theorem GB (R : K1) (hr : HR Bv R Q) (h : sN R (g 0) w) : bG pg zT yM Q g w :=
 eC (kn := no) (l := []) h fH hr trivial
def EM (a0 : anW) (w : anV) (R : K1) : Prop :=
 sN R a0 w
theorem Hs {a0 : anW} {w : anV} {R : K1} (h : EM a0 w R) : aU pg nE #[a0] w R := by
 refine xB (ann := zT) Tryd.f97 yM [a0] Bv 11 TrydM.mixed Tryd.func97 ?_
 exact (GB _ _ _ R (fun _ _ h => h) h)
def iQ : FA := ⟨qO, fun i => .leaf ([], []) []⟩
def vO : List ResultVar := [.tmp 2]
noncomputable def iF : Code := dC Tryd.f100
def lM (R : K1) (zJ uR : anW) (w : anV) : Prop :=
 aC pg (fG 73 5 zJ) w fun t21 w =>
 aC pg (GH 9 (.string ⟨#[0, 1, 2, 2, 3, 3, 3, 3, 4, 4, 4, 4, 4, 4, 4, 4, 5, 5, 5, 5, 5, 5, 5, 5, 5, 5, 5, 5, 5, 5, 5, 5, 6, 6, 6, 6, 6, 6, 6, 6, 6, 6, 6, 6, 6, 6, 6, 6, 6, 6, 6, 6, 6, 6, 6, 6, 6, 6, 6, 6, 6, 6, 6, 6, 7, 7, 7, 7, 7, 7, 7, 7, 7, 7, 7, 7, 7, 7, 7, 7, 7, 7, 7, 7, 7, 7, 7, 7, 7, 7, 7, 7, 7, 7, 7, 7, 7, 7, 7, 7, 7, 7, 7, 7, 7, 7, 7, 7, 7, 7, 7, 7, 7, 7, 7, 7, 7, 7, 7, 7, 7, 7, 7, 7, 7, 7, 7, 7, 8, 8, 8, 8, 8, 8, 8, 8, 8, 8, 8, 8, 8, 8, 8, 8, 8, 8, 8, 8, 8, 8, 8, 8, 8, 8, 8, 8, 8, 8, 8, 8, 8, 8, 8, 8, 8, 8, 8, 8, 8, 8, 8, 8, 8, 8, 8, 8, 8, 8, 8, 8, 8, 8, 8, 8, 8, 8, 8, 8, 8, 8, 8, 8, 8, 8, 8, 8, 8, 8, 8, 8, 8, 8, 8, 8, 8, 8, 8, 8, 8, 8, 8, 8, 8, 8, 8, 8, 8, 8, 8, 8, 8, 8, 8, 8, 8, 8, 8, 8, 8, 8, 8, 8, 8, 8, 8, 8, 8, 8, 8, 8, 8, 8, 8, 8, 8, 8, 8, 8, 8, 8, 8, 8, 8, 8, 8, 8]⟩) t21) w fun t22 w =>
 aC pg (fG 5 3 t22) w fun t23 w =>
 aC pg (aF .add 3 aL aL uR t23) w fun t24 w =>
 R t24 w
theorem Je (R : K1) (hr : HR vO R Q) (h : lM R (g 0) (g 2) w) : bG pg iQ (aB 1 (aB 1 (aB 2 iF))) Q g w :=
 eC (kn := no) (l := []) h fH hr trivial
def vA (kn : K2) (zJ uR : anW) (w : anV) : Prop :=
 aC pg (aF .geq 73 aL aL zJ (.int .u64 256)) w fun t14 w =>
 fL t14
  (aC pg (aF .shr 73 aL aL zJ (.int .u64 8)) w fun t16 w =>
  aC pg (aF .add 3 aL aL uR (.int .i64 8)) w fun t18 w =>
  kn t16 t18 w)
  (kn zJ uR w)
theorem Jq (kn : K2) (hn : N2 Q kn 0 2) (h : vA kn (g 0) (g 2) w) : bG pg iQ (aE 1 (aB 1 (aB 2 iF))) Q g w :=
 eC (kr := no) (l := []) h hn fH trivial
def oZ (R : K1) (zJ uR : anW) (w : anV) : Prop :=
 vA (fun zJ uR w => lM R zJ uR w) zJ uR w
def wK (kn : K2) (zJ uR : anW) (w : anV) : Prop :=
 aC pg (aF .geq 73 aL aL zJ (.int .u64 65536)) w fun t8 w =>
 fL t8
  (aC pg (aF .shr 73 aL aL zJ (.int .u64 16)) w fun t10 w =>
  aC pg (aF .add 3 aL aL uR (.int .i64 16)) w fun t12 w =>
  kn t10 t12 w)
  (kn zJ uR w)
theorem JJ (kn : K2) (hn : N2 Q kn 0 2) (h : wK kn (g 0) (g 2) w) : bG pg iQ (aE 1 (aB 2 iF)) Q g w :=
 eC (kr := no) (l := []) h hn fH trivial
def pI (R : K1) (zJ uR : anW) (w : anV) : Prop :=
 wK (fun zJ uR w => oZ R zJ uR w) zJ uR w
def vD (kn : K2) (zJ : anW) (w : anV) : Prop :=
 aC pg (aF .geq 73 aL aL zJ (.int .u64 4294967296)) w fun t4 w =>
 fL t4
  (aC pg (aF .shr 73 aL aL zJ (.int .u64 32)) w fun t6 w =>
  kn t6 (.int .i64 32) w)
  (kn zJ (.int .i64 0) w)
theorem Jc (kn : K2) (hn : N2 Q kn 0 2) (h : vD kn (g 0) w) : bG pg iQ (aE 2 iF) Q g w :=
 eC (kr := no) (l := []) h hn fH trivial
def wR (R : K1) (zJ : anW) (w : anV) : Prop :=
 vD (fun zJ uR w => pI R zJ uR w) zJ w
theorem I9 (R : K1) (hr : HR vO R Q) (h : wR R (g 0) w) : bG pg iQ iF Q g w :=
 gM 2 (Jc _ g w (pI R) (fun g w h => aK (gM 1 (JJ _ g w (oZ R) (fun g w h => aK (gM 1 (Jq _ g w (lM R) (fun g w h => aK (Je _ g w R hr h)) h))) h))) h)
def IK (a0 : anW) (w : anV) (R : K1) : Prop :=
 wR R a0 w
theorem KH {a0 : anW} {w : anV} {R : K1} (h : IK a0 w R) : aU pg qO #[a0] w R := by
 refine xB (ann := iQ) Tryd.f100 iF [a0] vO 25 TrydM.mixed Tryd.func100 ?_
 exact (I9 _ _ _ R (fun _ _ h => h) h)
end Go.Proofs.YtaggdjhhmbnhoaaDoor
namespace Go.En
open Go
section
variable {P : Program} {w : anV} {t : TypeId} {ox oy : Operand} {k : IntKind} {a b : Int}
theorem oH (s : Sem anW) : (V s).run P w = (s.run P w).andThen fun v w => .ok (.value v) w := by
 unfold V; rw [Sem.run_bind] <;> rfl
theorem ahI (s : Sem Unit) : (U s).run P w = (s.run P w).andThen fun _ w => .ok .skip w := by
 unfold U; rw [Sem.run_bind] <;> rfl
theorem bK : (aF .add t ox oy (.int k a) (.int k b)).run P w = .ok (.value (.int k (k.wrap (a + b)))) w := by
 simp [aF, Gh, oH, binOp, Op.intArith]
theorem dZ : (aF .sub t ox oy (.int k a) (.int k b)).run P w = .ok (.value (.int k (k.wrap (a - b)))) w := by
 simp [aF, Gh, oH, binOp, Op.intArith]
theorem Dc : (aF .mul t ox oy (.int k a) (.int k b)).run P w = .ok (.value (.int k (k.wrap (a * b)))) w := by
 simp [aF, Gh, oH, binOp, Op.intArith]
theorem Sk (h : b ≠ 0) : (aF .quo t ox oy (.int k a) (.int k b)).run P w = .ok (.value (.int k (k.wrap (a.tdiv b)))) w := by
 simp [aF, Gh, oH, binOp, Op.intDiv, h]
theorem IQ (h : b ≠ 0) : (aF .rem t ox oy (.int k a) (.int k b)).run P w = .ok (.value (.int k (a.tmod b))) w := by
 simp [aF, Gh, oH, binOp, Op.intDiv, h]
def RK (k : IntKind) (a b : Int) : Int := k.wrap (BitVec.ofInt k.bits a &&& BitVec.ofInt k.bits b).toNat
def orI (k : IntKind) (a b : Int) : Int := k.wrap (BitVec.ofInt k.bits a ||| BitVec.ofInt k.bits b).toNat
theorem Mr : (aF .and t ox oy (.int k a) (.int k b)).run P w = .ok (.value (.int k (RK k a b))) w := by
 simp [aF, Gh, oH, binOp, Op.intBits, RK]
theorem WS : (aF .or t ox oy (.int k a) (.int k b)).run P w = .ok (.value (.int k (orI k a b))) w := by
 simp [aF, Gh, oH, binOp, Op.intBits, orI]
theorem iX {k' : IntKind} (h : 0 <= b) : (aF .shl t ox oy (.int k a) (.int k' b)).run P w = .ok (.value (.int k (k.wrap (a * 2 ^ (min b.toNat k.bits))))) w := by
 simp [aF, Gh, oH, binOp, Op.shift, Int.not_lt.2 h]
theorem tH {k' : IntKind} (h : 0 <= b) : (aF .shr t ox oy (.int k a) (.int k' b)).run P w = .ok (.value (.int k (a.fdiv (2 ^ (min b.toNat k.bits))))) w := by
 simp [aF, Gh, oH, binOp, Op.shift, Int.not_lt.2 h]
theorem dJ : (aF .eql t ox oy (.int k a) (.int k b)).run P w = .ok (.value (.bool (a == b))) w := by
 simp [aF, Gh, oH, binOp, Op.intCmp, eqGuard]
theorem fU : (aF .neq t ox oy (.int k a) (.int k b)).run P w = .ok (.value (.bool (a != b))) w := by
 simp [aF, Gh, oH, binOp, Op.intCmp, eqGuard]
theorem bD : (aF .lss t ox oy (.int k a) (.int k b)).run P w = .ok (.value (.bool (decide (a < b)))) w := by
 simp [aF, Gh, oH, binOp, Op.intCmp]
theorem agU : (aF .leq t ox oy (.int k a) (.int k b)).run P w = .ok (.value (.bool (decide (a <= b)))) w := by
 simp [aF, Gh, oH, binOp, Op.intCmp]
theorem fD : (aF .gtr t ox oy (.int k a) (.int k b)).run P w = .ok (.value (.bool (decide (b < a)))) w := by
 simp [aF, Gh, oH, binOp, Op.intCmp]
theorem rX : (aF .geq t ox oy (.int k a) (.int k b)).run P w = .ok (.value (.bool (decide (b <= a)))) w := by
 simp [aF, Gh, oH, binOp, Op.intCmp]
theorem agN : (sUn .neg (.int k a)).run P w = .ok (.value (.int k (k.wrap (0 - a)))) w := by
 simp [sUn, oH, Op.unary, Op.intArith]
theorem Qr (c : Bool) : (sUn .not (.bool c)).run P w = .ok (.value (.bool !c)) w := by
 simp [sUn, oH, Op.unary]
theorem cD (c : Bool) (x y : anW) : (fR (.bool c) x y).run P w = .ok (.value (if c then x else y)) w := by
 simp [fR, asBool]
theorem U9 {x y : anW} {r : Bool} (hg : eqGuard .eql t ox oy x y = pure ()) (hb : binOp .eql t x y = (do pure (.bool (<- Op.equal t x y)))) (he : (Op.equal t x y).run P w = .ok r w) :
 (aF .eql t ox oy x y).run P w = .ok (.value (.bool r)) w := by
 unfold aF
 simp only [Gh, oH, hg, hb, pure_bind]
 rw [Sem.run_bind, he] <;> rfl
theorem Z0 {x y : anW} {r : Bool} (hg : eqGuard .neq t ox oy x y = pure ()) (hb : binOp .neq t x y = (do pure (.bool (!(<- Op.equal t x y))))) (he : (Op.equal t x y).run P w = .ok r w) :
 (aF .neq t ox oy x y).run P w = .ok (.value (.bool (!r))) w := by
 unfold aF
 simp only [Gh, oH, hg, hb, pure_bind]
 rw [Sem.run_bind, he] <;> rfl
theorem aW {n : Int} (h0 : -9223372036854775808 <= n) (h1 : n <= 9223372036854775807) : IntKind.i64.wrap n = n := by
 unfold IntKind.wrap; simp [IntKind.bits, IntKind.signed]; split <;> omega
theorem jC {n : Int} (h0 : 0 <= n) (h1 : n <= 18446744073709551615) : IntKind.u64.wrap n = n := by
 unfold IntKind.wrap; simp [IntKind.bits, IntKind.signed]; omega
theorem VF {n : Int} (h0 : 0 <= n) (h1 : n <= 4294967295) : IntKind.u32.wrap n = n := by
 unfold IntKind.wrap; simp [IntKind.bits, IntKind.signed]; omega
theorem LR {n : Int} (h0 : 0 <= n) (h1 : n <= 255) : IntKind.u8.wrap n = n := by
 unfold IntKind.wrap; simp [IntKind.bits, IntKind.signed]; omega
theorem aaJ (n : Nat) {e : TypeId} (hu : P.underlying t = some (.pointer e)) (x : Option Addr) : (Op.equalIn (n + 1) t (.pointer x) (.pointer none)).run P w = .ok x.isNone w := by
 simp only [Op.equalIn, underlying]
 cases x <;> simp [hu]
theorem Zr {e : TypeId} (hu : P.underlying t = some (.pointer e)) (x : Option Addr) : (Op.equal t (.pointer x) (.pointer none)).run P w = .ok x.isNone w := aaJ 9999 hu x
theorem acS (m : Nat) {e : TypeId} (hu : P.underlying t = some (.slice e)) (x : Option Addr) (n c : Nat) : (Op.equalIn (m + 1) t (.slice x n c) (.slice none 0 0)).run P w = .ok x.isNone w := by
 simp only [Op.equalIn, underlying]
 cases x <;> simp [hu]
theorem afY {e : TypeId} (hu : P.underlying t = some (.slice e)) (x : Option Addr) (n c : Nat) : (Op.equal t (.slice x n c) (.slice none 0 0)).run P w = .ok x.isNone w := acS 9999 hu x n c
theorem Sr {e : TypeId} (hu : P.underlying t = some (.pointer e)) (x : Option Addr) : (aF .eql t ox oy (.pointer x) (.pointer none)).run P w = .ok (.value (.bool x.isNone)) w :=
 U9 rfl rfl (Zr hu x)
theorem aeS {e : TypeId} (hu : P.underlying t = some (.pointer e)) (x : Option Addr) : (aF .neq t ox oy (.pointer x) (.pointer none)).run P w = .ok (.value (.bool (!x.isNone))) w :=
 Z0 rfl rfl (Zr hu x)
theorem abO {e : TypeId} (hu : P.underlying t = some (.slice e)) (x : Option Addr) (n c : Nat) : (aF .eql t ox oy (.slice x n c) (.slice none 0 0)).run P w = .ok (.value (.bool x.isNone)) w :=
 U9 rfl rfl (afY hu x n c)
theorem AN {s : TypeId} {d : TypeDesc} {kd : IntKind} (hs : P.underlying s = some d) (hu : P.underlying t = some (.int kd)) : (fG s t (.int k a)).run P w = .ok (.value (.int kd (kd.wrap a))) w := by
 cases d <;> simp [fG, oH, convert, underlying, hs, hu, Conv.intToInt]
theorem SP {ty : TypeId} {e : TypeId} (hu : P.underlying t = some (.slice e)) (x : Option Addr) (n c : Nat) : (jI .len #[t] ty [.slice x n c]).run P w = .ok (.value (.int .i64 n)) w := by
 simp [jI, builtin, Builtin.len_, underlying, hu, goInt]
theorem agC {ats : Array TypeId} {ty : TypeId} : (jI .min ats ty [.int k a, .int k b]).run P w = .ok (.value (.int k (if b < a then b else a))) w := by
 simp [jI, builtin, Builtin.min_, Builtin.min2]
theorem We {ats : Array TypeId} {ty : TypeId} : (jI .max ats ty [.int k a, .int k b]).run P w = .ok (.value (.int k (if b > a then b else a))) w := by
 simp [jI, builtin, Builtin.max_, Builtin.max2]
theorem JE (a b : anW) : (bT (.tuple #[a, b]) 0).run P w = .ok (.value a) w := Eq.trans rfl rfl
theorem Jd (a b : anW) : (bT (.tuple #[a, b]) 1).run P w = .ok (.value b) w := Eq.trans rfl rfl
theorem Wv (a b c : anW) : (bT (.tuple #[a, b, c]) 0).run P w = .ok (.value a) w := Eq.trans rfl rfl
theorem Ww (a b c : anW) : (bT (.tuple #[a, b, c]) 1).run P w = .ok (.value b) w := Eq.trans rfl rfl
theorem WA (a b c : anW) : (bT (.tuple #[a, b, c]) 2).run P w = .ok (.value c) w := Eq.trans rfl rfl
theorem x40 (a b c d : anW) : (bT (.tuple #[a, b, c, d]) 0).run P w = .ok (.value a) w := Eq.trans rfl rfl
theorem x41 (a b c d : anW) : (bT (.tuple #[a, b, c, d]) 1).run P w = .ok (.value b) w := Eq.trans rfl rfl
theorem x42 (a b c d : anW) : (bT (.tuple #[a, b, c, d]) 2).run P w = .ok (.value c) w := Eq.trans rfl rfl
theorem x43 (a b c d : anW) : (bT (.tuple #[a, b, c, d]) 3).run P w = .ok (.value d) w := Eq.trans rfl rfl
theorem nA (x : Addr) : (lE (.pointer (some x))).run P w = .ok (.value (.pointer (some x))) w := Eq.trans rfl rfl
theorem kX {fs : Array Field} {f : Field} {i : Nat} {inf : TypeInfo} (hu : P.underlying t = some (.struct fs)) (hf : fs[i]? = some f)
 (hi : P.info? f.type = some inf) (hz : inf.size ≠ 0) (x : Addr) : (aQ t (.pointer (some x)) i).run P w = .ok (.value (.pointer (some (x.add f.offset)))) w := by
 simp [aQ, oH, Instr.fieldAt, underlying, hu, hf, Instr.sureAddr, fieldPlace, sizeOf, typeInfo, hi, hz]
theorem VP {e : TypeId} {inf : TypeInfo} (hu : P.underlying t = some (.slice e)) (hi : P.info? e = some inf) (x : Addr) (n c : Nat) (h0 : 0 <= a) (h1 : a < n) :
 (bB t (.slice (some x) n c) (.int k a)).run P w = .ok (.value (.pointer (some (x.add (a.toNat * inf.size))))) w := by
 simp [bB, oH, Instr.indexAt, asIntOf, underlying, hu, h0, h1, sizeOf, typeInfo, hi]
theorem Vl {e : TypeId} {len : Nat} {inf : TypeInfo} (hu : P.underlying t = some (.array len e)) (hi : P.info? e = some inf) (x : Addr) (h0 : 0 <= a) (h1 : a < len) :
 (bB t (.pointer (some x)) (.int k a)).run P w = .ok (.value (.pointer (some (x.add (a.toNat * inf.size))))) w := by
 simp [bB, oH, Instr.indexAt, asIntOf, underlying, hu, h0, h1, sizeOf, typeInfo, hi, Instr.sureAddr]
theorem aeT (hu : P.underlying t = some .string) (x : ByteArray) (h0 : 0 <= a) (h1 : a.toNat < x.size) :
 (GH t (.string x) (.int k a)).run P w = .ok (.value (.int .u8 (x[a.toNat]'h1).toNat)) w := by
 simp [GH, oH, Instr.index, asIntOf, underlying, hu, h0, h1]
end
def cG (w : anV) (b : Nat) (cs : List anW) : Prop :=
 ∃ T lo hi, w.heap[b]? = some (.cells cs.toArray T (lo, hi)) /\ (cs.length <= lo ∨ hi = lo)
structure aX (w w' : anV) (M : Nat -> Prop) : Prop where
 os : w'.os = w.os
 tape : w'.tape = w.tape
 output : w'.output = w.output
 size : w.heap.size <= w'.heap.size
 keep : ∀ b, b < w.heap.size -> ¬ M b -> w'.heap[b]? = w.heap[b]?
def dG : Nat -> Prop := fun _ => False
theorem aX.refl (w : anV) (M : Nat -> Prop) : aX w w M := ⟨rfl, rfl, rfl, aiU _, fun _ _ _ => rfl⟩
theorem aX.mono {w w' : anV} {M N : Nat -> Prop} (h : aX w w' M) (hm : ∀ b, b < w.heap.size -> M b -> N b) : aX w w' N :=
 ⟨h.os, h.tape, h.output, h.size, fun b hb hn => h.keep b hb fun hM => hn (hm b hb hM)⟩
theorem aX.trans {a b c : anV} {M N : Nat -> Prop} (h : aX a b M) (k : aX b c N) (hn : ∀ x, x < a.heap.size -> N x -> M x) : aX a c M :=
 ⟨k.os.trans h.os, k.tape.trans h.tape, k.output.trans h.output, amJ h.size k.size,
   fun x hx hM => (k.keep x (Nat.lt_of_lt_of_le hx h.size) fun h => hM (hn x hx h)).trans (h.keep x hx hM)⟩
theorem aX.seq {a b c : anV} {M : Nat -> Prop} (h : aX a b M) (k : aX b c M) : aX a c M := h.trans k fun _ _ h => h
theorem aX.new {a b c : anV} {M : Nat -> Prop} {x : Nat} (h : aX a b M) (k : aX b c (fun y => y = x)) (hx : a.heap.size <= x) : aX a c M :=
 h.trans k fun y hy e => absurd hy (by subst e; omega)
theorem aX.more {a b c : anV} {M : Nat -> Prop} (h : aX a b M) (k : aX b c (fun _ => False)) : aX a c M := h.trans k fun _ _ h => h.elim
theorem aX.below {w w' : anV} (h : aX w w' dG) : Go.RowKit.Below w.heap.size w w' :=
 ⟨h.os, h.tape, h.output, h.size, fun k hk => h.keep k hk fun h => h⟩
theorem aX.dr (w : anV) (M : Nat -> Prop) : aX w (dr w) M := ⟨rfl, rfl, rfl, aiU _, fun _ _ _ => rfl⟩
theorem aX.alloc (w : anV) (o : Obj) (M : Nat -> Prop) : aX w (w.alloc o) M :=
 ⟨rfl, rfl, rfl, by simp, fun b hb _ => by show (w.heap.push o)[b]? = _; rw [Array.getElem?_push, if_neg (by omega)]⟩
theorem QZ (w : anV) (a : Addr) (v : anW) (b : Nat) (h : b ≠ a.block) : (w.setCell a v).heap[b]? = w.heap[b]? := Go.RowKit.Below.heap_setCell w a v b h
theorem aX.setCell (w : anV) (a : Addr) (v : anW) {M : Nat -> Prop} (h : a.block < w.heap.size -> M a.block) : aX w (w.setCell a v) M :=
 ⟨rfl, rfl, rfl, by simp, fun b hb hM => QZ w a v b fun e => hM (e ▸ h (e ▸ hb))⟩
theorem cG.lt {w : anV} {b : Nat} {cs : List anW} (h : cG w b cs) : b < w.heap.size := by
 obtain ⟨T, lo, hi, h, _⟩ := h
 rcases ajI b w.heap.size with h' | h'
 .exact h'
 .rw [amP h'] at h; cases h
theorem cG.ext {w w' : anV} {b : Nat} {cs : List anW} {M : Nat -> Prop} (h : cG w b cs) (hx : aX w w' M) (hM : ¬ M b) : cG w' b cs := by
 have := h.lt
 obtain ⟨T, lo, hi, h, k⟩ := h
 exact ⟨T, lo, hi, by rw [hx.keep b this hM]; exact h, k⟩
theorem cG.cell {w : anV} {b off : Nat} {cs : List anW} (h : cG w b cs) : w.cell? ⟨b, off, none⟩ = cs[off]? := by
 obtain ⟨T, lo, hi, h, _⟩ := h
 simp [World.cell?, h]
theorem cG.free {w : anV} {b off : Nat} {cs : List anW} {s : Option Nat} (h : cG w b cs) (ho : off < cs.length) : w.frozen? ⟨b, off, s⟩ = false := by
 obtain ⟨T, lo, hi, h, k⟩ := h
 simp only [World.frozen?, h]
 rcases k with k | k <;> (simp; omega)
theorem cG.setCell {w : anV} {b off : Nat} {cs : List anW} (h : cG w b cs) (v : anW) : cG (w.setCell ⟨b, off, none⟩ v) b (cs.set off v) := by
 have hb := h.lt
 obtain ⟨T, lo, hi, h, k⟩ := h
 refine ⟨T, lo, hi, ?_, by simpa using k⟩
 simp only [World.setCell, Array.getElem?_modify, h]
 simp
theorem cG.alloc (w : anV) (cs : List anW) (T : TypeId) : cG (w.alloc (.cells cs.toArray T)) w.heap.size cs :=
 ⟨T, 0, 0, by show (w.heap.push _)[w.heap.size]? = _; simp, .inr rfl⟩
theorem RH {w w' : anV} {M : Nat -> Prop} {a : Addr} {v : anW} (h : w.cell? a = some v) (hx : aX w w' M) (hM : ¬ M a.block) : w'.cell? a = some v := by
 have hb := World.block_lt_of_cell? w a h
 have e := hx.keep _ hb hM
 unfold World.cell? at h ⊢
 rw [e]; exact h
section
variable {P : Program} {w : anV} {t : TypeId}
def Vg (d : TypeDesc) : Bool := match d with | .struct _ | .array _ _ => true | _ => false
theorem Hd {d : TypeDesc} (hu : P.underlying t = some d) : (isAgg t).run P w = .ok (Vg d) w := by
 cases d <;> simp [isAgg, underlying, hu, Vg]
theorem eI {i : TypeInfo} (hi : P.info? t = some i) : (sizeOf t).run P w = .ok i.size w := by simp [sizeOf, typeInfo, hi]
theorem Nn {b off : Nat} {cs : List anW} (ho : cG w b cs) : ∀ (n i : Nat) (acc : Array anW), off + i + n <= cs.length →
 (loadCellsFrom ⟨b, off, none⟩ i n acc).run P w = .ok (acc ++ ((cs.drop (off + i)).take n).toArray) w := by
 intro n
 induction n with
 | zero => intro i acc _; simp [loadCellsFrom]
 | succ n ih =>
   intro i acc h
   have hc : w.cell? ((⟨b, off, none⟩ : Addr).add i) = some cs[off + i] := by
    unfold Addr.add
    split
    .rename_i hi; subst hi; rw [ho.cell]; simp
    .show w.cell? ⟨b, off + i, none⟩ = _; rw [ho.cell]; simp
   simp only [loadCellsFrom, Sem.run_bind, run_load, hc, Result.andThen_ok]
   rw [ih (i + 1) _ (by omega)]
   congr 1
   rw [akA (by omega : off + i < cs.length)]
   simp [alL]
theorem Me {b off n : Nat} {cs : List anW} (ho : cG w b cs) (h : off + n <= cs.length) :
 (loadCells ⟨b, off, none⟩ n).run P w = .ok ((cs.drop off).take n).toArray w := by
 unfold loadCells
 rw [Nn ho n 0 #[] (by omega)]
 simp
theorem H2 {d : TypeDesc} {i : TypeInfo} (hu : P.underlying t = some d) (hd : Vg d = true) (hi : P.info? t = some i) {b off : Nat} {cs : List anW} (ho : cG w b cs) (h : off + i.size <= cs.length) :
 (aJ t (.pointer (some ⟨b, off, none⟩))).run P w = .ok (.value (.agg ((cs.drop off).take i.size).toArray)) w := by
 unfold aJ
 rw [oH]
 simp only [Instr.loadAt, Instr.sureAddr, loadVar, pure_bind, Sem.run_bind, Hd hu, hd, Result.andThen_ok, if_true, eI hi, Me ho h, Sem.run_pure]
def one (v : anW) : Bool := match v with | .agg _ | .tuple _ => false | _ => true
theorem Xy {a : Addr} {v x : anW} (hv : one v = true) (hc : w.cell? a = some x) (hf : w.frozen? a = false) : (store a v).run P w = .ok () (w.setCell a v) := by
 unfold store
 cases v <;> simp [one] at hv <;> simp [Sem.run, hc, hf]
def bQ (cs : List anW) (off : Nat) : List anW -> List anW
 | [] => cs
 | v :: vs => bQ (cs.set off v) (off + 1) vs
theorem DG {b : Nat} {M : Nat -> Prop} (hM : M b) : ∀ (vs : List anW) (w : anV) (off i : Nat) (cs : List anW), cG w b cs -> off + i + vs.length <= cs.length -> (∀ v ∈ vs, one v = true) →
 ∃ w', (storeCells ⟨b, off, none⟩ vs i).run P w = .ok () w' /\ cG w' b (bQ cs (off + i) vs) /\ aX w w' M /\ w'.heap.size = w.heap.size /\ w'.drawn = w.drawn := by
 intro vs
 induction vs with
 | nil => intro w off i cs ho _ _; exact ⟨w, by simp [storeCells], ho, aX.refl _ _, rfl, rfl⟩
 | cons v vs ih =>
   intro w off i cs ho h hv
   simp only [ajK] at h
   have ha : (⟨b, off, none⟩ : Addr).add i = ⟨b, off + i, none⟩ := by
    unfold Addr.add; split
    .rename_i hi; subst hi; rfl
    .rfl
   have hlt : off + i < cs.length := by omega
   have hc : w.cell? ⟨b, off + i, none⟩ = some cs[off + i] := by rw [ho.cell]; simp
   have hs := Xy (P := P) (hv v (by simp)) hc (ho.free hlt)
   obtain ⟨w', h1, h2, h3, h4, h5⟩ := ih (w.setCell ⟨b, off + i, none⟩ v) off (i + 1) (cs.set (off + i) v) (ho.setCell v) (by simp; omega) (fun x hx => hv x (ajE _ hx))
   refine ⟨w', ?_, h2, (aX.setCell w _ v fun _ => hM).trans h3 (fun _ _ h => h), by rw [h4]; simp, by rw [h5] <;> rfl⟩
   simp only [storeCells, Sem.run_bind, ha, hs, Result.andThen_ok]
   exact h1
theorem kN {i : TypeInfo} (hi : P.info? t = some i) {b off : Nat} {cs : List anW} (ho : cG w b cs) {v : anW} (hs : v.cells.size = i.size)
 (hv : ∀ x ∈ v.cells.toList, one x = true) (h : off + i.size <= cs.length) {K : anW -> anV -> Prop}
 (hk : ∀ w', cG w' b (bQ cs off v.cells.toList) -> aX w w' (fun x => x = b) -> w'.heap.size = w.heap.size -> K undef w') : aC P (aR t (.pointer (some ⟨b, off, none⟩)) v) w K := by
 obtain ⟨w', h1, h2, h3, h4, _⟩ := DG (P := P) (M := fun x => x = b) rfl v.cells.toList w off 0 cs ho (by simp [hs]; omega) hv
 have : (aR t (.pointer (some ⟨b, off, none⟩)) v).run P w = .ok .skip w' := by
  unfold aR
  rw [ahI]
  simp only [Instr.storeAt, Instr.sureAddr, storeVar, pure_bind, Sem.run_bind, eI hi, Result.andThen_ok, hs]
  simp [h1]
 unfold aC
 rw [this]
 exact hk w' h2 h3 h4
theorem TG {v : anW} (hv : one v = true) : v.cells = #[v] := by cases v <;> simp [one] at hv <;> rfl
theorem Ad {i : TypeInfo} (hi : P.info? t = some i) (h1 : i.size = 1) {b off : Nat} {cs : List anW} (ho : cG w b cs) {v : anW} (hv : one v = true) (h : off < cs.length) {K : anW -> anV -> Prop}
 (hk : ∀ w', cG w' b (cs.set off v) -> aX w w' (fun x => x = b) -> w'.heap.size = w.heap.size -> K undef w') : aC P (aR t (.pointer (some ⟨b, off, none⟩)) v) w K := by
 have e := TG hv
 refine kN hi ho (by rw [e, h1] <;> rfl) (by rw [e]; simpa using hv) (by omega) fun w' a b c => hk w' ?_ b c
 rw [e] at a; exact a
def Y1 (c : Option anW) (w : anV) (Xa : Result Next) : Result Next := match c with | some v => .ok (.value v) w | none => Xa
def Xa (P : Program) (t : TypeId) (x : Addr) (w : anV) : Result Next := (aJ t (.pointer (some x))).run P w
theorem aI (v : anW) (w : anV) (f : Result Next) : Y1 (some v) w f = .ok (.value v) w := rfl
theorem WD {d : TypeDesc} (hu : P.underlying t = some d) (hd : Vg d = false) (x : Addr) (w : anV) :
 (aJ t (.pointer (some x))).run P w = Y1 (w.cell? x) w (Xa P t x w) := by
 cases h : w.cell? x with
 | none => rfl
 | some v =>
   unfold aJ
   rw [oH]
   simp only [Instr.loadAt, Instr.sureAddr, loadVar, pure_bind, Sem.run_bind, Hd hu, hd, Result.andThen_ok, aiS, if_false, run_load, h, Y1]
theorem OB {d : TypeDesc} {i : TypeInfo} (hu : P.underlying t = some d) (hd : Vg d = true) (hi : P.info? t = some i) {b off : Nat} {cs : List anW} (ho : cG w b cs) (h : off + i.size <= cs.length) {K : anW -> Prop}
 (hk : K (.agg ((cs.drop off).take i.size).toArray)) : xA P t (.pointer (some ⟨b, off, none⟩)) w K := by
 refine ⟨_, ?_, hk⟩
 simp only [asAddr, loadVar, pure_bind, Sem.run_bind, Hd hu, hd, Result.andThen_ok, if_true, eI hi, Me ho h, Sem.run_pure]
theorem hY {v : anW} {K : anW -> anV -> Prop} (hk : ∀ w', cG w' w.heap.size v.cells.toList -> aX w w' dG -> w'.heap.size = w.heap.size + 1 -> K (.pointer (some ⟨w.heap.size, 0, none⟩)) w') :
 aC P (BA t v) w K := by
 have : (BA t v).run P w = .ok (.value (.pointer (some ⟨w.heap.size, 0, none⟩))) (w.alloc (.cells v.cells.toList.toArray t)) := by
  unfold BA; rw [oH]
  simp [Instr.box, newVar, newRow]
 unfold aC
 rw [this]
 exact hk _ (cG.alloc _ _ _) (aX.alloc _ _ _) (by simp)
theorem kD {i : TypeInfo} {z : anW} (hi : P.info? t = some i) (hz : i.zero = some z) {K : anW -> anV -> Prop}
 (hk : ∀ w', cG w' w.heap.size z.cells.toList -> aX w w' dG -> w'.heap.size = w.heap.size + 1 -> K (.pointer (some ⟨w.heap.size, 0, none⟩)) w') :
 aC P (cM t) w K := by
 have : (cM t).run P w = .ok (.value (.pointer (some ⟨w.heap.size, 0, none⟩))) (w.alloc (.cells z.cells.toList.toArray t)) := by
  unfold cM; rw [oH]
  simp [Instr.alloc, zeroValue, typeInfo, hi, hz, newVar, newRow]
 unfold aC
 rw [this]
 exact hk _ (cG.alloc _ _ _) (aX.alloc _ _ _) (by simp)
end
theorem Gl {P : Program} {w : anV} {k : IntKind} {a : Int} {y : Nat} {code : BoundsCode} (h0 : 0 <= a) (h1 : a <= y) : (Instr.sliceBound (.int k a) y code).run P w = .ok a.toNat w := by
 simp [Instr.sliceBound, asIntOf, h0, h1]
section
variable {P : Program} {w : anV} {t e : TypeId} {k k' : IntKind} {lo hi : Int} {i : TypeInfo}
def gU (x : Option Addr) (m l sz : Nat) : Option Addr := if m = l then x else x.map (·.add (l * sz))
theorem WC (hu : P.underlying t = some (.slice e)) (hi' : P.info? e = some i) (x : Option Addr) (n c : Nat) (h0 : 0 <= lo) (h1 : lo <= n) :
 (fW t (.slice x n c) (some (.int k lo)) none none).run P w = .ok (.value (.slice (gU x c lo.toNat i.size) (n - lo.toNat) (c - lo.toNat))) w := by
 simp only [fW, oH, Instr.sliceAt, underlying, hu, Sem.run_bind, run_program, Result.andThen_ok, Sem.run_pure, Instr.slice, Instr.sliceBounds, pure_bind, Gl h0 h1, eI hi', gU]
theorem RV (hu : P.underlying t = some (.slice e)) (hi' : P.info? e = some i) (x : Option Addr) (n c : Nat) (h0 : 0 <= hi) (h1 : hi <= c) :
 (fW t (.slice x n c) none (some (.int k hi)) none).run P w = .ok (.value (.slice (gU x c 0 i.size) (hi.toNat - 0) (c - 0))) w := by
 simp only [fW, oH, Instr.sliceAt, underlying, hu, Sem.run_bind, run_program, Result.andThen_ok, Sem.run_pure, Instr.slice, Instr.sliceBounds, pure_bind, Gl h0 h1, eI hi', gU]
def pB (a : Addr) (m l sz : Nat) : Addr := if m = l then a else a.add (l * sz)
theorem VJ {n : Nat} (hu : P.underlying t = some (.array n e)) (hi' : P.info? e = some i) (x : Addr) (h0 : 0 <= hi) (h1 : hi <= n) :
 (fW t (.pointer (some x)) none (some (.int k hi)) none).run P w = .ok (.value (.slice (some (pB x n 0 i.size)) (hi.toNat - 0) (n - 0))) w := by
 simp only [fW, oH, Instr.sliceAt, Instr.sureAddr, underlying, hu, Sem.run_bind, run_program, Result.andThen_ok, Sem.run_pure, Instr.sliceBounds, pure_bind, Gl h0 h1, eI hi', pB]
theorem yF {n : Nat} (hu : P.underlying t = some (.array n e)) (hi' : P.info? e = some i) (x : Addr) :
 (fW t (.pointer (some x)) none none none).run P w = .ok (.value (.slice (some (pB x n 0 i.size)) (n - 0) (n - 0))) w := by
 simp only [fW, oH, Instr.sliceAt, Instr.sureAddr, underlying, hu, Sem.run_bind, run_program, Result.andThen_ok, Sem.run_pure, Instr.sliceBounds, pure_bind, eI hi', pB]
end
def Sl (w : anV) (v : anW) (l : List anW) : Prop :=
 ∃ a n c, v = .slice a n c /\ n = l.length /\ n <= c /\ (0 < n -> ∃ b off, a = some ⟨b, off, none⟩ /\ ∀ i, i < n -> w.cell? ⟨b, off + i, none⟩ = l[i]?)
def U4 (v : anW) (M : Nat -> Prop) : Prop := match v with | .slice (some a) (_ + 1) _ => M a.block | _ => False
theorem Sl.ext {w w' : anV} {v : anW} {l : List anW} {M : Nat -> Prop} (h : Sl w v l) (hx : aX w w' M) (hM : ¬ U4 v M) : Sl w' v l := by
 obtain ⟨a, n, c, rfl, hn, hc, h⟩ := h
 refine ⟨a, n, c, rfl, hn, hc, fun h0 => ?_⟩
 obtain ⟨b, off, rfl, h2⟩ := h h0
 refine ⟨b, off, rfl, fun i hi => ?_⟩
 have h1 := h2 i hi
 obtain ⟨v, hv⟩ : ∃ v, l[i]? = some v := ⟨l[i], by simp⟩
 rw [hv] at h1 ⊢
 refine RH h1 hx ?_
 obtain ⟨m, rfl⟩ : ∃ m, n = m + 1 := ⟨n - 1, by omega⟩
 exact hM
theorem Sl.old {w : anV} {v : anW} {l : List anW} (h : Sl w v l) : ¬ U4 v (fun b => w.heap.size <= b) := by
 obtain ⟨a, n, c, rfl, hn, hc, h⟩ := h
 unfold U4
 split
 .rename_i x m _ e
  obtain ⟨rfl, rfl, rfl⟩ : a = some x /\ n = m + 1 /\ c = _ := by simpa using e
  obtain ⟨b, off, e, h2⟩ := h (by omega)
  have e := ajG e; subst e
  have h1 := h2 0 (by omega)
  obtain ⟨v, hv⟩ : ∃ v, l[0]? = some v := ⟨l[0], by simp⟩
  rw [hv] at h1
  have := World.block_lt_of_cell? _ _ h1
  simp at this ⊢; omega
 .simp
def D8 (x : UInt8) : anW := .int .u8 x.toNat
abbrev Bs (w : anV) (v : anW) (l : List UInt8) : Prop := Sl w v (l.map D8)
theorem CQ (b o n : Nat) : (⟨b, o, none⟩ : Addr).add n = ⟨b, o + n, none⟩ := by
 unfold Addr.add; split
 .rename_i h; subst h; rfl
 .rfl
section
variable {P : Program} {w : anV} {t e : TypeId} {k : IntKind} {a : Int}
theorem TD {inf : TypeInfo} {sz : Nat} (hz : inf.size = sz) (hu : P.underlying t = some (.slice e)) (hi : P.info? e = some inf) (b o n c : Nat) (h0 : 0 <= a) (h1 : a < n) :
 (bB t (.slice (some ⟨b, o, none⟩) n c) (.int k a)).run P w = .ok (.value (.pointer (some ⟨b, o + a.toNat * sz, none⟩))) w := by
 rw [VP hu hi _ n c h0 h1, CQ, hz]
theorem Pz {inf : TypeInfo} (hz : inf.size = 1) (hu : P.underlying t = some (.slice e)) (hi : P.info? e = some inf) (b o n c : Nat) (h0 : 0 <= a) (h1 : a < n) :
 (bB t (.slice (some ⟨b, o, none⟩) n c) (.int k a)).run P w = .ok (.value (.pointer (some ⟨b, o + a.toNat, none⟩))) w := by
 rw [VP hu hi _ n c h0 h1, CQ, hz, amQ]
theorem YX {inf : TypeInfo} {sz len : Nat} (hz : inf.size = sz) (hu : P.underlying t = some (.array len e)) (hi : P.info? e = some inf) (b o : Nat) (h0 : 0 <= a) (h1 : a < (len : Int)) :
 (bB t (.pointer (some ⟨b, o, none⟩)) (.int k a)).run P w = .ok (.value (.pointer (some ⟨b, o + a.toNat * sz, none⟩))) w := by
 rw [Vl hu hi _ h0 h1, CQ, hz]
theorem Ll {inf : TypeInfo} {len : Nat} (hz : inf.size = 1) (hu : P.underlying t = some (.array len e)) (hi : P.info? e = some inf) (b o : Nat) (h0 : 0 <= a) (h1 : a < (len : Int)) :
 (bB t (.pointer (some ⟨b, o, none⟩)) (.int k a)).run P w = .ok (.value (.pointer (some ⟨b, o + a.toNat, none⟩))) w := by
 rw [Vl hu hi _ h0 h1, CQ, hz, amQ]
end
section
variable {P : Program} {w : anV} {s d e : TypeId}
end
theorem Xi (l : List UInt8) : ∀ x ∈ l.map D8, one x = true := by
 intro x hx
 obtain ⟨c, _, rfl⟩ := akF.1 hx
 rfl
theorem YV {b o m l sz : Nat} (h : l ≠ m) : pB ⟨b, o, none⟩ m l sz = ⟨b, o + l * sz, none⟩ := by
 unfold pB; rw [if_neg (fun e => h e.symm), CQ]
theorem Az {b o m l : Nat} (h : l ≠ m) : pB ⟨b, o, none⟩ m l 1 = ⟨b, o + l, none⟩ := by rw [YV h, amQ]
theorem Sl.drop {w : anV} {b o n c : Nat} {l : List anW} (h : Sl w (.slice (some ⟨b, o, none⟩) n c) l) {k : Nat} (hk : k <= n) :
 Sl w (.slice (gU (some ⟨b, o, none⟩) c k 1) (n - k) (c - k)) (l.drop k) := by
 obtain ⟨x, m, c', e, hm, hc, hh⟩ := h
 cases e
 refine ⟨_, _, _, rfl, by rw [akG]; omega, by omega, fun h0 => ?_⟩
 obtain ⟨b', o', e, h2⟩ := hh (by omega)
 cases e
 have hne : ¬ c = k := by omega
 refine ⟨b, o + k, by unfold gU; rw [if_neg hne, akB, CQ, amQ], fun i hi => ?_⟩
 rw [alL, h2 (k + i) (by omega), alB]
theorem Sl.take {w : anV} {b o n c : Nat} {l : List anW} (h : Sl w (.slice (some ⟨b, o, none⟩) n c) l) {k : Nat} (hk : k <= n) :
 Sl w (.slice (gU (some ⟨b, o, none⟩) c 0 1) (k - 0) (c - 0)) (l.take k) := by
 obtain ⟨x, m, c', e, hm, hc, hh⟩ := h
 cases e
 refine ⟨_, _, _, rfl, by rw [ajL]; omega, by omega, fun h0 => ?_⟩
 obtain ⟨b', o', e, h2⟩ := hh (by omega)
 cases e
 have hne : ¬ c = 0 := by omega
 refine ⟨b, o, by unfold gU; rw [if_neg hne, akB, CQ] <;> rfl, fun i hi => ?_⟩
 rw [h2 i (by omega), ajR (by omega)]
theorem cG.bs {w : anV} {b off c : Nat} {cs : List anW} {l : List UInt8} (h : cG w b cs) (hc : l.length <= c) (hl : ∀ i (hi : i < l.length), cs[off + i]? = some (D8 l[i])) : Bs w (.slice (some ⟨b, off, none⟩) l.length c) l :=
 ⟨_, _, _, rfl, by simp, hc, fun _ => ⟨b, off, rfl, fun i hi => by rw [h.cell, hl i hi]; simp [hi]⟩⟩
section
variable {P : Program} {w : anV} {t e : TypeId} {k : IntKind} {a : Int}
theorem afF {len : Nat} {d : TypeDesc} {i : TypeInfo} (hu : P.underlying t = some (.array len e)) (hd : P.underlying e = some d) (ha : Vg d = false) (hi : P.info? e = some i) (h1 : i.size = 1)
 (cs : Array anW) (h0 : 0 <= a) (hl : a < (len : Int)) {v : anW} (hv : cs[a.toNat]? = some v) : (GH t (.agg cs) (.int k a)).run P w = .ok (.value v) w := by
 unfold GH
 rw [oH]
 simp only [Instr.index, asIntOf, pure_bind, underlying, hu, Sem.run_bind, run_program, Result.andThen_ok, Sem.run_pure, h0, hl, and_self, if_true, eI hi, h1, amQ, part, Hd hd, ha, aiS, if_false, hv]
def aeC (P : Program) (t : TypeId) (cs : Array anW) (k : IntKind) (a : Int) (w : anV) : Result Next := (GH t (.agg cs) (.int k a)).run P w
theorem aaU {len : Nat} {d : TypeDesc} {i : TypeInfo} (hu : P.underlying t = some (.array len e)) (hd : P.underlying e = some d) (ha : Vg d = false) (hi : P.info? e = some i) (h1 : i.size = 1)
 (cs : Array anW) (h0 : 0 <= a) (hl : a < (len : Int)) : (GH t (.agg cs) (.int k a)).run P w = Y1 cs[a.toNat]? w (aeC P t cs k a w) := by
 cases hv : cs[a.toNat]? with
 | none => rfl
 | some v => exact afF hu hd ha hi h1 cs h0 hl hv
theorem UM {b off : Nat} {l : List anW} (h : ∀ i, i < l.length -> w.cell? ⟨b, off + i, none⟩ = l[i]?) (n : Nat) (hn : n <= l.length) :
 (loadCells ⟨b, off, none⟩ n).run P w = .ok (l.take n).toArray w := by
 have key : ∀ (m i : Nat) (acc : Array anW), i + m <= l.length -> (loadCellsFrom ⟨b, off, none⟩ i m acc).run P w = .ok (acc ++ ((l.drop i).take m).toArray) w := by
  intro m
  induction m with
  | zero => intro i acc _; simp [loadCellsFrom]
  | succ m ih =>
    intro i acc hm
    have hc := h i (by omega)
    rw [aiN (by omega)] at hc
    simp only [loadCellsFrom, Sem.run_bind, run_load, CQ, hc, Result.andThen_ok]
    rw [ih (i + 1) _ (by omega), akA (by omega : i < l.length), aiT]
    simp
 unfold loadCells
 rw [key n 0 #[] (by omega)]
 simp
theorem aaM {i : TypeInfo} {z : anW} (hu : P.underlying t = some (.slice e)) (hi : P.info? e = some i) (h1 : i.size = 1) (hz : i.zero = some z) (hz1 : one z = true) {n : Int} (h0 : 0 <= n) (hn : i.bytes * n <= 2 ^ 48) (hn2 : n <= 9223372036854775807)
 {K : anW -> anV -> Prop}
 (hk : ∀ w', cG w' w.heap.size (List.replicate n.toNat z) -> aX w w' dG -> w'.heap.size = w.heap.size + 1 -> K (.slice (some ⟨w.heap.size, 0, none⟩) n.toNat n.toNat) w') :
 aC P (rM t (.int k n) (.int k n)) w K := by
 have hw : IntKind.i64.wrap n = n := aW (by omega) hn2
 have hcells : z.cells = #[z] := TG hz1
 have harr : (Array.range n.toNat).map (fun j => (#[z] : Array anW)[j % (#[z] : Array anW).size]!) = (List.replicate n.toNat z).toArray := by
  apply Array.ext
  .simp
  .intro j h1 h2; simp [Nat.mod_one]
 have hz' : (zeroValue e).run P w = .ok z w := by simp [zeroValue, typeInfo, hi, hz]
 have : (rM t (.int k n) (.int k n)).run P w = .ok (.value (.slice (some ⟨w.heap.size, 0, none⟩) n.toNat n.toNat)) (w.alloc (.cells (List.replicate n.toNat z).toArray e)) := by
  unfold rM
  rw [oH]
  have t1 : (decide (n < 0) || decide ((i.bytes : Int) * n > 2 ^ 48) || decide (n < 0) || decide (n > n)) = false := by
   simp only [amZ, decide_eq_false_iff_not]; omega
  by_cases hn0 : n.toNat = 0
  .simp only [Instr.makeSlice, underlying, typeInfo, asInt, asIntOf, pure_bind, Sem.run_bind, run_program, Result.andThen_ok, hu, hi, Sem.run_pure, hw, t1, aiS, if_false, run_askRoom, eI hi, h1, amQ, hn0, if_true, newRow, run_newObj]
   have : (Array.range 0).map (fun x => (#[] : Array anW)[x % (#[] : Array anW).size]!) = (List.replicate 0 z).toArray := by simp
   rw [this]
   rfl
  .simp only [Instr.makeSlice, underlying, typeInfo, asInt, asIntOf, pure_bind, Sem.run_bind, run_program, Result.andThen_ok, hu, hi, Sem.run_pure, hw, t1, aiS, if_false, run_askRoom, eI hi, h1, amQ, hn0, hz', hcells, newRow, run_newObj, harr]
   rfl
 unfold aC
 rw [this]
 exact hk _ (cG.alloc _ _ _) (aX.alloc _ _ _) (by simp)
end
def Cl (w : anV) (sz : Nat) (v : anW) (n : Nat) (l : List anW) : Prop :=
 ∃ a c, v = .slice a n c /\ l.length = n * sz /\ (0 < n -> ∃ b off, a = some ⟨b, off, none⟩ /\ ∀ i, i < l.length -> w.cell? ⟨b, off + i, none⟩ = l[i]?)
def uK (w : anV) (base sz : Nat) (v : anW) (n : Nat) (l : List anW) : Prop :=
 l.length = n * sz /\ ((v = .slice none 0 0 /\ n = 0) ∨
   ∃ b c rest, v = .slice (some ⟨b, 0, none⟩) n c /\ base <= b /\ cG w b (l ++ rest) /\ (l ++ rest).length = c * sz /\ n <= c)
def Pk (w : anV) (S : Nat -> Prop) (sz : Nat) (v : anW) (n : Nat) (l : List anW) : Prop :=
 l.length = n * sz /\ ((v = .slice none 0 0 /\ n = 0) ∨
   ∃ b c rest, v = .slice (some ⟨b, 0, none⟩) n c /\ S b /\ cG w b (l ++ rest) /\ (l ++ rest).length = c * sz /\ n <= c)
theorem Sl.cl {w : anV} {v : anW} {l : List anW} (h : Sl w v l) : Cl w 1 v l.length l := by
 obtain ⟨a, n, c, rfl, rfl, hc, h⟩ := h
 exact ⟨a, c, rfl, by omega, fun h0 => h h0⟩
theorem cG.cl {w : anV} {b sz n c off : Nat} {cs l : List anW} (h : cG w b cs) (hl : l.length = n * sz) (hcs : ∀ i, i < l.length -> cs[off + i]? = l[i]?) : Cl w sz (.slice (some ⟨b, off, none⟩) n c) n l :=
 ⟨_, _, rfl, hl, fun _ => ⟨b, off, rfl, fun i hi => by rw [h.cell, hcs i hi]⟩⟩
theorem uK.nil (w : anV) (base sz : Nat) : uK w base sz (.slice none 0 0) 0 [] := ⟨by simp, .inl ⟨rfl, rfl⟩⟩
theorem uK.ext {w w' : anV} {base sz n : Nat} {v : anW} {l : List anW} {M : Nat -> Prop} (h : uK w base sz v n l) (hx : aX w w' M) (hM : ∀ b, base <= b -> ¬ M b) : uK w' base sz v n l := by
 refine ⟨h.1, ?_⟩
 rcases h.2 with h2 | ⟨b, c, rest, h1, h2, h3, h4, h5⟩
 .exact .inl h2
 .exact .inr ⟨b, c, rest, h1, h2, h3.ext hx (hM b h2), h4, h5⟩
theorem uK.cl {w : anV} {base sz n : Nat} {v : anW} {l : List anW} (h : uK w base sz v n l) : Cl w sz v n l := by
 rcases h.2 with ⟨rfl, rfl⟩ | ⟨b, c, rest, rfl, h2, h3, h4, h5⟩
 .exact ⟨_, _, rfl, h.1, fun h => by omega⟩
 .refine ⟨_, _, rfl, h.1, fun _ => ⟨b, 0, rfl, fun i hi => ?_⟩⟩
  rw [h3.cell, aiR, ajF hi]
theorem uK.sl {w : anV} {base n : Nat} {v : anW} {l : List anW} (h : uK w base 1 v n l) : Sl w v l := by
 have hl := h.1
 rcases h.2 with ⟨rfl, rfl⟩ | ⟨b, c, rest, rfl, h2, h3, h4, h5⟩
 .exact ⟨_, _, _, rfl, by omega, by omega, fun h => by omega⟩
 .refine ⟨_, _, _, rfl, by omega, h5, fun _ => ⟨b, 0, rfl, fun i hi => ?_⟩⟩
  rw [h3.cell, aiR, ajF (by omega)]
section
variable {P : Program} {w : anV} {t e : TypeId}
theorem Oj {b off : Nat} {l : List anW} (h : ∀ i, i < l.length -> w.cell? ⟨b, off + i, none⟩ = l[i]?) : (loadCells ⟨b, off, none⟩ l.length).run P w = .ok l.toArray w := by
 have := UM (P := P) h l.length (aiU _)
 rwa [amK] at this
theorem uE {sz n : Nat} {v : anW} {l : List anW} (h : Cl w sz v n l) : (Builtin.firstCells sz n v).run P w = .ok l.toArray w := by
 obtain ⟨x, c, rfl, hl, hh⟩ := h
 cases x with
 | none =>
   have : n = 0 := by
    rcases alK n with h | h
    .exact h
    .obtain ⟨b, off, e, _⟩ := hh h; cases e
   subst this
   have : l = [] := ajV.1 (by omega)
   subst this
   simp [Builtin.firstCells]
 | some x =>
   simp only [Builtin.firstCells]
   rw [<- hl]
   by_cases h0 : 0 < n
   .obtain ⟨b, off, e, h2⟩ := hh h0
    have e := ajG e; subst e
    exact Oj h2
   .have : n = 0 := by omega
    subst this
    have : l = [] := ajV.1 (by omega)
    subst this
    simp [loadCells, loadCellsFrom]
theorem lF (zs : Array anW) (n : Nat) : (Builtin.zeroCells zs n).size = n * zs.size := by simp [Builtin.zeroCells]
theorem FV (vs : List anW) : ∀ (aiL rest : List anW), vs.length <= rest.length -> bQ (aiL ++ rest) aiL.length vs = aiL ++ vs ++ rest.drop vs.length := by
 induction vs with
 | nil => intro aiL rest _; simp [bQ]
 | cons v vs ih =>
   intro aiL rest h
   cases rest with
   | nil => simp at h
   | cons r rest =>
     have := ih (aiL ++ [v]) rest (by simpa using h)
     simp only [bQ, aiO, ajK, List.length_nil, ajB, alE, akC] at this ⊢
     rw [amM, <- this, amF _ _ (aiU _), amV, aiV, aiR]
theorem rN {S : Nat -> Prop} {sz n m : Nat} {i : TypeInfo} {z : anW} {ty t2 e2 : TypeId} (hu : P.underlying t = some (.slice e)) (hu2 : P.underlying t2 = some (.slice e2)) (hi : P.info? e = some i) (hsz : i.size = sz) (hz : i.zero = some z) (hzs : z.cells.size = sz)
 {v x : anW} {l news : List anW} (h : Pk w S sz v n l) (hx : Cl w sz x m news) (hone : ∀ y ∈ news, one y = true) (hb : ∀ b, w.heap.size <= b -> S b)
 (hn : n + m <= 9223372036854775807) (hbytes : (n + m) * i.bytes <= 140737488355328) (_hpos : i.bytes ≠ 0)
 {K : anW -> anV -> Prop} (hk : ∀ v' w', Pk w' S sz v' (n + m) (l ++ news) -> aX w w' S -> K v' w') : aC P (jI .append #[t, t2] ty [v, x]) w K := by
 have hlx : (Builtin.lenOf x).run P w = .ok m w := by
  obtain ⟨a, c, rfl, _⟩ := hx; simp [Builtin.lenOf]
 have hnl := hx.choose_spec.choose_spec.2.1
 have hfx := uE (P := P) hx
 have hmax : IntKind.i64.max = 9223372036854775807 := by decide
 have hnot : ¬ (((n + m : Nat) : Int) > IntKind.i64.max /\ (False ∨ i.bytes = 0)) := by rw [hmax]; omega
 have hz' : ∀ w, (zeroValue e).run P w = .ok z w := fun w => by simp [zeroValue, typeInfo, hi, hz]
 have hlen := h.1
 rcases h.2 with ⟨rfl, rfl⟩ | ⟨b, c, rest, rfl, h2, h3, h4, h5⟩
 .
  have hl0 : l = [] := ajV.1 (by omega)
  subst hl0
  by_cases hm : m = 0
  .subst hm
   have hn0 : news = [] := ajV.1 (by omega)
   subst hn0
   have : (jI .append #[t, t2] ty [.slice none 0 0, x]).run P w = .ok (.value (.slice none 0 0)) w := by
    unfold jI builtin
    simp only [Builtin.append_, akX, aiP, aiQ]
    simp only [underlying, Sem.run_bind, run_program, Result.andThen_ok, hu, hu2, Sem.run_pure, eI hi, hsz, aiS, if_false, hlx, aiU, akJ, if_true, amW, hfx]
   unfold aC
   rw [this]
   exact hk _ _ ⟨by simp, .inl ⟨rfl, by omega⟩⟩ (aX.refl _ _)
  .have hfit := growslice_fits (need := 0 + m) (old := 0) (bytes := i.bytes) (by omega) (by omega)
   have hfit' : ¬ (Builtin.nextslicecap (0 + m) 0 * i.bytes > 2 ^ 48) := by omega
   have hle : ¬ (0 + m <= 0) := by omega
   have hq : (Question.appendCap (0 + m) 0 e).forced = false := rfl
   obtain ⟨r, hr⟩ : ∃ r, (Question.appendCap (0 + m) 0 e).cut (w.tape w.drawn (.appendCap (0 + m) 0 e)) = m + r :=
    ⟨(w.tape w.drawn (.appendCap (0 + m) 0 e)) % (2 ^ 63 - (0 + m)), by simp only [Question.cut]; omega⟩
   have : (jI .append #[t, t2] ty [.slice none 0 0, x]).run P w = .ok (.value (.slice (some ⟨w.heap.size, 0, none⟩) (0 + m) (m + r))) ((dr w).alloc (.cells (news ++ (Builtin.zeroCells z.cells (m + r - (0 + m))).toList).toArray e)) := by
    have hfx' := uE (P := P) (w := dr w) hx
    unfold jI builtin
    simp only [Builtin.append_, akX, aiP, aiQ]
    simp only [underlying, typeInfo, Sem.run_bind, run_program, Result.andThen_ok, hu, hu2, hi, Sem.run_pure, eI hi, hsz, aiS, if_false, hlx, hle, amW, if_true, hnot, hfit', run_choose, hq, hr, run_askRoom]
    change ((Sem.run P _ (dr w)).andThen _).andThen _ = _
    simp only [Sem.run_bind, hfx', run_firstCells_none, Result.andThen_ok, hz', Sem.run_pure, newRow, run_newObj]
    have e1 : (#[] ++ news.toArray ++ Builtin.zeroCells z.cells (m + r - (0 + m)) : Array anW) = (news ++ (Builtin.zeroCells z.cells (m + r - (0 + m))).toList).toArray := by
     apply Array.ext'; simp
    rw [e1]
    rfl
   unfold aC
   rw [this]
   refine hk _ _ ⟨by simp only [akC]; rw [hnl, aiR], .inr ⟨w.heap.size, m + r, (Builtin.zeroCells z.cells (m + r - (0 + m))).toList, by rw [aiR], hb _ (aiU _), cG.alloc (dr w) _ _, ?_, by omega⟩⟩ ((aX.dr w _).seq (aX.alloc _ _ _))
   simp only [akC, aiO, alQ, lF, hzs, hnl]
   rw [show m + r - (0 + m) = r from by omega, akQ]
 .by_cases hc : n + m <= c
  .
   have hroom : news.length <= rest.length := by
    rw [aiO, hlen] at h4
    have : (n + m) * sz <= c * sz := ajX _ hc
    rw [akQ] at this; omega
   obtain ⟨w', s1, s2, s3, s4, _⟩ := DG (P := P) (M := S) h2 news w (n * sz) 0 (l ++ rest) h3 (by rw [aiO, hlen]; omega) hone
   have : (jI .append #[t, t2] ty [.slice (some ⟨b, 0, none⟩) n c, x]).run P w = .ok (.value (.slice (some ⟨b, 0, none⟩) (n + m) c)) w' := by
    unfold jI builtin
    simp only [Builtin.append_, akX, aiP, aiQ]
    simp only [underlying, Sem.run_bind, run_program, Result.andThen_ok, hu, hu2, Sem.run_pure, eI hi, hsz, aiS, if_false, hlx, hc, if_true, amW, hfx, CQ, aiR, s1]
   unfold aC
   rw [this]
   rw [akJ, <- hlen, FV _ _ _ hroom] at s2
   refine hk _ _ ⟨by rw [aiO, hlen, hnl, akQ], .inr ⟨b, c, rest.drop news.length, rfl, h2, s2, ?_, hc⟩⟩ s3
   rw [<- h4]; simp; omega
  .
   have hfit := growslice_fits (need := n + m) (old := c) (bytes := i.bytes) (by omega) hbytes
   have hfit' : ¬ (Builtin.nextslicecap (n + m) c * i.bytes > 2 ^ 48) := by omega
   have hq : (Question.appendCap (n + m) c e).forced = false := rfl
   obtain ⟨r, hr⟩ : ∃ r, (Question.appendCap (n + m) c e).cut (w.tape w.drawn (.appendCap (n + m) c e)) = n + m + r :=
    ⟨(w.tape w.drawn (.appendCap (n + m) c e)) % (2 ^ 63 - (n + m)), by simp only [Question.cut]⟩
   have hold : Cl (dr w) sz (.slice (some ⟨b, 0, none⟩) n c) n l := ⟨_, _, rfl, hlen, fun _ => ⟨b, 0, rfl, fun i hi => by
    show w.cell? _ = _
    rw [h3.cell, aiR, ajF hi]⟩⟩
   have : (jI .append #[t, t2] ty [.slice (some ⟨b, 0, none⟩) n c, x]).run P w = .ok (.value (.slice (some ⟨w.heap.size, 0, none⟩) (n + m) (n + m + r))) ((dr w).alloc (.cells (l ++ news ++ (Builtin.zeroCells z.cells (n + m + r - (n + m))).toList).toArray e)) := by
    have hfx' := uE (P := P) (w := dr w) hx
    have hfo := uE (P := P) hold
    unfold jI builtin
    simp only [Builtin.append_, akX, aiP, aiQ]
    simp only [underlying, typeInfo, Sem.run_bind, run_program, Result.andThen_ok, hu, hu2, hi, Sem.run_pure, eI hi, hsz, aiS, if_false, hlx, hc, amW, if_true, hnot, hfit', run_choose, hq, hr, run_askRoom]
    change ((Sem.run P _ (dr w)).andThen _).andThen _ = _
    simp only [Sem.run_bind, hfx', hfo, Result.andThen_ok, hz', Sem.run_pure, newRow, run_newObj]
    have e1 : (l.toArray ++ news.toArray ++ Builtin.zeroCells z.cells (n + m + r - (n + m)) : Array anW) = (l ++ news ++ (Builtin.zeroCells z.cells (n + m + r - (n + m))).toList).toArray := by
     apply Array.ext'; simp
    rw [e1]
    rfl
   unfold aC
   rw [this]
   refine hk _ _ ⟨by rw [aiO, hlen, hnl, akQ], .inr ⟨w.heap.size, n + m + r, _, rfl, hb _ (aiU _), cG.alloc (dr w) _ _, ?_, by omega⟩⟩ ((aX.dr w _).seq (aX.alloc _ _ _))
   simp only [aiO, alQ, lF, hzs, hnl, hlen]
   rw [show n + m + r - (n + m) = r from by omega, akQ, akQ]
theorem Na {base sz n m : Nat} {i : TypeInfo} {z : anW} {ty t2 e2 : TypeId} (hu : P.underlying t = some (.slice e)) (hu2 : P.underlying t2 = some (.slice e2)) (hi : P.info? e = some i) (hsz : i.size = sz) (hz : i.zero = some z) (hzs : z.cells.size = sz)
 {v x : anW} {l news : List anW} (h : uK w base sz v n l) (hx : Cl w sz x m news) (hone : ∀ y ∈ news, one y = true) (hb : base <= w.heap.size)
 (hn : n + m <= 9223372036854775807) (hbytes : (n + m) * i.bytes <= 140737488355328) (_hpos : i.bytes ≠ 0)
 {K : anW -> anV -> Prop} (hk : ∀ v' w', uK w' base sz v' (n + m) (l ++ news) -> aX w w' (fun y => base <= y) -> K v' w') : aC P (jI .append #[t, t2] ty [v, x]) w K :=
 rN (S := fun y => base <= y) hu hu2 hi hsz hz hzs h hx hone (fun _ h => amJ hb h) hn hbytes _hpos hk
end
section
variable {P : Program} {w : anV} {t e : TypeId}
theorem HD {i : TypeInfo} {z : anW} {n : Nat} {ps : List (Nat × anW)} {cells : Array anW} (hu : P.underlying t = some (.slice e)) (hi : P.info? e = some i) (hz : i.zero = some z)
 (h1 : ¬ n * i.size > 2 ^ 24) (h0 : ¬ n * i.size = 0) (hf : Instr.fill (fun j => some (j * i.size, i.size)) ((Array.range (n * i.size)).map (z.cells[· % z.cells.size]!)) ps = some cells)
 {K : anW -> anV -> Prop} (hk : ∀ w', cG w' w.heap.size cells.toList -> aX w w' dG -> w'.heap.size = w.heap.size + 1 -> K (.slice (some ⟨w.heap.size, 0, none⟩) n n) w') :
 aC P (dB t n ps) w K := by
 have hz' : (zeroValue e).run P w = .ok z w := by simp [zeroValue, typeInfo, hi, hz]
 have : (dB t n ps).run P w = .ok (.value (.slice (some ⟨w.heap.size, 0, none⟩) n n)) (w.alloc (.cells cells.toList.toArray e)) := by
  unfold dB; rw [oH]
  simp only [Instr.buildSlice, underlying, pure_bind, Sem.run_bind, run_program, Result.andThen_ok, hu, Sem.run_pure, eI hi, h1, h0, if_false, hz', hf, newRow, run_newObj]
  rfl
 unfold aC
 rw [this]
 exact hk _ (cG.alloc _ _ _) (aX.alloc _ _ _) (by simp)
end
section
variable {P : Program} {w : anV} {t e : TypeId}
def Grown (es : Array MapEntry) (clock : Nat) : Prop := (es.toList.map (·.born)).Pairwise (· < ·) /\ ∀ e ∈ es.toList, e.born < clock
def Mp {κ : Type} (w : anV) (m : Nat) (enc : κ -> anW) (l : List (κ × anW)) : Prop :=
 ∃ es clock, w.heap[m]? = some (.map es clock) /\ es.toList.map (fun e => (e.key, e.val)) = l.map (fun p => (enc p.1, p.2)) /\ Grown es clock /\ (l.map (·.1)).Nodup
theorem Mp.lt {κ : Type} {m : Nat} {enc : κ -> anW} {l : List (κ × anW)} (h : Mp w m enc l) : m < w.heap.size := by
 obtain ⟨es, c, h, _⟩ := h
 rcases ajI m w.heap.size with h' | h'
 .exact h'
 .rw [amP h'] at h; cases h
theorem Mp.ext {κ : Type} {w w' : anV} {m : Nat} {enc : κ -> anW} {l : List (κ × anW)} {M : Nat -> Prop} (h : Mp w m enc l) (hx : aX w w' M) (hM : ¬ M m) : Mp w' m enc l := by
 have := h.lt
 obtain ⟨es, c, h, k⟩ := h
 exact ⟨es, c, by rw [hx.keep m this hM]; exact h, k⟩
theorem Mp.dr {κ : Type} {w : anV} {m : Nat} {enc : κ -> anW} {l : List (κ × anW)} (h : Mp w m enc l) : Mp (dr w) m enc l := h
variable {κ : Type} [DecidableEq κ] {enc : κ -> anW}
theorem Lw {d : TypeDesc} {i : TypeInfo} (hu : P.underlying t = some d) (hd : Vg d = true) (hi : P.info? t = some i) {b off : Nat} {l : List anW} (hl : i.size = l.length) (h : ∀ j, j < l.length -> w.cell? ⟨b, off + j, none⟩ = l[j]?) :
 (aJ t (.pointer (some ⟨b, off, none⟩))).run P w = .ok (.value (.agg l.toArray)) w := by
 unfold aJ
 rw [oH]
 simp only [Instr.loadAt, Instr.sureAddr, loadVar, pure_bind, Sem.run_bind, Hd hu, hd, Result.andThen_ok, if_true, eI hi, hl, Oj h, Sem.run_pure]
end
theorem eP {w : anV} {b : Nat} {cs : List anW} (h : cG w b cs) : cG (dr w) b cs := h.ext (aX.dr w dG) (fun h => h)
theorem Sl.dr {w : anV} {v : anW} {l : List anW} (h : Sl w v l) : Sl (dr w) v l := h
theorem Sl.open {w : anV} {v : anW} {l : List UInt8} (h : Bs w v l) (h0 : 0 < l.length) : ∃ b off c, v = .slice (some ⟨b, off, none⟩) l.length c /\ l.length <= c /\ ∀ i, (h : i < l.length) -> w.cell? ⟨b, off + i, none⟩ = some (D8 l[i]) := by
 obtain ⟨a, n, c, rfl, hn, hc, h⟩ := h
 simp only [aiX] at hn
 subst hn
 obtain ⟨b, off, rfl, hh⟩ := h h0
 exact ⟨b, off, c, rfl, hc, fun i hi => by rw [hh i hi]; simp [hi]⟩
theorem Sl.len {w : anV} {v : anW} {l : List anW} (h : Sl w v l) : ∃ a c, v = .slice a l.length c /\ l.length <= c := by
 obtain ⟨a, n, c, rfl, rfl, hc, _⟩ := h
 exact ⟨a, c, rfl, hc⟩
theorem bY (v : anW) : ¬ U4 v dG := by unfold U4 dG; split <;> simp
theorem WR {b o m l : Nat} (h : l ≠ m) : gU (some ⟨b, o, none⟩) m l 1 = some ⟨b, o + l, none⟩ := by
 unfold gU; rw [if_neg (fun e => h e.symm)]; simp [CQ]
theorem VG {v : anW} {M N : Nat -> Prop} (h : U4 v M) (hm : ∀ b, M b -> N b) : U4 v N := by
 unfold U4 at *
 split at h
 .exact hm _ h
 .exact h
theorem uK.len {w : anV} {b sz n : Nat} {v : anW} {l : List anW} (h : uK w b sz v n l) : ∃ a c, v = .slice a n c := by
 rcases h.2 with ⟨rfl, rfl⟩ | ⟨x, c, r, rfl, _⟩
 .exact ⟨_, _, rfl⟩
 .exact ⟨_, _, rfl⟩
theorem uK.lower {w : anV} {a b sz n : Nat} {v : anW} {l : List anW} (h : uK w b sz v n l) (hab : a <= b) : uK w a sz v n l := by
 refine ⟨h.1, ?_⟩
 rcases h.2 with h | ⟨x, c, r, h1, h2, h3⟩
 .exact .inl h
 .exact .inr ⟨x, c, r, h1, by omega, h3⟩
theorem Sl.nil (w : anV) : Sl w (.slice none 0 0) [] := ⟨none, 0, 0, rfl, rfl, aiU _, fun h => absurd h (by simp)⟩
theorem Sl.drop' {w : anV} {a : Option Addr} {n c : Nat} {l : List anW} (h : Sl w (.slice a n c) l) {k : Nat} (hk : k <= n) : Sl w (.slice (gU a c k 1) (n - k) (c - k)) (l.drop k) := by
 have h' := h
 obtain ⟨a', n', c', e, hn, hc, hh⟩ := h'
 cases e
 by_cases h0 : n = 0
 .exact ⟨_, _, _, rfl, by rw [akG]; omega, by omega, fun h => by omega⟩
 .obtain ⟨b, off, rfl, _⟩ := hh (by omega)
  exact h.drop hk
theorem Sl.openV {w : anV} {v : anW} {l : List anW} (h : Sl w v l) (h0 : 0 < l.length) : ∃ b off c, v = .slice (some ⟨b, off, none⟩) l.length c /\ l.length <= c /\ ∀ i, (h : i < l.length) -> w.cell? ⟨b, off + i, none⟩ = some l[i] := by
 obtain ⟨a, n, c, rfl, hn, hc, h⟩ := h
 subst hn
 obtain ⟨b, off, rfl, hh⟩ := h h0
 exact ⟨b, off, c, rfl, hc, fun i hi => by rw [hh i hi]; simp [hi]⟩
theorem Sl.openI {w : anV} {v : anW} {k : IntKind} {l : List Int} (h : Sl w v (l.map (Value.int k))) (h0 : 0 < l.length) : ∃ b off c, v = .slice (some ⟨b, off, none⟩) l.length c /\ l.length <= c /\ ∀ i, (h : i < l.length) -> w.cell? ⟨b, off + i, none⟩ = some (.int k l[i]) := by
 obtain ⟨b, off, c, e, hc, hh⟩ := h.openV (by simpa using h0)
 simp only [aiX] at e hc hh
 exact ⟨b, off, c, e, hc, fun i hi => by rw [hh i hi]; simp⟩
theorem Sl.lenI {w : anV} {v : anW} {k : IntKind} {l : List Int} (h : Sl w v (l.map (Value.int k))) : ∃ a c, v = .slice a l.length c /\ l.length <= c := by
 obtain ⟨a, c, e, hc⟩ := h.len
 simp only [aiX] at e hc
 exact ⟨a, c, e, hc⟩
def GR (n : Nat) (l : List anW) : List anW := (List.replicate n l).flatten
theorem NL (n : Nat) (l : List anW) : (GR n l).length = n * l.length := by
 unfold GR; rw [List.length_flatten]; simp
theorem Yi : ∀ (n : Nat) (l : List anW) (j : Nat) (_ : j < n * l.length) (h0 : 0 < l.length), (GR n l)[j]? = some (l[j % l.length]'(amA _ h0)) := by
 intro n
 induction n with
 | zero => intro l j h; simp at h
 | succ n ih =>
   intro l j h h0
   unfold GR
   rw [akV, List.flatten_cons]
   by_cases hj : j < l.length
   .rw [ajF hj, aiN hj]
    simp only [ajP hj]
   .rw [ajY (by omega)]
    have := ih l (j - l.length) (by rw [anF] at h; omega) h0
    unfold GR at this
    rw [this]
    simp only [<- Nat.mod_eq_sub_mod (show j ≥ l.length by omega)]
theorem YO {P : Program} {w : anV} {t e : TypeId} {k : IntKind} {i : TypeInfo} {z : anW} {sz : Nat} (hu : P.underlying t = some (.slice e)) (hi : P.info? e = some i) (h1 : i.size = sz) (hsz : 0 < sz) (hz : i.zero = some z) (hz1 : z.cells.size = sz) {n : Int} (h0 : 0 <= n) (hn : i.bytes * n <= 2 ^ 48) (hn2 : n <= 9223372036854775807)
 {K : anW -> anV -> Prop}
 (hk : ∀ w', cG w' w.heap.size (GR n.toNat z.cells.toList) -> aX w w' dG -> w'.heap.size = w.heap.size + 1 -> K (.slice (some ⟨w.heap.size, 0, none⟩) n.toNat n.toNat) w') :
 aC P (rM t (.int k n) (.int k n)) w K := by
 have hw : IntKind.i64.wrap n = n := aW (by omega) hn2
 have hl : z.cells.toList.length = sz := by simpa using hz1
 have harr : (Array.range (n.toNat * sz)).map (fun j => z.cells[j % z.cells.size]!) = (GR n.toNat z.cells.toList).toArray := by
  apply Array.ext
  .simp [NL, hz1]
  .intro j h1 h2
   have hj : j < n.toNat * sz := by simpa using h1
   have := Yi n.toNat z.cells.toList j (by rw [hl]; exact hj) (by rw [hl]; exact hsz)
   have hm : j % z.cells.size < z.cells.size := amA _ (by omega)
   simp only [Array.getElem_map, Array.getElem_range, List.getElem_toArray]
   rw [getElem!_pos z.cells _ hm]
   rw [aiN (by rw [NL, hl]; exact hj)] at this
   have := ajG this
   rw [this]
   simp
 have hz' : (zeroValue e).run P w = .ok z w := by simp [zeroValue, typeInfo, hi, hz]
 have : (rM t (.int k n) (.int k n)).run P w = .ok (.value (.slice (some ⟨w.heap.size, 0, none⟩) n.toNat n.toNat)) (w.alloc (.cells (GR n.toNat z.cells.toList).toArray e)) := by
  unfold rM
  rw [oH]
  have t1 : (decide (n < 0) || decide ((i.bytes : Int) * n > 2 ^ 48) || decide (n < 0) || decide (n > n)) = false := by
   simp only [amZ, decide_eq_false_iff_not]; omega
  by_cases hn0 : n.toNat * sz = 0
  .simp only [Instr.makeSlice, underlying, typeInfo, asInt, asIntOf, pure_bind, Sem.run_bind, run_program, Result.andThen_ok, hu, hi, Sem.run_pure, hw, t1, aiS, if_false, run_askRoom, eI hi, h1, hn0, if_true, newRow, run_newObj]
   have hn : n.toNat = 0 := by rcases Nat.mul_eq_zero.1 hn0 with h | h <;> omega
   have : (Array.range 0).map (fun x => (#[] : Array anW)[x % (#[] : Array anW).size]!) = (GR n.toNat z.cells.toList).toArray := by rw [hn]; simp [GR]
   rw [this]
   rfl
  .simp only [Instr.makeSlice, underlying, typeInfo, asInt, asIntOf, pure_bind, Sem.run_bind, run_program, Result.andThen_ok, hu, hi, Sem.run_pure, hw, t1, aiS, if_false, run_askRoom, eI hi, h1, hn0, hz', newRow, run_newObj, harr]
   rfl
 unfold aC
 rw [this]
 exact hk _ (cG.alloc _ _ _) (aX.alloc _ _ _) (by simp)
abbrev T3 := Int × Int × Int
def fe (k : IntKind) : List T3 -> List anW
 | [] => []
 | e :: r => .int k e.1 :: .int .i64 e.2.1 :: .int .i64 e.2.2 :: fe k r
theorem sU (k : IntKind) : ∀ L : List T3, (fe k L).length = L.length * 3
 | [] => rfl
 | e :: r => by simp [fe, sU k r]; omega
theorem S4 (k : IntKind) : ∀ (L : List T3) (i : Nat) (h : i < L.length), (fe k L)[i * 3]? = some (.int k L[i].1) /\ (fe k L)[i * 3 + 1]? = some (.int .i64 L[i].2.1) /\ (fe k L)[i * 3 + 2]? = some (.int .i64 L[i].2.2)
 | [], i, h => by simp at h
 | e :: r, 0, _ => ⟨rfl, rfl, rfl⟩
 | e :: r, i + 1, h => by
   have := S4 k r i (by simpa using h)
   rw [akQ]
   exact this
theorem Uj (k : IntKind) : ∀ (L : List T3) (i : Nat) (h : i < L.length) (x : Int), (fe k L).set (i * 3) (.int k x) = fe k (L.set i (x, L[i].2)) /\ (fe k L).set (i * 3 + 1) (.int .i64 x) = fe k (L.set i (L[i].1, x, L[i].2.2)) /\ (fe k L).set (i * 3 + 2) (.int .i64 x) = fe k (L.set i (L[i].1, L[i].2.1, x))
 | [], i, h, _ => by simp at h
 | e :: r, 0, _, x => ⟨rfl, rfl, rfl⟩
 | e :: r, i + 1, h, x => by
   have := Uj k r i (by simpa using h) x
   rw [akQ]
   obtain ⟨h1, h2, h3⟩ := this
   refine ⟨?_, ?_, ?_⟩
   .show (_ :: _ :: _ :: (fe k r).set (i * 3) _) = _; rw [h1] <;> rfl
   .show (_ :: _ :: _ :: (fe k r).set (i * 3 + 1) _) = _; rw [h2] <;> rfl
   .show (_ :: _ :: _ :: (fe k r).set (i * 3 + 2) _) = _; rw [h3] <;> rfl
theorem XS (k : IntKind) (x : Int) : ∀ n : Nat, GR n [.int k x, .int .i64 0, .int .i64 0] = fe k (List.replicate n (x, 0, 0))
 | 0 => rfl
 | n + 1 => by
   have := XS k x n
   unfold GR at this ⊢
   rw [akV, List.flatten_cons, this, akV] <;> rfl
theorem Xo {P : Program} {w : anV} {t e : TypeId} {k k' : IntKind} {hi mx : Int} {i : TypeInfo} (hu : P.underlying t = some (.slice e)) (hi' : P.info? e = some i) (x : Option Addr) (n c : Nat) (h0 : 0 <= hi) (h1 : hi <= mx) (h2 : mx <= c) :
 (fW t (.slice x n c) none (some (.int k hi)) (some (.int k' mx))).run P w = .ok (.value (.slice (gU x mx.toNat 0 i.size) (hi.toNat - 0) (mx.toNat - 0))) w := by
 have h3 : (0 : Int) <= mx := by omega
 have h4 : hi <= (mx.toNat : Int) := by omega
 simp only [fW, oH, Instr.sliceAt, underlying, hu, Sem.run_bind, run_program, Result.andThen_ok, Sem.run_pure, Instr.slice, Instr.sliceBounds, pure_bind, Gl h3 h2, Gl h0 h4, eI hi', gU]
end Go.En
namespace Go.Proofs.YtaggdjhhmbnhoaaDoor
open Go Go.En
set_option maxRecDepth 4000
theorem zU (n0 : Int) (n1 : Int) (n2 : Int) (w : anV) : (cA 47 [(0, (.int .u32 n0)), (1, (.int .u32 n1)), (2, (.int .u32 n2))]).run pg w = .ok (.value (.agg #[(.int .u32 n0), (.int .u32 n1), (.int .u32 n2)])) w := by kernel_rfl
theorem RJ : (pg).info? 47 = some Tryd.t47 := by kernel_rfl
theorem lS {n : Nat} {ps : List (Nat × anW)} {cells : Array anW} {w : anV} (h1 : ¬ n * 3 > 2 ^ 24) (h0 : ¬ n * 3 = 0) (hf : Go.Instr.fill (fun j => some (j * 3, 3)) ((Array.range (n * 3)).map ((Tryd.t47.zero.get!).cells[· % (Tryd.t47.zero.get!).cells.size]!)) ps = some cells) {K : anW -> anV -> Prop} (hk : ∀ w', cG w' w.heap.size cells.toList -> aX w w' dG -> w'.heap.size = w.heap.size + 1 -> K (.slice (some ⟨w.heap.size, 0, none⟩) n n) w') : aC pg (dB 24 n ps) w K := HD (i := Tryd.t47) Tryd.underlying24 RJ rfl h1 h0 hf hk
theorem dD  (w : anV) : (cA 29 []).run pg w = .ok (.value (.agg #[(.int .i64 0), (.slice none 0 0), (.int .i64 0), (.slice none 0 0), (.int .i64 0), (.slice none 0 0)])) w := by kernel_rfl
theorem X8 : (pg).info? 29 = some Tryd.t29 := by kernel_rfl
theorem gB {w : anV} {K : anW -> anV -> Prop} (hk : ∀ w', cG w' w.heap.size [(.int .i64 0), (.slice none 0 0), (.int .i64 0), (.slice none 0 0), (.int .i64 0), (.slice none 0 0)] -> aX w w' dG -> w'.heap.size = w.heap.size + 1 -> K (.pointer (some ⟨w.heap.size, 0, none⟩)) w') : aC pg (cM 29) w K := kD (i := Tryd.t29) X8 rfl hk
theorem gH {b off : Nat} {cs : List anW} {w : anV} {xs : Array anW} {K : anW -> anV -> Prop} (ho : cG w b cs) (hs : xs.size = 6) (hv : ∀ x ∈ xs.toList, one x = true) (h : off + 6 <= cs.length) (hk : ∀ w', cG w' b (bQ cs off xs.toList) -> aX w w' (fun x => x = b) -> w'.heap.size = w.heap.size -> K undef w') : aC pg (aR 29 (.pointer (some ⟨b, off, none⟩)) (.agg xs)) w K := kN (v := .agg xs) X8 ho hs hv h hk
theorem eT {ty : TypeId} (x : Option Addr) (n c : Nat) (w : anV) : (jI .len #[22] ty [.slice x n c]).run pg w = .ok (.value (.int .i64 n)) w := SP Tryd.underlying22 x n c
theorem PH : (pg).info? 5 = some Tryd.t5 := by kernel_rfl
theorem mC {k : IntKind} {a : Int} (b o n c : Nat) (w : anV) (h0 : 0 <= a) (h1 : a < n) : (bB 22 (.slice (some ⟨b, o, none⟩) n c) (.int k a)).run pg w = .ok (.value (.pointer (some ⟨b, o + a.toNat, none⟩))) w := Pz rfl Tryd.underlying22 PH b o n c h0 h1
theorem jY (x : Addr) (w : anV) : (aJ 5 (.pointer (some x))).run pg w = Y1 (w.cell? x) w (Xa pg 5 x w) := WD Tryd.underlying5 rfl x w
theorem dF {ty : TypeId} (x : Option Addr) (n c : Nat) (w : anV) : (jI .len #[24] ty [.slice x n c]).run pg w = .ok (.value (.int .i64 n)) w := SP Tryd.underlying24 x n c
theorem jF {k : IntKind} {a : Int} (b o n c : Nat) (w : anV) (h0 : 0 <= a) (h1 : a < n) : (bB 24 (.slice (some ⟨b, o, none⟩) n c) (.int k a)).run pg w = .ok (.value (.pointer (some ⟨b, o + a.toNat * 3, none⟩))) w := TD rfl Tryd.underlying24 RJ b o n c h0 h1
theorem Mf : (pg).info? 43 = some Tryd.t43 := by kernel_rfl
theorem jJ (b o : Nat) (w : anV) : (aQ 47 (.pointer (some ⟨b, o, none⟩)) 0).run pg w = .ok (.value (.pointer (some ⟨b, o, none⟩))) w := kX (i := 0) Tryd.underlying47 rfl Mf (by decide) _
theorem sS (x : Addr) (w : anV) : (aJ 43 (.pointer (some x))).run pg w = Y1 (w.cell? x) w (Xa pg 43 x w) := WD Tryd.underlying43 rfl x w
theorem kW (b o : Nat) (w : anV) : (aQ 47 (.pointer (some ⟨b, o, none⟩)) 2).run pg w = .ok (.value (.pointer (some ⟨b, o + 2, none⟩))) w := kX (i := 2) Tryd.underlying47 rfl Mf (by decide) _
theorem lZ (b o : Nat) (w : anV) : (aQ 47 (.pointer (some ⟨b, o, none⟩)) 1).run pg w = .ok (.value (.pointer (some ⟨b, o + 1, none⟩))) w := kX (i := 1) Tryd.underlying47 rfl Mf (by decide) _
theorem U7 : (pg).info? 27 = some Tryd.t27 := by kernel_rfl
theorem cW {k : IntKind} {a : Int} (b o : Nat) (w : anV) (h0 : 0 <= a) (h1 : a < 3) : (bB 29 (.pointer (some ⟨b, o, none⟩)) (.int k a)).run pg w = .ok (.value (.pointer (some ⟨b, o + a.toNat * 2, none⟩))) w := YX rfl Tryd.underlying29 U7 b o h0 (by simpa using h1)
theorem agA : (pg).info? 25 = some Tryd.t25 := by kernel_rfl
theorem bE (b o : Nat) (w : anV) : (aQ 27 (.pointer (some ⟨b, o, none⟩)) 1).run pg w = .ok (.value (.pointer (some ⟨b, o + 1, none⟩))) w := kX (i := 1) Tryd.underlying27 rfl agA (by decide) _
theorem bZ (x : Addr) (w : anV) : (aJ 25 (.pointer (some x))).run pg w = Y1 (w.cell? x) w (Xa pg 25 x w) := WD Tryd.underlying25 rfl x w
theorem fO {ty : TypeId} (x : Option Addr) (n c : Nat) (w : anV) : (jI .len #[25] ty [.slice x n c]).run pg w = .ok (.value (.int .i64 n)) w := SP Tryd.underlying25 x n c
theorem Bi {b off : Nat} {cs : List anW} {w : anV} (ho : cG w b cs) (h : off + 6 <= cs.length) {K : anW -> Prop} (hk : K (.agg ((cs.drop off).take 6).toArray)) : xA pg 29 (.pointer (some ⟨b, off, none⟩)) w K := OB Tryd.underlying29 rfl X8 ho h hk
theorem iD {b off : Nat} {cs : List anW} {w : anV} (ho : cG w b cs) (h : off + 6 <= cs.length) : (aJ 29 (.pointer (some ⟨b, off, none⟩))).run pg w = .ok (.value (.agg ((cs.drop off).take 6).toArray)) w := H2 Tryd.underlying29 rfl X8 ho h
theorem afV : (pg).info? 67 = some Tryd.t67 := by kernel_rfl
theorem SA {w : anV} {K : anW -> anV -> Prop} (hk : ∀ w', cG w' w.heap.size [(.int .i64 0), (.int .i64 0), (.int .i64 0)] -> aX w w' dG -> w'.heap.size = w.heap.size + 1 -> K (.pointer (some ⟨w.heap.size, 0, none⟩)) w') : aC pg (cM 67) w K := kD (i := Tryd.t67) afV rfl hk
theorem dX {b off : Nat} {cs : List anW} {w : anV} (ho : cG w b cs) (h : off + 2 <= cs.length) : (aJ 27 (.pointer (some ⟨b, off, none⟩))).run pg w = .ok (.value (.agg ((cs.drop off).take 2).toArray)) w := H2 Tryd.underlying27 rfl U7 ho h
theorem Ef : (pg).info? 3 = some Tryd.t3 := by kernel_rfl
theorem AM {k : IntKind} {a : Int} (b o : Nat) (w : anV) (h0 : 0 <= a) (h1 : a < 3) : (bB 67 (.pointer (some ⟨b, o, none⟩)) (.int k a)).run pg w = .ok (.value (.pointer (some ⟨b, o + a.toNat, none⟩))) w := Ll rfl Tryd.underlying67 Ef b o h0 (by simpa using h1)
theorem xV {b off : Nat} {cs : List anW} {w : anV} {v : anW} {K : anW -> anV -> Prop} (ho : cG w b cs) (hv : one v = true) (h : off < cs.length) (hk : ∀ w', cG w' b (cs.set off v) -> aX w w' (fun x => x = b) -> w'.heap.size = w.heap.size -> K undef w') : aC pg (aR 3 (.pointer (some ⟨b, off, none⟩)) v) w K := Ad Ef rfl ho hv h hk
theorem IY {w : anV} {K : anW -> anV -> Prop} (hk : ∀ w', cG w' w.heap.size [(.int .u32 0), (.int .u32 0), (.int .u32 0)] -> aX w w' dG -> w'.heap.size = w.heap.size + 1 -> K (.pointer (some ⟨w.heap.size, 0, none⟩)) w') : aC pg (cM 47) w K := kD (i := Tryd.t47) RJ rfl hk
theorem cP (x : Addr) (w : anV) : (aJ 3 (.pointer (some x))).run pg w = Y1 (w.cell? x) w (Xa pg 3 x w) := WD Tryd.underlying3 rfl x w
theorem Ln {b off : Nat} {cs : List anW} {w : anV} {v : anW} {K : anW -> anV -> Prop} (ho : cG w b cs) (hv : one v = true) (h : off < cs.length) (hk : ∀ w', cG w' b (cs.set off v) -> aX w w' (fun x => x = b) -> w'.heap.size = w.heap.size -> K undef w') : aC pg (aR 43 (.pointer (some ⟨b, off, none⟩)) v) w K := Ad Mf rfl ho hv h hk
theorem Pn {b off : Nat} {l : List anW} {w : anV} (hl : l.length = 3) (h : ∀ j, j < l.length -> w.cell? ⟨b, off + j, none⟩ = l[j]?) : (aJ 47 (.pointer (some ⟨b, off, none⟩))).run pg w = .ok (.value (.agg l.toArray)) w := Lw Tryd.underlying47 rfl RJ hl.symm h
theorem Aw {b off : Nat} {cs : List anW} {w : anV} (ho : cG w b cs) (h : off + 3 <= cs.length) : (aJ 47 (.pointer (some ⟨b, off, none⟩))).run pg w = .ok (.value (.agg ((cs.drop off).take 3).toArray)) w := H2 Tryd.underlying47 rfl RJ ho h
theorem hZ {base n m : Nat} {ty : TypeId} {w : anV} {v x : anW} {l news : List anW} (h : uK w base 3 v n l) (hx : Cl w 3 x m news) (hone : ∀ y ∈ news, one y = true) (hb : base <= w.heap.size) (hbytes : (n + m) * 12 <= 140737488355328) {K : anW -> anV -> Prop} (hk : ∀ v' w', uK w' base 3 v' (n + m) (l ++ news) -> aX w w' (fun y => base <= y) -> K v' w') : aC pg (jI .append #[24, 24] ty [v, x]) w K := Na (i := Tryd.t47) Tryd.underlying24 Tryd.underlying24 RJ rfl rfl rfl h hx hone hb (by omega) hbytes (by decide) hk
theorem sX (n0 : Int) (n1 : Int) (n2 : Int) (w : anV) : (cA 67 [(0, (.int .i64 n0)), (1, (.int .i64 n1)), (2, (.int .i64 n2))]).run pg w = .ok (.value (.agg #[(.int .i64 n0), (.int .i64 n1), (.int .i64 n2)])) w := by kernel_rfl
theorem DT {k : IntKind} {a : Int} (cs : Array anW) (w : anV) (h0 : 0 <= a) (h1 : a < 3) : (GH 67 (.agg cs) (.int k a)).run pg w = Y1 cs[a.toNat]? w (aeC pg 67 cs k a w) := aaU Tryd.underlying67 Tryd.underlying3 rfl Ef rfl cs h0 (by simpa using h1)
theorem adA : (pg).info? 30 = some Tryd.t30 := by kernel_rfl
theorem Cu (x : Addr) (w : anV) : (aJ 30 (.pointer (some x))).run pg w = Y1 (w.cell? x) w (Xa pg 30 x w) := WD Tryd.underlying30 rfl x w
theorem dI {k : IntKind} (a : Int) (w : anV) : (fG 73 3 (.int k a)).run pg w = .ok (.value (.int .i64 (IntKind.i64.wrap a))) w := AN Tryd.underlying73 Tryd.underlying3
theorem Tz {n : Nat} {ps : List (Nat × anW)} {cells : Array anW} {w : anV} (h1 : ¬ n * 1 > 2 ^ 24) (h0 : ¬ n * 1 = 0) (hf : Go.Instr.fill (fun j => some (j * 1, 1)) ((Array.range (n * 1)).map ((Tryd.t3.zero.get!).cells[· % (Tryd.t3.zero.get!).cells.size]!)) ps = some cells) {K : anW -> anV -> Prop} (hk : ∀ w', cG w' w.heap.size cells.toList -> aX w w' dG -> w'.heap.size = w.heap.size + 1 -> K (.slice (some ⟨w.heap.size, 0, none⟩) n n) w') : aC pg (dB 77 n ps) w K := HD (i := Tryd.t3) Tryd.underlying77 Ef rfl h1 h0 hf hk
theorem dS {k : IntKind} {a : Int} (b o n c : Nat) (w : anV) (h0 : 0 <= a) (h1 : a < n) : (bB 77 (.slice (some ⟨b, o, none⟩) n c) (.int k a)).run pg w = .ok (.value (.pointer (some ⟨b, o + a.toNat, none⟩))) w := Pz rfl Tryd.underlying77 Ef b o n c h0 h1
theorem mH {ty : TypeId} (x : Option Addr) (n c : Nat) (w : anV) : (jI .len #[91] ty [.slice x n c]).run pg w = .ok (.value (.int .i64 n)) w := SP Tryd.underlying91 x n c
theorem Co {k : IntKind} {a : Int} (b o n c : Nat) (w : anV) (h0 : 0 <= a) (h1 : a < n) : (bB 91 (.slice (some ⟨b, o, none⟩) n c) (.int k a)).run pg w = .ok (.value (.pointer (some ⟨b, o + a.toNat, none⟩))) w := Pz rfl Tryd.underlying91 Mf b o n c h0 h1
theorem iR {k : IntKind} (a : Int) (w : anV) : (fG 3 94 (.int k a)).run pg w = .ok (.value (.int .u64 (IntKind.u64.wrap a))) w := AN Tryd.underlying3 Tryd.underlying94
theorem rU {n : Nat} {ps : List (Nat × anW)} {cells : Array anW} {w : anV} (h1 : ¬ n * 1 > 2 ^ 24) (h0 : ¬ n * 1 = 0) (hf : Go.Instr.fill (fun j => some (j * 1, 1)) ((Array.range (n * 1)).map ((Tryd.t5.zero.get!).cells[· % (Tryd.t5.zero.get!).cells.size]!)) ps = some cells) {K : anW -> anV -> Prop} (hk : ∀ w', cG w' w.heap.size cells.toList -> aX w w' dG -> w'.heap.size = w.heap.size + 1 -> K (.slice (some ⟨w.heap.size, 0, none⟩) n n) w') : aC pg (dB 22 n ps) w K := HD (i := Tryd.t5) Tryd.underlying22 PH rfl h1 h0 hf hk
theorem eN {k : IntKind} (a : Int) (w : anV) : (fG 3 73 (.int k a)).run pg w = .ok (.value (.int .u64 (IntKind.u64.wrap a))) w := AN Tryd.underlying3 Tryd.underlying73
theorem XI : (pg).info? 98 = some Tryd.t98 := by kernel_rfl
theorem AT {w : anV} {K : anW -> anV -> Prop} (hk : ∀ w', cG w' w.heap.size [(.slice none 0 0), (.slice none 0 0), (.slice none 0 0)] -> aX w w' dG -> w'.heap.size = w.heap.size + 1 -> K (.pointer (some ⟨w.heap.size, 0, none⟩)) w') : aC pg (cM 98) w K := kD (i := Tryd.t98) XI rfl hk
theorem CR {b off : Nat} {cs : List anW} {w : anV} {xs : Array anW} {K : anW -> anV -> Prop} (ho : cG w b cs) (hs : xs.size = 3) (hv : ∀ x ∈ xs.toList, one x = true) (h : off + 3 <= cs.length) (hk : ∀ w', cG w' b (bQ cs off xs.toList) -> aX w w' (fun x => x = b) -> w'.heap.size = w.heap.size -> K undef w') : aC pg (aR 98 (.pointer (some ⟨b, off, none⟩)) (.agg xs)) w K := kN (v := .agg xs) XI ho hs hv h hk
theorem Z6 : (pg).info? 77 = some Tryd.t77 := by kernel_rfl
theorem uI {k : IntKind} {a : Int} (b o : Nat) (w : anV) (h0 : 0 <= a) (h1 : a < 3) : (bB 98 (.pointer (some ⟨b, o, none⟩)) (.int k a)).run pg w = .ok (.value (.pointer (some ⟨b, o + a.toNat, none⟩))) w := Ll rfl Tryd.underlying98 Z6 b o h0 (by simpa using h1)
theorem dU (x : Addr) (w : anV) : (aJ 77 (.pointer (some x))).run pg w = Y1 (w.cell? x) w (Xa pg 77 x w) := WD Tryd.underlying77 rfl x w
theorem fI {w : anV} {K : anW -> anV -> Prop} (hk : ∀ w', cG w' w.heap.size [(.int .i64 0), (.slice none 0 0)] -> aX w w' dG -> w'.heap.size = w.heap.size + 1 -> K (.pointer (some ⟨w.heap.size, 0, none⟩)) w') : aC pg (cM 27) w K := kD (i := Tryd.t27) U7 rfl hk
theorem cI {b off : Nat} {cs : List anW} {w : anV} {xs : Array anW} {K : anW -> anV -> Prop} (ho : cG w b cs) (hs : xs.size = 2) (hv : ∀ x ∈ xs.toList, one x = true) (h : off + 2 <= cs.length) (hk : ∀ w', cG w' b (bQ cs off xs.toList) -> aX w w' (fun x => x = b) -> w'.heap.size = w.heap.size -> K undef w') : aC pg (aR 27 (.pointer (some ⟨b, off, none⟩)) (.agg xs)) w K := kN (v := .agg xs) U7 ho hs hv h hk
theorem KA {base n m : Nat} {ty : TypeId} {w : anV} {v x : anW} {l news : List anW} (h : uK w base 1 v n l) (hx : Cl w 1 x m news) (hone : ∀ y ∈ news, one y = true) (hb : base <= w.heap.size) (hbytes : (n + m) * 1 <= 140737488355328) {K : anW -> anV -> Prop} (hk : ∀ v' w', uK w' base 1 v' (n + m) (l ++ news) -> aX w w' (fun y => base <= y) -> K v' w') : aC pg (jI .append #[22, 22] ty [v, x]) w K := Na (i := Tryd.t5) Tryd.underlying22 Tryd.underlying22 PH rfl rfl rfl h hx hone hb (by omega) hbytes (by decide) hk
theorem Dp {b off : Nat} {cs : List anW} {w : anV} (ho : cG w b cs) (h : off + 3 <= cs.length) : (aJ 98 (.pointer (some ⟨b, off, none⟩))).run pg w = .ok (.value (.agg ((cs.drop off).take 3).toArray)) w := H2 Tryd.underlying98 rfl XI ho h
theorem Nd (a0 : Option Addr) (l0 c0 : Nat) (w : anV) : (cA 112 [(0, (.slice a0 l0 c0))]).run pg w = .ok (.value (.agg #[(.slice a0 l0 c0), (.int .i64 0)])) w := by kernel_rfl
theorem mK {ox oy : Operand} (x : Option Addr) (w : anV) : (aF .eql 56 ox oy (.pointer x) (.pointer none)).run pg w = .ok (.value (.bool x.isNone)) w := Sr Tryd.underlying56 x
theorem pH (b o : Nat) (w : anV) : (aQ 112 (.pointer (some ⟨b, o, none⟩)) 1).run pg w = .ok (.value (.pointer (some ⟨b, o + 1, none⟩))) w := kX (i := 1) Tryd.underlying112 rfl adA (by decide) _
theorem TO : (pg).info? 22 = some Tryd.t22 := by kernel_rfl
theorem pM (b o : Nat) (w : anV) : (aQ 112 (.pointer (some ⟨b, o, none⟩)) 0).run pg w = .ok (.value (.pointer (some ⟨b, o, none⟩))) w := kX (i := 0) Tryd.underlying112 rfl TO (by decide) _
theorem eL (x : Addr) (w : anV) : (aJ 22 (.pointer (some x))).run pg w = Y1 (w.cell? x) w (Xa pg 22 x w) := WD Tryd.underlying22 rfl x w
theorem rI {k : IntKind} {lo : Int} (a : Option Addr) (n c : Nat) (w : anV) (h0 : 0 <= lo) (h1 : lo <= n) : (fW 22 (.slice a n c) (some (.int k lo)) none none).run pg w = .ok (.value (.slice (gU a c (lo.toNat) 1) (n - lo.toNat) (c - lo.toNat))) w := WC Tryd.underlying22 PH _ n c h0 h1
theorem Zt : (pg).info? 112 = some Tryd.t112 := by kernel_rfl
theorem NG {b off : Nat} {cs : List anW} {w : anV} (ho : cG w b cs) (h : off + 2 <= cs.length) : (aJ 112 (.pointer (some ⟨b, off, none⟩))).run pg w = .ok (.value (.agg ((cs.drop off).take 2).toArray)) w := H2 Tryd.underlying112 rfl Zt ho h
theorem Nx {b off : Nat} {cs : List anW} {w : anV} {xs : Array anW} {K : anW -> anV -> Prop} (ho : cG w b cs) (hs : xs.size = 2) (hv : ∀ x ∈ xs.toList, one x = true) (h : off + 2 <= cs.length) (hk : ∀ w', cG w' b (bQ cs off xs.toList) -> aX w w' (fun x => x = b) -> w'.heap.size = w.heap.size -> K undef w') : aC pg (aR 112 (.pointer (some ⟨b, off, none⟩)) (.agg xs)) w K := kN (v := .agg xs) Zt ho hs hv h hk
theorem KI (a0 : Option Addr) (l0 c0 : Nat) (n1 : Int) (w : anV) : (cA 118 [(0, (.slice a0 l0 c0)), (1, (.int .i64 n1))]).run pg w = .ok (.value (.agg #[(.slice a0 l0 c0), (.int .i64 n1)])) w := by kernel_rfl
theorem Hb (b o : Nat) (w : anV) : (aQ 27 (.pointer (some ⟨b, o, none⟩)) 0).run pg w = .ok (.value (.pointer (some ⟨b, o, none⟩))) w := kX (i := 0) Tryd.underlying27 rfl Ef (by decide) _
theorem O8 : (pg).info? 123 = some Tryd.t123 := by kernel_rfl
theorem kO {k : IntKind} {a : Int} (b o n c : Nat) (w : anV) (h0 : 0 <= a) (h1 : a < n) : (bB 25 (.slice (some ⟨b, o, none⟩) n c) (.int k a)).run pg w = .ok (.value (.pointer (some ⟨b, o + a.toNat * 3, none⟩))) w := TD rfl Tryd.underlying25 O8 b o n c h0 h1
theorem eY (b o : Nat) (w : anV) : (aQ 123 (.pointer (some ⟨b, o, none⟩)) 0).run pg w = .ok (.value (.pointer (some ⟨b, o, none⟩))) w := kX (i := 0) Tryd.underlying123 rfl PH (by decide) _
theorem pC {k : IntKind} (a : Int) (w : anV) : (fG 5 3 (.int k a)).run pg w = .ok (.value (.int .i64 (IntKind.i64.wrap a))) w := AN Tryd.underlying5 Tryd.underlying3
theorem OX {k : IntKind} (a : Int) (w : anV) : (fG 73 43 (.int k a)).run pg w = .ok (.value (.int .u32 (IntKind.u32.wrap a))) w := AN Tryd.underlying73 Tryd.underlying43
theorem F9 {b off : Nat} {cs : List anW} {w : anV} (ho : cG w b cs) (h : off + 3 <= cs.length) : (aJ 123 (.pointer (some ⟨b, off, none⟩))).run pg w = .ok (.value (.agg ((cs.drop off).take 3).toArray)) w := H2 Tryd.underlying123 rfl O8 ho h
theorem Iv {w : anV} {K : anW -> anV -> Prop} (hk : ∀ w', cG w' w.heap.size [(.int .u8 0), (.int .i64 0), (.int .i64 0)] -> aX w w' dG -> w'.heap.size = w.heap.size + 1 -> K (.pointer (some ⟨w.heap.size, 0, none⟩)) w') : aC pg (cM 123) w K := kD (i := Tryd.t123) O8 rfl hk
theorem FF {b off : Nat} {cs : List anW} {w : anV} {xs : Array anW} {K : anW -> anV -> Prop} (ho : cG w b cs) (hs : xs.size = 3) (hv : ∀ x ∈ xs.toList, one x = true) (h : off + 3 <= cs.length) (hk : ∀ w', cG w' b (bQ cs off xs.toList) -> aX w w' (fun x => x = b) -> w'.heap.size = w.heap.size -> K undef w') : aC pg (aR 123 (.pointer (some ⟨b, off, none⟩)) (.agg xs)) w K := kN (v := .agg xs) O8 ho hs hv h hk
theorem kG (b o : Nat) (w : anV) : (aQ 123 (.pointer (some ⟨b, o, none⟩)) 2).run pg w = .ok (.value (.pointer (some ⟨b, o + 2, none⟩))) w := kX (i := 2) Tryd.underlying123 rfl Ef (by decide) _
theorem iK (b o : Nat) (w : anV) : (aQ 123 (.pointer (some ⟨b, o, none⟩)) 1).run pg w = .ok (.value (.pointer (some ⟨b, o + 1, none⟩))) w := kX (i := 1) Tryd.underlying123 rfl Ef (by decide) _
theorem sC {ox oy : Operand} (x : Option Addr) (w : anV) : (aF .eql 63 ox oy (.pointer x) (.pointer none)).run pg w = .ok (.value (.bool x.isNone)) w := Sr Tryd.underlying63 x
theorem qM (b o : Nat) (w : anV) : (aQ 118 (.pointer (some ⟨b, o, none⟩)) 1).run pg w = .ok (.value (.pointer (some ⟨b, o + 1, none⟩))) w := kX (i := 1) Tryd.underlying118 rfl Ef (by decide) _
theorem Un {b off : Nat} {cs : List anW} {w : anV} {v : anW} {K : anW -> anV -> Prop} (ho : cG w b cs) (hv : one v = true) (h : off < cs.length) (hk : ∀ w', cG w' b (cs.set off v) -> aX w w' (fun x => x = b) -> w'.heap.size = w.heap.size -> K undef w') : aC pg (aR 30 (.pointer (some ⟨b, off, none⟩)) v) w K := Ad adA rfl ho hv h hk
theorem O6 {k : IntKind} {a : Int} (x : ByteArray) (w : anV) (h0 : 0 <= a) (h1 : a.toNat < x.size) : (GH 9 (.string x) (.int k a)).run pg w = .ok (.value (.int .u8 (x[a.toNat]'h1).toNat)) w := aeT Tryd.underlying9 x h0 h1
theorem II {k : IntKind} (a : Int) (w : anV) : (fG 5 73 (.int k a)).run pg w = .ok (.value (.int .u64 (IntKind.u64.wrap a))) w := AN Tryd.underlying5 Tryd.underlying73
theorem PV {base n m : Nat} {ty : TypeId} {w : anV} {v x : anW} {l news : List anW} (h : uK w base 1 v n l) (hx : Cl w 1 x m news) (hone : ∀ y ∈ news, one y = true) (hb : base <= w.heap.size) (hbytes : (n + m) * 8 <= 140737488355328) {K : anW -> anV -> Prop} (hk : ∀ v' w', uK w' base 1 v' (n + m) (l ++ news) -> aX w w' (fun y => base <= y) -> K v' w') : aC pg (jI .append #[77, 77] ty [v, x]) w K := Na (i := Tryd.t3) Tryd.underlying77 Tryd.underlying77 Ef rfl rfl rfl h hx hone hb (by omega) hbytes (by decide) hk
theorem NF  (w : anV) : (cA 141 []).run pg w = .ok (.value (.agg #[(.slice none 0 0)])) w := by kernel_rfl
theorem Bf {ox oy : Operand} (x : Option Addr) (w : anV) : (aF .eql 95 ox oy (.pointer x) (.pointer none)).run pg w = .ok (.value (.bool x.isNone)) w := Sr Tryd.underlying95 x
theorem pE (b o : Nat) (w : anV) : (aQ 141 (.pointer (some ⟨b, o, none⟩)) 0).run pg w = .ok (.value (.pointer (some ⟨b, o, none⟩))) w := kX (i := 0) Tryd.underlying141 rfl TO (by decide) _
theorem pZ {k : IntKind} (a : Int) (w : anV) : (fG 73 5 (.int k a)).run pg w = .ok (.value (.int .u8 (IntKind.u8.wrap a))) w := AN Tryd.underlying73 Tryd.underlying5
theorem Bg {b off : Nat} {cs : List anW} {w : anV} {v : anW} {K : anW -> anV -> Prop} (ho : cG w b cs) (hv : one v = true) (h : off < cs.length) (hk : ∀ w', cG w' b (cs.set off v) -> aX w w' (fun x => x = b) -> w'.heap.size = w.heap.size -> K undef w') : aC pg (aR 22 (.pointer (some ⟨b, off, none⟩)) v) w K := Ad TO rfl ho hv h hk
theorem Sz {b off : Nat} {cs : List anW} {w : anV} (ho : cG w b cs) (h : off + 3 <= cs.length) {K : anW -> Prop} (hk : K (.agg ((cs.drop off).take 3).toArray)) : xA pg 98 (.pointer (some ⟨b, off, none⟩)) w K := OB Tryd.underlying98 rfl XI ho h hk
theorem PZ {b off : Nat} {cs : List anW} {w : anV} {xs : Array anW} {K : anW -> anV -> Prop} (ho : cG w b cs) (hs : xs.size = 3) (hv : ∀ x ∈ xs.toList, one x = true) (h : off + 3 <= cs.length) (hk : ∀ w', cG w' b (bQ cs off xs.toList) -> aX w w' (fun x => x = b) -> w'.heap.size = w.heap.size -> K undef w') : aC pg (aR 47 (.pointer (some ⟨b, off, none⟩)) (.agg xs)) w K := kN (v := .agg xs) RJ ho hs hv h hk
theorem Tb {k : IntKind} {a : Int} (cs : Array anW) (w : anV) (h0 : 0 <= a) (h1 : a < 3) : (GH 142 (.agg cs) (.int k a)).run pg w = Y1 cs[a.toNat]? w (aeC pg 142 cs k a w) := aaU Tryd.underlying142 Tryd.underlying43 rfl Mf rfl cs h0 (by simpa using h1)
theorem Pp {b off : Nat} {cs : List anW} {w : anV} {v : anW} {K : anW -> anV -> Prop} (ho : cG w b cs) (hv : one v = true) (h : off < cs.length) (hk : ∀ w', cG w' b (cs.set off v) -> aX w w' (fun x => x = b) -> w'.heap.size = w.heap.size -> K undef w') : aC pg (aR 77 (.pointer (some ⟨b, off, none⟩)) v) w K := Ad Z6 rfl ho hv h hk
theorem lA {b off : Nat} {cs : List anW} {w : anV} (ho : cG w b cs) (h : off + 2 <= cs.length) {K : anW -> Prop} (hk : K (.agg ((cs.drop off).take 2).toArray)) : xA pg 27 (.pointer (some ⟨b, off, none⟩)) w K := OB Tryd.underlying27 rfl U7 ho h hk
theorem fV {ty : TypeId} (x : Option Addr) (n c : Nat) (w : anV) : (jI .len #[77] ty [.slice x n c]).run pg w = .ok (.value (.int .i64 n)) w := SP Tryd.underlying77 x n c
theorem dQ  (w : anV) : (cA 27 []).run pg w = .ok (.value (.agg #[(.int .i64 0), (.slice none 0 0)])) w := by kernel_rfl
theorem afA : (pg).info? 144 = some Tryd.t144 := by kernel_rfl
theorem QI {w : anV} {K : anW -> anV -> Prop} (hk : ∀ w', cG w' w.heap.size [(.int .u32 0), (.int .u32 0), (.int .u32 0), (.int .u32 0), (.int .u32 0), (.int .u32 0), (.int .u32 0), (.int .u32 0), (.int .u32 0), (.int .u32 0), (.int .u32 0), (.int .u32 0), (.int .u32 0), (.int .u32 0), (.int .u32 0), (.int .u32 0), (.int .u32 0), (.int .u32 0), (.int .u32 0), (.int .u32 0), (.int .u32 0), (.int .u32 0), (.int .u32 0), (.int .u32 0), (.int .u32 0), (.int .u32 0), (.int .u32 0), (.int .u32 0), (.int .u32 0), (.int .u32 0), (.int .u32 0), (.int .u32 0), (.int .u32 0), (.int .u32 0), (.int .u32 0), (.int .u32 0), (.int .u32 0), (.int .u32 0), (.int .u32 0), (.int .u32 0), (.int .u32 0), (.int .u32 0), (.int .u32 0), (.int .u32 0), (.int .u32 0), (.int .u32 0), (.int .u32 0), (.int .u32 0), (.int .u32 0), (.int .u32 0), (.int .u32 0), (.int .u32 0), (.int .u32 0), (.int .u32 0), (.int .u32 0), (.int .u32 0), (.int .u32 0), (.int .u32 0), (.int .u32 0), (.int .u32 0), (.int .u32 0), (.int .u32 0), (.int .u32 0), (.int .u32 0), (.int .u32 0), (.int .u32 0), (.int .u32 0), (.int .u32 0), (.int .u32 0), (.int .u32 0), (.int .u32 0), (.int .u32 0), (.int .u32 0), (.int .u32 0), (.int .u32 0), (.int .u32 0), (.int .u32 0), (.int .u32 0), (.int .u32 0), (.int .u32 0), (.int .u32 0), (.int .u32 0), (.int .u32 0), (.int .u32 0), (.int .u32 0), (.int .u32 0), (.int .u32 0), (.int .u32 0), (.int .u32 0), (.int .u32 0), (.int .u32 0), (.int .u32 0), (.int .u32 0), (.int .u32 0), (.int .u32 0), (.int .u32 0), (.int .u32 0), (.int .u32 0), (.int .u32 0), (.int .u32 0), (.int .u32 0), (.int .u32 0), (.int .u32 0), (.int .u32 0), (.int .u32 0), (.int .u32 0), (.int .u32 0), (.int .u32 0), (.int .u32 0), (.int .u32 0), (.int .u32 0), (.int .u32 0), (.int .u32 0), (.int .u32 0), (.int .u32 0), (.int .u32 0), (.int .u32 0), (.int .u32 0), (.int .u32 0), (.int .u32 0), (.int .u32 0), (.int .u32 0), (.int .u32 0), (.int .u32 0), (.int .u32 0), (.int .u32 0), (.int .u32 0), (.int .u32 0), (.int .u32 0), (.int .u32 0), (.int .u32 0), (.int .u32 0), (.int .u32 0), (.int .u32 0), (.int .u32 0), (.int .u32 0), (.int .u32 0), (.int .u32 0), (.int .u32 0), (.int .u32 0), (.int .u32 0), (.int .u32 0), (.int .u32 0), (.int .u32 0), (.int .u32 0), (.int .u32 0), (.int .u32 0), (.int .u32 0), (.int .u32 0), (.int .u32 0), (.int .u32 0), (.int .u32 0), (.int .u32 0), (.int .u32 0), (.int .u32 0), (.int .u32 0), (.int .u32 0), (.int .u32 0), (.int .u32 0), (.int .u32 0), (.int .u32 0), (.int .u32 0), (.int .u32 0), (.int .u32 0), (.int .u32 0), (.int .u32 0), (.int .u32 0), (.int .u32 0), (.int .u32 0), (.int .u32 0), (.int .u32 0), (.int .u32 0), (.int .u32 0), (.int .u32 0), (.int .u32 0), (.int .u32 0), (.int .u32 0), (.int .u32 0), (.int .u32 0), (.int .u32 0), (.int .u32 0), (.int .u32 0), (.int .u32 0), (.int .u32 0), (.int .u32 0), (.int .u32 0), (.int .u32 0), (.int .u32 0), (.int .u32 0), (.int .u32 0), (.int .u32 0), (.int .u32 0), (.int .u32 0), (.int .u32 0), (.int .u32 0), (.int .u32 0), (.int .u32 0), (.int .u32 0), (.int .u32 0), (.int .u32 0), (.int .u32 0), (.int .u32 0), (.int .u32 0), (.int .u32 0), (.int .u32 0), (.int .u32 0), (.int .u32 0), (.int .u32 0), (.int .u32 0), (.int .u32 0), (.int .u32 0), (.int .u32 0), (.int .u32 0), (.int .u32 0), (.int .u32 0), (.int .u32 0), (.int .u32 0), (.int .u32 0), (.int .u32 0), (.int .u32 0), (.int .u32 0), (.int .u32 0), (.int .u32 0), (.int .u32 0), (.int .u32 0), (.int .u32 0), (.int .u32 0), (.int .u32 0), (.int .u32 0), (.int .u32 0), (.int .u32 0), (.int .u32 0), (.int .u32 0), (.int .u32 0), (.int .u32 0), (.int .u32 0), (.int .u32 0), (.int .u32 0), (.int .u32 0), (.int .u32 0), (.int .u32 0), (.int .u32 0), (.int .u32 0), (.int .u32 0), (.int .u32 0), (.int .u32 0), (.int .u32 0), (.int .u32 0), (.int .u32 0), (.int .u32 0), (.int .u32 0), (.int .u32 0), (.int .u32 0), (.int .u32 0), (.int .u32 0), (.int .u32 0)] -> aX w w' dG -> w'.heap.size = w.heap.size + 1 -> K (.pointer (some ⟨w.heap.size, 0, none⟩)) w') : aC pg (cM 144) w K := kD (i := Tryd.t144) afA rfl hk
theorem Q7 {k : IntKind} {a : Int} (b o : Nat) (w : anV) (h0 : 0 <= a) (h1 : a < 256) : (bB 144 (.pointer (some ⟨b, o, none⟩)) (.int k a)).run pg w = .ok (.value (.pointer (some ⟨b, o + a.toNat, none⟩))) w := Ll rfl Tryd.underlying144 Mf b o h0 (by simpa using h1)
theorem Ux : (pg).info? 145 = some Tryd.t145 := by kernel_rfl
theorem fQ {w : anV} {K : anW -> anV -> Prop} (hk : ∀ w', cG w' w.heap.size [(.int .i64 0), (.slice none 0 0)] -> aX w w' dG -> w'.heap.size = w.heap.size + 1 -> K (.pointer (some ⟨w.heap.size, 0, none⟩)) w') : aC pg (cM 145) w K := kD (i := Tryd.t145) Ux rfl hk
theorem cY {b off : Nat} {cs : List anW} {w : anV} {xs : Array anW} {K : anW -> anV -> Prop} (ho : cG w b cs) (hs : xs.size = 2) (hv : ∀ x ∈ xs.toList, one x = true) (h : off + 2 <= cs.length) (hk : ∀ w', cG w' b (bQ cs off xs.toList) -> aX w w' (fun x => x = b) -> w'.heap.size = w.heap.size -> K undef w') : aC pg (aR 145 (.pointer (some ⟨b, off, none⟩)) (.agg xs)) w K := kN (v := .agg xs) Ux ho hs hv h hk
theorem iN {k : IntKind} (a : Int) (w : anV) : (fG 3 5 (.int k a)).run pg w = .ok (.value (.int .u8 (IntKind.u8.wrap a))) w := AN Tryd.underlying3 Tryd.underlying5
theorem aV (b o : Nat) (w : anV) : (aQ 145 (.pointer (some ⟨b, o, none⟩)) 1).run pg w = .ok (.value (.pointer (some ⟨b, o + 1, none⟩))) w := kX (i := 1) Tryd.underlying145 rfl Z6 (by decide) _
theorem dV {b off : Nat} {cs : List anW} {w : anV} (ho : cG w b cs) (h : off + 2 <= cs.length) : (aJ 145 (.pointer (some ⟨b, off, none⟩))).run pg w = .ok (.value (.agg ((cs.drop off).take 2).toArray)) w := H2 Tryd.underlying145 rfl Ux ho h
theorem wA {k : IntKind} {hi : Int} (b o : Nat) (w : anV) (h0 : 0 <= hi) (h1 : hi <= 256) : (fW 144 (.pointer (some ⟨b, o, none⟩)) none (some (.int k hi)) none).run pg w = .ok (.value (.slice (some (pB ⟨b, o, none⟩ 256 (0) 1)) (hi.toNat - 0) (256 - 0))) w := VJ Tryd.underlying144 Mf _ h0 (by simpa using h1)
theorem W5 : (pg).info? 142 = some Tryd.t142 := by kernel_rfl
theorem Mj {w : anV} {K : anW -> anV -> Prop} (hk : ∀ w', cG w' w.heap.size [(.int .u32 0), (.int .u32 0), (.int .u32 0)] -> aX w w' dG -> w'.heap.size = w.heap.size + 1 -> K (.pointer (some ⟨w.heap.size, 0, none⟩)) w') : aC pg (cM 142) w K := kD (i := Tryd.t142) W5 rfl hk
theorem Kd {b off : Nat} {cs : List anW} {w : anV} {xs : Array anW} {K : anW -> anV -> Prop} (ho : cG w b cs) (hs : xs.size = 3) (hv : ∀ x ∈ xs.toList, one x = true) (h : off + 3 <= cs.length) (hk : ∀ w', cG w' b (bQ cs off xs.toList) -> aX w w' (fun x => x = b) -> w'.heap.size = w.heap.size -> K undef w') : aC pg (aR 142 (.pointer (some ⟨b, off, none⟩)) (.agg xs)) w K := kN (v := .agg xs) W5 ho hs hv h hk
theorem Ti {k : IntKind} {a : Int} (b o : Nat) (w : anV) (h0 : 0 <= a) (h1 : a < 3) : (bB 142 (.pointer (some ⟨b, o, none⟩)) (.int k a)).run pg w = .ok (.value (.pointer (some ⟨b, o + a.toNat, none⟩))) w := Ll rfl Tryd.underlying142 Mf b o h0 (by simpa using h1)
theorem nV {k : IntKind} (a : Int) (w : anV) : (fG 43 73 (.int k a)).run pg w = .ok (.value (.int .u64 (IntKind.u64.wrap a))) w := AN Tryd.underlying43 Tryd.underlying73
theorem J8 {ox oy : Operand} (x : Option Addr) (w : anV) : (aF .neq 95 ox oy (.pointer x) (.pointer none)).run pg w = .ok (.value (.bool (!x.isNone))) w := aeS Tryd.underlying95 x
theorem Su (n0 : Int) (w : anV) : (cA 123 [(0, (.int .u8 n0))]).run pg w = .ok (.value (.agg #[(.int .u8 n0), (.int .i64 0), (.int .i64 0)])) w := by kernel_rfl
theorem QO {n : Nat} {ps : List (Nat × anW)} {cells : Array anW} {w : anV} (h1 : ¬ n * 3 > 2 ^ 24) (h0 : ¬ n * 3 = 0) (hf : Go.Instr.fill (fun j => some (j * 3, 3)) ((Array.range (n * 3)).map ((Tryd.t123.zero.get!).cells[· % (Tryd.t123.zero.get!).cells.size]!)) ps = some cells) {K : anW -> anV -> Prop} (hk : ∀ w', cG w' w.heap.size cells.toList -> aX w w' dG -> w'.heap.size = w.heap.size + 1 -> K (.slice (some ⟨w.heap.size, 0, none⟩) n n) w') : aC pg (dB 25 n ps) w K := HD (i := Tryd.t123) Tryd.underlying25 O8 rfl h1 h0 hf hk
theorem SY (a0 : Option Addr) (l0 c0 : Nat) (w : anV) : (cA 27 [(1, (.slice a0 l0 c0))]).run pg w = .ok (.value (.agg #[(.int .i64 0), (.slice a0 l0 c0)])) w := by kernel_rfl
theorem Ml {ox oy : Operand} (x : Option Addr) (n c : Nat) (w : anV) : (aF .eql 22 ox oy (.slice x n c) (.slice none 0 0)).run pg w = .ok (.value (.bool x.isNone)) w := abO Tryd.underlying22 x n c
theorem SL {k k' : IntKind} {hi mx : Int} (a : Option Addr) (n c : Nat) (w : anV) (h0 : 0 <= hi) (h1 : hi <= mx) (h2 : mx <= c) : (fW 22 (.slice a n c) none (some (.int k hi)) (some (.int k' mx))).run pg w = .ok (.value (.slice (gU a mx.toNat 0 1) (hi.toNat - 0) (mx.toNat - 0))) w := Xo Tryd.underlying22 PH a n c h0 h1 h2
theorem DY (b o : Nat) (w : anV) : (aQ 118 (.pointer (some ⟨b, o, none⟩)) 0).run pg w = .ok (.value (.pointer (some ⟨b, o, none⟩))) w := kX (i := 0) Tryd.underlying118 rfl TO (by decide) _
theorem AX {k : IntKind} (a : Int) (w : anV) : (fG 3 43 (.int k a)).run pg w = .ok (.value (.int .u32 (IntKind.u32.wrap a))) w := AN Tryd.underlying3 Tryd.underlying43
theorem UK {k : IntKind} {hi : Int} (a : Option Addr) (n c : Nat) (w : anV) (h0 : 0 <= hi) (h1 : hi <= c) : (fW 77 (.slice a n c) none (some (.int k hi)) none).run pg w = .ok (.value (.slice (gU a c (0) 1) (hi.toNat - 0) (c - 0))) w := RV Tryd.underlying77 Ef _ n c h0 h1
theorem SV {b off : Nat} {cs : List anW} {w : anV} (ho : cG w b cs) (h : off + 3 <= cs.length) {K : anW -> Prop} (hk : K (.agg ((cs.drop off).take 3).toArray)) : xA pg 142 (.pointer (some ⟨b, off, none⟩)) w K := OB Tryd.underlying142 rfl W5 ho h hk
theorem LH (n0 : Int) (n1 : Int) (n2 : Int) (w : anV) : (cA 142 [(0, (.int .u32 n0)), (1, (.int .u32 n1)), (2, (.int .u32 n2))]).run pg w = .ok (.value (.agg #[(.int .u32 n0), (.int .u32 n1), (.int .u32 n2)])) w := by kernel_rfl
theorem Tl {k : IntKind} (a : Int) (w : anV) : (fG 43 3 (.int k a)).run pg w = .ok (.value (.int .i64 (IntKind.i64.wrap a))) w := AN Tryd.underlying43 Tryd.underlying3
theorem gX {b off : Nat} {cs : List anW} {w : anV} (ho : cG w b cs) (h : off + 2 <= cs.length) {K : anW -> Prop} (hk : K (.agg ((cs.drop off).take 2).toArray)) : xA pg 145 (.pointer (some ⟨b, off, none⟩)) w K := OB Tryd.underlying145 rfl Ux ho h hk
theorem W1 : (pg).info? 174 = some Tryd.t174 := by kernel_rfl
theorem US {b off : Nat} {l : List anW} {w : anV} (hl : l.length = 36) (h : ∀ j, j < l.length -> w.cell? ⟨b, off + j, none⟩ = l[j]?) : (aJ 174 (.pointer (some ⟨b, off, none⟩))).run pg w = .ok (.value (.agg l.toArray)) w := Lw Tryd.underlying174 rfl W1 hl.symm h
theorem V7 {w : anV} {K : anW -> anV -> Prop} (hk : ∀ w', cG w' w.heap.size [(.int .i64 0), (.int .i64 0), (.int .i64 0), (.int .i64 0), (.int .i64 0), (.int .i64 0), (.int .i64 0), (.int .i64 0), (.int .i64 0), (.int .i64 0), (.int .i64 0), (.int .i64 0), (.int .i64 0), (.int .i64 0), (.int .i64 0), (.int .i64 0), (.int .i64 0), (.int .i64 0), (.int .i64 0), (.int .i64 0), (.int .i64 0), (.int .i64 0), (.int .i64 0), (.int .i64 0), (.int .i64 0), (.int .i64 0), (.int .i64 0), (.int .i64 0), (.int .i64 0), (.int .i64 0), (.int .i64 0), (.int .i64 0), (.int .i64 0), (.int .i64 0), (.int .i64 0), (.int .i64 0)] -> aX w w' dG -> w'.heap.size = w.heap.size + 1 -> K (.pointer (some ⟨w.heap.size, 0, none⟩)) w') : aC pg (cM 174) w K := kD (i := Tryd.t174) W1 rfl hk
theorem Ud {b off : Nat} {cs : List anW} {w : anV} {xs : Array anW} {K : anW -> anV -> Prop} (ho : cG w b cs) (hs : xs.size = 36) (hv : ∀ x ∈ xs.toList, one x = true) (h : off + 36 <= cs.length) (hk : ∀ w', cG w' b (bQ cs off xs.toList) -> aX w w' (fun x => x = b) -> w'.heap.size = w.heap.size -> K undef w') : aC pg (aR 174 (.pointer (some ⟨b, off, none⟩)) (.agg xs)) w K := kN (v := .agg xs) W1 ho hs hv h hk
theorem Ro  (b o : Nat) (w : anV)  : (fW 174 (.pointer (some ⟨b, o, none⟩)) none none none).run pg w = .ok (.value (.slice (some (pB ⟨b, o, none⟩ 36 (0) 1)) (36 - 0) (36 - 0))) w := yF Tryd.underlying174 Ef _
theorem mO (n0 : Int) (a1 : Option Addr) (l1 c1 : Nat) (w : anV) : (cA 145 [(0, (.int .i64 n0)), (1, (.slice a1 l1 c1))]).run pg w = .ok (.value (.agg #[(.int .i64 n0), (.slice a1 l1 c1)])) w := by kernel_rfl
theorem WE : (pg).info? 175 = some Tryd.t175 := by kernel_rfl
theorem UD {b off : Nat} {l : List anW} {w : anV} (hl : l.length = 29) (h : ∀ j, j < l.length -> w.cell? ⟨b, off + j, none⟩ = l[j]?) : (aJ 175 (.pointer (some ⟨b, off, none⟩))).run pg w = .ok (.value (.agg l.toArray)) w := Lw Tryd.underlying175 rfl WE hl.symm h
theorem V3 {w : anV} {K : anW -> anV -> Prop} (hk : ∀ w', cG w' w.heap.size [(.int .i64 0), (.int .i64 0), (.int .i64 0), (.int .i64 0), (.int .i64 0), (.int .i64 0), (.int .i64 0), (.int .i64 0), (.int .i64 0), (.int .i64 0), (.int .i64 0), (.int .i64 0), (.int .i64 0), (.int .i64 0), (.int .i64 0), (.int .i64 0), (.int .i64 0), (.int .i64 0), (.int .i64 0), (.int .i64 0), (.int .i64 0), (.int .i64 0), (.int .i64 0), (.int .i64 0), (.int .i64 0), (.int .i64 0), (.int .i64 0), (.int .i64 0), (.int .i64 0)] -> aX w w' dG -> w'.heap.size = w.heap.size + 1 -> K (.pointer (some ⟨w.heap.size, 0, none⟩)) w') : aC pg (cM 175) w K := kD (i := Tryd.t175) WE rfl hk
theorem UW {b off : Nat} {cs : List anW} {w : anV} {xs : Array anW} {K : anW -> anV -> Prop} (ho : cG w b cs) (hs : xs.size = 29) (hv : ∀ x ∈ xs.toList, one x = true) (h : off + 29 <= cs.length) (hk : ∀ w', cG w' b (bQ cs off xs.toList) -> aX w w' (fun x => x = b) -> w'.heap.size = w.heap.size -> K undef w') : aC pg (aR 175 (.pointer (some ⟨b, off, none⟩)) (.agg xs)) w K := kN (v := .agg xs) WE ho hs hv h hk
theorem QS  (b o : Nat) (w : anV)  : (fW 175 (.pointer (some ⟨b, o, none⟩)) none none none).run pg w = .ok (.value (.slice (some (pB ⟨b, o, none⟩ 29 (0) 1)) (29 - 0) (29 - 0))) w := yF Tryd.underlying175 Ef _
theorem Xr : (pg).info? 176 = some Tryd.t176 := by kernel_rfl
theorem UA {b off : Nat} {l : List anW} {w : anV} (hl : l.length = 53) (h : ∀ j, j < l.length -> w.cell? ⟨b, off + j, none⟩ = l[j]?) : (aJ 176 (.pointer (some ⟨b, off, none⟩))).run pg w = .ok (.value (.agg l.toArray)) w := Lw Tryd.underlying176 rfl Xr hl.symm h
theorem Wd {w : anV} {K : anW -> anV -> Prop} (hk : ∀ w', cG w' w.heap.size [(.int .i64 0), (.int .i64 0), (.int .i64 0), (.int .i64 0), (.int .i64 0), (.int .i64 0), (.int .i64 0), (.int .i64 0), (.int .i64 0), (.int .i64 0), (.int .i64 0), (.int .i64 0), (.int .i64 0), (.int .i64 0), (.int .i64 0), (.int .i64 0), (.int .i64 0), (.int .i64 0), (.int .i64 0), (.int .i64 0), (.int .i64 0), (.int .i64 0), (.int .i64 0), (.int .i64 0), (.int .i64 0), (.int .i64 0), (.int .i64 0), (.int .i64 0), (.int .i64 0), (.int .i64 0), (.int .i64 0), (.int .i64 0), (.int .i64 0), (.int .i64 0), (.int .i64 0), (.int .i64 0), (.int .i64 0), (.int .i64 0), (.int .i64 0), (.int .i64 0), (.int .i64 0), (.int .i64 0), (.int .i64 0), (.int .i64 0), (.int .i64 0), (.int .i64 0), (.int .i64 0), (.int .i64 0), (.int .i64 0), (.int .i64 0), (.int .i64 0), (.int .i64 0), (.int .i64 0)] -> aX w w' dG -> w'.heap.size = w.heap.size + 1 -> K (.pointer (some ⟨w.heap.size, 0, none⟩)) w') : aC pg (cM 176) w K := kD (i := Tryd.t176) Xr rfl hk
theorem T7 {b off : Nat} {cs : List anW} {w : anV} {xs : Array anW} {K : anW -> anV -> Prop} (ho : cG w b cs) (hs : xs.size = 53) (hv : ∀ x ∈ xs.toList, one x = true) (h : off + 53 <= cs.length) (hk : ∀ w', cG w' b (bQ cs off xs.toList) -> aX w w' (fun x => x = b) -> w'.heap.size = w.heap.size -> K undef w') : aC pg (aR 176 (.pointer (some ⟨b, off, none⟩)) (.agg xs)) w K := kN (v := .agg xs) Xr ho hs hv h hk
theorem Ra  (b o : Nat) (w : anV)  : (fW 176 (.pointer (some ⟨b, o, none⟩)) none none none).run pg w = .ok (.value (.slice (some (pB ⟨b, o, none⟩ 53 (0) 1)) (53 - 0) (53 - 0))) w := yF Tryd.underlying176 Ef _
theorem cK  (w : anV) : (cA 145 []).run pg w = .ok (.value (.agg #[(.int .i64 0), (.slice none 0 0)])) w := by kernel_rfl
theorem cF (b o : Nat) (w : anV) : (aQ 145 (.pointer (some ⟨b, o, none⟩)) 0).run pg w = .ok (.value (.pointer (some ⟨b, o, none⟩))) w := kX (i := 0) Tryd.underlying145 rfl Ef (by decide) _
theorem GU (n0 : Int) (a1 : Option Addr) (l1 c1 : Nat) (w : anV) : (cA 27 [(0, (.int .i64 n0)), (1, (.slice a1 l1 c1))]).run pg w = .ok (.value (.agg #[(.int .i64 n0), (.slice a1 l1 c1)])) w := by kernel_rfl
theorem Tx {k : IntKind} {n : Int} {w : anV} {K : anW -> anV -> Prop} (h0 : 0 <= n) (hn : 8 * n <= 2 ^ 48) (hk : ∀ w', cG w' w.heap.size (List.replicate n.toNat (.int .i64 0)) -> aX w w' dG -> w'.heap.size = w.heap.size + 1 -> K (.slice (some ⟨w.heap.size, 0, none⟩) n.toNat n.toNat) w') : aC pg (rM 77 (.int k n) (.int k n)) w K := aaM (i := Tryd.t3) Tryd.underlying77 Ef rfl rfl rfl h0 hn (by omega) hk
theorem Q8 {k : IntKind} {hi : Int} (a : Option Addr) (n c : Nat) (w : anV) (h0 : 0 <= hi) (h1 : hi <= c) : (fW 91 (.slice a n c) none (some (.int k hi)) none).run pg w = .ok (.value (.slice (gU a c (0) 1) (hi.toNat - 0) (c - 0))) w := RV Tryd.underlying91 Mf _ n c h0 h1
theorem IU  (w : anV) : (cA 183 []).run pg w = .ok (.value (.agg #[(.slice none 0 0), (.int .i64 0)])) w := by kernel_rfl
theorem jG {ox oy : Operand} (x : Option Addr) (w : anV) : (aF .eql 151 ox oy (.pointer x) (.pointer none)).run pg w = .ok (.value (.bool x.isNone)) w := Sr Tryd.underlying151 x
theorem jE (b o : Nat) (w : anV) : (aQ 183 (.pointer (some ⟨b, o, none⟩)) 1).run pg w = .ok (.value (.pointer (some ⟨b, o + 1, none⟩))) w := kX (i := 1) Tryd.underlying183 rfl Ef (by decide) _
theorem gQ (b o : Nat) (w : anV) : (aQ 183 (.pointer (some ⟨b, o, none⟩)) 0).run pg w = .ok (.value (.pointer (some ⟨b, o, none⟩))) w := kX (i := 0) Tryd.underlying183 rfl TO (by decide) _
theorem No {b off : Nat} {cs : List anW} {w : anV} {v : anW} {K : anW -> anV -> Prop} (ho : cG w b cs) (hv : one v = true) (h : off < cs.length) (hk : ∀ w', cG w' b (cs.set off v) -> aX w w' (fun x => x = b) -> w'.heap.size = w.heap.size -> K undef w') : aC pg (aR 5 (.pointer (some ⟨b, off, none⟩)) v) w K := Ad PH rfl ho hv h hk
theorem Ng (a0 : Option Addr) (l0 c0 : Nat) (n1 : Int) (w : anV) : (cA 183 [(0, (.slice a0 l0 c0)), (1, (.int .i64 n1))]).run pg w = .ok (.value (.agg #[(.slice a0 l0 c0), (.int .i64 n1)])) w := by kernel_rfl
theorem Ni (n0 : Int) (w : anV) : (cA 145 [(0, (.int .i64 n0))]).run pg w = .ok (.value (.agg #[(.int .i64 n0), (.slice none 0 0)])) w := by kernel_rfl
theorem Xc : (pg).info? 190 = some Tryd.t190 := by kernel_rfl
theorem Uw {b off : Nat} {l : List anW} {w : anV} (hl : l.length = 20) (h : ∀ j, j < l.length -> w.cell? ⟨b, off + j, none⟩ = l[j]?) : (aJ 190 (.pointer (some ⟨b, off, none⟩))).run pg w = .ok (.value (.agg l.toArray)) w := Lw Tryd.underlying190 rfl Xc hl.symm h
theorem VB {w : anV} {K : anW -> anV -> Prop} (hk : ∀ w', cG w' w.heap.size [(.int .i64 0), (.int .i64 0), (.int .i64 0), (.int .i64 0), (.int .i64 0), (.int .i64 0), (.int .i64 0), (.int .i64 0), (.int .i64 0), (.int .i64 0), (.int .i64 0), (.int .i64 0), (.int .i64 0), (.int .i64 0), (.int .i64 0), (.int .i64 0), (.int .i64 0), (.int .i64 0), (.int .i64 0), (.int .i64 0)] -> aX w w' dG -> w'.heap.size = w.heap.size + 1 -> K (.pointer (some ⟨w.heap.size, 0, none⟩)) w') : aC pg (cM 190) w K := kD (i := Tryd.t190) Xc rfl hk
theorem Ui {b off : Nat} {cs : List anW} {w : anV} {xs : Array anW} {K : anW -> anV -> Prop} (ho : cG w b cs) (hs : xs.size = 20) (hv : ∀ x ∈ xs.toList, one x = true) (h : off + 20 <= cs.length) (hk : ∀ w', cG w' b (bQ cs off xs.toList) -> aX w w' (fun x => x = b) -> w'.heap.size = w.heap.size -> K undef w') : aC pg (aR 190 (.pointer (some ⟨b, off, none⟩)) (.agg xs)) w K := kN (v := .agg xs) Xc ho hs hv h hk
theorem Ry  (b o : Nat) (w : anV)  : (fW 190 (.pointer (some ⟨b, o, none⟩)) none none none).run pg w = .ok (.value (.slice (some (pB ⟨b, o, none⟩ 20 (0) 1)) (20 - 0) (20 - 0))) w := yF Tryd.underlying190 Ef _
theorem Xw : (pg).info? 191 = some Tryd.t191 := by kernel_rfl
theorem Ug {b off : Nat} {l : List anW} {w : anV} (hl : l.length = 21) (h : ∀ j, j < l.length -> w.cell? ⟨b, off + j, none⟩ = l[j]?) : (aJ 191 (.pointer (some ⟨b, off, none⟩))).run pg w = .ok (.value (.agg l.toArray)) w := Lw Tryd.underlying191 rfl Xw hl.symm h
theorem Vn {w : anV} {K : anW -> anV -> Prop} (hk : ∀ w', cG w' w.heap.size [(.int .i64 0), (.int .i64 0), (.int .i64 0), (.int .i64 0), (.int .i64 0), (.int .i64 0), (.int .i64 0), (.int .i64 0), (.int .i64 0), (.int .i64 0), (.int .i64 0), (.int .i64 0), (.int .i64 0), (.int .i64 0), (.int .i64 0), (.int .i64 0), (.int .i64 0), (.int .i64 0), (.int .i64 0), (.int .i64 0), (.int .i64 0)] -> aX w w' dG -> w'.heap.size = w.heap.size + 1 -> K (.pointer (some ⟨w.heap.size, 0, none⟩)) w') : aC pg (cM 191) w K := kD (i := Tryd.t191) Xw rfl hk
theorem UL {b off : Nat} {cs : List anW} {w : anV} {xs : Array anW} {K : anW -> anV -> Prop} (ho : cG w b cs) (hs : xs.size = 21) (hv : ∀ x ∈ xs.toList, one x = true) (h : off + 21 <= cs.length) (hk : ∀ w', cG w' b (bQ cs off xs.toList) -> aX w w' (fun x => x = b) -> w'.heap.size = w.heap.size -> K undef w') : aC pg (aR 191 (.pointer (some ⟨b, off, none⟩)) (.agg xs)) w K := kN (v := .agg xs) Xw ho hs hv h hk
theorem Rn  (b o : Nat) (w : anV)  : (fW 191 (.pointer (some ⟨b, o, none⟩)) none none none).run pg w = .ok (.value (.slice (some (pB ⟨b, o, none⟩ 21 (0) 1)) (21 - 0) (21 - 0))) w := yF Tryd.underlying191 Ef _
theorem Rr {k : IntKind} (a : Int) (w : anV) : (fG 43 5 (.int k a)).run pg w = .ok (.value (.int .u8 (IntKind.u8.wrap a))) w := AN Tryd.underlying43 Tryd.underlying5
theorem OY {k : IntKind} {n : Int} {w : anV} {K : anW -> anV -> Prop} (h0 : 0 <= n) (hn : 24 * n <= 2 ^ 48) (hk : ∀ w', cG w' w.heap.size (GR n.toNat [(.int .u8 0), (.int .i64 0), (.int .i64 0)]) -> aX w w' dG -> w'.heap.size = w.heap.size + 1 -> K (.slice (some ⟨w.heap.size, 0, none⟩) n.toNat n.toNat) w') : aC pg (rM 25 (.int k n) (.int k n)) w K := YO (i := Tryd.t123) Tryd.underlying25 O8 rfl (by decide) rfl rfl h0 hn (by omega) hk
theorem S3 {k : IntKind} (a : Int) (w : anV) : (fG 94 43 (.int k a)).run pg w = .ok (.value (.int .u32 (IntKind.u32.wrap a))) w := AN Tryd.underlying94 Tryd.underlying43
theorem NM (a0 : Option Addr) (l0 c0 : Nat) (w : anV) : (cA 195 [(0, (.slice a0 l0 c0))]).run pg w = .ok (.value (.agg #[(.slice a0 l0 c0), (.int .i64 0)])) w := by kernel_rfl
theorem tX {ox oy : Operand} (x : Option Addr) (w : anV) : (aF .eql 184 ox oy (.pointer x) (.pointer none)).run pg w = .ok (.value (.bool x.isNone)) w := Sr Tryd.underlying184 x
theorem Ex (b o : Nat) (w : anV) : (aQ 195 (.pointer (some ⟨b, o, none⟩)) 0).run pg w = .ok (.value (.pointer (some ⟨b, o, none⟩))) w := kX (i := 0) Tryd.underlying195 rfl TO (by decide) _
theorem wH (b o : Nat) (w : anV) : (aQ 195 (.pointer (some ⟨b, o, none⟩)) 1).run pg w = .ok (.value (.pointer (some ⟨b, o + 1, none⟩))) w := kX (i := 1) Tryd.underlying195 rfl Ef (by decide) _
end Go.Proofs.YtaggdjhhmbnhoaaDoor
namespace Go.Pu
def bX (p : Int) : Int := if p < 0 then 1 else p
def fits : Int -> List Int -> Bool
 | left, [] => left == 0
 | left, p :: r => if p < -1 ∨ left < bX p then false else fits (left - bX p) r
def rB (ps : List Int) : Int := (ps.map bX).sum
def XH (log : Int) (ps : List Int) : Bool := decide (5 <= log /\ log <= 15 /\ 1 <= ps.length /\ ps.length <= 256 /\ ps.getLast? ≠ some 0)
def S7 (log : Int) (ps : List Int) : Bool := XH log ps && fits (2 ^ log.toNat) ps
theorem qF (p : Int) (ps : List Int) : rB (p :: ps) = bX p + rB ps := by simp [rB]
theorem EC (a b : List Int) : rB (a ++ b) = rB a + rB b := by simp [rB]
theorem jH {p : Int} (h : -1 <= p) : 0 <= bX p := by unfold bX; split <;> omega
theorem Bz {ps : List Int} (h : ∀ p ∈ ps, -1 <= p) : 0 <= rB ps := by
 induction ps with
 | nil => simp [rB]
 | cons p r ih =>
   rw [qF]
   have := jH (h p (by simp))
   have := ih fun q hq => h q (ajE _ hq)
   omega
theorem V5 : ∀ {ps : List Int} {left : Int}, fits left ps = true ↔ (∀ p ∈ ps, -1 <= p) /\ rB ps = left
 | [], left => by simp [fits, rB]; constructor <;> intro h <;> omega
 | p :: r, left => by
   rw [fits, qF]
   by_cases h : p < -1 ∨ left < bX p
   .rw [if_pos h]
    constructor
    .intro h; cases h
    .rintro ⟨h1, h2⟩
     have hp := h1 p (by simp)
     have := Bz (ps := r) fun q hq => h1 q (ajE _ hq)
     omega
   .rw [if_neg h, V5]
    constructor
    .rintro ⟨h1, h2⟩
     exact ⟨fun q hq => by rcases akE.1 hq with rfl | hq; · omega
                           .exact h1 q hq, by omega⟩
    .rintro ⟨h1, h2⟩
     exact ⟨fun q hq => h1 q (ajE _ hq), by omega⟩
structure MA (log : Nat) (ps : List Int) : Prop where
 log5 : 5 <= log
 log15 : log <= 15
 len1 : 1 <= ps.length
 len256 : ps.length <= 256
 last : ps.getLast? ≠ some 0
 low : ∀ p ∈ ps, -1 <= p
 sum : rB ps = 2 ^ log
theorem MA.b {log : Nat} {ps : List Int} (h : MA log ps) : S7 log ps = true := by
 unfold S7 XH
 simp only [ajH, decide_eq_true_eq]
 have h1 := h.log5
 have h2 := h.log15
 refine ⟨⟨by omega, by omega, h.len1, h.len256, h.last⟩, ?_⟩
 rw [V5, aiM]
 exact ⟨h.low, h.sum⟩
theorem ZS {log : Nat} (h : log <= 15) : (2 : Int) ^ log <= 32768 := by
 have : 2 ^ log <= 2 ^ 15 := ajA (by omega) h
 have e : ((2 ^ log : Nat) : Int) = (2 : Int) ^ log := by simp
 omega
theorem Zx (log : Nat) : (1 : Int) <= 2 ^ log := by
 have : 1 <= 2 ^ log := Nat.one_le_two_pow
 have e : ((2 ^ log : Nat) : Int) = (2 : Int) ^ log := by simp
 omega
theorem Us {ps : List Int} (h : ∀ p ∈ ps, -1 <= p) {p : Int} (hp : p ∈ ps) : bX p <= rB ps := by
 induction ps with
 | nil => cases hp
 | cons q r ih =>
   rw [qF]
   have h0 := jH (h q (by simp))
   have h1 := Bz (ps := r) fun q hq => h q (ajE _ hq)
   rcases akE.1 hp with rfl | hp
   .omega
   .have := ih (fun q hq => h q (ajE _ hq)) hp
    omega
def adv (n a : Nat) : Nat := (a + n / 2 + n / 8 + 3) % n
def OT (n high : Nat) : Nat -> Nat -> Nat
 | 0, a => a
 | f + 1, a => if a < high then a else OT n high f (adv n a)
def R3 : List Int -> Nat -> Nat -> List Int -> Nat × List Int
 | [], _, high, arr => (high, arr)
 | p :: r, s, high, arr => if p = -1 then R3 r (s + 1) (high - 1) (arr.set (high - 1) s) else R3 r (s + 1) high arr
def nB : List Int -> Nat -> List Nat
 | [], _ => []
 | p :: r, s => List.replicate p.toNat s ++ nB r (s + 1)
def place (n high : Nat) : List Nat -> Nat -> List Int -> List Int
 | [], _, arr => arr
 | s :: r, a, arr => place n high r (OT n high n (adv n a)) (arr.set a s)
def eF (x0 : Int) (log : Nat) (ps : List Int) : List Int :=
 place (2 ^ log) (R3 ps 0 (2 ^ log) (List.replicate (2 ^ log) x0)).1 (nB ps 0) 0 (R3 ps 0 (2 ^ log) (List.replicate (2 ^ log) x0)).2
def pos (n j : Nat) : Nat := (j * (n / 2 + n / 8 + 3)) % n
theorem Li (n j : Nat) : adv n (pos n j) = pos n (j + 1) := by
 unfold adv pos
 rw [alL, alL, Nat.mod_add_mod, akQ, Nat.one_mul, alL]
theorem abI {s : Nat} (hs : s % 2 = 1) : ∀ (k x : Nat), 2 ^ k ∣ s * x -> 2 ^ k ∣ x := by
 intro k
 induction k with
 | zero => intro x _; simp
 | succ k ih =>
   intro x h
   have h2 : 2 ∣ s * x := Nat.dvd_trans ⟨2 ^ k, by rw [ajS, akT]⟩ h
   have hx : x % 2 = 0 := by
    have : (s * x) % 2 = 0 := Nat.mod_eq_zero_of_dvd h2
    rw [Nat.mul_mod, hs, Nat.one_mul, Nat.mod_mod] at this
    exact this
   obtain ⟨y, rfl⟩ : ∃ y, x = 2 * y := ⟨x / 2, by omega⟩
   rw [ajS, akT (2 ^ k) 2, show s * (2 * y) = 2 * (s * y) by rw [Nat.mul_left_comm]] at h
   rw [ajS, akT (2 ^ k) 2]
   exact Nat.mul_dvd_mul_left 2 (ih y (Nat.dvd_of_mul_dvd_mul_left (by omega) h))
theorem aaE {log : Nat} (h : 5 <= log) : (2 ^ log / 2 + 2 ^ log / 8 + 3) % 2 = 1 := by
 obtain ⟨k, rfl⟩ : ∃ k, log = k + 5 := ⟨log - 5, by omega⟩
 have : 2 ^ (k + 5) = 32 * 2 ^ k := by rw [amR, akT]
 omega
theorem abZ {log : Nat} (h : 5 <= log) {i j : Nat} (hij : i < j) (hj : j < 2 ^ log) : pos (2 ^ log) i ≠ pos (2 ^ log) j := by
 unfold pos
 generalize hst : 2 ^ log / 2 + 2 ^ log / 8 + 3 = st
 have hodd : st % 2 = 1 := by rw [<- hst]; exact aaE h
 intro e
 have hle : i * st <= j * st := ajX _ (by omega)
 have hd : 2 ^ log ∣ st * (j - i) := by
  rw [akT, Nat.sub_mul]
  exact Nat.dvd_of_mod_eq_zero (Nat.sub_mod_eq_zero_of_mod_eq e.symm)
 have := Nat.le_of_dvd (by omega) (abI hodd _ _ hd)
 omega
theorem ZU : ∀ (n : Nat) (l : List Nat), l.Nodup -> (∀ a ∈ l, a < n) -> l.length <= n := by
 intro n
 induction n with
 | zero => intro l _ h; cases l with
   | nil => simp
   | cons a r => exact absurd (h a (by simp)) (by omega)
 | succ n ih =>
   intro l hd h
   by_cases hn : n ∈ l
   .have := ih (l.erase n) (hd.erase n) (fun a ha => by
     have h1 := h a (List.mem_of_mem_erase ha)
     have h2 : a ≠ n := fun e => by subst e; exact hd.not_mem_erase ha
     omega)
    rw [anE hn] at this
    omega
   .have := ih l hd (fun a ha => by
     have h1 := h a ha
     have h2 : a ≠ n := fun e => by subst e; exact hn ha
     omega)
    omega
theorem Yb {n : Nat} {l : List Nat} (hd : l.Nodup) (h : ∀ a ∈ l, a < n) (hl : l.length = n) {a : Nat} (ha : a < n) : a ∈ l := by
 refine Classical.byContradiction fun hn => ?_
 have := ZU n (a :: l) (List.nodup_cons.2 ⟨hn, hd⟩) (fun b hb => (akE.1 hb).elim (fun e => e ▸ ha) (h b))
 simp at this; omega
def hP (n high j : Nat) : List Nat := ((List.range' j (n - j)).map (pos n)).filter (· < high)
theorem Ld {n high j : Nat} (h : j < n) : hP n high j = if pos n j < high then pos n j :: hP n high (j + 1) else hP n high (j + 1) := by
 unfold hP
 rw [show n - j = (n - (j + 1)) + 1 from by omega, List.range'_succ, amE, List.filter_cons]
 simp
theorem Om (n high : Nat) : hP n high n = [] := by unfold hP; simp
theorem XA {n : Nat} (h : 0 < n) (j : Nat) : pos n j < n := amA _ h
theorem SR (n : Nat) : pos n 0 = 0 := by simp [pos]
theorem afZ (n : Nat) : pos n n = 0 := by simp [pos, Nat.mul_mod_right]
theorem Yz {n high : Nat} (hh : 0 < high) : ∀ (d j f : Nat), j + d = n -> d <= f -> OT n high f (pos n j) = (hP n high j).headD 0 := by
 intro d
 induction d with
 | zero =>
   intro j f hj _
   obtain rfl : j = n := by omega
   rw [Om, afZ]
   cases f with
   | zero => rfl
   | succ f => unfold OT; rw [if_pos hh] <;> rfl
 | succ d ih =>
   intro j f hj hf
   obtain ⟨f, rfl⟩ : ∃ g, f = g + 1 := ⟨f - 1, by omega⟩
   rw [Ld (by omega)]
   unfold OT
   split
   .rfl
   .rw [Li]; exact ih (j + 1) f (by omega) (by omega)
def setAt : List (Nat × Nat) -> List Int -> List Int
 | [], arr => arr
 | (q, s) :: r, arr => setAt r (arr.set q s)
theorem Xq {n high : Nat} (hh : 0 < high) : ∀ (syms : List Nat) (j a : Nat) (arr : List Int), j <= n -> syms.length <= (hP n high j).length -> (syms ≠ [] -> (hP n high j).headD 0 = a) →
 place n high syms a arr = setAt ((hP n high j).zip syms) arr := by
 intro syms
 induction syms with
 | nil => intro j a arr _ _ _; simp [place, setAt]
 | cons s r ih =>
   intro j a arr hj hlen ha
   have ha := ha (by simp)
   have key : ∀ (d j : Nat), j + d = n -> (s :: r).length <= (hP n high j).length -> (hP n high j).headD 0 = a -> ∃ i, i < n /\ j <= i /\ pos n i = a /\ hP n high j = a :: hP n high (i + 1) := by
    intro d
    induction d with
    | zero =>
      intro j hj hl _
      obtain rfl : j = n := by omega
      rw [Om] at hl; simp at hl
    | succ d ihd =>
      intro j hj hl hd
      have e := Ld (high := high) (show j < n by omega)
      by_cases hp : pos n j < high
      .rw [if_pos hp] at e
       rw [e] at hd
       have : pos n j = a := hd
       exact ⟨j, by omega, aiU _, this, by rw [e, this]⟩
      .rw [if_neg hp] at e
       rw [e] at hl hd ⊢
       obtain ⟨i, h1, h2, h3, h4⟩ := ihd (j + 1) (by omega) hl hd
       exact ⟨i, h1, by omega, h3, h4⟩
   obtain ⟨i, h1, h2, h3, h4⟩ := key (n - j) j (by omega) hlen ha
   rw [h4] at hlen ⊢
   simp only [ajK] at hlen
   rw [place, List.zip_cons_cons, setAt]
   refine ih (i + 1) _ _ (by omega) (by omega) (fun hr => ?_)
   rw [<- h3, Li]
   exact (Yz hh (n - (i + 1)) (i + 1) n (by omega) (by omega)).symm
def nO : List Int -> Nat -> List Nat
 | [], _ => []
 | p :: r, s => if p = -1 then s :: nO r (s + 1) else nO r (s + 1)
def toI (l : List Nat) : List Int := l.map Int.ofNat
theorem TW : ∀ (ps : List Int) (s high : Nat) (arr : List Int), (nO ps s).length <= high -> high <= arr.length →
 R3 ps s high arr = (high - (nO ps s).length, arr.take (high - (nO ps s).length) ++ toI (nO ps s).reverse ++ arr.drop high) := by
 intro ps
 induction ps with
 | nil => intro s high arr h1 h2; simp [R3, nO, toI]
 | cons p r ih =>
   intro s high arr h1 h2
   unfold R3 nO
   unfold nO at h1
   by_cases hp : p = -1
   .rw [if_pos hp, if_pos hp]
    rw [if_pos hp] at h1
    simp only [ajK] at h1 ⊢
    rw [ih (s + 1) (high - 1) _ (by omega) (by simp; omega)]
    congr 1
    .omega
    .have hlt : high - 1 < arr.length := by omega
     rw [List.take_set_of_le (by omega), show high - 1 - (nO r (s + 1)).length = high - ((nO r (s + 1)).length + 1) from by omega]
     have : (arr.set (high - 1) (s : Int)).drop (high - 1) = (s : Int) :: arr.drop high := by
      rw [akA (by simp; omega)]
      simp only [anP]
      rw [show high - 1 + 1 = high from by omega, List.drop_set_of_lt (by omega)]
     rw [this]
     simp [toI]
   .rw [if_neg hp, if_neg hp]
    rw [if_neg hp] at h1
    exact ih (s + 1) high arr h1 h2
theorem Oz : ∀ (l : List (Nat × Nat)) (arr : List Int), (setAt l arr).length = arr.length
 | [], _ => rfl
 | (q, s) :: r, arr => by rw [setAt, Oz]; simp
theorem KY {q : Nat} : ∀ (l : List (Nat × Nat)) (arr : List Int), (∀ x ∈ l, x.1 ≠ q) -> (setAt l arr)[q]? = arr[q]?
 | [], _, _ => rfl
 | (a, s) :: r, arr, h => by
   rw [setAt, KY r _ fun x hx => h x (ajE _ hx), List.getElem?_set_ne (h (a, s) (by simp))]
theorem YW : ∀ (us : List Nat) (ss : List Nat) (arr : List Int) (t : Nat), us.Nodup -> us.length = ss.length -> (∀ q ∈ us, q < arr.length) -> (ht : t < us.length) -> (ht' : t < ss.length) →
 (setAt (us.zip ss) arr)[us[t]]? = some (ss[t] : Int) := by
 intro us
 induction us with
 | nil => intro ss arr t _ _ _ ht; simp at ht
 | cons u us ih =>
   intro ss arr t hd hl hb ht ht'
   cases ss with
   | nil => simp at hl
   | cons x ss =>
     obtain ⟨h1, h2⟩ := List.nodup_cons.1 hd
     rw [List.zip_cons_cons, setAt]
     cases t with
     | zero =>
       simp only [amS]
       rw [KY _ _ (fun y hy => fun e => h1 (by have := (List.of_mem_zip (a := y.1) (b := y.2) hy).1; rw [e] at this; exact this))]
       have : u < arr.length := hb u (by simp)
       simp [this]
     | succ t =>
       simp only [anJ]
       exact ih ss _ t h2 (by simpa using hl) (fun q hq => by simpa using hb q (ajE _ hq)) (by simpa using ht) (by simpa using ht')
theorem Se : ∀ (n : Nat) (l : List Nat), l.Nodup -> (∀ a ∈ l, a < n) -> l.length = n -> l.Perm (List.range n) := by
 intro n
 induction n with
 | zero => intro l _ _ h; rw [ajV.1 h]; exact List.Perm.refl _
 | succ n ih =>
   intro l hd h hl
   have hn : n ∈ l := Yb hd h hl (by omega)
   have p1 := List.perm_cons_erase hn
   have p2 := ih (l.erase n) (hd.erase n) (fun a ha => by
    have h1 := h a (List.mem_of_mem_erase ha)
    have h2 : a ≠ n := fun e => by subst e; exact hd.not_mem_erase ha
    omega) (by rw [anE hn]; omega)
   rw [anR]
   exact p1.trans ((p2.cons n).trans (List.perm_append_singleton n _).symm)
theorem Wl : ∀ (ps : List Int) (s : Nat), (∀ p ∈ ps, -1 <= p) -> ((nB ps s).length : Int) + (nO ps s).length = rB ps := by
 intro ps
 induction ps with
 | nil => intro s _; simp [nB, nO, rB]
 | cons p r ih =>
   intro s h
   have := ih (s + 1) fun q hq => h q (ajE _ hq)
   have hp := h p (by simp)
   rw [qF]
   unfold nB nO bX
   by_cases h1 : p = -1
   .rw [if_pos h1, if_pos (by omega)]; subst h1; simp; omega
   .rw [if_neg h1, if_neg (by omega)]; simp; omega
theorem Xt : ∀ (ps : List Int) (s i : Nat), (nB ps s).count (s + i) = if h : i < ps.length then ps[i].toNat else 0 := by
 intro ps
 induction ps with
 | nil => intro s i; simp [nB]
 | cons p r ih =>
   intro s i
   have low : ∀ (ps : List Int) (s a : Nat), a < s -> (nB ps s).count a = 0 := by
    intro ps
    induction ps with
    | nil => intro s a _; simp [nB]
    | cons p r ih =>
      intro s a h
      unfold nB
      rw [alH, ih (s + 1) a (by omega), List.count_replicate]
      simp; omega
   unfold nB
   rw [alH, List.count_replicate]
   cases i with
   | zero => rw [akJ, low r (s + 1) s (by omega)]; simp
   | succ i =>
     rw [show s + (i + 1) = s + 1 + i from by omega, ih (s + 1) i]
     have : (s == s + 1 + i) = false := by simp; omega
     rw [this]; simp
theorem Xx : ∀ (ps : List Int) (s i : Nat), (nO ps s).count (s + i) = if h : i < ps.length then (if ps[i] = -1 then 1 else 0) else 0 := by
 intro ps
 induction ps with
 | nil => intro s i; simp [nO]
 | cons p r ih =>
   intro s i
   have low : ∀ (ps : List Int) (s a : Nat), a < s -> (nO ps s).count a = 0 := by
    intro ps
    induction ps with
    | nil => intro s a _; simp [nO]
    | cons p r ih =>
      intro s a h
      unfold nO
      split
      .rw [amB, ih (s + 1) a (by omega)]; simp; omega
      .exact ih (s + 1) a (by omega)
   unfold nO
   cases i with
   | zero =>
     rw [akJ]
     by_cases h : p = -1
     .rw [if_pos h, amB, low r (s + 1) s (by omega)]; simp [h]
     .rw [if_neg h, low r (s + 1) s (by omega)]; simp [h]
   | succ i =>
     have e : s + (i + 1) = s + 1 + i := by omega
     by_cases h : p = -1
     .rw [if_pos h, amB, e, ih (s + 1) i]
      have : (s == s + 1 + i) = false := by simp; omega
      rw [this]; simp
     .rw [if_neg h, e, ih (s + 1) i]; simp
theorem abS : ∀ (ps : List Int) (s i : Nat) (h : i < ps.length), ps[i] = -1 -> (nO ps s)[(ps.take i).count (-1)]? = some (s + i) := by
 intro ps
 induction ps with
 | nil => intro s i h; simp at h
 | cons p r ih =>
   intro s i h hp
   unfold nO
   cases i with
   | zero => simp only [amS] at hp; rw [if_pos hp]; simp
   | succ i =>
     simp only [anJ] at hp
     have := ih (s + 1) i (by simpa using h) hp
     rw [aiT, amB]
     by_cases h1 : p = -1
     .rw [if_pos h1]; simp only [h1, beq_self_eq_true, if_true, aiQ]; rw [this]; congr 1; omega
     .rw [if_neg h1]
      have : (p == -1) = false := by simpa using h1
      rw [this]; simp only [aiS, if_false, akJ]
      rw [‹(nO r (s + 1))[_]? = _›]; congr 1; omega
theorem S9 {log high : Nat} (hl : 5 <= log) (hh : high <= 2 ^ log) : (hP (2 ^ log) high 0).Nodup /\ (∀ a ∈ hP (2 ^ log) high 0, a < high) /\ (hP (2 ^ log) high 0).length = high := by
 have hn : 0 < 2 ^ log := ajU log
 have hnd : ((List.range (2 ^ log)).map (pos (2 ^ log))).Nodup := by
  rw [List.nodup_iff_pairwise_ne, List.pairwise_map]
  refine List.pairwise_iff_getElem.2 fun i j hi hj hij => ?_
  simp only [amT] at hi hj
  simp only [akU]
  exact abZ hl hij hj
 have hp := Se (2 ^ log) _ hnd (fun a ha => by
  obtain ⟨j, _, rfl⟩ := akF.1 ha
  exact XA hn j) (by simp)
 unfold hP
 rw [anG, <- List.range_eq_range']
 refine ⟨hnd.filter _, fun a ha => by simpa using (anQ.1 ha).2, ?_⟩
 rw [(hp.filter _).length_eq]
 have : ∀ m : Nat, high <= m -> ((List.range m).filter (· < high)).length = high := by
  intro m
  induction m with
  | zero => intro h; simp; omega
  | succ m ih =>
    intro h
    rw [anR, List.filter_append, aiO]
    by_cases hm : high <= m
    .rw [ih hm]; simp; omega
    .have : high = m + 1 := by omega
     subst this
     have : (List.range m).filter (fun x => decide (x < m + 1)) = List.range m := List.filter_eq_self.2 fun a ha => by have := akD.1 ha; simp; omega
     rw [this]; simp
 exact this _ hh
structure Lay (log : Nat) (ps : List Int) (S : List Int) : Prop where
 len : S.length = 2 ^ log
 cnt : ∀ s (h : s < ps.length), S.count (s : Int) = (bX ps[s]).toNat
 rng : ∀ x ∈ S, ∃ s : Nat, s < ps.length /\ x = s
 top : ∀ s (h : s < ps.length), ps[s] = -1 -> S[2 ^ log - 1 - (ps.take s).count (-1)]? = some (s : Int)
theorem Tp (l : List Nat) (s : Nat) : (toI l).count (s : Int) = l.count s := by
 induction l with
 | nil => rfl
 | cons a r ih =>
   show List.count _ (Int.ofNat a :: toI r) = _
   rw [amB, amB, ih]
   congr 1
   by_cases h : a = s
   .subst h; simp
   .simp [h]; omega
theorem aaI : ∀ (ps : List Int) (s : Nat), ∀ x ∈ nB ps s, s <= x /\ x < s + ps.length := by
 intro ps
 induction ps with
 | nil => intro s x h; simp [nB] at h
 | cons p r ih =>
   intro s x h
   unfold nB at h
   rcases alO.1 h with h | h
   .have := (List.mem_replicate.1 h).2; simp; omega
   .have := ih (s + 1) x h; simp; omega
theorem Y6 : ∀ (ps : List Int) (s : Nat), ∀ x ∈ nO ps s, s <= x /\ x < s + ps.length := by
 intro ps
 induction ps with
 | nil => intro s x h; simp [nO] at h
 | cons p r ih =>
   intro s x h
   unfold nO at h
   split at h
   .rcases akE.1 h with rfl | h
    .simp
    .have := ih (s + 1) x h; simp; omega
   .have := ih (s + 1) x h; simp; omega
theorem VU {log : Nat} {ps : List Int} (h : MA log ps) (x0 : Int) :
 ∃ low : List Int, eF x0 log ps = low ++ toI (nO ps 0).reverse /\ low.Perm (toI (nB ps 0)) /\ ((nO ps 0).length + low.length = 2 ^ log) /\
   (∀ t (h1 : t < (hP (2 ^ log) (nB ps 0).length 0).length) (h2 : t < (nB ps 0).length), low[(hP (2 ^ log) (nB ps 0).length 0)[t]]? = some ((nB ps 0)[t] : Int)) := by
 have hrl := Wl ps 0 h.low
 rw [h.sum] at hrl
 have hpow : ((2 ^ log : Nat) : Int) = (2 : Int) ^ log := by simp
 obtain ⟨m, hm⟩ : ∃ m, m = (nO ps 0).length := ⟨_, rfl⟩
 obtain ⟨hi, hhi⟩ : ∃ x, x = (nB ps 0).length := ⟨_, rfl⟩
 rw [<- hm, <- hhi] at hrl
 have hsum : hi + m = 2 ^ log := by omega
 have ht := TW ps 0 (2 ^ log) (List.replicate (2 ^ log) x0) (by omega) (by simp)
 rw [<- hm, show 2 ^ log - m = hi from by omega] at ht
 have e2 : (List.replicate (2 ^ log) x0).take hi = List.replicate hi x0 := by rw [List.take_replicate]; congr 1; omega
 have e3 : (List.replicate (2 ^ log) x0).drop (2 ^ log) = [] := by simp
 rw [e2, e3, akM] at ht
 unfold eF
 rw [ht]
 simp only
 obtain ⟨u1, u2, u3⟩ := S9 (high := hi) h.log5 (by omega)
 by_cases h0 : hi = 0
 .have hr : nB ps 0 = [] := ajV.1 (by omega)
  rw [hr, h0]
  refine ⟨[], by simp [place], by simp [toI], by simp; omega, fun t _ h2 => by simp at h2⟩
 .have hp := Xq (n := 2 ^ log) (high := hi) (by omega) (nB ps 0) 0 0 (List.replicate hi x0 ++ toI (nO ps 0).reverse) (by omega) (by rw [u3]; omega) (fun _ => by
   rw [Ld (ajU log), SR, if_pos (by omega)] <;> rfl)
  rw [hp]
  generalize hU : hP (2 ^ log) hi 0 = U at *
  have hb : ∀ q ∈ U, q < (List.replicate hi x0 ++ toI (nO ps 0).reverse).length := fun q hq => by have := u2 q hq; simp; omega
  obtain ⟨R, hR⟩ : ∃ R, R = setAt (U.zip (nB ps 0)) (List.replicate hi x0 ++ toI (nO ps 0).reverse) := ⟨_, rfl⟩
  have hRl : R.length = hi + m := by rw [hR, Oz]; simp [toI, hm]
  have hRd : R.drop hi = toI (nO ps 0).reverse := by
   apply List.ext_getElem?
   intro i
   rw [alB, hR, KY _ _ (fun x hx => by
     have := u2 _ (List.of_mem_zip (a := x.1) (b := x.2) hx).1
     omega), ajY (by simp)]
   simp
  have hget : ∀ t (h1 : t < U.length) (h2 : t < (nB ps 0).length), R[U[t]]? = some ((nB ps 0)[t] : Int) := fun t h1 h2 => by
   rw [hR]; exact YW U _ _ t u1 (by omega) hb h1 h2
  rw [<- hR]
  refine ⟨R.take hi, by rw [<- hRd, alX], ?_, by rw [ajL]; omega, fun t h1 h2 => ?_⟩
  .have p1 : (U.map fun q => R.getD q 0).Perm ((List.range hi).map fun q => R.getD q 0) := (Se hi U u1 u2 u3).map _
   have p2 : (U.map fun q => R.getD q 0) = toI (nB ps 0) := by
    apply alF
    .simp [toI]; omega
    .intro t h1 h2
     simp only [aiX] at h1
     have := hget t h1 (by omega)
     simp only [akH, toI, ajD, this]
     rfl
   have p3 : ((List.range hi).map fun q => R.getD q 0) = R.take hi := by
    apply alF
    .simp; omega
    .intro q h1 h2
     simp only [aiX, amT] at h1
     simp only [akH, akU, List.getElem_take, ajD]
     rw [aiN (by omega)] <;> rfl
   rw [p2, p3] at p1
   exact p1.symm
  .subst hhi
   simp only [hU] at h1 ⊢
   have := hget t h1 h2
   rw [ajR (u2 _ (ajM h1))]
   exact this
theorem sI {log : Nat} {ps : List Int} (h : MA log ps) (x0 : Int) : Lay log ps (eF x0 log ps) := by
 obtain ⟨low, e, hp, hl, _⟩ := VU h x0
 rw [e]
 refine ⟨by simp [toI]; omega, fun s hs => ?_, fun x hx => ?_, fun s hs hps => ?_⟩
 .rw [alH, hp.count_eq, Tp, Tp, List.count_reverse]
  have h1 := Xt ps 0 s
  have h2 := Xx ps 0 s
  rw [aiR] at h1 h2
  rw [h1, h2, dif_pos hs, dif_pos hs]
  have := h.low _ (ajM hs)
  unfold bX
  split <;> split <;> omega
 .rcases alO.1 hx with hx | hx
  .have hx := hp.mem_iff.1 hx
   obtain ⟨s, hs, rfl⟩ := akF.1 hx
   exact ⟨s, by have := aaI ps 0 s hs; omega, rfl⟩
  .obtain ⟨s, hs, rfl⟩ := akF.1 hx
   exact ⟨s, by have := Y6 ps 0 s (List.mem_reverse.1 hs); omega, rfl⟩
 .have h1 := abS ps 0 s hs hps
  rw [aiR] at h1
  have hlt : (ps.take s).count (-1) < (nO ps 0).length := by
   rcases ajI ((ps.take s).count (-1)) (nO ps 0).length with h | h
   .exact h
   .rw [ajJ h] at h1; cases h1
  rw [ajY (by omega)]
  unfold toI
  rw [ajO, List.getElem?_reverse (by omega), show (nO ps 0).length - 1 - (2 ^ log - 1 - List.count (-1) (List.take s ps) - low.length) = (ps.take s).count (-1) from by omega, h1]
  rfl
def bl (k : Nat) : Nat := if k = 0 then 0 else k.log2 + 1
theorem Qz (k : Nat) : k < 2 ^ bl k := by
 unfold bl
 split
 .subst_vars; simp
 .exact Nat.lt_log2_self
theorem Ox {k : Nat} (h : k ≠ 0) : 2 ^ (bl k - 1) <= k := by
 unfold bl
 rw [if_neg h, alC]
 exact Nat.log2_self_le h
theorem EY {k : Nat} (h : k ≠ 0) : 1 <= bl k := by unfold bl; rw [if_neg h]; omega
theorem qE {k n : Nat} (h : k < 2 ^ n) : bl k <= n := by
 by_cases h0 : k = 0
 .subst h0; simp [bl]
 .rcases ajI n (bl k) with hh | hh
  .have h1 := Ox h0
   have := ajA (n := 2) (by omega) (show n <= bl k - 1 by omega)
   omega
  .exact hh
theorem acZ {k n : Nat} (h1 : 2 ^ n <= k) (h2 : k < 2 ^ (n + 1)) : bl k = n + 1 := by
 have h0 : k ≠ 0 := by have := ajU n; omega
 have a := qE h2
 have b := Qz k
 rcases ajI (bl k) (n + 1) with h | h
 .have := ajA (n := 2) (by omega) (show bl k <= n by omega)
  omega
 .omega
def V8 (ps S : List Int) (i : Nat) : Nat := (bX (ps.getD (S.getD i 0).toNat 0)).toNat + (S.take i).count (S.getD i 0)
def IG (log : Nat) (x : Int) (k : Nat) : Int × Int × Int := (x, ((log + 1 - bl k : Nat) : Int), ((k * 2 ^ (log + 1 - bl k) : Nat) : Int) - 2 ^ log)
def CT (log : Nat) (ps S : List Int) (i : Nat) : Int × Int × Int := IG log (S.getD i 0) (V8 ps S i)
def iY (log : Nat) (ps : List Int) : List (Int × Int × Int) := (List.range (2 ^ log)).map (CT log ps (eF 0 log ps))
theorem gZ (log : Nat) (ps : List Int) : (iY log ps).length = 2 ^ log := by simp [iY]
theorem Ms {S : List Int} {i : Nat} (h : i < S.length) : (S.take i).count S[i] + 1 <= S.count S[i] := by
 have e : S = S.take i ++ S[i] :: S.drop (i + 1) := by rw [<- akA h, alX]
 have : S.count S[i] = (S.take i ++ S[i] :: S.drop (i + 1)).count S[i] := by rw [<- e]
 rw [this, alH, amB]; simp
theorem ME {log : Nat} {ps : List Int} (h : MA log ps) {s : Nat} (hs : s < ps.length) : (bX ps[s]).toNat <= 2 ^ log := by
 have := Us h.low (ajM hs)
 rw [h.sum] at this
 have hpow : ((2 ^ log : Nat) : Int) = (2 : Int) ^ log := by simp
 rw [<- hpow] at this
 exact Int.toNat_le.2 this
theorem PF {log : Nat} {ps S : List Int} (h : MA log ps) (L : Lay log ps S) {i : Nat} (hi : i < 2 ^ log) :
 ∃ s : Nat, ∃ hs : s < ps.length, S.getD i 0 = (s : Int) /\ 1 <= (bX ps[s]).toNat /\ (bX ps[s]).toNat <= 2 ^ log /\ V8 ps S i = (bX ps[s]).toNat + (S.take i).count (s : Int) /\ (S.take i).count (s : Int) < (bX ps[s]).toNat := by
 have hil : i < S.length := by rw [L.len]; exact hi
 have hg : S.getD i 0 = S[i] := by rw [ajD, aiN hil] <;> rfl
 obtain ⟨s, hs, e⟩ := L.rng _ (ajM hil)
 have hc := Ms hil
 rw [e, L.cnt s hs] at hc
 refine ⟨s, hs, by rw [hg, e], by omega, ME h hs, ?_, by omega⟩
 unfold V8
 rw [hg, e, aiM, ajD, aiN hs] <;> rfl
theorem UJ {log k : Nat} (h1 : 1 <= k) (h2 : k < 2 ^ (log + 1)) : 2 ^ log <= k * 2 ^ (log + 1 - bl k) /\ (k + 1) * 2 ^ (log + 1 - bl k) <= 2 ^ (log + 1) /\ bl k <= log + 1 /\ 1 <= bl k := by
 have a := qE h2
 have b := EY (k := k) (by omega)
 have c := Ox (k := k) (by omega)
 have d := Qz k
 refine ⟨?_, ?_, a, b⟩
 .calc 2 ^ log = 2 ^ (bl k - 1) * 2 ^ (log + 1 - bl k) := by rw [<- amR]; congr 1; omega
   _ <= k * 2 ^ (log + 1 - bl k) := ajX _ c
 .calc (k + 1) * 2 ^ (log + 1 - bl k) <= 2 ^ bl k * 2 ^ (log + 1 - bl k) := ajX _ d
   _ = 2 ^ (log + 1) := by rw [<- amR]; congr 1; omega
theorem acR (n j : Nat) (hn : 0 < n) : ∃ d, d < n /\ pos n (j + d) = 0 := by
 refine ⟨(n - j % n) % n, amA _ hn, ?_⟩
 unfold pos
 have : (j + (n - j % n) % n) % n = 0 := by
  rw [Nat.add_mod_mod]
  have h1 := amA j hn
  have h2 := Nat.div_add_mod j n
  have : j + (n - j % n) = n * (j / n + 1) := by
   rw [Nat.mul_add, amQ]
   generalize n * (j / n) = y at *
   generalize j % n = r at *
   omega
  rw [this, Nat.mul_mod_right]
 rw [Nat.mul_mod, this, Nat.zero_mul, Nat.zero_mod]
theorem TC {n high : Nat} (hn : 0 < n) (hh : 0 < high) (j : Nat) : ∃ d, (∀ e, e < d -> high <= pos n (j + e)) /\ pos n (j + d) < high /\ OT n high n (pos n j) = pos n (j + d) := by
 obtain ⟨D, hD, h0⟩ := acR n j hn
 have key : ∀ (D f j : Nat), D <= f -> pos n (j + D) < high -> ∃ d, (∀ e, e < d -> high <= pos n (j + e)) /\ pos n (j + d) < high /\ OT n high f (pos n j) = pos n (j + d) := by
  intro D
  induction D with
  | zero =>
    intro f j _ h
    refine ⟨0, fun e he => by omega, h, ?_⟩
    rw [akJ] at h ⊢
    cases f with
    | zero => rfl
    | succ f => unfold OT; rw [if_pos h]
  | succ D ih =>
    intro f j hf h
    obtain ⟨f, rfl⟩ : ∃ g, f = g + 1 := ⟨f - 1, by omega⟩
    by_cases hj : pos n j < high
    .exact ⟨0, fun e he => by omega, hj, by unfold OT; rw [if_pos hj] <;> rfl⟩
    .obtain ⟨d, h1, h2, h3⟩ := ih f (j + 1) (by omega) (by rw [show j + 1 + D = j + (D + 1) from by omega]; exact h)
     refine ⟨d + 1, fun e he => ?_, by rw [show j + (d + 1) = j + 1 + d from by omega]; exact h2, ?_⟩
     .cases e with
      | zero => rw [akJ]; omega
      | succ e => rw [show j + (e + 1) = j + 1 + e from by omega]; exact h1 e (by omega)
     .unfold OT; rw [if_neg hj, Li, h3]; congr 1; omega
 exact key D n j (by omega) (by rw [h0]; exact hh)
theorem VL {log : Nat} {ps : List Int} (h : MA log ps) (x0 : Int) : ∃ arr, R3 ps 0 (2 ^ log) (List.replicate (2 ^ log) x0) = ((nB ps 0).length, arr) /\ arr.length = 2 ^ log /\ (nO ps 0).length + (nB ps 0).length = 2 ^ log /\ eF x0 log ps = place (2 ^ log) (nB ps 0).length (nB ps 0) 0 arr := by
 have hrl := Wl ps 0 h.low
 rw [h.sum] at hrl
 have hpow : ((2 ^ log : Nat) : Int) = (2 : Int) ^ log := by simp
 have hsum : (nO ps 0).length + (nB ps 0).length = 2 ^ log := by omega
 have ht := TW ps 0 (2 ^ log) (List.replicate (2 ^ log) x0) (by omega) (by simp)
 rw [show 2 ^ log - (nO ps 0).length = (nB ps 0).length from by omega] at ht
 refine ⟨_, ht, ?_, hsum, ?_⟩
 .simp [toI]; omega
 .unfold eF; rw [ht]
end Go.Pu
namespace Go.En
open Go
section
variable {P : Program} {w : anV} {t e : TypeId}
theorem VY {i : TypeInfo} (hu : P.underlying t = some (.slice e)) (hi : P.info? e = some i)
 {K : anW -> anV -> Prop} (hk : ∀ w', cG w' w.heap.size [] -> aX w w' dG -> w'.heap.size = w.heap.size + 1 -> K (.slice (some ⟨w.heap.size, 0, none⟩) 0 0) w') :
 aC P (dB t 0 []) w K := by
 have : (dB t 0 []).run P w = .ok (.value (.slice (some ⟨w.heap.size, 0, none⟩) 0 0)) (w.alloc (.cells ([] : List anW).toArray e)) := by
  unfold dB; rw [oH]
  have h1 : ¬ (0 > 2 ^ 24) := by omega
  have e : ∀ f : Nat -> anW, Array.map f (Array.range 0) = #[] := fun f => by simp
  simp only [Instr.buildSlice, underlying, pure_bind, Sem.run_bind, run_program, Result.andThen_ok, hu, Sem.run_pure, eI hi, Nat.zero_mul, h1, if_false, if_true, newRow, run_newObj, Instr.fill, e]
  rfl
 unfold aC
 rw [this]
 exact hk _ (cG.alloc _ _ _) (aX.alloc _ _ _) (by simp)
def At (v : anW) (b : Nat) : Prop := ∀ M : Nat -> Prop, ¬ M b -> ¬ U4 v M
theorem At.nil (c b : Nat) (a : Option Addr) : At (.slice a 0 c) b := fun M h => by unfold U4; split <;> simp_all
theorem At.at (b o n c : Nat) : At (.slice (some ⟨b, o, none⟩) n c) b := fun M h => by
 unfold U4; split
 .rename_i x m _ e
  obtain ⟨rfl, _⟩ : (⟨b, o, none⟩ : Addr) = x /\ _ := by simpa using e
  exact h
 .simp
theorem uK.at' {w : anV} {base sz n : Nat} {v : anW} {l : List anW} (h : uK w base sz v n l) (hb : base < w.heap.size) : ∃ b, base <= b /\ b < w.heap.size /\ At v b := by
 rcases h.2 with ⟨rfl, rfl⟩ | ⟨b, c, rest, rfl, h2, h3, h4, h5⟩
 .exact ⟨base, aiU _, hb, At.nil _ _ _⟩
 .exact ⟨b, h2, h3.lt, At.at _ _ _ _⟩
end
end Go.En
namespace Go.Proofs.YtaggdjhhmbnhoaaDoor
open Go Go.En Go.Pu
set_option maxRecDepth 4000
def T8 : ByteArray := ⟨#[0, 1, 2, 2, 3, 3, 3, 3, 4, 4, 4, 4, 4, 4, 4, 4, 5, 5, 5, 5, 5, 5, 5, 5, 5, 5, 5, 5, 5, 5, 5, 5, 6, 6, 6, 6, 6, 6, 6, 6, 6, 6, 6, 6, 6, 6, 6, 6, 6, 6, 6, 6, 6, 6, 6, 6, 6, 6, 6, 6, 6, 6, 6, 6, 7, 7, 7, 7, 7, 7, 7, 7, 7, 7, 7, 7, 7, 7, 7, 7, 7, 7, 7, 7, 7, 7, 7, 7, 7, 7, 7, 7, 7, 7, 7, 7, 7, 7, 7, 7, 7, 7, 7, 7, 7, 7, 7, 7, 7, 7, 7, 7, 7, 7, 7, 7, 7, 7, 7, 7, 7, 7, 7, 7, 7, 7, 7, 7, 8, 8, 8, 8, 8, 8, 8, 8, 8, 8, 8, 8, 8, 8, 8, 8, 8, 8, 8, 8, 8, 8, 8, 8, 8, 8, 8, 8, 8, 8, 8, 8, 8, 8, 8, 8, 8, 8, 8, 8, 8, 8, 8, 8, 8, 8, 8, 8, 8, 8, 8, 8, 8, 8, 8, 8, 8, 8, 8, 8, 8, 8, 8, 8, 8, 8, 8, 8, 8, 8, 8, 8, 8, 8, 8, 8, 8, 8, 8, 8, 8, 8, 8, 8, 8, 8, 8, 8, 8, 8, 8, 8, 8, 8, 8, 8, 8, 8, 8, 8, 8, 8, 8, 8, 8, 8, 8, 8, 8, 8, 8, 8, 8, 8, 8, 8, 8, 8, 8, 8, 8, 8, 8, 8, 8, 8, 8, 8]⟩
theorem GL : T8.size = 256 := by decide
set_option maxRecDepth 100000 in
theorem Sv (x : Nat) (h : x < 256) : (T8[x]'(by rw [GL]; exact h)).toNat = bl x := by
 have : ∀ k : Fin 256, (T8.data[k.val]!).toNat = bl k.val := by decide +kernel
 have h2 := this ⟨x, h⟩
 simp only at h2
 rw [<- h2]
 have hs : x < T8.data.size := by have := GL; exact (show T8.data.size = 256 from this) ▸ h
 rw [getElem!_pos T8.data x hs]
 rfl
theorem KB {x j : Nat} (h : 2 ^ j <= x) : bl x = bl (x / 2 ^ j) + j := by
 have hp := ajU j
 have h0 : x / 2 ^ j ≠ 0 := by
  have := Nat.div_pos h hp
  omega
 have a := Ox h0
 have b := Qz (x / 2 ^ j)
 have c := EY h0
 obtain ⟨m, hm⟩ : ∃ m, bl (x / 2 ^ j) = m + 1 := ⟨bl (x / 2 ^ j) - 1, by omega⟩
 rw [hm, alC] at a
 rw [hm] at b ⊢
 have h1 : 2 ^ (m + j) <= x := by
  rw [amR]
  exact amJ (ajX _ a) (anB _ _)
 have h2 : x < 2 ^ (m + j + 1) := by
  rw [show m + j + 1 = (m + 1) + j from by omega, amR]
  exact (alY hp).1 b
 rw [acZ h1 h2]; omega
theorem V1 {x n : Nat} (hx : x < 256) (hn : n <= 1000) (R : anW -> anV -> Prop) (w : anV) (h : R (.int .i64 ((n + bl x : Nat) : Int)) w) :
 lM R (.int .u64 x) (.int .i64 n) w := by
 have hg := Sv x hx
 have hs := GL
 have hb : bl x <= 8 := qE (n := 8) (by omega)
 unfold lM
 change aC pg _ w fun t21 w => aC pg (GH 9 (.string T8) t21) w _
 simp (disch := omega) only [aC, pZ, LR, aA, O6, aiM, hg, pC, aW, bK]
 rw [Int.natCast_add] at h
 exact h
theorem KR (a b : Nat) : ((a : Int)).fdiv (b : Int) = ((a / b : Nat) : Int) := by rw [amG _ (by omega)] <;> rfl
theorem Lt (x j : Nat) (hj : j <= 64) : ((x : Int)).fdiv (2 ^ (min (j : Nat) IntKind.u64.bits)) = ((x / 2 ^ j : Nat) : Int) := by
 have e : min j IntKind.u64.bits = j := by simp only [IntKind.bits]; omega
 rw [e, <- KR]; simp
theorem acT (x : Nat) (hx : x < 18446744073709551616) (w : anV) : aU pg qO #[.int .u64 x] w (fun r w' => r = .int .i64 (bl x : Nat) /\ w' = w) := by
 refine KH ?_
 unfold IK wR vD
 have step8 : ∀ (y n : Nat), y < 65536 -> n <= 64 -> n + bl y = bl x -> oZ (fun r w' => r = .int .i64 (bl x : Nat) /\ w' = w) (.int .u64 y) (.int .i64 n) w := by
  intro y n hy hn e
  unfold oZ vA
  by_cases h : 256 <= y
  .have d : decide ((256 : Int) <= (y : Int)) = true := by simp; omega
   have sh := Lt y 8 (by omega)
   have hq : y / 2 ^ 8 < 256 := by omega
   have := KB (x := y) (j := 8) (by omega)
   have e2 : (n : Int) + 8 = ((n + 8 : Nat) : Int) := by omega
   simp (disch := omega) only [aC, rX, d, tH, bK, e2, aW, aA, aG]
   rw [show (8 : Int).toNat = 8 from rfl, sh]
   exact V1 hq (by omega) _ _ ⟨by rw [<- e, this]; congr 2; omega, rfl⟩
  .have d : decide ((256 : Int) <= (y : Int)) = false := by simp; omega
   simp (disch := omega) only [aC, rX, d, tH, bK, aW, aA, aD]
   exact V1 (by omega) (by omega) _ _ ⟨by rw [e], rfl⟩
 have step16 : ∀ (y n : Nat), y < 4294967296 -> n <= 32 -> n + bl y = bl x -> pI (fun r w' => r = .int .i64 (bl x : Nat) /\ w' = w) (.int .u64 y) (.int .i64 n) w := by
  intro y n hy hn e
  unfold pI wK
  by_cases h : 65536 <= y
  .have d : decide ((65536 : Int) <= (y : Int)) = true := by simp; omega
   have sh := Lt y 16 (by omega)
   have hq : y / 2 ^ 16 < 65536 := by omega
   have := KB (x := y) (j := 16) (by omega)
   have e2 : (n : Int) + 16 = ((n + 16 : Nat) : Int) := by omega
   simp (disch := omega) only [aC, rX, d, tH, bK, e2, aW, aA, aG]
   rw [show (16 : Int).toNat = 16 from rfl, sh]
   exact step8 _ _ hq (by omega) (by rw [<- e, this]; omega)
  .have d : decide ((65536 : Int) <= (y : Int)) = false := by simp; omega
   simp (disch := omega) only [aC, rX, d, tH, bK, aW, aA, aD]
   exact step8 _ _ (by omega) (by omega) e
 by_cases h : 4294967296 <= x
 .have d : decide ((4294967296 : Int) <= (x : Int)) = true := by simp; omega
  have sh := Lt x 32 (by omega)
  have hq : x / 2 ^ 32 < 4294967296 := by omega
  have := KB (x := x) (j := 32) (by omega)
  simp (disch := omega) only [aC, rX, d, tH, aA, aG]
  rw [show (32 : Int).toNat = 32 from rfl, sh]
  exact step16 _ 32 hq (by omega) (by rw [this]; omega)
 .have d : decide ((4294967296 : Int) <= (x : Int)) = false := by simp; omega
  simp (disch := omega) only [aC, rX, d, tH, aA, aD]
  exact step16 _ 0 (by omega) (by omega) (by omega)
theorem ZI (x : Nat) (hx : x < 18446744073709551616) (w : anV) : aU pg mB #[.int .u64 x] w (fun r w' => r = .int .i64 (bl x : Nat) /\ w' = w) := by
 refine MM ?_
 simp (disch := omega) only [Md, AJ, aC, S3, aA, aD]
 exact acT x hx w
theorem UT {n : Nat} (h : n <= 20) : IntKind.i64.wrap (1 * 2 ^ (min n IntKind.i64.bits)) = ((2 ^ n : Nat) : Int) := by
 have : ∀ k : Fin 21, IntKind.i64.wrap (1 * 2 ^ (min k.val IntKind.i64.bits)) = ((2 ^ k.val : Nat) : Int) := by decide
 exact this ⟨n, by omega⟩
theorem Zv {w : anV} {v : anW} {l : List UInt8} (h : Bs w v l) (h0 : 0 < l.length) : ∃ b off c, v = .slice (some ⟨b, off, none⟩) l.length c /\ l.length <= c /\ ∀ i, (h : i < l.length) -> w.cell? ⟨b, off + i, none⟩ = some (.int .u8 (l[i].toNat : Nat)) := by
 obtain ⟨b, off, c, rfl, hc, hcell⟩ := h.openV (by simpa using h0)
 refine ⟨b, off, c, by rw [aiX], by simpa using hc, fun i hi => ?_⟩
 have := hcell i (by simpa using hi)
 simpa [D8] using this
theorem Lo {v : anW} {l : List UInt8} {w : anV} (h : Bs w v l) (hl : l.length <= 1000000000) :
 aU pg fJ #[v] w (fun r w' => uK w' w.heap.size 1 r l.length (l.map D8) /\ aX w w' dG) := by
 refine HY ?_
 have h1 := h
 obtain ⟨a, n, c, rfl, hn, hc, hh⟩ := h
 rw [aiX] at hn
 unfold Ew rE
 cases a with
 | none =>
   have h0 : l = [] := by
    cases l with
    | nil => rfl
    | cons x l => obtain ⟨b, off, h, _⟩ := hh (by simp at hn; omega); cases h
   subst h0
   simp (disch := omega) only [aC, Ml, Option.isNone_none, aA, aG]
   exact ⟨uK.nil _ _ _, aX.refl _ _⟩
 | some x =>
   simp (disch := omega) only [aC, Ml, ajN, aA, aD]
   refine VY Tryd.underlying22 PH fun w1 o1 x1 s1 => ?_
   have hcl1 := (h1.ext x1 (bY _)).cl
   rw [aiX] at hcl1
   have hos : uK w1 w.heap.size 1 (.slice (some ⟨w.heap.size, 0, none⟩) 0 0) 0 [] := ⟨rfl, .inr ⟨_, 0, [], rfl, aiU _, o1, rfl, aiU _⟩⟩
   refine KA hos hcl1 (Xi _) x1.size (by omega) fun v3 w3 o3 x3 => ?_
   rw [aiR, akC] at o3
   exact ⟨o3, x1.trans x3 fun b hb h => Nat.not_le_of_lt hb h⟩
def VK (v : anW) (lo hi : Nat) : Prop := ∀ M : Nat -> Prop, (∀ b, lo <= b -> b < hi -> ¬ M b) -> ¬ U4 v M
theorem uK.atI {w : anV} {base sz n : Nat} {v : anW} {l : List anW} (h : uK w base sz v n l) : VK v base w.heap.size := by
 intro M hM
 rcases h.2 with ⟨rfl, rfl⟩ | ⟨b, c, rest, rfl, h2, h3, h4, h5⟩
 .exact fun h => h
 .exact At.at b 0 n c M (hM b h2 h3.lt)
theorem aeM {w : anV} {a : Option Addr} {n c : Nat} {l : List anW} (h : Sl w (.slice a n c) l) {k : Nat} (hk : k <= n) : Sl w (.slice a k c) (l.take k) := by
 obtain ⟨a', n', c', e, hn, hc, hh⟩ := h
 cases e
 refine ⟨a, k, c, rfl, by rw [ajL]; omega, by omega, fun h0 => ?_⟩
 obtain ⟨b, off, ha, hcell⟩ := hh (by omega)
 refine ⟨b, off, ha, fun i hi => ?_⟩
 rw [hcell i (by omega), ajR (by omega)]
theorem slA {w : anV} {a : Option Addr} {n c : Nat} {l : List anW} (h : Sl w (.slice a n c) l) (h0 : 0 < n) : ∃ b off, a = some ⟨b, off, none⟩ /\ ∀ i, i < n -> w.cell? ⟨b, off + i, none⟩ = l[i]? := by
 obtain ⟨a', n', c', e, hn, hc, hh⟩ := h
 cases e
 exact hh h0
end Go.Proofs.YtaggdjhhmbnhoaaDoor
namespace Go.Pu
open Go Go.En
def IT (c : UInt8) : List Bool := (List.range 8).map c.toNat.testBit
def aY : List UInt8 -> List Bool
 | [] => []
 | c :: l => IT c ++ aY l
def uJ : List Bool -> Nat
 | [] => 0
 | b :: l => b.toNat + 2 * uJ l
theorem pU (c : UInt8) : (IT c).length = 8 := by simp [IT]
theorem kS : ∀ l : List UInt8, (aY l).length = 8 * l.length
 | [] => rfl
 | c :: l => by rw [aY, aiO, pU, kS l, ajK]; omega
theorem Ht : ∀ a b : List UInt8, aY (a ++ b) = aY a ++ aY b
 | [], b => rfl
 | c :: a, b => by rw [alE, aY, aY, Ht a b, ajB]
theorem Ya (c : UInt8) {k : Nat} (h : k < 8) : (IT c)[k]? = some (c.toNat.testBit k) := by
 unfold IT
 rw [ajO, List.getElem?_range h] <;> rfl
theorem CJ : ∀ (l : List UInt8) (i : Nat) (h : i < 8 * l.length), (aY l)[i]? = some ((l[i / 8]'(by omega)).toNat.testBit (i % 8))
 | [], i, h => by simp at h
 | c :: l, i, h => by
   rw [aY]
   rcases ajI i 8 with h8 | h8
   .rw [ajF (by rw [pU]; exact h8), Ya c h8]
    have e : i / 8 = 0 := by omega
    have e2 : i % 8 = i := by omega
    simp [e, e2]
   .rw [ajY (by rw [pU]; exact h8), pU, CJ l (i - 8) (by simp at h; omega)]
    have e : i / 8 = (i - 8) / 8 + 1 := by omega
    have e2 : (i - 8) % 8 = i % 8 := by omega
    simp [e, e2]
theorem Rz : ∀ l : List Bool, uJ l < 2 ^ l.length
 | [] => by simp [uJ]
 | b :: l => by
   have := Rz l
   rw [uJ, ajK, ajS]
   have : b.toNat <= 1 := Bool.toNat_le b
   omega
theorem QH : ∀ a b : List Bool, uJ (a ++ b) = uJ a + 2 ^ a.length * uJ b
 | [], b => by simp [uJ]
 | x :: a, b => by
   rw [alE, uJ, uJ, QH a b, ajK, ajS, Nat.mul_add, <- Nat.mul_assoc, <- alL, akT 2 (2 ^ a.length)]
theorem Yu (a : List Bool) (x : Bool) : uJ (a ++ [x]) = uJ a + 2 ^ a.length * x.toNat := by
 rw [QH]; simp [uJ]
def eD (x : Nat) (n : Nat) : List Bool := (List.range n).map x.testBit
theorem bR (x n : Nat) : (eD x n).length = n := by simp [eD]
theorem Dd (x : Nat) : eD x 0 = [] := rfl
theorem Im (x n : Nat) : eD x (n + 1) = eD x n ++ [x.testBit n] := by
 unfold eD; rw [anR, akN] <;> rfl
theorem Xg (x n : Nat) : eD x (n + 1) = x.testBit 0 :: eD (x / 2) n := by
 unfold eD
 rw [List.range_succ_eq_map, amE, List.map_map]
 congr 1
 apply alP
 intro k _
 simp [Nat.testBit_succ]
theorem RQ : ∀ (n x : Nat), uJ (eD x n) = x % 2 ^ n
 | 0, x => by simp [eD, uJ, Nat.mod_one]
 | n + 1, x => by
   rw [Xg, uJ, RQ n (x / 2), ajS, akT (2 ^ n) 2, Nat.mod_mul]
   congr 1
   rw [Nat.testBit_zero]
   have : x % 2 = 0 ∨ x % 2 = 1 := by omega
   rcases this with h | h <;> simp [h]
theorem WY {x i : Nat} (h : x < 2 ^ i) (b : Nat) : x ||| (b * 2 ^ i) = x + 2 ^ i * b := by
 rw [Nat.or_comm, akT b, <- Nat.two_pow_add_eq_or_of_lt h b, Nat.add_comm]
theorem XK {a b : Nat} (ha : a < 2 ^ 64) (hb : b < 2 ^ 64) : orI .u64 (a : Int) (b : Int) = ((a ||| b : Nat) : Int) := by
 have h := Nat.or_lt_two_pow ha hb
 unfold orI
 have e : IntKind.u64.bits = 64 := rfl
 rw [e, BitVec.ofInt_natCast, BitVec.ofInt_natCast, BitVec.toNat_or, BitVec.toNat_ofNat, BitVec.toNat_ofNat, ajP ha, ajP hb]
 exact jC (by omega) (by have : ((a ||| b : Nat) : Int) < ((2 ^ 64 : Nat) : Int) := by exact_mod_cast h
                         omega)
theorem Vv {a b : Nat} (ha : a < 2 ^ 8) (hb : b < 2 ^ 8) : orI .u8 (a : Int) (b : Int) = ((a ||| b : Nat) : Int) := by
 have h := Nat.or_lt_two_pow ha hb
 unfold orI
 have e : IntKind.u8.bits = 8 := rfl
 rw [e, BitVec.ofInt_natCast, BitVec.ofInt_natCast, BitVec.toNat_or, BitVec.toNat_ofNat, BitVec.toNat_ofNat, ajP ha, ajP hb]
 exact LR (by omega) (by have : ((a ||| b : Nat) : Int) < ((2 ^ 8 : Nat) : Int) := by exact_mod_cast h
                         omega)
theorem abP {a : Nat} (h : a < 2 ^ 8) : RK .u8 (a : Int) 1 = ((a % 2 : Nat) : Int) := by
 have : ∀ k : Fin 256, RK .u8 (k.val : Int) 1 = ((k.val % 2 : Nat) : Int) := by decide +kernel
 exact this ⟨a, h⟩
theorem Wb {a : Nat} (h : a < 2 ^ 64) : RK .u64 (a : Int) 1 = ((a % 2 : Nat) : Int) := by
 unfold RK
 have e : IntKind.u64.bits = 64 := rfl
 rw [e, BitVec.ofInt_natCast, show (BitVec.ofInt 64 1) = BitVec.ofNat 64 1 from rfl, BitVec.toNat_and, BitVec.toNat_ofNat, BitVec.toNat_ofNat, ajP h, show 1 % 2 ^ 64 = 1 from rfl, Nat.and_one_is_mod]
 exact jC (by omega) (by omega)
theorem Pc (x k : Nat) : (x.testBit k).toNat = x / 2 ^ k % 2 := by
 rw [alV]
 have : x / 2 ^ k % 2 = 0 ∨ x / 2 ^ k % 2 = 1 := by omega
 rcases this with h | h <;> simp [h]
def Bt (L : List Bool) (n : Nat) : Nat := uJ (L.drop (L.length - min n L.length)) * 2 ^ (n - min n L.length)
theorem Kt (L : List Bool) (n : Nat) : Bt L n < 2 ^ n := by
 unfold Bt
 have h := Rz (L.drop (L.length - min n L.length))
 rw [akG, show L.length - (L.length - min n L.length) = min n L.length from by omega] at h
 calc _ < 2 ^ min n L.length * 2 ^ (n - min n L.length) := Nat.mul_lt_mul_of_pos_right h (ajU _)
  _ = 2 ^ n := by rw [<- amR]; congr 1; omega
theorem Te {L : List Bool} {at' i : Nat} {b : Bool} (h : L[at' + i]? = some b) : (L.drop at').take (i + 1) = (L.drop at').take i ++ [b] := by
 rw [akW, alB, h] <;> rfl
def Tk (l : List UInt8) : Option Nat := match l.getLast? with
 | none => none
 | some c => if c.toNat = 0 then none else some (8 * (l.length - 1) + bl c.toNat - 1)
theorem Lp {l : List UInt8} (h : 0 < l.length) : Tk l = if (l[l.length - 1]'(by omega)).toNat = 0 then none else some (8 * (l.length - 1) + bl (l[l.length - 1]'(by omega)).toNat - 1) := by
 unfold Tk
 rw [amI, aiN (by omega)]
theorem O4 {l : List UInt8} {k : Nat} (h : Tk l = some k) : 0 < l.length /\ k < 8 * l.length /\ 8 * (l.length - 1) <= k /\ (aY l)[k]? = some true /\ ∀ j, k < j -> j < 8 * l.length -> (aY l)[j]? = some false := by
 have h0 : 0 < l.length := by
  cases l with
  | nil => simp [Tk] at h
  | cons x l => simp
 rw [Lp h0] at h
 generalize hc : l[l.length - 1]'(by omega) = c at h
 split at h
 .cases h
 .rename_i hne
  have hk := ajG h
  have h1 := EY hne
  have h2 : bl c.toNat <= 8 := qE (by have : c.toNat < 256 := akI c
                                      omega)
  have h3 := Ox hne
  have h4 := Qz c.toNat
  refine ⟨h0, by omega, by omega, ?_, ?_⟩
  .rw [CJ l k (by omega)]
   have e : k / 8 = l.length - 1 := by omega
   have e2 : k % 8 = bl c.toNat - 1 := by omega
   simp only [e, hc, e2]
   rw [alV]
   obtain ⟨m, hm⟩ : ∃ m, bl c.toNat = m + 1 := ⟨bl c.toNat - 1, by omega⟩
   rw [hm, alC] at h3 ⊢
   rw [hm, ajS] at h4
   have : c.toNat / 2 ^ m = 1 := by
    have hp := ajU m
    have := (amX hp).2 (show 1 * 2 ^ m <= c.toNat by omega)
    have := (alY hp).2 (show c.toNat < 2 * 2 ^ m by omega)
    omega
   simp [this]
  .intro j h5 h6
   rw [CJ l j h6]
   have e : j / 8 = l.length - 1 := by omega
   simp only [e, hc]
   rw [Nat.testBit_lt_two_pow]
   exact Nat.lt_of_lt_of_le h4 (ajA (by omega) (by omega))
end Go.Pu
namespace Go.Proofs.YtaggdjhhmbnhoaaDoor
open Go Go.En Go.Pu
set_option maxRecDepth 4000
theorem aaP {l : List UInt8} {v : anW} {st n : Nat} {w : anV} (h : Bs w v l) (hn : n <= 64) (hat : st + n <= 8 * l.length) (hl : l.length <= 1000000000) :
 aU pg Bx #[v, .int .i64 st, .int .i64 n] w (fun r w' => r = .int .u64 (uJ (((aY l).drop st).take n)) /\ w' = w) := by
 refine Sf ?_
 unfold TE Hq H5 Ij Ib HG H7 HF
 refine cO.rule (fun m (t : anW × anW) w' => ∃ i : Nat, m = n - i /\ t = (.int .u64 (uJ (((aY l).drop st).take i) : Nat), .int .i64 i) /\ i <= n /\ w' = w) n ⟨0, rfl, by simp [uJ], by omega, rfl⟩ ?_
 rintro m t w1 ⟨i, rfl, rfl, hi, rfl⟩
 unfold Ct
 by_cases hlt : i < n
 .have d1 : decide ((i : Int) < (n : Int)) = true := by simp; omega
  obtain ⟨b, off, c, rfl, hc, hcell⟩ := h.openV (by simp; omega)
  obtain ⟨q, hq⟩ : ∃ q, q = st + i := ⟨_, rfl⟩
  have e0 : (st : Int) + (i : Int) = (q : Int) := by omega
  have e1 : (q : Int).tdiv 8 = ((q / 8 : Nat) : Int) := by rw [alU (by omega)]; omega
  have e2 : (q : Int).tmod 8 = ((q % 8 : Nat) : Int) := by rw [ajZ (by omega)]; omega
  have hq8 : q / 8 < l.length := by omega
  have hb : (aY l)[st + i]? = some ((l[q / 8]'hq8).toNat.testBit (q % 8)) := by subst hq; exact CJ l _ (by omega)
  have ht := Te hb
  have g1 := hcell (q / 8) (by simpa using hq8)
  simp only [akH, D8] at g1
  have hx : (l[q / 8]'hq8).toNat < 256 := akI _
  generalize (l[q / 8]'hq8).toNat = x at *
  have e3 : (x : Int).fdiv (2 ^ (min (q % 8) IntKind.u8.bits)) = ((x / 2 ^ (q % 8) : Nat) : Int) := by
   rw [show min (q % 8) IntKind.u8.bits = q % 8 from akO (by have : IntKind.u8.bits = 8 := rfl
                                                             omega), amG _ (Int.pow_nonneg (by omega))]
   simp
  have hy : x / 2 ^ (q % 8) < 2 ^ 8 := by have := anS x (2 ^ (q % 8)); omega
  have e4 := abP hy
  rw [<- Pc] at e4
  have hbt : (x.testBit (q % 8)).toNat <= 1 := Bool.toNat_le _
  have hlen : (((aY l).drop st).take i).length = i := by rw [ajL, akG, kS]; omega
  have hnb := Rz (((aY l).drop st).take i)
  have hsn := Yu (((aY l).drop st).take i) (x.testBit (q % 8))
  rw [<- ht, hlen] at hsn
  rw [hlen] at hnb
  have hp : 2 ^ i < 2 ^ 64 := Nat.pow_lt_pow_right (by omega) (by omega)
  have hp2 : 2 ^ i <= 2 ^ 63 := ajA (by omega) (by omega)
  generalize (x.testBit (q % 8)).toNat = bt at *
  have hm : bt * 2 ^ i <= 2 ^ i := by
   have := ajX (2 ^ i) hbt
   omega
  have e5 : IntKind.u64.wrap ((bt : Int) * 2 ^ (min i IntKind.u64.bits)) = ((bt * 2 ^ i : Nat) : Int) := by
   rw [show min i IntKind.u64.bits = i from akO (by have : IntKind.u64.bits = 64 := rfl
                                                    omega)]
   have e : (bt : Int) * 2 ^ i = ((bt * 2 ^ i : Nat) : Int) := by simp
   rw [e]
   exact jC (by omega) (by omega)
  have e6 := XK (a := uJ (((aY l).drop st).take i)) (b := bt * 2 ^ i) (by omega) (by omega)
  rw [WY hnb, <- hsn] at e6
  simp (disch := omega) only [aC, bD, d1, bK, e0, aW, aiX, iR, jC, aA, Sk, e1, IQ, e2, mC, aiM, jY, g1, aI, tH, e3, Mr, e4, II, iX, e5, WS, e6, and_true, aG]
  exact ⟨n - (i + 1), by omega, i + 1, rfl, rfl, by omega⟩
 .have d1 : decide ((i : Int) < (n : Int)) = false := by simp; omega
  obtain rfl : i = n := by omega
  unfold Cs
  simp (disch := omega) only [aC, bD, d1, bK, aW, iR, jC, aA, Sk, IQ, true_and, aD]
def Wy (w : anV) (lo hi : Nat) (l : List UInt8) (st : Nat) : Prop := ∃ v, cG w hi [v, .int .i64 st] /\ Bs w v l /\ VK v lo hi
theorem Wy.ext {w w' : anV} {lo hi st : Nat} {l : List UInt8} {M : Nat -> Prop} (h : Wy w lo hi l st) (hx : aX w w' M) (hM : ∀ b, lo <= b -> b <= hi -> ¬ M b) (hlh : lo <= hi) : Wy w' lo hi l st := by
 obtain ⟨v, h1, h2, h3⟩ := h
 exact ⟨v, h1.ext hx (hM _ hlh (aiU _)), h2.ext hx (h3 M fun b hb hh => hM b hb (by omega)), h3⟩
theorem UO {v : anW} {l : List UInt8} {w : anV} (h : Bs w v l) (hl : l.length <= 1000000000) :
 aU pg qX #[v] w (fun r w' => ∃ hi, r = .pointer (some ⟨hi, 0, none⟩) /\ w.heap.size <= hi /\ hi < w'.heap.size /\ Wy w' w.heap.size hi l 0 /\ aX w w' dG) := by
 refine KK ?_
 unfold I1 vG
 refine (Lo h hl).mono ?_
 rintro r w1 ⟨o1, x1⟩
 have hat := uK.atI o1
 have hs := o1.sl
 obtain ⟨a, c, rfl⟩ := o1.len
 simp (disch := omega) only [aC, NM, aA]
 refine hY fun w2 o2 x2 s2 => ?_
 simp only [Value.cells] at o2
 exact ⟨_, rfl, x1.size, by omega, ⟨_, o2, hs.ext x2 (bY _), hat⟩, x1.seq x2⟩
theorem Lm {l : List UInt8} {lo hi st n : Nat} {w : anV} (h : Wy w lo hi l st) (hlh : lo <= hi) (hn : n <= 32) (hst : st <= 8 * l.length) (hl : l.length <= 1000000) :
 aU pg gT #[.pointer (some ⟨hi, 0, none⟩), .int .i64 n] w (fun r w' =>
  (8 * l.length < st + n /\ r = .tuple #[.int .u64 0, .int .i64 10] /\ Wy w' lo hi l st /\ aX w w' dG) ∨
  (st + n <= 8 * l.length /\ r = .tuple #[.int .u64 (uJ (((aY l).drop st).take n)), .int .i64 0] /\ Wy w' lo hi l (st + n) /\ aX w w' (fun y => y = hi))) := by
 refine HZ ?_
 obtain ⟨v, o, hs, hat⟩ := h
 unfold EE rS
 have d1 : decide ((n : Int) < 0) = false := by simp
 have d2 : decide ((32 : Int) < (n : Int)) = false := by simp; omega
 have c0 := o.cell (off := 0)
 have c1 := o.cell (off := 1)
 simp only [aiP, aiQ] at c0 c1
 obtain ⟨a, n', c, hv, hn', hc, hh⟩ := id hs
 rw [aiX] at hn'
 subst hn'
 by_cases hsh : 8 * l.length < st + n
 .have d3 : decide (8 * (l.length : Int) - (st : Int) < (n : Int)) = true := by simp; omega
  subst hv
  have od := eP o
  have c0d := od.cell (off := 0)
  have c1d := od.cell (off := 1)
  simp only [aiP, aiQ] at c0d c1d
  simp (disch := omega) only [aC, tX, ajN, nA, true_and, aA, wH, aiR, cP, Ex, eL, eU, cD, aiS, if_false, cB, bD, d1, fD, d2, c0d, aI, c1d, eT, Dc, aW, dZ, d3, aG, aD]
  exact .inl ⟨hsh, ⟨_, eP o, hs.ext (aX.dr _ dG) (bY _), hat⟩, aX.dr _ _⟩
 .have d3 : decide (8 * (l.length : Int) - (st : Int) < (n : Int)) = false := by simp; omega
  subst hv
  have c0e := (eP o).cell (off := 0)
  have c1e := (eP o).cell (off := 1)
  have od := eP (eP o)
  have c0d := od.cell (off := 0)
  have c1d := od.cell (off := 1)
  simp only [aiP, aiQ] at c0d c1d c0e c1e
  simp (disch := omega) only [aC, tX, ajN, nA, true_and, aA, wH, aiR, cP, Ex, eL, eU, cD, aiS, if_false, cB, bD, d1, fD, d2, c0e, aI, c1e, c0d, c1d, eT, Dc, aW, dZ, d3, aD]
  refine (aaP (l := l) (st := st) (n := n) ((hs.ext (aX.dr _ dG) (bY _)).ext (aX.dr _ dG) (bY _)) (by omega) (by omega) (by omega)).mono ?_
  rintro r w1 ⟨rfl, rfl⟩
  simp (disch := omega) only [c1d, aI, true_and, aA, bK, aW]
  refine xV od rfl (by simp) fun w2 o2 x2 s2 => ?_
  simp only [aiV, aiW] at o2
  have e1 : (st : Int) + (n : Int) = ((st + n : Nat) : Int) := by omega
  rw [e1] at o2
  have x02 : aX w w2 (fun y => y = hi) := ((aX.dr _ _).seq (aX.dr _ _)).seq x2
  exact .inr ⟨by omega, ⟨_, o2, hs.ext x02 (hat _ fun b hb hh => by omega), hat⟩, x02⟩
theorem YC {l : List UInt8} {lo hi st : Nat} {w : anV} (h : Wy w lo hi l st) (hst : st <= 1000000000) :
 aU pg nE #[.pointer (some ⟨hi, 0, none⟩)] w (fun r w' => r = .int .i64 (((st + 7) / 8 : Nat)) /\ w' = w) := by
 refine Hs ?_
 obtain ⟨v, o, hs, hat⟩ := h
 have c1 := o.cell (off := 1)
 simp only [aiP, aiQ] at c1
 have e1 : ((st : Int) + 7).tdiv 8 = (((st + 7) / 8 : Nat) : Int) := by rw [alU (by omega)]; omega
 unfold EM sN
 simp (disch := omega) only [aC, tX, ajN, nA, aA, wH, aiR, cP, and_true, c1, aI, bK, aW, Sk, e1, aD]
theorem RC (p : Int) (w : anV) : aU pg lN #[.int .i64 p] w (fun r w' => r = .int .i64 (bX p) /\ w' = w) := by
 refine OC ?_
 unfold bX
 by_cases h : p < 0
 .have d : decide (p < 0) = true := by simpa using h
  simp (disch := omega) only [Iu, uU, aC, bD, d, aA, and_true, aG]
  rw [if_pos h]
 .have d : decide (p < 0) = false := by simpa using h
  simp (disch := omega) only [Iu, uU, aC, bD, d, aA, and_true, aD]
  rw [if_neg h]
theorem St {ps : List Int} (h : 0 < ps.length) : (ps.getLast? = some 0) ↔ ps[ps.length - 1]'(by omega) = 0 := by
 rw [amI, aiN (by omega)]
 simp
theorem adJ {log : Int} {sv : anW} {ps : List Int} {w : anV} (hs : Sl w sv (ps.map (Value.int .i64))) (hl : ps.length <= 9223372036854775807) :
 aU pg yT #[.agg #[.int .i64 log, sv]] w (fun r w' => r = .bool (S7 log ps) /\ aX w w' dG) := by
 refine Rg ?_
 unfold R7 FL Ft
 obtain ⟨a, c, rfl, hc⟩ := hs.lenI
 refine hY fun w1 o1 x1 s1 => ?_
 have hs0 := hs
 have hs := hs.ext x1 (bY _)
 have c0 := o1.cell (off := 0)
 have c1 := o1.cell (off := 1)
 simp only [Value.cells, aiP, aiQ] at c0 c1
 have no : ¬ (5 <= log /\ log <= 15 /\ 1 <= ps.length /\ ps.length <= 256 /\ ps.getLast? ≠ some 0) -> S7 log ps = false := fun h => by
  unfold S7 XH; rw [decide_eq_false h] <;> rfl
 by_cases h1 : log < 5
 .have d1 : decide (log < 5) = true := by simpa using h1
  simp (disch := omega) only [aC, cF, aA, aV, aiR, cP, c0, aI, bD, d1, lK, cD, if_true, aG, eZ]
  exact ⟨by rw [no (by omega)], x1⟩
 have d1 : decide (log < 5) = false := by simpa using h1
 by_cases h2 : 15 < log
 .have d2 : decide (15 < log) = true := by simpa using h2
  simp (disch := omega) only [aC, cF, aA, aV, aiR, cP, c0, aI, bD, d1, eU, cD, aiS, if_false, cB, fD, d2, lK, if_true, aG, eZ]
  exact ⟨by rw [no (by omega)], x1⟩
 have d2 : decide (15 < log) = false := by simpa using h2
 by_cases h3 : ps.length < 1
 .have d3 : decide ((ps.length : Int) < 1) = true := by simp; omega
  simp (disch := omega) only [aC, cF, aA, aV, aiR, cP, c0, aI, bD, d1, eU, cD, aiS, if_false, cB, fD, d2, dU, c1, fV, d3, lK, if_true, aG, eZ]
  exact ⟨by rw [no (by omega)], x1⟩
 have d3 : decide ((ps.length : Int) < 1) = false := by simp; omega
 by_cases h4 : 256 < ps.length
 .have d4 : decide ((256 : Int) < (ps.length : Int)) = true := by simp; omega
  simp (disch := omega) only [aC, cF, aA, aV, aiR, cP, c0, aI, bD, d1, eU, cD, aiS, if_false, cB, fD, d2, dU, c1, fV, d3, d4, lK, if_true, aG, eZ]
  exact ⟨by rw [no (by omega)], x1⟩
 have d4 : decide ((256 : Int) < (ps.length : Int)) = false := by simp; omega
 obtain ⟨b, off, c', e, hc', hcell⟩ := hs.openI (by omega)
 cases e
 have e1 : ((ps.length : Int) - 1) = ((ps.length - 1 : Nat) : Int) := by omega
 have g1 := hcell (ps.length - 1) (by omega)
 by_cases h5 : ps[ps.length - 1]'(by omega) = 0
 .have d5 : (ps[ps.length - 1]'(by omega) == 0) = true := by simpa using h5
  simp (disch := omega) only [aC, cF, aA, aV, aiR, cP, c0, aI, bD, d1, eU, cD, aiS, if_false, cB, fD, d2, dU, c1, fV, d3, d4, dZ, e1, aW, dS, aiM, g1, dJ, d5, iX, aG]
  exact ⟨by rw [no (fun h => h.2.2.2.2 ((St (by omega)).2 h5))], x1⟩
 have d5 : (ps[ps.length - 1]'(by omega) == 0) = false := by simpa using h5
 obtain ⟨l, rfl⟩ : ∃ l : Nat, log = l := ⟨log.toNat, by omega⟩
 have hsh : IntKind.i64.wrap (1 * 2 ^ (min l IntKind.i64.bits)) = (2 : Int) ^ l := by
  have : ∀ k : Fin 16, IntKind.i64.wrap (1 * 2 ^ (min k.val IntKind.i64.bits)) = (2 : Int) ^ k.val := by decide
  exact this ⟨l, by omega⟩
 have hyes : S7 (l : Int) ps = fits (2 ^ l) ps := by
  unfold S7 XH
  rw [decide_eq_true ⟨by omega, by omega, by omega, by omega, fun h => h5 ((St (by omega)).1 h)⟩, aiM] <;> rfl
 simp (disch := omega) only [aC, cF, aA, aV, aiR, cP, c0, aI, bD, d1, eU, cD, aiS, if_false, cB, fD, d2, dU, c1, fV, d3, d4, dZ, e1, aW, dS, aiM, g1, dJ, d5, iX, hsh, aD]
 unfold Fs Fg F1 Fh F7
 simp (disch := omega) only [aC, aV, aiR, aA, dU, c1, aI, fV]
 have hp15 := ZS (log := l) (by omega)
 have hp1 := Zx l
 refine cO.rule (fun m t w' => ∃ (i : Nat) (left : Int), m = ps.length - i /\ t = (.int .i64 left, .int .i64 i) /\ i <= ps.length /\ 0 <= left /\ left <= 32768 /\ fits (2 ^ l) ps = fits left (ps.drop i) /\ aX w w' dG) ps.length
  ⟨0, 2 ^ l, rfl, rfl, by omega, by omega, hp15, rfl, x1⟩ ?_
 rintro m t w2 ⟨i, left, rfl, rfl, hi, hl0, hl1, hf, x2⟩
 by_cases hlt : i < ps.length
 .have d6 : decide ((i : Int) < (ps.length : Int)) = true := by simp; omega
  have hsw := hs0.ext x2 (bY _)
  obtain ⟨b', off', c', e, _, hcell2⟩ := hsw.openI (by omega)
  cases e
  have g2 := hcell2 i hlt
  have hd : ps.drop i = ps[i] :: ps.drop (i + 1) := akA hlt
  rw [hd, fits] at hf
  by_cases h6 : ps[i] < -1
  .have d7 : decide (ps[i] < -1) = true := by simpa using h6
   simp (disch := omega) only [qG, aC, bD, d6, dS, aiM, bK, aW, aA, cP, g2, aI, d7, lK, cD, if_true, aG, eZ]
   rw [if_pos (.inl h6)] at hf
   exact ⟨by rw [hyes, hf], x2⟩
  have d7 : decide (ps[i] < -1) = false := by simpa using h6
  simp (disch := omega) only [qG, aC, bD, d6, dS, aiM, bK, aW, aA, cP, g2, aI, d7, eU, cD, aiS, if_false, cB, aG]
  refine (RC _ _).mono ?_
  rintro r w3 ⟨rfl, rfl⟩
  by_cases h7 : left < bX ps[i]
  .have d8 : decide (left < bX ps[i]) = true := by simpa using h7
   simp (disch := omega) only [fD, d8, aA, aG]
   rw [if_pos (.inr h7)] at hf
   exact ⟨by rw [hyes, hf], x2⟩
  have d8 : decide (left < bX ps[i]) = false := by simpa using h7
  simp (disch := omega) only [fD, d8, aA, aD]
  refine (RC _ _).mono ?_
  rintro r w3 ⟨rfl, rfl⟩
  rw [if_neg (by omega)] at hf
  have hpn := jH (p := ps[i]) (by omega)
  simp (disch := omega) only [dZ, aW, aA]
  exact ⟨ps.length - (i + 1), by omega, i + 1, left - bX ps[i], rfl, rfl, by omega, by omega, by omega, hf, x2⟩
 .have d6 : decide ((i : Int) < (ps.length : Int)) = false := by simp; omega
  rw [alT (by omega), fits] at hf
  unfold qG A6
  simp (disch := omega) only [aC, bD, d6, bK, aW, aA, dJ, aD]
  exact ⟨by rw [hyes, hf], x2⟩
def YN (log : Int) (ps : List Int) (most : Int) : Int := if S7 log ps = false then 1 else if most < log then 12 else 0
theorem XO {log most : Int} {sv : anW} {ps : List Int} {w : anV} (hs : Sl w sv (ps.map (Value.int .i64))) (hl : ps.length <= 9223372036854775807) :
 aU pg yH #[.agg #[.int .i64 log, sv], .int .i64 most] w (fun r w' => r = .int .i64 (YN log ps most) /\ aX w w' dG) := by
 refine NB ?_
 unfold Oq BS
 refine hY fun w1 o1 x1 s1 => ?_
 have hs := hs.ext x1 (bY _)
 rw [show aJ 145 = aJ 145 from rfl]
 have l1 := dV o1 (off := 0) (by simp [Value.cells])
 simp only [Value.cells, aiY, aiT, aiZ] at l1
 simp (disch := omega) only [aC, l1, cF, aA, cP]
 refine (adJ hs hl).mono ?_
 rintro r w2 ⟨rfl, x2⟩
 have o2 := o1.ext x2 (fun h => h)
 have c0 := o2.cell (off := 0)
 simp only [Value.cells, aiP] at c0
 unfold YN
 cases hm : S7 log ps with
 | false =>
   simp (disch := omega) only [Qr, amW, if_true, true_and, aA, aG]
   exact x1.seq x2
 | true =>
   by_cases h : most < log
   .have d : decide (most < log) = true := by simpa using h
    simp (disch := omega) only [Qr, akS, aA, c0, aI, fD, d, aG, aD]
    exact ⟨by simp [h], x1.seq x2⟩
   .have d : decide (most < log) = false := by simpa using h
    simp (disch := omega) only [Qr, akS, aA, c0, aI, fD, d, aD]
    exact ⟨by simp [h], x1.seq x2⟩
theorem VK.sub {a : Option Addr} {n c m c' k sz lo hi : Nat} (h : VK (.slice a n c) lo hi) (hm : m <= n) : VK (.slice (gU a c k sz) m c') lo hi := by
 intro M hM hin
 cases m with
 | zero => unfold U4 at hin; split at hin <;> simp_all
 | succ m =>
   obtain ⟨n', rfl⟩ : ∃ n', n = n' + 1 := ⟨n - 1, by omega⟩
   have h1 := h M hM
   cases a with
   | none => unfold gU at hin; split at hin <;> exact hin
   | some x =>
     unfold gU at hin
     have h2 : M x.block := by
      split at hin
      .exact hin
      .rw [akB] at hin
       have e : (x.add (k * sz)).block = x.block := by unfold Addr.add; split <;> rfl
       have h3 : M (x.add (k * sz)).block := hin
       rwa [e] at h3
     exact h1 h2
abbrev Bl (w : anV) (v : anW) (L : List Bool) : Prop := Sl w v (L.map Value.bool)
theorem afX {w : anV} {v : anW} {L : List Bool} (h : Bl w v L) : ∃ a c, v = .slice a L.length c /\ L.length <= c := by
 obtain ⟨a, n, c, rfl, hn, hc, _⟩ := h
 rw [aiX] at hn
 subst hn
 exact ⟨a, c, rfl, hc⟩
end Go.Proofs.YtaggdjhhmbnhoaaDoor
namespace Go.Pu
def AI : List UInt8 -> Nat
 | [] => 0
 | c :: l => c.toNat + 256 * AI l
theorem RD : ∀ l : List UInt8, AI l < 256 ^ l.length
 | [] => by simp [AI]
 | c :: l => by
   have := RD l
   have hc := c.toNat_lt
   rw [AI, ajK, ajS]; omega
theorem TV (c : UInt8) : ∀ l : List UInt8, AI (l ++ [c]) = AI l + 256 ^ l.length * c.toNat
 | [] => by simp [AI]
 | d :: l => by
   rw [alE, AI, TV c l, AI, ajK, ajS, Nat.mul_add, alL, akT (256 ^ l.length) 256, Nat.mul_assoc]
theorem Xz (i : Nat) : 256 ^ i = 2 ^ (8 * i) := by rw [Nat.pow_mul]
theorem abQ (l : List UInt8) (c : UInt8) : AI l ||| (c.toNat * 2 ^ (8 * l.length)) = AI (l ++ [c]) := by
 have := RD l
 rw [Xz] at this
 rw [WY this, TV, Xz]
def GI (x : Nat) : Nat -> List UInt8
 | 0 => []
 | n + 1 => UInt8.ofNat (x % 256) :: GI (x / 256) n
theorem xF : ∀ (n x : Nat), (GI x n).length = n
 | 0, _ => rfl
 | n + 1, x => by rw [GI, ajK, xF n]
theorem Tt : ∀ (n x : Nat), GI x (n + 1) = GI x n ++ [UInt8.ofNat (x / 256 ^ n % 256)]
 | 0, x => by simp [GI]
 | n + 1, x => by
   rw [GI, Tt n (x / 256), GI, alE, anK, ajS, akT (256 ^ n) 256]
def afB (f : Nat) : List UInt8 -> Except Int (Nat × List UInt8)
 | [] => .error 10
 | x :: r => .ok ((f - 128) * 256 + x.toNat, r)
def afH : List UInt8 -> Except Int (Nat × List UInt8)
 | x :: y :: r => .ok (x.toNat + 256 * y.toNat + 32512, r)
 | _ => .error 10
def Ov : List UInt8 -> Except Int (Nat × List UInt8)
 | [] => .error 10
 | f :: r => if f.toNat < 128 then .ok (f.toNat, r) else if f.toNat < 255 then afB f.toNat r else afH r
def Rp (n : Nat) : List UInt8 :=
 if n < 128 then [UInt8.ofNat n] else if n < 32512 then [UInt8.ofNat (n / 256 + 128), UInt8.ofNat (n % 256)] else UInt8.ofNat 255 :: GI (n - 32512) 2
theorem Hw {n : Nat} (h : n < 256) : (UInt8.ofNat n).toNat = n := by rw [UInt8.toNat_ofNat']; omega
theorem YU {n : Nat} (h : n <= 98047) (r : List UInt8) : Ov (Rp n ++ r) = .ok (n, r) := by
 unfold Rp
 split
 .show Ov (UInt8.ofNat n :: r) = _
  rw [Ov, Hw (by omega), if_pos (by omega)]
 .split
  .show Ov (UInt8.ofNat (n / 256 + 128) :: UInt8.ofNat (n % 256) :: r) = _
   rw [Ov, Hw (by omega), if_neg (by omega), if_pos (by omega)]
   show Except.ok ((n / 256 + 128 - 128) * 256 + (UInt8.ofNat (n % 256)).toNat, r) = _
   rw [Hw (by omega)]
   congr 2; omega
  .show Ov (UInt8.ofNat 255 :: (GI (n - 32512) 2 ++ r)) = _
   rw [Ov, Hw (by omega), if_neg (by omega), if_neg (by omega)]
   show Except.ok ((UInt8.ofNat ((n - 32512) % 256)).toNat + 256 * (UInt8.ofNat ((n - 32512) / 256 % 256)).toNat + 32512, r) = _
   rw [Hw (by omega), Hw (by omega)]
   congr 2; omega
end Go.Pu

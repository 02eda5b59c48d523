/- Parts of the proof of LiteralsBehind: merged and given short names by a program of ours. -/
import Derived.Laws.IdiomStrings
import Derived.Test.YtgpimhlgaokobaaZdA
set_option linter.unusedVariables false
set_option linter.unusedSimpArgs false
open Array renaming getD_eq_getD_getElem? → aiL, getElem?_eq_getElem → ajC, getElem?_setIfInBounds_self_of_lt → ajX, getElem?_setIfInBounds_ne → ajZ, length_toList → alH, getElem?_eq_none → alI, getElem?_modify → amP
open Bool renaming false_eq_true → aiD, and_eq_true → aiN, not_true → ajB, not_false → akU, or_eq_false_iff → amC
open Int renaming toNat_natCast → aiB, tmod_eq_emod_of_nonneg → ajO, tdiv_eq_ediv_of_nonneg → akG, fdiv_eq_ediv_of_nonneg → alK
open List renaming getElem?_cons_zero → ahZ, getElem?_cons_succ → aiA, length_append → aiE, set_cons_succ → aiF, set_cons_zero → aiG, getElem?_eq_getElem → aiH, length_map → aiI, getD_eq_getElem?_getD → aiJ, getElem?_eq_none → aiO, length_cons → aiP, take_succ_cons → aiQ, length_take → aiR, mem_cons_of_mem → aiT, length_drop → aiV, getElem?_append_left → aiX, map_append → aiZ, getElem?_map → ajA, map_congr_left → ajH, append_assoc → ajI, drop_eq_getElem_cons → ajK, mem_range → ajL, length_eq_zero_iff → ajM, length_singleton → ajP, replicate_succ → ajQ, mem_append → ajT, mem_cons → ajW, getElem?_take_of_lt → akA, append_nil → akB, getElem?_range → akD, getElem?_append_right → akF, cons_append → akJ, getElem_mem → akK, getElem?_toArray → akL, mem_map → akM, ext_getElem? → akQ, getElem_map → akX, map_cons → akZ, mem_of_mem_take → alB, take_add_one → alD, nil_append → alE, count_cons → alF, mem_cons_self → alN, getElem?_drop → alP, take_append_drop → alQ, count_append → alS, getElem?_replicate → alU, drop_succ_cons → alV, ext_getElem → alW, getElem_range → alZ, set_append_right → amA, flatten_cons → amB, take_length → amG, filter_cons → amH, take_left' → amL, mem_singleton → amM, getLast?_concat → amR, map_take → amT, mem_filter → amW, range_succ → amX, getLast?_eq_getElem? → amY, length_erase_of_mem → anA, length_range → anD, getElem_cons_zero → anE, getElem_cons_succ → anF, getElem_set_self → anN, map_map → anQ, set_append_left → anR, length_set → anS, map_set → anT
open Nat renaming zero_add → aiC, pow_le_pow_right → aiK, le_refl → aiM, lt_or_ge → aiS, two_pow_pos → aiY, mul_comm → ajD, mul_le_mul_right → ajG, mod_eq_of_lt → ajJ, add_mul → ajR, pow_succ → ajU, min_eq_left → ajY, pow_add → akC, add_zero → akN, add_sub_cancel → akO, le_trans → akT, mul_one → alA, div_le_self → alG, add_assoc → alJ, mod_two_eq_zero_or_one → alL, lt_of_lt_of_le → alM, eq_zero_or_pos → alX, sub_self → alY, mod_lt → amD, zero_le → amE, div_div_eq_div_mul → amN, div_lt_iff_lt_mul → amQ, one_mul → amU, mul_add → amV, mul_div_cancel_left → anB, lt_trichotomy → anC, mul_assoc → anI, log2_two_pow → anK, zero_mul → anP
open Option renaming isNone_some → ajF, map_some → ajS
open Option.some renaming inj → ajE
open UInt8 renaming toNat_lt → ajV, toNat_ofNat_of_lt' → akY
namespace Go.Proofs.Ytgpimhlgaokobaa
open Go Go.En
set_option maxRecDepth 20000
attribute [local irreducible] Go.En.bA
variable (Q : Exit -> Env -> anU -> Prop) (g : Env) (w : anU)
def bV : FA := ⟨qF, fun i => .leaf ([], []) []⟩
def zR : List ResultVar := [.cell 2 95, .tmp 3]
noncomputable def bP : Code := bT Try.f44
def Af (R : K1) (b2 b6 : anV) (w : anU) : Prop :=
 aD pg (aL 95 b6) w fun m1 w =>
 aD pg (bB 95 b2 m1) w fun _u w =>
 Mz pg 95 b2 w fun r0 => R (.tuple #[r0, (anW 0)]) w
theorem Pm (R : K1) (hr : HR zR R Q) (h : Af R (g 2) (g 6) w) : bA pg bV (aB 1 (aB 1 (aB 1 (aB 4 bP)))) Q g w :=
 dQ (kn := no) (l := []) h eZ hr trivial
def sY (kn : K5) (b2 b6 f1 f2 f3 : anV) (w : anU) : Prop :=
 aD pg (aG .add 3 aK aK f3 (anW 1)) w fun m0 w =>
 kn b2 b6 f1 f2 m0 w
theorem ON (kn : K5) (hn : N5 Q kn 2 6 41 42 43) (h : sY kn (g 2) (g 6) (g 41) (g 42) (g 43) w) : bA pg bV (aB 1 (aB 2 (bI (bI (aB 1 (aI 1 (aB 1 (aB 1 (aB 4 bP))))))))) Q g w :=
 dQ (kr := no) (l := []) h hn eZ trivial
def yG (kn : Ro) (k4 : K5) (b2 b6 xW Jx FK f1 f2 f3 j4 j5 : anV) (w : anU) : Prop :=
 aD pg (aG .lss 3 aK aK j5 j4) w fun j6 w =>
 eY j6
  (aD pg (aJ 95 b6 1) w fun j8 w =>
  aD pg (aL 93 j8) w fun j9 w =>
  aD pg (aG .add 3 aK aK FK j5) w fun l2 w =>
  aD pg (fB 3 5 xW) w fun l4 w =>
  aD pg (aJ 123 Jx 0) w fun l5 w =>
  aD pg (aL 3 l5) w fun l6 w =>
  aD pg (dG 125 [(0, l4), (1, l6)]) w fun l7 w =>
  aD pg (bK 93 j9 l2) w fun l8 w =>
  aD pg (bB 125 l8 l7) w fun _u w =>
  aD pg (aG .add 3 aK aK j5 (anW 1)) w fun l9 w =>
  kn b2 b6 xW Jx FK f1 f2 f3 j4 l9 w)
  (k4 b2 b6 f1 f2 f3 w)
theorem NV (kn : Ro) (k4 : K5) (hn : N10 Q kn 2 6 9 10 11 41 42 43 64 65) (h4 : E5 Q k4 4 2 6 41 42 43) (h : yG kn k4 (g 2) (g 6) (g 9) (g 10) (g 11) (g 41) (g 42) (g 43) (g 64) (g 65) w) : bA pg bV (bI (bI (aB 4 (bI (aI 1 (aB 2 (bI (bI (aB 1 (aI 1 (aB 1 (aB 1 (aB 4 bP))))))))))))) Q g w :=
 dQ (kr := no) (l := [(4, fun g w => k4 (g 2) (g 6) (g 41) (g 42) (g 43) w)]) h hn eZ ⟨h4, trivial⟩
def D2 (k4 : K5) (b2 b6 xW Jx FK f1 f2 f3 j4 j5 : anV) (w : anU) : Prop :=
 cK (fun (X : anV -> K0) (t : anV) (w : anU) => yG (fun _ _ _ _ _ _ _ _ _ j5 w => X j5 w) k4 b2 b6 xW Jx FK f1 f2 f3 j4 t w) j5 w
theorem OU (k4 : K5) (h4 : E5 Q k4 4 2 6 41 42 43) (h : D2 k4 (g 2) (g 6) (g 9) (g 10) (g 11) (g 41) (g 42) (g 43) (g 64) (g 65) w) : bA pg bV (bI (aB 4 (bI (aI 1 (aB 2 (bI (bI (aB 1 (aI 1 (aB 1 (aB 1 (aB 4 bP)))))))))))) Q g w := by
 refine NN (fun g : Env => g 65) (fun X t w => yG (fun _ _ _ _ _ _ _ _ _ j5 w => X j5 w) k4 (g 2) (g 6) (g 9) (g 10) (g 11) (g 41) (g 42) (g 43) (g 64) t w) h (fun X g1 w1 ha hL => ?_)
 rw [<- jB 2 ha, <- jB 6 ha, <- jB 9 ha, <- jB 10 ha, <- jB 11 ha, <- jB 41 ha, <- jB 42 ha, <- jB 43 ha, <- jB 64 ha] at hL
 exact (NV _ g1 w1 (fun _ _ _ _ _ _ _ _ _ j5 w => X j5 w) k4 (fun _ _ h => h) h4 hL)
def Eu (kn : K5) (b2 b6 xW Jx FK f1 f2 f3 j4 j5 : anV) (w : anU) : Prop :=
 D2 kn b2 b6 xW Jx FK f1 f2 f3 j4 j5 w
def EF (kn : Ro) (k3 : K5) (b2 b6 f1 f2 f3 : anV) (w : anU) : Prop :=
 aD pg (bK 102 f1 f3) w fun f6 w =>
 aD pg (aL 123 f6) w fun f7 w =>
 aD pg (eM 123) w fun Jx w =>
 aD pg (bB 123 Jx f7) w fun _u w =>
 aD pg (aJ 123 Jx 0) w fun f8 w =>
 aD pg (aL 3 f8) w fun f9 w =>
 aD pg (aG .eql 3 (.tmp 49) (.const (anW 0)) f9 (anW 0)) w fun i0 w =>
 eY i0
  (k3 b2 b6 f1 f2 f3 w)
  (aD pg (aJ 123 Jx 1) w fun i1 w =>
  aD pg (aL 3 i1) w fun i2 w =>
  aD pg (aJ 95 b6 0) w fun i3 w =>
  aD pg (aL 3 i3) w fun i4 w =>
  aD pg (aJ 123 Jx 0) w fun i5 w =>
  aD pg (aL 3 i5) w fun i6 w =>
  aD pg (aG .sub 3 aK aK i4 i6) w fun i7 w =>
  aD pg (aG .shl 3 aK aK i2 i7) w fun i8 w =>
  aD pg (aJ 95 b6 0) w fun i9 w =>
  aD pg (aL 3 i9) w fun j0 w =>
  aD pg (aJ 123 Jx 0) w fun j1 w =>
  aD pg (aL 3 j1) w fun j2 w =>
  aD pg (aG .sub 3 aK aK j0 j2) w fun j3 w =>
  aD pg (aG .shl 3 aK aK (anW 1) j3) w fun j4 w =>
  kn b2 b6 f3 Jx i8 f1 f2 f3 j4 (anW 0) w)
theorem O2 (kn : Ro) (k3 : K5) (hn : N10 Q kn 2 6 9 10 11 41 42 43 64 65) (h3 : E5 Q k3 3 2 6 41 42 43) (h : EF kn k3 (g 2) (g 6) (g 41) (g 42) (g 43) w) : bA pg bV (aI 4 (bI (aI 1 (aB 2 (bI (bI (aB 1 (aI 1 (aB 1 (aB 1 (aB 4 bP))))))))))) Q g w :=
 dQ (kr := no) (l := [(3, fun g w => k3 (g 2) (g 6) (g 41) (g 42) (g 43) w)]) h hn eZ ⟨h3, trivial⟩
def KK (kn : K5) (k3 : K5) (b2 b6 f1 f2 f3 : anV) (w : anU) : Prop :=
 EF (fun b2 b6 xW Jx FK f1 f2 f3 j4 j5 w => Eu kn b2 b6 xW Jx FK f1 f2 f3 j4 j5 w) k3 b2 b6 f1 f2 f3 w
def EH (kn : K5) (b2 b6 f1 f2 f3 : anV) (w : anU) : Prop :=
 KK kn kn b2 b6 f1 f2 f3 w
def DW (kn : K5) (b2 b6 f1 f2 f3 : anV) (w : anU) : Prop :=
 EH (fun b2 b6 f1 f2 f3 w => sY kn b2 b6 f1 f2 f3 w) b2 b6 f1 f2 f3 w
theorem Ok (kn : K5) (hn : N5 Q kn 2 6 41 42 43) (h : EH kn (g 2) (g 6) (g 41) (g 42) (g 43) w) : bA pg bV (aI 1 (aB 2 (bI (bI (aB 1 (aI 1 (aB 1 (aB 1 (aB 4 bP))))))))) Q g w :=
 FP 3 (gY 4 (O2 _ g w (Eu kn) kn (fun g w h => aM (FP 4 (OU _ g w kn hn h))) hn h))
def CU (kn : K5) (k2 : K2) (b2 b6 f1 f2 f3 : anV) (w : anU) : Prop :=
 aD pg (aG .lss 3 aK aK f3 f2) w fun f4 w =>
 eY f4
  (kn b2 b6 f1 f2 f3 w)
  (k2 b2 b6 w)
theorem Nq (kn : K5) (k2 : K2) (hn : N5 Q kn 2 6 41 42 43) (h2 : E2 Q k2 2 2 6) (h : CU kn k2 (g 2) (g 6) (g 41) (g 42) (g 43) w) : bA pg bV (aI 2 (bI (bI (aB 1 (aI 1 (aB 1 (aB 1 (aB 4 bP)))))))) Q g w :=
 dQ (kr := no) (l := [(2, fun g w => k2 (g 2) (g 6) w)]) h hn eZ ⟨h2, trivial⟩
def vS (kn : K5) (k2 : K2) (b2 b6 f1 f2 f3 : anV) (w : anU) : Prop :=
 CU (fun b2 b6 f1 f2 f3 w => DW kn b2 b6 f1 f2 f3 w) k2 b2 b6 f1 f2 f3 w
def CV (k2 : K2) (b2 b6 f1 f2 f3 : anV) (w : anU) : Prop :=
 cK (fun (X : anV -> K0) (t : anV) (w : anU) => vS (fun _ _ _ _ f3 w => X f3 w) k2 b2 b6 f1 f2 t w) f3 w
theorem Nt (kn : K5) (k2 : K2) (hn : N5 Q kn 2 6 41 42 43) (h2 : E2 Q k2 2 2 6) (h : vS kn k2 (g 2) (g 6) (g 41) (g 42) (g 43) w) : bA pg bV (bI (bI (aB 1 (aI 1 (aB 1 (aB 1 (aB 4 bP))))))) Q g w :=
 gY 2 (Nq _ g w (DW kn) k2 (fun g w h => aM (gY 1 (Ok _ g w (sY kn) (fun g w h => aM (ON _ g w kn hn h)) h))) h2 h)
theorem ND (k2 : K2) (h2 : E2 Q k2 2 2 6) (h : CV k2 (g 2) (g 6) (g 41) (g 42) (g 43) w) : bA pg bV (bI (aB 1 (aI 1 (aB 1 (aB 1 (aB 4 bP)))))) Q g w := by
 refine NN (fun g : Env => g 43) (fun X t w => vS (fun _ _ _ _ f3 w => X f3 w) k2 (g 2) (g 6) (g 41) (g 42) t w) h (fun X g1 w1 ha hL => ?_)
 rw [<- jB 2 ha, <- jB 6 ha, <- jB 41 ha, <- jB 42 ha] at hL
 exact (Nt _ g1 w1 (fun _ _ _ _ f3 w => X f3 w) k2 (fun _ _ h => h) h2 hL)
def Cr (kn : K2) (b2 b6 f1 f2 f3 : anV) (w : anU) : Prop :=
 CV kn b2 b6 f1 f2 f3 w
def CP (kn : K5) (b2 cV b6 : anV) (w : anU) : Prop :=
 aD pg (gD .len #[102] 3 [cV]) w fun f2 w =>
 kn b2 b6 cV f2 (anW 0) w
theorem M9 (kn : K5) (hn : N5 Q kn 2 6 41 42 43) (h : CP kn (g 2) (g 4) (g 6) w) : bA pg bV (aI 1 (aI 1 (aB 1 (aB 1 (aB 4 bP))))) Q g w :=
 dQ (kr := no) (l := []) h hn eZ trivial
def CW (kn : K2) (b2 cV b6 : anV) (w : anU) : Prop :=
 CP (fun b2 b6 f1 f2 f3 w => Cr kn b2 b6 f1 f2 f3 w) b2 cV b6 w
def CO (R : K1) (b2 cV b6 : anV) (w : anU) : Prop :=
 CW (fun b2 b6 w => Af R b2 b6 w) b2 cV b6 w
theorem Ni (kn : K2) (hn : N2 Q kn 2 6) (h : CW kn (g 2) (g 4) (g 6) w) : bA pg bV (aI 1 (aB 1 (aB 1 (aB 4 bP)))) Q g w :=
 gY 1 (M9 _ g w (Cr kn) (fun g w h => aM (FP 2 (ND _ g w kn hn h))) h)
def CE (kn : K3) (b2 cV b6 : anV) (w : anU) : Prop :=
 aD pg (aJ 95 b6 0) w fun e6 w =>
 aD pg (aL 3 e6) w fun e7 w =>
 aD pg (aG .shl 3 aK aK (anW 1) e7) w fun e8 w =>
 aD pg (iA 93 e8 e8) w fun e9 w =>
 aD pg (aJ 95 b6 1) w fun f0 w =>
 aD pg (bB 93 f0 e9) w fun _u w =>
 kn b2 cV b6 w
theorem M1 (kn : K3) (hn : N3 Q kn 2 4 6) (h : CE kn (g 2) (g 4) (g 6) w) : bA pg bV (aI 1 (aB 1 (aB 4 bP))) Q g w :=
 dQ (kr := no) (l := []) h hn eZ trivial
def CJ (R : K1) (b2 cV b6 : anV) (w : anU) : Prop :=
 CE (fun b2 cV b6 w => CO R b2 cV b6 w) b2 cV b6 w
def vG (kn : K6) (k0 : K3) (b2 cV b6 d3 d4 d5 : anV) (w : anU) : Prop :=
 aD pg (aG .lss 3 aK aK d5 d4) w fun d6 w =>
 eY d6
  (aD pg (bK 102 d3 d5) w fun d7 w =>
  aD pg (aL 123 d7) w fun d8 w =>
  aD pg (eM 123) w fun c_8 w =>
  aD pg (bB 123 c_8 d8) w fun _u w =>
  aD pg (aJ 95 b6 0) w fun d9 w =>
  aD pg (aL 3 d9) w fun e0 w =>
  aD pg (aJ 123 c_8 0) w fun e1 w =>
  aD pg (aL 3 e1) w fun e2 w =>
  aD pg (gD .max #[3, 3] 3 [e0, e2]) w fun e3 w =>
  aD pg (aJ 95 b6 0) w fun e4 w =>
  aD pg (bB 3 e4 e3) w fun _u w =>
  aD pg (aG .add 3 aK aK d5 (anW 1)) w fun e5 w =>
  kn b2 cV b6 d3 d4 e5 w)
  (k0 b2 cV b6 w)
theorem Nk (kn : K6) (k0 : K3) (hn : N6 Q kn 2 4 6 23 24 25) (h0 : E3 Q k0 0 2 4 6) (h : vG kn k0 (g 2) (g 4) (g 6) (g 23) (g 24) (g 25) w) : bA pg bV (bI (bI (aB 1 (aI 1 (aB 4 bP))))) Q g w :=
 dQ (kr := no) (l := [(0, fun g w => k0 (g 2) (g 4) (g 6) w)]) h hn eZ ⟨h0, trivial⟩
def CS (k0 : K3) (b2 cV b6 d3 d4 d5 : anV) (w : anU) : Prop :=
 cK (fun (X : anV -> K0) (t : anV) (w : anU) => vG (fun _ _ _ _ _ d5 w => X d5 w) k0 b2 cV b6 d3 d4 t w) d5 w
theorem Nn (k0 : K3) (h0 : E3 Q k0 0 2 4 6) (h : CS k0 (g 2) (g 4) (g 6) (g 23) (g 24) (g 25) w) : bA pg bV (bI (aB 1 (aI 1 (aB 4 bP)))) Q g w := by
 refine NN (fun g : Env => g 25) (fun X t w => vG (fun _ _ _ _ _ d5 w => X d5 w) k0 (g 2) (g 4) (g 6) (g 23) (g 24) t w) h (fun X g1 w1 ha hL => ?_)
 rw [<- jB 2 ha, <- jB 4 ha, <- jB 6 ha, <- jB 23 ha, <- jB 24 ha] at hL
 exact (Nk _ g1 w1 (fun _ _ _ _ _ d5 w => X d5 w) k0 (fun _ _ h => h) h0 hL)
def Cz (kn : K3) (b2 cV b6 d3 d4 d5 : anV) (w : anU) : Prop :=
 CS kn b2 cV b6 d3 d4 d5 w
def CI (kn : K6) (b2 cV b6 : anV) (w : anU) : Prop :=
 aD pg (gD .len #[102] 3 [cV]) w fun d4 w =>
 kn b2 cV b6 cV d4 (anW 0) w
theorem Nx (kn : K6) (hn : N6 Q kn 2 4 6 23 24 25) (h : CI kn (g 2) (g 4) (g 6) w) : bA pg bV (aI 1 (aI 1 (aB 4 bP))) Q g w :=
 dQ (kr := no) (l := []) h hn eZ trivial
def CK (kn : K3) (b2 cV b6 : anV) (w : anU) : Prop :=
 CI (fun b2 cV b6 d3 d4 d5 w => Cz kn b2 cV b6 d3 d4 d5 w) b2 cV b6 w
def Cu (R : K1) (b2 cV b6 : anV) (w : anU) : Prop :=
 CK (fun b2 cV b6 w => CJ R b2 cV b6 w) b2 cV b6 w
theorem NG (kn : K3) (hn : N3 Q kn 2 4 6) (h : CK kn (g 2) (g 4) (g 6) w) : bA pg bV (aI 1 (aB 4 bP)) Q g w :=
 gY 1 (Nx _ g w (Cz kn) (fun g w h => aM (FP 0 (Nn _ g w kn hn h))) h)
def vR (kn : K3) (R : K1) (eK : anV) (w : anU) : Prop :=
 aD pg (eM 95) w fun b2 w =>
 aP pg kD #[eK] w fun c5 w =>
 aD pg (bF c5 0) w fun c6 w =>
 aD pg (bF c5 1) w fun c7 w =>
 aD pg (aG .neq 25 (.tmp 18) (.const (anW 0)) c7 (anW 0)) w fun c9 w =>
 eY c9
  (aD pg (dG 95 []) w fun d0 w =>
  aD pg (bB 95 b2 d0) w fun _u w =>
  Mz pg 95 b2 w fun r0 => R (.tuple #[r0, c7]) w)
  (aD pg (dG 95 []) w fun d2 w =>
  aD pg (eM 95) w fun b6 w =>
  aD pg (bB 95 b6 d2) w fun _u w =>
  kn b2 c6 b6 w)
theorem M0 (kn : K3) (R : K1) (hn : N3 Q kn 2 4 6) (hr : HR zR R Q) (h : vR kn R (g 0) w) : bA pg bV (aI 4 bP) Q g w :=
 dQ (l := []) h hn hr trivial
def vM (R : K1) (eK : anV) (w : anU) : Prop :=
 vR (fun b2 cV b6 w => Cu R b2 cV b6 w) R eK w
theorem Nh (R : K1) (hr : HR zR R Q) (h : vM R (g 0) w) : bA pg bV bP Q g w :=
 gY 4 (M0 _ g w (Cu R) R (fun g w h => aM (gY 1 (NG _ g w (CJ R) (fun g w h => aM (gY 1 (M1 _ g w (CO R) (fun g w h => aM (gY 1 (Ni _ g w (Af R) (fun g w h => aM (Pm _ g w R hr h)) h))) h))) h))) hr h)
def Kj (a0 : anV) (w : anU) (R : K1) : Prop :=
 vM R a0 w
theorem G8 {a0 : anV} {w : anU} {R : K1} (h : Kj a0 w R) : aP pg qF #[a0] w R := by
 refine uS (ann := bV) Try.f44 bP [a0] zR 82 TryM.mixed Try.func44 ?_
 exact (Nh _ _ _ R (fun _ _ h => h) h)
def eP : FA := ⟨kG, fun i => match Nat.beq i 9 with | true => .leaf ([5], [(2, 5)]) [(false, []), (false, []), (false, []), (false, []), (false, []), (true, [2]), (false, []), (false, []), (false, [])] | false => .leaf ([], []) []⟩
def mC : List ResultVar := [.tmp 6, .tmp 7]
noncomputable def eE : Code := bT Try.f45
def lT (R : K1) (Qn gU c2 : anV) (w : anU) : Prop :=
 aP pg iB #[Qn] w fun j3 w =>
 aD pg (aG .add 3 aK aK j3 c2) w fun j5 w =>
 aD pg (aG .lss 3 aK aK j5 (anW 0)) w fun j8 w =>
 eY j8
  (R (.tuple #[(.slice none 0 0), (anW 11)]) w)
  (aD pg (aG .gtr 3 aK aK j5 (anW 0)) w fun l1 w =>
  eY l1
   (R (.tuple #[(.slice none 0 0), (anW 15)]) w)
   (R (.tuple #[gU, (anW 0)]) w))
theorem HB (R : K1) (hr : HR mC R Q) (h : lT R (g 8) (g 10) (g 12) w) : bA pg eP (aB 1 (aB 5 eE)) Q g w :=
 dQ (kn := no) (l := []) h eZ hr trivial
def mM (kn : K7) (k0 : K3) (b3 Qn gU fC c2 d6 d7 : anV) (w : anU) : Prop :=
 aD pg (aG .lss 3 aK aK d7 d6) w fun d8 w =>
 eY d8
  (aD pg (aJ 95 b3 0) w fun d9 w =>
  aD pg (aL 3 d9) w fun e0 w =>
  aD pg (aG .sub 3 aK aK e0 c2) w fun e2 w =>
  (dr w) = (dr w) /\
  (dr w) = (dr w) /\
  aD pg (aG .shl 3 aK aK fC e2) (dr w) fun e5 w_ => w_ = (dr w) /\
  (dr w) = (dr w) /\
  (dr w) = (dr w) /\
  aP pg hZ #[Qn, e2] (dr w) fun e8 Vw =>
  (eL pg (aG .shl 3 aK aK fC e2) e5 Vw /\ True) /\
  aD pg (fB 47 3 e8) Vw fun e9 w_ => w_ = Vw /\
  aD pg (aG .or 3 aK aK e5 e9) Vw fun f0 w_ => w_ = Vw /\
  Vw = Vw /\
  aD pg (aJ 95 b3 1) Vw fun f1 w =>
  aD pg (aL 93 f1) w fun f2 w =>
  aD pg (bK 93 f2 f0) w fun f4 w =>
  aD pg (aL 125 f4) w fun f5 w =>
  aD pg (eM 125) w fun adP w =>
  aD pg (bB 125 adP f5) w fun _u w =>
  aD pg (aJ 125 adP 0) w fun f7 w =>
  aD pg (aL 5 f7) w fun f8 w =>
  aD pg (cD 22 1 [(0, f8)]) w fun f9 w =>
  aD pg (gD .append #[22, 22] 22 [gU, f9]) w fun i0 w =>
  aD pg (aJ 95 b3 0) w fun i1 w =>
  aD pg (aL 3 i1) w fun i2 w =>
  aD pg (aJ 125 adP 1) w fun i3 w =>
  aD pg (aL 3 i3) w fun i4 w =>
  aD pg (aG .sub 3 aK aK i2 i4) w fun i5 w =>
  aD pg (aG .shl 3 aK aK (anW 1) i5) w fun i8 w =>
  aD pg (aG .sub 3 aK aK i8 (anW 1)) w fun i9 w =>
  aD pg (aG .and 3 aK aK f0 i9) w fun j0 w =>
  aD pg (aG .add 3 aK aK d7 (anW 1)) w fun j1 w =>
  kn b3 Qn i0 j0 i5 d6 j1 w)
  (k0 Qn gU c2 w)
theorem GM (kn : K7) (k0 : K3) (hn : N7 Q kn 3 8 10 11 12 26 27) (h0 : E3 Q k0 0 8 10 12) (h : mM kn k0 (g 3) (g 8) (g 10) (g 11) (g 12) (g 26) (g 27) w) : bA pg eP (bI (bI (aB 1 (aI 1 (aB 5 eE))))) Q g w :=
 dQ (kr := no) (l := [(0, fun g w => k0 (g 8) (g 10) (g 12) w)]) h hn eZ ⟨h0, trivial⟩
def sO (k0 : K3) (b3 Qn gU fC c2 d6 d7 : anV) (w : anU) : Prop :=
 cK (fun (X : (anV × anV × anV × anV) -> K0) (t : anV × anV × anV × anV) (w : anU) => mM (fun _ _ gU fC c2 _ d7 w => X (gU, fC, c2, d7) w) k0 b3 Qn t.1 t.2.1 t.2.2.1 d6 t.2.2.2 w) (gU, fC, c2, d7) w
theorem GP (k0 : K3) (h0 : E3 Q k0 0 8 10 12) (h : sO k0 (g 3) (g 8) (g 10) (g 11) (g 12) (g 26) (g 27) w) : bA pg eP (bI (aB 1 (aI 1 (aB 5 eE)))) Q g w := by
 refine NN (fun g : Env => (g 10, g 11, g 12, g 27)) (fun X t w => mM (fun _ _ gU fC c2 _ d7 w => X (gU, fC, c2, d7) w) k0 (g 3) (g 8) t.1 t.2.1 t.2.2.1 (g 26) t.2.2.2 w) h (fun X g1 w1 ha hL => ?_)
 rw [<- jB 3 ha, <- jB 8 ha, <- jB 26 ha] at hL
 exact (GM _ g1 w1 (fun _ _ gU fC c2 _ d7 w => X (gU, fC, c2, d7) w) k0 (fun _ _ h => h) h0 hL)
def sL (kn : K3) (b3 Qn gU fC c2 d6 d7 : anV) (w : anU) : Prop :=
 sO kn b3 Qn gU fC c2 d6 d7 w
def sW (kn : K7) (qY b3 Qn gU fC c2 : anV) (w : anU) : Prop :=
 kn b3 Qn gU fC c2 qY (anW 0) w
theorem G3 (kn : K7) (hn : N7 Q kn 3 8 10 11 12 26 27) (h : sW kn (g 2) (g 3) (g 8) (g 10) (g 11) (g 12) w) : bA pg eP (aI 1 (aI 1 (aB 5 eE))) Q g w :=
 dQ (kr := no) (l := []) h hn eZ trivial
def sV (kn : K3) (qY b3 Qn gU fC c2 : anV) (w : anU) : Prop :=
 sW (fun b3 Qn gU fC c2 d6 d7 w => sL kn b3 Qn gU fC c2 d6 d7 w) qY b3 Qn gU fC c2 w
def sR (R : K1) (qY b3 Qn gU fC c2 : anV) (w : anU) : Prop :=
 sV (fun Qn gU c2 w => lT R Qn gU c2 w) qY b3 Qn gU fC c2 w
theorem Hq (kn : K3) (hn : N3 Q kn 8 10 12) (h : sV kn (g 2) (g 3) (g 8) (g 10) (g 11) (g 12) w) : bA pg eP (aI 1 (aB 5 eE)) Q g w :=
 gY 1 (G3 _ g w (sL kn) (fun g w h => aM (FP 0 (GP _ g w kn hn h))) h)
def sC (kn : K6) (R : K1) (b0 ZN qY : anV) (w : anU) : Prop :=
 aD pg (Ic 95 b0) w fun b3 w =>
 aP pg jH #[ZN] w fun c8 w =>
 aD pg (bF c8 0) w fun c9 w =>
 aD pg (bF c8 1) w fun d0 w =>
 aD pg (aG .neq 25 (.tmp 21) (.const (anW 0)) d0 (anW 0)) w fun d2 w =>
 eY d2
  (R (.tuple #[(.slice none 0 0), d0]) w)
  (aD pg (iA 22 (anW 0) qY) w fun d5 w =>
  kn qY b3 c9 d5 (anW 0) (anW 0) w)
theorem GO (kn : K6) (R : K1) (hn : N6 Q kn 2 3 8 10 11 12) (hr : HR mC R Q) (h : sC kn R (g 0) (g 1) (g 2) w) : bA pg eP (aI 5 eE) Q g w :=
 dQ (l := []) h hn hr trivial
def sS (R : K1) (b0 ZN qY : anV) (w : anU) : Prop :=
 sC (fun qY b3 Qn gU fC c2 w => sR R qY b3 Qn gU fC c2 w) R b0 ZN qY w
theorem GG (R : K1) (hr : HR mC R Q) (h : sS R (g 0) (g 1) (g 2) w) : bA pg eP eE Q g w :=
 gY 5 (GO _ g w (sR R) R (fun g w h => aM (gY 1 (Hq _ g w (lT R) (fun g w h => aM (HB _ g w R hr h)) h))) hr h)
def Fu (a0 a1 a2 : anV) (w : anU) (R : K1) : Prop :=
 sS R a0 a1 a2 w
theorem HY {a0 a1 a2 : anV} {w : anU} {R : K1} (h : Fu a0 a1 a2 w R) : aP pg kG #[a0, a1, a2] w R := by
 refine uS (ann := eP) Try.f45 eE [a0, a1, a2] mC 73 TryM.mixed Try.func45 ?_
 exact (GG _ _ _ R (fun _ _ h => h) h)
def Ka : FA := ⟨yO, fun i => .leaf ([], []) []⟩
def MN : List ResultVar := [.cell 2 51, .tmp 3]
noncomputable def IC : Code := bT Try.f46
def FN (R : K1) (n_0 : anV) (w : anU) : Prop :=
 aD pg (eM 51) w fun b2 w =>
 aD pg (aG .add 3 aK aK n_0 (anW 4)) w fun b6 w =>
 aD pg (aG .sub 3 aK aK b6 (anW 1)) w fun b7 w =>
 aD pg (aG .quo 3 aK aK b7 (anW 4)) w fun b8 w =>
 aD pg (aG .mul 3 aK aK (anW 3) b8) w fun c4 w =>
 aD pg (aG .sub 3 aK aK n_0 c4) w fun c5 w =>
 aD pg (dG 51 [(0, b8), (1, b8), (2, b8), (3, c5)]) w fun c6 w =>
 aD pg (aG .mul 3 aK aK (anW 3) b8) w fun c9 w =>
 aD pg (aG .geq 3 aK aK n_0 c9) w fun d0 w =>
 aD pg (bB 51 b2 c6) w fun _u w =>
 Mz pg 51 b2 w fun r0 => R (.tuple #[r0, d0]) w
theorem Qx (R : K1) (hr : HR MN R Q) (h : FN R (g 0) w) : bA pg Ka IC Q g w :=
 dQ (kn := no) (l := []) h eZ hr trivial
def RL (a0 : anV) (w : anU) (R : K1) : Prop :=
 FN R a0 w
theorem Ri {a0 : anV} {w : anU} {R : K1} (h : RL a0 w R) : aP pg yO #[a0] w R := by
 refine uS (ann := Ka) Try.f46 IC [a0] MN 21 TryM.mixed Try.func46 ?_
 exact (Qx _ _ _ R (fun _ _ h => h) h)
def yU : FA := ⟨mG, fun i => .leaf ([], []) []⟩
def AF : List ResultVar := [.tmp 2]
noncomputable def xY : Code := bT Try.f47
def qG (R : K1) (G0 : anV) (w : anU) : Prop :=
 aD pg (aG .eql 52 (.tmp 3) (.const (.pointer none)) G0 (.pointer none)) w fun b4 w =>
 eY b4
  (R (anW 0) w)
  (aD pg (lN G0) w fun b6 w =>
  aD pg (aJ 64 b6 0) w fun b7 w =>
  aD pg (aL 22 b7) w fun b8 w =>
  aD pg (gD .len #[22] 3 [b8]) w fun b9 w =>
  R b9 w)
theorem Gc (R : K1) (hr : HR AF R Q) (h : qG R (g 0) w) : bA pg yU xY Q g w :=
 dQ (kn := no) (l := []) h eZ hr trivial
def EJ (a0 : anV) (w : anU) (R : K1) : Prop :=
 qG R a0 w
theorem G2 {a0 : anV} {w : anU} {R : K1} (h : EJ a0 w R) : aP pg mG #[a0] w R := by
 refine uS (ann := yU) Try.f47 xY [a0] AF 10 TryM.mixed Try.func47 ?_
 exact (Gc _ _ _ R (fun _ _ h => h) h)
def xX : FA := ⟨lD, fun i => .leaf ([], []) []⟩
def zP : List ResultVar := [.tmp 4]
noncomputable def uW : Code := bT Try.f48
def oN (R : K1) (G0 wD : anV) (w : anU) : Prop :=
 aD pg (aG .eql 52 (.tmp 5) (.const (.pointer none)) G0 (.pointer none)) w fun b6 w =>
 eY b6
  (R (.slice none 0 0) w)
  (aD pg (aG .geq 3 aK aK wD (anW 0)) w fun c0 w =>
  aP pg jU #[G0, wD, c0] w fun c1 w =>
  R c1 w)
theorem EX (R : K1) (hr : HR zP R Q) (h : oN R (g 0) (g 1) w) : bA pg xX uW Q g w :=
 dQ (kn := no) (l := []) h eZ hr trivial
def C3 (a0 a1 : anV) (w : anU) (R : K1) : Prop :=
 oN R a0 a1 w
theorem Gx {a0 a1 : anV} {w : anU} {R : K1} (h : C3 a0 a1 w R) : aP pg lD #[a0, a1] w R := by
 refine uS (ann := xX) Try.f48 uW [a0, a1] zP 12 TryM.mixed Try.func48 ?_
 exact (EX _ _ _ R (fun _ _ h => h) h)
def eQ : FA := ⟨rL, fun i => .leaf ([], []) []⟩
def wJ : List ResultVar := [.tmp 2]
noncomputable def eH : Code := bT Try.f49
def pM (R : K1) (Mx : anV) (w : anU) : Prop :=
 R Mx w
theorem IW (R : K1) (hr : HR wJ R Q) (h : pM R (g 3) w) : bA pg eQ (aB 1 (aB 1 (aB 2 eH))) Q g w :=
 dQ (kn := no) (l := []) h eZ hr trivial
def oX (kn : K3) (k0 : K1) (kE Mx U4 : anV) (w : anU) : Prop :=
 aD pg (gD .len #[22] 3 [kE]) w fun c4 w =>
 aD pg (aG .lss 3 aK aK U4 c4) w fun c5 w =>
 eY c5
  (aD pg (bK 22 kE U4) w fun d1 w =>
  aD pg (aL 5 d1) w fun d2 w =>
  aD pg (gD .max #[5, 5] 5 [Mx, d2]) w fun d3 w =>
  aD pg (aG .add 3 aK aK U4 (anW 1)) w fun c7 w =>
  kn kE d3 c7 w)
  (k0 Mx w)
theorem I5 (kn : K3) (k0 : K1) (hn : N3 Q kn 0 3 4) (h0 : E1 Q k0 0 3) (h : oX kn k0 (g 0) (g 3) (g 4) w) : bA pg eQ (bI (bI (aB 1 (aI 1 (aB 1 (aB 2 eH)))))) Q g w :=
 dQ (kr := no) (l := [(0, fun g w => k0 (g 3) w)]) h hn eZ ⟨h0, trivial⟩
def wX (k0 : K1) (kE Mx U4 : anV) (w : anU) : Prop :=
 cK (fun (X : (anV × anV) -> K0) (t : anV × anV) (w : anU) => oX (fun _ Mx U4 w => X (Mx, U4) w) k0 kE t.1 t.2 w) (Mx, U4) w
theorem I4 (k0 : K1) (h0 : E1 Q k0 0 3) (h : wX k0 (g 0) (g 3) (g 4) w) : bA pg eQ (bI (aB 1 (aI 1 (aB 1 (aB 2 eH))))) Q g w := by
 refine NN (fun g : Env => (g 3, g 4)) (fun X t w => oX (fun _ Mx U4 w => X (Mx, U4) w) k0 (g 0) t.1 t.2 w) h (fun X g1 w1 ha hL => ?_)
 rw [<- jB 0 ha] at hL
 exact (I5 _ g1 w1 (fun _ Mx U4 w => X (Mx, U4) w) k0 (fun _ _ h => h) h0 hL)
def wF (kn : K1) (kE Mx U4 : anV) (w : anU) : Prop :=
 wX kn kE Mx U4 w
def wV (kn : K3) (kE Mx : anV) (w : anU) : Prop :=
 kn kE Mx (anW 1) w
theorem Jl (kn : K3) (hn : N3 Q kn 0 3 4) (h : wV kn (g 0) (g 3) w) : bA pg eQ (aI 1 (aI 1 (aB 1 (aB 2 eH)))) Q g w :=
 dQ (kr := no) (l := []) h hn eZ trivial
def wM (kn : K1) (kE Mx : anV) (w : anU) : Prop :=
 wV (fun kE Mx U4 w => wF kn kE Mx U4 w) kE Mx w
def xB (R : K1) (kE Mx : anV) (w : anU) : Prop :=
 wM (fun Mx w => pM R Mx w) kE Mx w
theorem IT (kn : K1) (hn : N1 Q kn 3) (h : wM kn (g 0) (g 3) w) : bA pg eQ (aI 1 (aB 1 (aB 2 eH))) Q g w :=
 gY 1 (Jl _ g w (wF kn) (fun g w h => aM (FP 0 (I4 _ g w kn hn h))) h)
def xD (kn : K2) (kE : anV) (w : anU) : Prop :=
 aD pg (bK 22 kE (anW 0)) w fun c0 w =>
 aD pg (aL 5 c0) w fun c1 w =>
 kn kE c1 w
theorem I3 (kn : K2) (hn : N2 Q kn 0 3) (h : xD kn (g 0) w) : bA pg eQ (aI 1 (aB 2 eH)) Q g w :=
 dQ (kr := no) (l := []) h hn eZ trivial
def vU (R : K1) (kE : anV) (w : anU) : Prop :=
 xD (fun kE Mx w => xB R kE Mx w) kE w
def uL (kn : K1) (kE : anV) (w : anU) : Prop :=
 aD pg (gD .len #[22] 3 [kE]) w fun b6 w =>
 aD pg (aG .lss 3 aK aK b6 (anW 1)) w fun b7 w =>
 eY b7
  (aD pg (Wp 9 (.string ⟨#[115, 108, 105, 99, 101, 115, 46, 77, 97, 120, 58, 32, 101, 109, 112, 116, 121, 32, 108, 105, 115, 116]⟩)) w fun b8 w =>
  aD pg (V (Instr.panic b8)) w fun _u w =>
  kn kE w)
  (kn kE w)
theorem Iq (kn : K1) (hn : N1 Q kn 0) (h : uL kn (g 0) w) : bA pg eQ (aI 2 eH) Q g w :=
 dQ (kr := no) (l := []) h hn eZ trivial
def uM (R : K1) (kE : anV) (w : anU) : Prop :=
 uL (fun kE w => vU R kE w) kE w
theorem H2 (R : K1) (hr : HR wJ R Q) (h : uM R (g 0) w) : bA pg eQ eH Q g w :=
 gY 2 (Iq _ g w (vU R) (fun g w h => aM (gY 1 (I3 _ g w (xB R) (fun g w h => aM (gY 1 (IT _ g w (pM R) (fun g w h => aM (IW _ g w R hr h)) h))) h))) h)
def II (a0 : anV) (w : anU) (R : K1) : Prop :=
 uM R a0 w
theorem Kd {a0 : anV} {w : anU} {R : K1} (h : II a0 w R) : aP pg rL #[a0] w R := by
 refine uS (ann := eQ) Try.f49 eH [a0] wJ 25 TryM.mixed Try.func49 ?_
 exact (H2 _ _ _ R (fun _ _ h => h) h)
def bZ : FA := ⟨kD, fun i => .leaf ([], []) []⟩
def tU : List ResultVar := [.tmp 2, .tmp 3]
noncomputable def bR : Code := bT Try.f50
def tK (R : K1) (aX : anV) (w : anU) : Prop :=
 R (.tuple #[aX, (anW 0)]) w
theorem Mb (R : K1) (hr : HR tU R Q) (h : tK R (g 5) w) : bA pg bZ (aB 1 (aB 5 bR)) Q g w :=
 dQ (kn := no) (l := []) h eZ hr trivial
def tJ (kn : K5) (eK yB aX fV yC : anV) (w : anU) : Prop :=
 aD pg (aG .add 3 aK aK yC (anW 1)) w fun d0 w =>
 kn eK yB aX fV d0 w
theorem Mc (kn : K5) (hn : N5 Q kn 0 4 5 6 7) (h : tJ kn (g 0) (g 4) (g 5) (g 6) (g 7) w) : bA pg bZ (aB 1 (aB 1 (bI (bI (aB 1 (aI 1 (aB 5 bR))))))) Q g w :=
 dQ (kr := no) (l := []) h hn eZ trivial
def tS (kn : K7) (eK yB aX fV yC d2 d3 : anV) (w : anU) : Prop :=
 aD pg (aG .add 3 aK aK d3 (anW 1)) w fun i0 w =>
 kn eK yB aX fV yC d2 i0 w
theorem Mm (kn : K7) (hn : N7 Q kn 0 4 5 6 7 22 23) (h : tS kn (g 0) (g 4) (g 5) (g 6) (g 7) (g 22) (g 23) w) : bA pg bZ (aB 3 (bI (bI (aB 1 (bI (aI 1 (aB 1 (bI (bI (aB 1 (aI 1 (aB 5 bR)))))))))))) Q g w :=
 dQ (kr := no) (l := []) h hn eZ trivial
def A0 (kn : K7) (k2 : K5) (eK yB aX fV yC d2 d3 : anV) (w : anU) : Prop :=
 aD pg (aG .lss 3 aK aK d3 d2) w fun d4 w =>
 eY d4
  (aD pg (bK 22 eK d3) w fun d8 w =>
  aD pg (aL 5 d8) w fun d9 w =>
  aD pg (fB 5 3 d9) w fun e0 w =>
  aD pg (aG .neq 3 (.tmp 30) (.tmp 31) e0 yC) w fun e2 w =>
  eY e2
   (kn eK yB aX fV yC d2 d3 w)
   (aD pg (aG .add 3 aK aK yB (anW 1)) w fun e6 w =>
   aD pg (aG .sub 3 aK aK e6 yC) w fun e8 w =>
   aD pg (aG .sub 3 aK aK yC (anW 1)) w fun f1 w =>
   aD pg (aG .shr 3 aK aK fV f1) w fun f2 w =>
   aD pg (dG 123 [(0, e8), (1, f2)]) w fun f3 w =>
   aD pg (bK 102 aX d3) w fun f4 w =>
   aD pg (bB 123 f4 f3) w fun _u w =>
   aD pg (aG .sub 3 aK aK yC (anW 1)) w fun f7 w =>
   aD pg (aG .shl 3 aK aK (anW 1) f7) w fun f8 w =>
   aD pg (aG .add 3 aK aK fV f8) w fun f9 w =>
   kn eK yB aX f9 yC d2 d3 w))
  (k2 eK yB aX fV yC w)
theorem LL (kn : K7) (k2 : K5) (hn : N7 Q kn 0 4 5 6 7 22 23) (h2 : E5 Q k2 2 0 4 5 6 7) (h : A0 kn k2 (g 0) (g 4) (g 5) (g 6) (g 7) (g 22) (g 23) w) : bA pg bZ (aI 3 (bI (bI (aB 1 (bI (aI 1 (aB 1 (bI (bI (aB 1 (aI 1 (aB 5 bR)))))))))))) Q g w :=
 dQ (kr := no) (l := [(2, fun g w => k2 (g 0) (g 4) (g 5) (g 6) (g 7) w)]) h hn eZ ⟨h2, trivial⟩
def tV (kn : K7) (k2 : K5) (eK yB aX fV yC d2 d3 : anV) (w : anU) : Prop :=
 A0 (fun eK yB aX fV yC d2 d3 w => tS kn eK yB aX fV yC d2 d3 w) k2 eK yB aX fV yC d2 d3 w
def Bt (k2 : K5) (eK yB aX fV yC d2 d3 : anV) (w : anU) : Prop :=
 cK (fun (X : (anV × anV) -> K0) (t : anV × anV) (w : anU) => tV (fun _ _ _ fV _ _ d3 w => X (fV, d3) w) k2 eK yB aX t.1 yC d2 t.2 w) (fV, d3) w
theorem LR (kn : K7) (k2 : K5) (hn : N7 Q kn 0 4 5 6 7 22 23) (h2 : E5 Q k2 2 0 4 5 6 7) (h : tV kn k2 (g 0) (g 4) (g 5) (g 6) (g 7) (g 22) (g 23) w) : bA pg bZ (bI (bI (aB 1 (bI (aI 1 (aB 1 (bI (bI (aB 1 (aI 1 (aB 5 bR))))))))))) Q g w :=
 gY 3 (LL _ g w (tS kn) k2 (fun g w h => aM (Mm _ g w kn hn h)) h2 h)
theorem Mf (k2 : K5) (h2 : E5 Q k2 2 0 4 5 6 7) (h : Bt k2 (g 0) (g 4) (g 5) (g 6) (g 7) (g 22) (g 23) w) : bA pg bZ (bI (aB 1 (bI (aI 1 (aB 1 (bI (bI (aB 1 (aI 1 (aB 5 bR)))))))))) Q g w := by
 refine NN (fun g : Env => (g 6, g 23)) (fun X t w => tV (fun _ _ _ fV _ _ d3 w => X (fV, d3) w) k2 (g 0) (g 4) (g 5) t.1 (g 7) (g 22) t.2 w) h (fun X g1 w1 ha hL => ?_)
 rw [<- jB 0 ha, <- jB 4 ha, <- jB 5 ha, <- jB 7 ha, <- jB 22 ha] at hL
 exact (LR _ g1 w1 (fun _ _ _ fV _ _ d3 w => X (fV, d3) w) k2 (fun _ _ h => h) h2 hL)
def A7 (kn : K5) (eK yB aX fV yC d2 d3 : anV) (w : anU) : Prop :=
 Bt kn eK yB aX fV yC d2 d3 w
def A6 (kn : K7) (eK yB aX fV yC : anV) (w : anU) : Prop :=
 aD pg (gD .len #[22] 3 [eK]) w fun d2 w =>
 kn eK yB aX fV yC d2 (anW 0) w
theorem Ms (kn : K7) (hn : N7 Q kn 0 4 5 6 7 22 23) (h : A6 kn (g 0) (g 4) (g 5) (g 6) (g 7) w) : bA pg bZ (aI 1 (bI (aI 1 (aB 1 (bI (bI (aB 1 (aI 1 (aB 5 bR))))))))) Q g w :=
 dQ (kr := no) (l := []) h hn eZ trivial
def G6 (kn : K5) (eK yB aX fV yC : anV) (w : anU) : Prop :=
 A6 (fun eK yB aX fV yC d2 d3 w => A7 kn eK yB aX fV yC d2 d3 w) eK yB aX fV yC w
def zZ (kn : K5) (eK yB aX fV yC : anV) (w : anU) : Prop :=
 G6 kn eK yB aX fV yC w
def zQ (kn : K5) (eK yB aX fV yC : anV) (w : anU) : Prop :=
 zZ (fun eK yB aX fV yC w => tJ kn eK yB aX fV yC w) eK yB aX fV yC w
theorem KT (kn : K5) (hn : N5 Q kn 0 4 5 6 7) (h : zZ kn (g 0) (g 4) (g 5) (g 6) (g 7) w) : bA pg bZ (aI 1 (aB 1 (bI (bI (aB 1 (aI 1 (aB 5 bR))))))) Q g w :=
 FP 1 (gY 1 (Ms _ g w (A7 kn) (fun g w h => aM (FP 2 (Mf _ g w kn hn h))) h))
def Aq (kn : K5) (k0 : K1) (eK yB aX fV yC : anV) (w : anU) : Prop :=
 aD pg (aG .leq 3 aK aK yC yB) w fun c8 w =>
 eY c8
  (kn eK yB aX fV yC w)
  (k0 aX w)
theorem JP (kn : K5) (k0 : K1) (hn : N5 Q kn 0 4 5 6 7) (h0 : E1 Q k0 0 5) (h : Aq kn k0 (g 0) (g 4) (g 5) (g 6) (g 7) w) : bA pg bZ (aI 1 (bI (bI (aB 1 (aI 1 (aB 5 bR)))))) Q g w :=
 dQ (kr := no) (l := [(0, fun g w => k0 (g 5) w)]) h hn eZ ⟨h0, trivial⟩
def qV (kn : K5) (k0 : K1) (eK yB aX fV yC : anV) (w : anU) : Prop :=
 Aq (fun eK yB aX fV yC w => zQ kn eK yB aX fV yC w) k0 eK yB aX fV yC w
def zF (k0 : K1) (eK yB aX fV yC : anV) (w : anU) : Prop :=
 cK (fun (X : (anV × anV) -> K0) (t : anV × anV) (w : anU) => qV (fun _ _ _ fV yC w => X (fV, yC) w) k0 eK yB aX t.1 t.2 w) (fV, yC) w
theorem Ke (kn : K5) (k0 : K1) (hn : N5 Q kn 0 4 5 6 7) (h0 : E1 Q k0 0 5) (h : qV kn k0 (g 0) (g 4) (g 5) (g 6) (g 7) w) : bA pg bZ (bI (bI (aB 1 (aI 1 (aB 5 bR))))) Q g w :=
 gY 1 (JP _ g w (zQ kn) k0 (fun g w h => aM (gY 1 (KT _ g w (tJ kn) (fun g w h => aM (Mc _ g w kn hn h)) h))) h0 h)
theorem Lc (k0 : K1) (h0 : E1 Q k0 0 5) (h : zF k0 (g 0) (g 4) (g 5) (g 6) (g 7) w) : bA pg bZ (bI (aB 1 (aI 1 (aB 5 bR)))) Q g w := by
 refine NN (fun g : Env => (g 6, g 7)) (fun X t w => qV (fun _ _ _ fV yC w => X (fV, yC) w) k0 (g 0) (g 4) (g 5) t.1 t.2 w) h (fun X g1 w1 ha hL => ?_)
 rw [<- jB 0 ha, <- jB 4 ha, <- jB 5 ha] at hL
 exact (Ke _ g1 w1 (fun _ _ _ fV yC w => X (fV, yC) w) k0 (fun _ _ h => h) h0 hL)
def Al (kn : K1) (eK yB aX fV yC : anV) (w : anU) : Prop :=
 zF kn eK yB aX fV yC w
def zX (kn : K5) (eK yB aX fV : anV) (w : anU) : Prop :=
 kn eK yB aX fV (anW 1) w
theorem Kk (kn : K5) (hn : N5 Q kn 0 4 5 6 7) (h : zX kn (g 0) (g 4) (g 5) (g 6) w) : bA pg bZ (aI 1 (aI 1 (aB 5 bR))) Q g w :=
 dQ (kr := no) (l := []) h hn eZ trivial
def yD (kn : K1) (eK yB aX fV : anV) (w : anU) : Prop :=
 zX (fun eK yB aX fV yC w => Al kn eK yB aX fV yC w) eK yB aX fV w
def AA (R : K1) (eK yB aX fV : anV) (w : anU) : Prop :=
 yD (fun aX w => tK R aX w) eK yB aX fV w
theorem Kp (kn : K1) (hn : N1 Q kn 5) (h : yD kn (g 0) (g 4) (g 5) (g 6) w) : bA pg bZ (aI 1 (aB 5 bR)) Q g w :=
 gY 1 (Kk _ g w (Al kn) (fun g w h => aM (FP 0 (Lc _ g w kn hn h))) h)
def rQ (kn : K4) (R : K1) (eK : anV) (w : anU) : Prop :=
 aP pg pR #[eK] w fun c0 w =>
 aD pg (aG .eql 3 (.tmp 11) (.const (anW 0)) c0 (anW 0)) w fun c2 w =>
 eY c2
  (R (.tuple #[(.slice none 0 0), (anW 1)]) w)
  (aD pg (gD .len #[22] 3 [eK]) w fun c4 w =>
  aD pg (iA 102 c4 c4) w fun c5 w =>
  kn eK c0 c5 (anW 0) w)
theorem Kf (kn : K4) (R : K1) (hn : N4 Q kn 0 4 5 6) (hr : HR tU R Q) (h : rQ kn R (g 0) w) : bA pg bZ (aI 5 bR) Q g w :=
 dQ (l := []) h hn hr trivial
def rH (R : K1) (eK : anV) (w : anU) : Prop :=
 rQ (fun eK yB aX fV w => AA R eK yB aX fV w) R eK w
theorem Lb (R : K1) (hr : HR tU R Q) (h : rH R (g 0) w) : bA pg bZ bR Q g w :=
 gY 5 (Kf _ g w (AA R) R (fun g w h => aM (gY 1 (Kp _ g w (tK R) (fun g w h => aM (Mb _ g w R hr h)) h))) hr h)
def Gh (a0 : anV) (w : anU) (R : K1) : Prop :=
 rH R a0 w
theorem Dt {a0 : anV} {w : anU} {R : K1} (h : Gh a0 w R) : aP pg kD #[a0] w R := by
 refine uS (ann := bZ) Try.f50 bR [a0] tU 52 TryM.mixed Try.func50 ?_
 exact (Lb _ _ _ R (fun _ _ h => h) h)
def fK : FA := ⟨eT, fun i => match Nat.beq i 6 with | true => .leaf ([12], []) [(false, []), (false, []), (false, []), (false, []), (false, []), (false, []), (false, []), (false, []), (false, []), (false, []), (false, []), (false, []), (true, [])] | false => .leaf ([], []) []⟩
def sT : List ResultVar := [.cell 4 22, .cell 5 25]
noncomputable def bD : Code := bT Try.f51
def rD (kn : K0) (R : K1) (eX b4 b5 Jw s_8 : anV) (w : anU) : Prop :=
 aD pg (fB 5 3 s_8) w fun c5 w =>
 aD pg (aL 102 eX) w fun c6 w =>
 aD pg (gD .len #[102] 3 [c6]) w fun c7 w =>
 aD pg (aG .geq 3 aK aK c5 c7) w fun c8 w =>
 Gd (eS c8 false) (fun K => aD pg (aL 102 eX) w K) w fun d0 w =>
 Gd (eS c8 false) (fun K => K s_8 w) w fun d1 w =>
 Gd (eS c8 false) (fun K => aD pg (bK 102 d0 d1) w K) w fun d2 w =>
 Gd (eS c8 false) (fun K => aD pg (aJ 123 d2 0) w K) w fun d3 w =>
 Gd (eS c8 false) (fun K => aD pg (aL 3 d3) w K) w fun d4 w =>
 Gd (eS c8 false) (fun K => aD pg (aG .eql 3 (.tmp 24) (.const (anW 0)) d4 (anW 0)) w K) w fun d5 w =>
 aD pg (fH c8 (.bool true) d5) w fun d6 w =>
 eY d6
  (aD pg (bB 22 b4 (.slice none 0 0)) w fun _u w =>
  aD pg (bB 25 b5 (anW 1)) w fun _u w =>
  R (.tuple #[]) w)
  (aD pg (aL 126 Jw) (dr w) fun d7 w_ => w_ = (dr w) /\
  aD pg (aL 102 eX) (dr w) fun d8 w_ => w_ = (dr w) /\
  (dr w) = (dr w) /\
  aD pg (bK 102 d8 s_8) (dr w) fun e0 w_ => w_ = (dr w) /\
  aD pg (aJ 123 e0 1) (dr w) fun e1 w_ => w_ = (dr w) /\
  aD pg (aL 3 e1) (dr w) fun e2 w_ => w_ = (dr w) /\
  aD pg (fB 3 47 e2) (dr w) fun e3 w_ => w_ = (dr w) /\
  aD pg (aL 102 eX) (dr w) fun e4 w_ => w_ = (dr w) /\
  (dr w) = (dr w) /\
  aD pg (bK 102 e4 s_8) (dr w) fun e6 w_ => w_ = (dr w) /\
  aD pg (aJ 123 e6 0) (dr w) fun e7 w_ => w_ = (dr w) /\
  aD pg (aL 3 e7) (dr w) fun e8 w_ => w_ = (dr w) /\
  aP pg iN #[d7, e3, e8] (dr w) fun e9 agA =>
  kn agA)
theorem KQ (kn : K0) (R : K1) (hn : N0 Q kn) (hr : HR aeG R Q) (h : rD kn R (g 2) (g 4) (g 5) (g 6) (g 8) w) : bA pg fK (Xe bD) Q g w :=
 dQ (l := []) h hn hr trivial
def Au (kn : K5) (eX b4 b5 Jw c3 : anV) (w : anU) : Prop :=
 kn eX b4 b5 Jw c3 w
theorem KG (kn : K5) (hn : N5 Q kn 2 4 5 6 8) (h : Au kn (g 2) (g 4) (g 5) (g 6) (g 13) w) : bA pg fK (X1 bD) Q g w :=
 dQ (kr := no) (l := []) h hn eZ trivial
def Iw (l : Nat) (R : K1) (eX b4 b5 Jw c3 : anV) (w : anU) : Prop :=
 Au (fun eX b4 b5 Jw s_8 w => Rdy l w fun w => rD (fun w => U5 l none R w) (fun _ w => U5 l (some .ret) R w) eX b4 b5 Jw s_8 w) eX b4 b5 Jw c3 w
theorem NR {l : Nat} {tmps : Array anV} {w : anU} {R : K1} (hsz : tmps.size = 42) (h : Iw l R (I1 tmps 2) (I1 tmps 4) (I1 tmps 5) (I1 tmps 6) (I1 tmps 13) w) : TK pg l eT tmps (X1 bD) (Xe bD) w R :=
 dsR (ann := fK) 42 TryM.mixed hsz (KG (asQ pg fK l (Xe bD) R) (I1 tmps) w (fun eX b4 b5 Jw s_8 w => Rdy l w fun w => rD (U5 l none R) (fun _ w => U5 l (some .ret) R w) eX b4 b5 Jw s_8 w) (fun g w h => let ⟨r, h1, h2, h3⟩ := h; ⟨r, h1, h2, (KQ (Ug l R) g _ (U5 l none R) (fun _ w => U5 l (some .ret) R w) (fun _ _ h => h) (fun _ _ h => h) h3)⟩) h) (by kernel_rfl) (by kernel_rfl) (by kernel_rfl)
def tA (R : K1) (b4 b5 Jw t1000003 : anV) (w : anU) : Prop :=
 aD pg (aL 126 Jw) w fun f0 w =>
 aP pg lW #[f0] w fun f1 w =>
 aD pg (bB 22 b4 f1) w fun _u w =>
 aD pg (bB 25 b5 (anW 0)) w fun _u w =>
 AE t1000003 w fun w => Mz pg 22 b4 w fun r0 => Mz pg 25 b5 w fun r1 => R (.tuple #[r0, r1]) w
theorem OF (R : K1) (hr : HRF sT R Q) (h : tA R (g 4) (g 5) (g 6) (g 1000003) w) : bA pg fK (aB 1 (aB 2 bD)) Q g w :=
 dQ (kn := no) (l := []) h eZ hr trivial
def EN (kn : K4) (R : K1) (eX b4 b5 Jw c1 t1000003 : anV) (w : anU) : Prop :=
 ∀ g : Env, g 2 = eX -> g 4 = b4 -> g 5 = b5 -> g 6 = Jw -> g 11 = c1 -> g 1000003 = t1000003 -> RF pg eT (.tmp 11) (Y4 bD) (X1 bD) (Xe bD) (exQ (fun g w => kn (g 4) (g 5) (g 6) (g 1000003) w) (fun g w => AE (g 1000003) w fun w => Mz pg 22 (g 4) w fun r0 => Mz pg 25 (g 5) w fun r1 => R (.tuple #[r0, r1]) w) []) g w
theorem NU (kn : K4) (R : K1) (hn : N4 Q kn 4 5 6 1000003) (hr : HRF sT R Q) (h : EN kn R (g 2) (g 4) (g 5) (g 6) (g 11) (g 1000003) w) : bA pg fK (bI (aB 1 (aI 1 (aB 2 bD)))) Q g w :=
 dQ (l := []) (h g rfl rfl rfl rfl rfl rfl) hn hr trivial
def DJ (kn : K4) (R : K1) (eX b4 b5 Jw c1 t1000003 : anV) (w : anU) : Prop :=
 EN kn R eX b4 b5 Jw c1 t1000003 w
def EO (kn : K6) (NM eX b4 b5 Jw t1000003 : anV) (w : anU) : Prop :=
 aP pg pI #[NM] w fun c1 w =>
 kn eX b4 b5 Jw c1 t1000003 w
theorem O0 (kn : K6) (hn : N6 Q kn 2 4 5 6 11 1000003) (h : EO kn (g 1) (g 2) (g 4) (g 5) (g 6) (g 1000003) w) : bA pg fK (aI 1 (aI 1 (aB 2 bD))) Q g w :=
 dQ (kr := no) (l := []) h hn eZ trivial
def DV (kn : K4) (R : K1) (NM eX b4 b5 Jw t1000003 : anV) (w : anU) : Prop :=
 EO (fun eX b4 b5 Jw c1 t1000003 w => DJ kn R eX b4 b5 Jw c1 t1000003 w) NM eX b4 b5 Jw t1000003 w
def DQ (R : K1) (NM eX b4 b5 Jw t1000003 : anV) (w : anU) : Prop :=
 DV (fun b4 b5 Jw t1000003 w => tA R b4 b5 Jw t1000003 w) R NM eX b4 b5 Jw t1000003 w
theorem Pb (kn : K4) (R : K1) (hn : N4 Q kn 4 5 6 1000003) (hr : HRF sT R Q) (h : DV kn R (g 1) (g 2) (g 4) (g 5) (g 6) (g 1000003) w) : bA pg fK (aI 1 (aB 2 bD)) Q g w :=
 gY 1 (O0 _ g w (DJ kn R) (fun g w h => aM (FP 0 (NU _ g w kn R hn hr h))) h)
def DL (kn : K6) (T1 NM t1000003 : anV) (w : anU) : Prop :=
 aD pg (Ic 102 T1) w fun eX w =>
 aD pg (eM 22) w fun b4 w =>
 aD pg (eM 25) w fun b5 w =>
 aP pg tR #[] w fun b9 w =>
 aD pg (eM 126) w fun Jw w =>
 aD pg (bB 126 Jw b9) w fun _u w =>
 kn NM eX b4 b5 Jw t1000003 w
theorem Pr (kn : K6) (hn : N6 Q kn 1 2 4 5 6 1000003) (h : DL kn (g 0) (g 1) (g 1000003) w) : bA pg fK (aI 2 bD) Q g w :=
 dQ (kr := no) (l := []) h hn eZ trivial
def DU (R : K1) (T1 NM t1000003 : anV) (w : anU) : Prop :=
 DL (fun NM eX b4 b5 Jw t1000003 w => DQ R NM eX b4 b5 Jw t1000003 w) T1 NM t1000003 w
theorem OY (R : K1) (hr : HRF sT R Q) (h : DU R (g 0) (g 1) (g 1000003) w) : bA pg fK bD Q g w :=
 gY 2 (Pr _ g w (DQ R) (fun g w h => aM (gY 1 (Pb _ g w (tA R) R (fun g w h => aM (OF _ g w R hr h)) hr h))) h)
def QZ (a0 a1 : anV) (w : anU) (R : K1) : Prop :=
 DU R a0 a1 undef w
theorem PX {a0 a1 : anV} {w : anU} {R : K1} (h : QZ a0 a1 w R) : aP pg eT #[a0, a1] w R := by
 refine dsF (ann := fK) Try.f51 bD [a0, a1] sT 42 TryM.mixed Try.func51 ?_
 exact (OY _ _ _ R (fun _ _ h => h) h)
def C2 : FA := ⟨qU, fun i => .leaf ([], []) []⟩
def Dx : List ResultVar := [.tmp 2]
noncomputable def BY : Code := bT Try.f52
def xM (R : K1) (cP : anV) (w : anU) : Prop :=
 aP pg cI #[cP] w fun b4 w =>
 aD pg (dG 132 [(0, b4)]) w fun b5 w =>
 aD pg (Ic 132 b5) w fun b6 w =>
 R b6 w
theorem Ju (R : K1) (hr : HR Dx R Q) (h : xM R (g 0) w) : bA pg C2 BY Q g w :=
 dQ (kn := no) (l := []) h eZ hr trivial
def IB (a0 : anV) (w : anU) (R : K1) : Prop :=
 xM R a0 w
theorem JQ {a0 : anV} {w : anU} {R : K1} (h : IB a0 w R) : aP pg qU #[a0] w R := by
 refine uS (ann := C2) Try.f52 BY [a0] Dx 7 TryM.mixed Try.func52 ?_
 exact (Ju _ _ _ R (fun _ _ h => h) h)
def AT : FA := ⟨gO, fun i => match Nat.beq i 3 with | true => .leaf ([], []) [(false, []), (false, []), (false, []), (false, []), (false, []), (false, []), (false, []), (false, []), (false, []), (false, []), (false, []), (false, []), (false, []), (false, [])] | false => match Nat.beq i 5 with | true => .leaf ([9], []) [(false, []), (false, []), (false, []), (false, []), (false, []), (false, []), (false, []), (false, []), (false, []), (true, []), (false, [])] | false => .leaf ([], []) []⟩
def B7 : List ResultVar := [.tmp 4, .tmp 5]
noncomputable def zI : Code := bT Try.f53
def sD (R : K1) (HE wD : anV) (w : anU) : Prop :=
 aD pg (aG .eql 106 (.tmp 8) (.const (.pointer none)) HE (.pointer none)) w fun b9 w =>
 Gd (eS b9 false) (fun K => K wD w) w fun c1 w =>
 Gd (eS b9 false) (fun K => aD pg (aG .lss 3 aK aK c1 (anW 0)) w K) w fun c2 w =>
 aD pg (fH b9 (.bool true) c2) w fun c3 w =>
 Gd (eS c3 false) (fun K => K wD w) w fun c5 w =>
 Gd (eS c3 false) (fun K => aD pg (aG .gtr 3 aK aK c5 (anW 32)) w K) w fun c6 w =>
 aD pg (fH c3 (.bool true) c6) w fun c7 w =>
 eY c7
  (R (.tuple #[(.int .u64 0), (anW 1)]) w)
  ((dr w) = (dr w) /\
  aD pg (lN HE) (dr w) fun d0 w_ => w_ = (dr w) /\
  aD pg (aJ 132 d0 0) (dr w) fun d1 w_ => w_ = (dr w) /\
  aD pg (aL 22 d1) (dr w) fun d2 w_ => w_ = (dr w) /\
  aD pg (gD .len #[22] 3 [d2]) (dr w) fun d3 w_ => w_ = (dr w) /\
  aD pg (aG .mul 3 aK aK (anW 8) d3) (dr w) fun d4 w_ => w_ = (dr w) /\
  (dr w) = (dr w) /\
  aD pg (lN HE) (dr w) fun d6 w_ => w_ = (dr w) /\
  aD pg (aJ 132 d6 1) (dr w) fun d7 w_ => w_ = (dr w) /\
  aD pg (aL 3 d7) (dr w) fun d8 w_ => w_ = (dr w) /\
  aD pg (aG .sub 3 aK aK d4 d8) (dr w) fun d9 w_ => w_ = (dr w) /\
  (dr w) = (dr w) /\
  aD pg (aG .lss 3 aK aK d9 wD) (dr w) fun e1 w_ => w_ = (dr w) /\
  (dr w) = (dr w) /\
  eY e1
   (R (.tuple #[(.int .u64 0), (anW 10)]) (dr w))
   ((dr (dr w)) = (dr (dr w)) /\
   aD pg (lN HE) (dr (dr w)) fun e3 w_ => w_ = (dr (dr w)) /\
   aD pg (aJ 132 e3 0) (dr (dr w)) fun e4 w_ => w_ = (dr (dr w)) /\
   aD pg (aL 22 e4) (dr (dr w)) fun e5 w_ => w_ = (dr (dr w)) /\
   (dr (dr w)) = (dr (dr w)) /\
   aD pg (lN HE) (dr (dr w)) fun e7 w_ => w_ = (dr (dr w)) /\
   aD pg (aJ 132 e7 1) (dr (dr w)) fun e8 w_ => w_ = (dr (dr w)) /\
   aD pg (aL 3 e8) (dr (dr w)) fun e9 w_ => w_ = (dr (dr w)) /\
   (dr (dr w)) = (dr (dr w)) /\
   aP pg Cd #[e5, e9, wD] (dr (dr w)) fun f1 adU =>
   adU = adU /\
   aD pg (lN HE) adU fun f3 w =>
   aD pg (aJ 132 f3 1) w fun f4 w =>
   aD pg (aL 3 f4) w fun f5 w =>
   aD pg (aG .add 3 aK aK f5 wD) w fun f7 w =>
   aD pg (lN HE) w fun f8 w =>
   aD pg (aJ 132 f8 1) w fun f9 w =>
   aD pg (bB 3 f9 f7) w fun _u w =>
   R (.tuple #[f1, (anW 0)]) w))
theorem GU (R : K1) (hr : HR B7 R Q) (h : sD R (g 0) (g 1) w) : bA pg AT zI Q g w :=
 dQ (kn := no) (l := []) h eZ hr trivial
def Fz (a0 a1 : anV) (w : anU) (R : K1) : Prop :=
 sD R a0 a1 w
theorem HI {a0 a1 : anV} {w : anU} {R : K1} (h : Fz a0 a1 w R) : aP pg gO #[a0, a1] w R := by
 refine uS (ann := AT) Try.f53 zI [a0, a1] B7 51 TryM.mixed Try.func53 ?_
 exact (GU _ _ _ R (fun _ _ h => h) h)
def Hf : FA := ⟨yJ, fun i => .leaf ([], []) []⟩
def IK : List ResultVar := [.tmp 4, .tmp 5]
noncomputable def Fk : Code := bT Try.f54
def CD (R : K1) (HE Zd : anV) (w : anU) : Prop :=
 aD pg (aG .add 3 aK aK Zd (anW 1)) w fun c2 w =>
 aD pg (fB 3 48 c2) w fun c3 w =>
 aP pg iT #[c3] w fun c4 w =>
 aD pg (aG .sub 3 aK aK c4 (anW 1)) w fun c8 w =>
 aP pg gO #[HE, c8] w fun c9 w =>
 aD pg (bF c9 0) w fun d0 w =>
 aD pg (bF c9 1) w fun d1 w =>
 aD pg (aG .neq 25 (.tmp 22) (.const (anW 0)) d1 (anW 0)) w fun d3 w =>
 eY d3
  (R (.tuple #[(anW 0), d1]) w)
  (aD pg (aG .shl 3 aK aK (anW 1) c4) w fun d6 w =>
  aD pg (aG .sub 3 aK aK d6 (anW 2)) w fun d7 w =>
  aD pg (aG .sub 3 aK aK d7 Zd) w fun d9 w =>
  aD pg (fB 47 3 d0) w fun e1 w =>
  aD pg (aG .lss 3 aK aK e1 d9) w fun e3 w =>
  eY e3
   (aD pg (fB 47 3 d0) w fun e5 w =>
   R (.tuple #[e5, (anW 0)]) w)
   (aP pg gO #[HE, (anW 1)] w fun e8 w =>
   aD pg (bF e8 0) w fun e9 w =>
   aD pg (bF e8 1) w fun f0 w =>
   aD pg (aG .neq 25 (.tmp 42) (.const (anW 0)) f0 (anW 0)) w fun f3 w =>
   eY f3
    (R (.tuple #[(anW 0), f0]) w)
    (aD pg (aG .eql 47 (.tmp 46) (.const (.int .u64 0)) e9 (.int .u64 0)) w fun f7 w =>
    eY f7
     (aD pg (fB 47 3 d0) w fun f9 w =>
     R (.tuple #[f9, (anW 0)]) w)
     (aD pg (fB 47 3 d0) w fun i1 w =>
     aD pg (aG .sub 3 aK aK c4 (anW 1)) w fun i3 w =>
     aD pg (aG .shl 3 aK aK (anW 1) i3) w fun i4 w =>
     aD pg (aG .add 3 aK aK i1 i4) w fun i5 w =>
     aD pg (aG .sub 3 aK aK i5 d9) w fun i7 w =>
     R (.tuple #[i7, (anW 0)]) w))))
theorem Na (R : K1) (hr : HR IK R Q) (h : CD R (g 0) (g 1) w) : bA pg Hf Fk Q g w :=
 dQ (kn := no) (l := []) h eZ hr trivial
def Pj (a0 a1 : anV) (w : anU) (R : K1) : Prop :=
 CD R a0 a1 w
theorem NZ {a0 a1 : anV} {w : anU} {R : K1} (h : Pj a0 a1 w R) : aP pg yJ #[a0, a1] w R := by
 refine uS (ann := Hf) Try.f54 Fk [a0, a1] IK 58 TryM.mixed Try.func54 ?_
 exact (Na _ _ _ R (fun _ _ h => h) h)
def Hj : FA := ⟨oC, fun i => .leaf ([], []) []⟩
def Is : List ResultVar := [.tmp 2]
noncomputable def FB : Code := bT Try.f55
def vT (R : K1) (p_0 : anV) (w : anU) : Prop :=
 aD pg (aG .lss 3 aK aK p_0 (anW 0)) w fun b4 w =>
 eY b4
  (R (anW 1) w)
  (R p_0 w)
theorem Nl (R : K1) (hr : HR Is R Q) (h : vT R (g 0) w) : bA pg Hj FB Q g w :=
 dQ (kn := no) (l := []) h eZ hr trivial
def Ie (a0 : anV) (w : anU) (R : K1) : Prop :=
 vT R a0 w
theorem On {a0 : anV} {w : anU} {R : K1} (h : Ie a0 w R) : aP pg oC #[a0] w R := by
 refine uS (ann := Hj) Try.f55 FB [a0] Is 6 TryM.mixed Try.func55 ?_
 exact (Nl _ _ _ R (fun _ _ h => h) h)
def gB : FA := ⟨tP, fun i => .leaf ([], []) []⟩
def kC : List ResultVar := [.tmp 2, .tmp 3]
noncomputable def fN : Code := bT Try.f56
def rU (R : K1) (rW : anV) (w : anU) : Prop :=
 R (.tuple #[rW, (anW 0)]) w
theorem JC (R : K1) (hr : HR kC R Q) (h : rU R (g 4) w) : bA pg gB (aB 1 (aB 2 (bI (aB 1 fN)))) Q g w :=
 dQ (kn := no) (l := []) h eZ hr trivial
def rJ (kn : K2) (k0 : K1) (R : K1) (HE rW : anV) (w : anU) : Prop :=
 aP pg gO #[HE, (anW 2)] w fun b9 w =>
 aD pg (bF b9 0) w fun c0 w =>
 aD pg (bF b9 1) w fun c1 w =>
 aD pg (aG .neq 25 (.tmp 12) (.const (anW 0)) c1 (anW 0)) w fun c3 w =>
 eY c3
  (R (.tuple #[(anW 0), c1]) w)
  (aD pg (fB 47 3 c0) w fun c7 w =>
  aD pg (aG .add 3 aK aK rW c7) w fun c8 w =>
  aD pg (aG .lss 47 aK aK c0 (.int .u64 3)) w fun d0 w =>
  eY d0
   (k0 c8 w)
   (kn HE c8 w))
theorem KC (kn : K2) (k0 : K1) (R : K1) (hn : N2 Q kn 0 4) (h0 : E1 Q k0 0 4) (hr : HR kC R Q) (h : rJ kn k0 R (g 0) (g 4) w) : bA pg gB (bI (bI (aI 1 (aB 2 (bI (aB 1 fN)))))) Q g w :=
 dQ (l := [(0, fun g w => k0 (g 4) w)]) h hn hr ⟨h0, trivial⟩
def zG (k0 : K1) (R : K1) (HE rW : anV) (w : anU) : Prop :=
 cK (fun (X : anV -> K0) (t : anV) (w : anU) => rJ (fun _ rW w => X rW w) k0 R HE t w) rW w
theorem Ld (k0 : K1) (R : K1) (h0 : E1 Q k0 0 4) (hr : HR kC R Q) (h : zG k0 R (g 0) (g 4) w) : bA pg gB (bI (aI 1 (aB 2 (bI (aB 1 fN))))) Q g w := by
 refine NN (fun g : Env => g 4) (fun X t w => rJ (fun _ rW w => X rW w) k0 R (g 0) t w) h (fun X g1 w1 ha hL => ?_)
 rw [<- jB 0 ha] at hL
 exact (KC _ g1 w1 (fun _ rW w => X rW w) k0 R (fun _ _ h => h) h0 hr hL)
def Aj (kn : K1) (R : K1) (HE rW : anV) (w : anU) : Prop :=
 zG kn R HE rW w
def yL (R : K1) (HE rW : anV) (w : anU) : Prop :=
 Aj (fun rW w => rU R rW w) R HE rW w
theorem Kx (kn : K1) (R : K1) (hn : N1 Q kn 4) (hr : HR kC R Q) (h : Aj kn R (g 0) (g 4) w) : bA pg gB (aI 1 (aB 2 (bI (aB 1 fN)))) Q g w :=
 FP 0 (Ld _ g w kn R hn hr h)
def Ao (kn : K2) (HE : anV) (w : anU) : Prop :=
 kn HE (anW 0) w
theorem JB (kn : K2) (hn : N2 Q kn 0 4) (h : Ao kn (g 0) w) : bA pg gB (aI 2 (bI (aB 1 fN))) Q g w :=
 dQ (kr := no) (l := []) h hn eZ trivial
def FI (R : K1) (HE : anV) (w : anU) : Prop :=
 Ao (fun HE rW w => yL R HE rW w) HE w
def Az (R : K1) (HE : anV) (w : anU) : Prop :=
 FI R HE w
def Ah (kn : K1) (HE : anV) (w : anU) : Prop :=
 kn HE w
theorem J5 (kn : K1) (hn : N1 Q kn 0) (h : Ah kn (g 0) w) : bA pg gB (aI 1 fN) Q g w :=
 dQ (kr := no) (l := []) h hn eZ trivial
def wG (R : K1) (HE : anV) (w : anU) : Prop :=
 Ah (fun HE w => Az R HE w) HE w
theorem Ja (R : K1) (hr : HR kC R Q) (h : wG R (g 0) w) : bA pg gB fN Q g w :=
 gY 1 (J5 _ g w (Az R) (fun g w h => aM (scD (gY 2 (JB _ g w (yL R) (fun g w h => aM (gY 1 (Kx _ g w (rU R) R (fun g w h => aM (JC _ g w R hr h)) hr h))) h)))) h)
def Jy (a0 : anV) (w : anU) (R : K1) : Prop :=
 wG R a0 w
theorem Mo {a0 : anV} {w : anU} {R : K1} (h : Jy a0 w R) : aP pg tP #[a0] w R := by
 refine uS (ann := gB) Try.f56 fN [a0] kC 22 TryM.mixed Try.func56 ?_
 exact (Ja _ _ _ R (fun _ _ h => h) h)
def AJ : FA := ⟨mZ, fun i => .leaf ([], []) []⟩
def Cf : List ResultVar := [.tmp 2]
noncomputable def Ax : Code := bT Try.f57
def sQ (R : K1) (HE : anV) (w : anU) : Prop :=
 aD pg (aG .eql 106 (.tmp 3) (.const (.pointer none)) HE (.pointer none)) w fun b4 w =>
 eY b4
  (R (anW 0) w)
  (aD pg (lN HE) w fun b6 w =>
  aD pg (aJ 132 b6 1) w fun b7 w =>
  aD pg (aL 3 b7) w fun b8 w =>
  aD pg (aG .add 3 aK aK b8 (anW 7)) w fun b9 w =>
  aD pg (aG .quo 3 aK aK b9 (anW 8)) w fun c0 w =>
  R c0 w)
theorem Hi (R : K1) (hr : HR Cf R Q) (h : sQ R (g 0) w) : bA pg AJ Ax Q g w :=
 dQ (kn := no) (l := []) h eZ hr trivial
def Fm (a0 : anV) (w : anU) (R : K1) : Prop :=
 sQ R a0 w
theorem H5 {a0 : anV} {w : anU} {R : K1} (h : Fm a0 w R) : aP pg mZ #[a0] w R := by
 refine uS (ann := AJ) Try.f57 Ax [a0] Cf 11 TryM.mixed Try.func57 ?_
 exact (Hi _ _ _ R (fun _ _ h => h) h)
def EA : FA := ⟨tW, fun i => .leaf ([], []) []⟩
def Fl : List ResultVar := [.tmp 2]
noncomputable def C7 : Code := bT Try.f58
def zE (R : K1) (kE : anV) (w : anU) : Prop :=
 aD pg (L1 9 (.string ⟨#[0, 1, 2, 2, 3, 3, 3, 3, 4, 4, 4, 4, 4, 4, 4, 4, 5, 5, 5, 5, 5, 5, 5, 5, 5, 5, 5, 5, 5, 5, 5, 5, 6, 6, 6, 6, 6, 6, 6, 6, 6, 6, 6, 6, 6, 6, 6, 6, 6, 6, 6, 6, 6, 6, 6, 6, 6, 6, 6, 6, 6, 6, 6, 6, 7, 7, 7, 7, 7, 7, 7, 7, 7, 7, 7, 7, 7, 7, 7, 7, 7, 7, 7, 7, 7, 7, 7, 7, 7, 7, 7, 7, 7, 7, 7, 7, 7, 7, 7, 7, 7, 7, 7, 7, 7, 7, 7, 7, 7, 7, 7, 7, 7, 7, 7, 7, 7, 7, 7, 7, 7, 7, 7, 7, 7, 7, 7, 7, 8, 8, 8, 8, 8, 8, 8, 8, 8, 8, 8, 8, 8, 8, 8, 8, 8, 8, 8, 8, 8, 8, 8, 8, 8, 8, 8, 8, 8, 8, 8, 8, 8, 8, 8, 8, 8, 8, 8, 8, 8, 8, 8, 8, 8, 8, 8, 8, 8, 8, 8, 8, 8, 8, 8, 8, 8, 8, 8, 8, 8, 8, 8, 8, 8, 8, 8, 8, 8, 8, 8, 8, 8, 8, 8, 8, 8, 8, 8, 8, 8, 8, 8, 8, 8, 8, 8, 8, 8, 8, 8, 8, 8, 8, 8, 8, 8, 8, 8, 8, 8, 8, 8, 8, 8, 8, 8, 8, 8, 8, 8, 8, 8, 8, 8, 8, 8, 8, 8, 8, 8, 8, 8, 8, 8, 8, 8, 8]⟩) kE) w fun b4 w =>
 aD pg (fB 5 3 b4) w fun b5 w =>
 R b5 w
theorem Jz (R : K1) (hr : HR Fl R Q) (h : zE R (g 0) w) : bA pg EA C7 Q g w :=
 dQ (kn := no) (l := []) h eZ hr trivial
def Ks (a0 : anV) (w : anU) (R : K1) : Prop :=
 zE R a0 w
theorem Lw {a0 : anV} {w : anU} {R : K1} (h : Ks a0 w R) : aP pg tW #[a0] w R := by
 refine uS (ann := EA) Try.f58 C7 [a0] Fl 6 TryM.mixed Try.func58 ?_
 exact (Jz _ _ _ R (fun _ _ h => h) h)
def GK : FA := ⟨Am, fun i => .leaf ([], []) []⟩
def Iz : List ResultVar := [.tmp 4]
noncomputable def Fi : Code := bT Try.f59
def CT (R : K1) (WO R3 : anV) (w : anU) : Prop :=
 aD pg (Ic 73 WO) w fun c_2 w =>
 aD pg (aL 73 c_2) w fun b6 w =>
 aP pg Di #[b6] w fun b7 w =>
 aD pg (X0 .not b7) w fun b8 w =>
 eY b8
  (R (anW 1) w)
  (aD pg (aJ 73 c_2 0) w fun c0 w =>
  aD pg (aL 3 c0) w fun c1 w =>
  aD pg (aG .gtr 3 aK aK c1 R3) w fun c3 w =>
  eY c3
   (R (anW 12) w)
   (R (anW 0) w))
theorem Nj (R : K1) (hr : HR Iz R Q) (h : CT R (g 0) (g 1) w) : bA pg GK Fi Q g w :=
 dQ (kn := no) (l := []) h eZ hr trivial
def Oh (a0 a1 : anV) (w : anU) (R : K1) : Prop :=
 CT R a0 a1 w
theorem Ow {a0 a1 : anV} {w : anU} {R : K1} (h : Oh a0 a1 w R) : aP pg Am #[a0, a1] w R := by
 refine uS (ann := GK) Try.f59 Fi [a0, a1] Iz 14 TryM.mixed Try.func59 ?_
 exact (Nj _ _ _ R (fun _ _ h => h) h)
def bE : FA := ⟨yX, fun i => .leaf ([], []) []⟩
def FO : List ResultVar := [.tmp 2]
noncomputable def aZ : Code := bT Try.f60
def BU (R : K1) (aV : anV) (w : anU) : Prop :=
 R aV w
theorem Qd (R : K1) (hr : HR FO R Q) (h : BU R (g 4) w) : bA pg bE (aB 1 (aB 1 (aB 1 (aB 4 aZ)))) Q g w :=
 dQ (kn := no) (l := []) h eZ hr trivial
def BS (kn : K7) (gQ aV aO cS e7 e8 e9 : anV) (w : anU) : Prop :=
 aD pg (aG .add 3 aK aK e9 (anW 1)) w fun j8 w =>
 kn gQ aV aO cS e7 e8 j8 w
theorem PU (kn : K7) (hn : N7 Q kn 3 4 5 8 37 38 39) (h : BS kn (g 3) (g 4) (g 5) (g 8) (g 37) (g 38) (g 39) w) : bA pg bE (aB 1 (aB 2 (bI (bI (aB 1 (aI 1 (aB 1 (aB 1 (aB 4 aZ))))))))) Q g w :=
 dQ (kr := no) (l := []) h hn eZ trivial
def BO (kn : Ro) (gQ aV aO cS xW e7 e8 e9 f5 f6 : anV) (w : anU) : Prop :=
 aD pg (aG .add 3 aK aK f6 (anW 1)) w fun j7 w =>
 kn gQ aV aO cS xW e7 e8 e9 f5 j7 w
theorem Qw (kn : Ro) (hn : N10 Q kn 3 4 5 8 9 37 38 39 45 46) (h : BO kn (g 3) (g 4) (g 5) (g 8) (g 9) (g 37) (g 38) (g 39) (g 45) (g 46) w) : bA pg bE (aB 1 (aB 2 (bI (bI (aB 2 (bI (aB 1 (bI (aI 1 (aB 2 (bI (bI (aB 1 (aI 1 (aB 1 (aB 1 (aB 4 aZ))))))))))))))))) Q g w :=
 dQ (kr := no) (l := []) h hn eZ trivial
def BW (kn : Ro) (k5 : Ro) (gQ aV aO cS xW e7 e8 e9 f5 f6 : anV) (w : anU) : Prop :=
 aD pg (aG .shr 3 aK aK gQ (.int .u64 1)) w fun i6 w =>
 aD pg (aG .add 3 aK aK cS i6) w fun i7 w =>
 aD pg (aG .shr 3 aK aK gQ (.int .u64 3)) w fun i9 w =>
 aD pg (aG .add 3 aK aK i7 i9) w fun j0 w =>
 aD pg (aG .add 3 aK aK j0 (anW 3)) w fun j1 w =>
 aD pg (aG .rem 3 aK aK j1 gQ) w fun j3 w =>
 aD pg (aG .lss 3 aK aK j3 aO) w fun j6 w =>
 eY j6
  (k5 gQ aV aO j3 xW e7 e8 e9 f5 f6 w)
  (kn gQ aV aO j3 xW e7 e8 e9 f5 f6 w)
theorem PS (kn : Ro) (k5 : Ro) (hn : N10 Q kn 3 4 5 8 9 37 38 39 45 46) (h5 : E10 Q k5 5 3 4 5 8 9 37 38 39 45 46) (h : BW kn k5 (g 3) (g 4) (g 5) (g 8) (g 9) (g 37) (g 38) (g 39) (g 45) (g 46) w) : bA pg bE (bI (bI (aB 1 (bI (aI 1 (aB 2 (bI (bI (aB 2 (bI (aB 1 (bI (aI 1 (aB 2 (bI (bI (aB 1 (aI 1 (aB 1 (aB 1 (aB 4 aZ))))))))))))))))))))) Q g w :=
 dQ (kr := no) (l := [(5, fun g w => k5 (g 3) (g 4) (g 5) (g 8) (g 9) (g 37) (g 38) (g 39) (g 45) (g 46) w)]) h hn eZ ⟨h5, trivial⟩
def BV (k5 : Ro) (gQ aV aO cS xW e7 e8 e9 f5 f6 : anV) (w : anU) : Prop :=
 cK (fun (X : anV -> K0) (t : anV) (w : anU) => BW (fun _ _ _ cS _ _ _ _ _ _ w => X cS w) k5 gQ aV aO t xW e7 e8 e9 f5 f6 w) cS w
theorem PL (k5 : Ro) (h5 : E10 Q k5 5 3 4 5 8 9 37 38 39 45 46) (h : BV k5 (g 3) (g 4) (g 5) (g 8) (g 9) (g 37) (g 38) (g 39) (g 45) (g 46) w) : bA pg bE (bI (aB 1 (bI (aI 1 (aB 2 (bI (bI (aB 2 (bI (aB 1 (bI (aI 1 (aB 2 (bI (bI (aB 1 (aI 1 (aB 1 (aB 1 (aB 4 aZ)))))))))))))))))))) Q g w := by
 refine NN (fun g : Env => g 8) (fun X t w => BW (fun _ _ _ cS _ _ _ _ _ _ w => X cS w) k5 (g 3) (g 4) (g 5) t (g 9) (g 37) (g 38) (g 39) (g 45) (g 46) w) h (fun X g1 w1 ha hL => ?_)
 rw [<- jB 3 ha, <- jB 4 ha, <- jB 5 ha, <- jB 9 ha, <- jB 37 ha, <- jB 38 ha, <- jB 39 ha, <- jB 45 ha, <- jB 46 ha] at hL
 exact (PS _ g1 w1 (fun _ _ _ cS _ _ _ _ _ _ w => X cS w) k5 (fun _ _ h => h) h5 hL)
def FM (k5 : Ro) (gQ aV aO cS xW e7 e8 e9 f5 f6 : anV) (w : anU) : Prop :=
 BV k5 gQ aV aO cS xW e7 e8 e9 f5 f6 w
def Gv (kn : Ro) (gQ aV aO cS xW e7 e8 e9 f5 f6 : anV) (w : anU) : Prop :=
 aD pg (fB 3 5 xW) w fun i1 w =>
 aD pg (bK 79 aV cS) w fun i2 w =>
 aD pg (aJ 88 i2 0) w fun i3 w =>
 aD pg (bB 5 i3 i1) w fun _u w =>
 kn gQ aV aO cS xW e7 e8 e9 f5 f6 w
theorem Qk (kn : Ro) (hn : N10 Q kn 3 4 5 8 9 37 38 39 45 46) (h : Gv kn (g 3) (g 4) (g 5) (g 8) (g 9) (g 37) (g 38) (g 39) (g 45) (g 46) w) : bA pg bE (aI 1 (bI (aI 1 (aB 2 (bI (bI (aB 2 (bI (aB 1 (bI (aI 1 (aB 2 (bI (bI (aB 1 (aI 1 (aB 1 (aB 1 (aB 4 aZ))))))))))))))))))) Q g w :=
 dQ (kr := no) (l := []) h hn eZ trivial
def MD (k5 : Ro) (gQ aV aO cS xW e7 e8 e9 f5 f6 : anV) (w : anU) : Prop :=
 Gv (fun gQ aV aO cS xW e7 e8 e9 f5 f6 w => FM k5 gQ aV aO cS xW e7 e8 e9 f5 f6 w) gQ aV aO cS xW e7 e8 e9 f5 f6 w
def Gr (kn : Ro) (gQ aV aO cS xW e7 e8 e9 f5 f6 : anV) (w : anU) : Prop :=
 MD kn gQ aV aO cS xW e7 e8 e9 f5 f6 w
def DB (kn : Ro) (gQ aV aO cS xW e7 e8 e9 f5 f6 : anV) (w : anU) : Prop :=
 Gr (fun gQ aV aO cS xW e7 e8 e9 f5 f6 w => BO kn gQ aV aO cS xW e7 e8 e9 f5 f6 w) gQ aV aO cS xW e7 e8 e9 f5 f6 w
theorem P0 (kn : Ro) (hn : N10 Q kn 3 4 5 8 9 37 38 39 45 46) (h : Gr kn (g 3) (g 4) (g 5) (g 8) (g 9) (g 37) (g 38) (g 39) (g 45) (g 46) w) : bA pg bE (aI 1 (aB 2 (bI (bI (aB 2 (bI (aB 1 (bI (aI 1 (aB 2 (bI (bI (aB 1 (aI 1 (aB 1 (aB 1 (aB 4 aZ))))))))))))))))) Q g w :=
 FP 5 (gY 1 (Qk _ g w (FM kn) (fun g w h => aM (FP 6 (PL _ g w kn hn h))) h))
def zH (kn : Ro) (k4 : K7) (gQ aV aO cS xW e7 e8 e9 f5 f6 : anV) (w : anU) : Prop :=
 aD pg (aG .lss 3 aK aK f6 f5) w fun f7 w =>
 eY f7
  (kn gQ aV aO cS xW e7 e8 e9 f5 f6 w)
  (k4 gQ aV aO cS e7 e8 e9 w)
theorem Oj (kn : Ro) (k4 : K7) (hn : N10 Q kn 3 4 5 8 9 37 38 39 45 46) (h4 : E7 Q k4 4 3 4 5 8 37 38 39) (h : zH kn k4 (g 3) (g 4) (g 5) (g 8) (g 9) (g 37) (g 38) (g 39) (g 45) (g 46) w) : bA pg bE (aI 2 (bI (bI (aB 2 (bI (aB 1 (bI (aI 1 (aB 2 (bI (bI (aB 1 (aI 1 (aB 1 (aB 1 (aB 4 aZ)))))))))))))))) Q g w :=
 dQ (kr := no) (l := [(4, fun g w => k4 (g 3) (g 4) (g 5) (g 8) (g 37) (g 38) (g 39) w)]) h hn eZ ⟨h4, trivial⟩
def sM (kn : Ro) (k4 : K7) (gQ aV aO cS xW e7 e8 e9 f5 f6 : anV) (w : anU) : Prop :=
 zH (fun gQ aV aO cS xW e7 e8 e9 f5 f6 w => DB kn gQ aV aO cS xW e7 e8 e9 f5 f6 w) k4 gQ aV aO cS xW e7 e8 e9 f5 f6 w
def Ev (k4 : K7) (gQ aV aO cS xW e7 e8 e9 f5 f6 : anV) (w : anU) : Prop :=
 cK (fun (X : (anV × anV) -> K0) (t : anV × anV) (w : anU) => sM (fun _ _ _ cS _ _ _ _ _ f6 w => X (cS, f6) w) k4 gQ aV aO t.1 xW e7 e8 e9 f5 t.2 w) (cS, f6) w
theorem Oi (kn : Ro) (k4 : K7) (hn : N10 Q kn 3 4 5 8 9 37 38 39 45 46) (h4 : E7 Q k4 4 3 4 5 8 37 38 39) (h : sM kn k4 (g 3) (g 4) (g 5) (g 8) (g 9) (g 37) (g 38) (g 39) (g 45) (g 46) w) : bA pg bE (bI (bI (aB 2 (bI (aB 1 (bI (aI 1 (aB 2 (bI (bI (aB 1 (aI 1 (aB 1 (aB 1 (aB 4 aZ))))))))))))))) Q g w :=
 gY 2 (Oj _ g w (DB kn) k4 (fun g w h => aM (gY 1 (P0 _ g w (BO kn) (fun g w h => aM (Qw _ g w kn hn h)) h))) h4 h)
theorem Pf (k4 : K7) (h4 : E7 Q k4 4 3 4 5 8 37 38 39) (h : Ev k4 (g 3) (g 4) (g 5) (g 8) (g 9) (g 37) (g 38) (g 39) (g 45) (g 46) w) : bA pg bE (bI (aB 2 (bI (aB 1 (bI (aI 1 (aB 2 (bI (bI (aB 1 (aI 1 (aB 1 (aB 1 (aB 4 aZ)))))))))))))) Q g w := by
 refine NN (fun g : Env => (g 8, g 46)) (fun X t w => sM (fun _ _ _ cS _ _ _ _ _ f6 w => X (cS, f6) w) k4 (g 3) (g 4) (g 5) t.1 (g 9) (g 37) (g 38) (g 39) (g 45) t.2 w) h (fun X g1 w1 ha hL => ?_)
 rw [<- jB 3 ha, <- jB 4 ha, <- jB 5 ha, <- jB 9 ha, <- jB 37 ha, <- jB 38 ha, <- jB 39 ha, <- jB 45 ha] at hL
 exact (Oi _ g1 w1 (fun _ _ _ cS _ _ _ _ _ f6 w => X (cS, f6) w) k4 (fun _ _ h => h) h4 hL)
def EG (kn : K7) (gQ aV aO cS xW e7 e8 e9 f5 f6 : anV) (w : anU) : Prop :=
 Ev kn gQ aV aO cS xW e7 e8 e9 f5 f6 w
def D8 (kn : Ro) (gQ aV aO cS xW Ul e7 e8 e9 : anV) (w : anU) : Prop :=
 aD pg (gD .max #[3, 3] 3 [Ul, (anW 0)]) w fun f5 w =>
 kn gQ aV aO cS xW e7 e8 e9 f5 (anW 0) w
theorem Pc (kn : Ro) (hn : N10 Q kn 3 4 5 8 9 37 38 39 45 46) (h : D8 kn (g 3) (g 4) (g 5) (g 8) (g 9) (g 10) (g 37) (g 38) (g 39) w) : bA pg bE (aI 2 (bI (aB 1 (bI (aI 1 (aB 2 (bI (bI (aB 1 (aI 1 (aB 1 (aB 1 (aB 4 aZ))))))))))))) Q g w :=
 dQ (kr := no) (l := []) h hn eZ trivial
def J3 (kn : K7) (gQ aV aO cS xW Ul e7 e8 e9 : anV) (w : anU) : Prop :=
 D8 (fun gQ aV aO cS xW e7 e8 e9 f5 f6 w => EG kn gQ aV aO cS xW e7 e8 e9 f5 f6 w) gQ aV aO cS xW Ul e7 e8 e9 w
def D7 (kn : K7) (gQ aV aO cS xW Ul e7 e8 e9 : anV) (w : anU) : Prop :=
 J3 kn gQ aV aO cS xW Ul e7 e8 e9 w
def DM (kn : K9) (gQ aV aO cS e7 e8 e9 : anV) (w : anU) : Prop :=
 aD pg (bK 71 e7 e9) w fun f2 w =>
 aD pg (aL 3 f2) w fun f3 w =>
 kn gQ aV aO cS e9 f3 e7 e8 e9 w
theorem NP (kn : K9) (hn : N9 Q kn 3 4 5 8 9 10 37 38 39) (h : DM kn (g 3) (g 4) (g 5) (g 8) (g 37) (g 38) (g 39) w) : bA pg bE (aI 1 (bI (aI 1 (aB 2 (bI (bI (aB 1 (aI 1 (aB 1 (aB 1 (aB 4 aZ))))))))))) Q g w :=
 dQ (kr := no) (l := []) h hn eZ trivial
def Kw (kn : K7) (gQ aV aO cS e7 e8 e9 : anV) (w : anU) : Prop :=
 DM (fun gQ aV aO cS xW Ul e7 e8 e9 w => D7 kn gQ aV aO cS xW Ul e7 e8 e9 w) gQ aV aO cS e7 e8 e9 w
def DP (kn : K7) (gQ aV aO cS e7 e8 e9 : anV) (w : anU) : Prop :=
 Kw kn gQ aV aO cS e7 e8 e9 w
def D1 (kn : K7) (gQ aV aO cS e7 e8 e9 : anV) (w : anU) : Prop :=
 DP (fun gQ aV aO cS e7 e8 e9 w => BS kn gQ aV aO cS e7 e8 e9 w) gQ aV aO cS e7 e8 e9 w
theorem NS (kn : K7) (hn : N7 Q kn 3 4 5 8 37 38 39) (h : DP kn (g 3) (g 4) (g 5) (g 8) (g 37) (g 38) (g 39) w) : bA pg bE (aI 1 (aB 2 (bI (bI (aB 1 (aI 1 (aB 1 (aB 1 (aB 4 aZ))))))))) Q g w :=
 FP 3 (gY 1 (NP _ g w (D7 kn) (fun g w h => aM (scD (gY 2 (Pc _ g w (EG kn) (fun g w h => aM (FP 4 (Pf _ g w kn hn h))) h)))) h))
def Ar (kn : K7) (k2 : K1) (gQ aV aO cS e7 e8 e9 : anV) (w : anU) : Prop :=
 aD pg (aG .lss 3 aK aK e9 e8) w fun f0 w =>
 eY f0
  (kn gQ aV aO cS e7 e8 e9 w)
  (k2 aV w)
theorem Pg (kn : K7) (k2 : K1) (hn : N7 Q kn 3 4 5 8 37 38 39) (h2 : E1 Q k2 2 4) (h : Ar kn k2 (g 3) (g 4) (g 5) (g 8) (g 37) (g 38) (g 39) w) : bA pg bE (aI 2 (bI (bI (aB 1 (aI 1 (aB 1 (aB 1 (aB 4 aZ)))))))) Q g w :=
 dQ (kr := no) (l := [(2, fun g w => k2 (g 4) w)]) h hn eZ ⟨h2, trivial⟩
def rX (kn : K7) (k2 : K1) (gQ aV aO cS e7 e8 e9 : anV) (w : anU) : Prop :=
 Ar (fun gQ aV aO cS e7 e8 e9 w => D1 kn gQ aV aO cS e7 e8 e9 w) k2 gQ aV aO cS e7 e8 e9 w
def Dy (k2 : K1) (gQ aV aO cS e7 e8 e9 : anV) (w : anU) : Prop :=
 cK (fun (X : (anV × anV) -> K0) (t : anV × anV) (w : anU) => rX (fun _ _ _ cS _ _ e9 w => X (cS, e9) w) k2 gQ aV aO t.1 e7 e8 t.2 w) (cS, e9) w
theorem NO (kn : K7) (k2 : K1) (hn : N7 Q kn 3 4 5 8 37 38 39) (h2 : E1 Q k2 2 4) (h : rX kn k2 (g 3) (g 4) (g 5) (g 8) (g 37) (g 38) (g 39) w) : bA pg bE (bI (bI (aB 1 (aI 1 (aB 1 (aB 1 (aB 4 aZ))))))) Q g w :=
 gY 2 (Pg _ g w (D1 kn) k2 (fun g w h => aM (gY 1 (NS _ g w (BS kn) (fun g w h => aM (PU _ g w kn hn h)) h))) h2 h)
theorem NX (k2 : K1) (h2 : E1 Q k2 2 4) (h : Dy k2 (g 3) (g 4) (g 5) (g 8) (g 37) (g 38) (g 39) w) : bA pg bE (bI (aB 1 (aI 1 (aB 1 (aB 1 (aB 4 aZ)))))) Q g w := by
 refine NN (fun g : Env => (g 8, g 39)) (fun X t w => rX (fun _ _ _ cS _ _ e9 w => X (cS, e9) w) k2 (g 3) (g 4) (g 5) t.1 (g 37) (g 38) t.2 w) h (fun X g1 w1 ha hL => ?_)
 rw [<- jB 3 ha, <- jB 4 ha, <- jB 5 ha, <- jB 37 ha, <- jB 38 ha] at hL
 exact (NO _ g1 w1 (fun _ _ _ cS _ _ e9 w => X (cS, e9) w) k2 (fun _ _ h => h) h2 hL)
def DE (kn : K1) (gQ aV aO cS e7 e8 e9 : anV) (w : anU) : Prop :=
 Dy kn gQ aV aO cS e7 e8 e9 w
def EK (kn : K7) (eN gQ aV aO cS : anV) (w : anU) : Prop :=
 aD pg (aJ 73 eN 1) w fun e6 w =>
 aD pg (aL 71 e6) w fun e7 w =>
 aD pg (gD .len #[71] 3 [e7]) w fun e8 w =>
 kn gQ aV aO cS e7 e8 (anW 0) w
theorem OW (kn : K7) (hn : N7 Q kn 3 4 5 8 37 38 39) (h : EK kn (g 1) (g 3) (g 4) (g 5) (g 8) w) : bA pg bE (aI 1 (aI 1 (aB 1 (aB 1 (aB 4 aZ))))) Q g w :=
 dQ (kr := no) (l := []) h hn eZ trivial
def Er (kn : K1) (eN gQ aV aO cS : anV) (w : anU) : Prop :=
 EK (fun gQ aV aO cS e7 e8 e9 w => DE kn gQ aV aO cS e7 e8 e9 w) eN gQ aV aO cS w
def EP (R : K1) (eN gQ aV aO cS : anV) (w : anU) : Prop :=
 Er (fun aV w => BU R aV w) eN gQ aV aO cS w
theorem Of (kn : K1) (hn : N1 Q kn 4) (h : Er kn (g 1) (g 3) (g 4) (g 5) (g 8) w) : bA pg bE (aI 1 (aB 1 (aB 1 (aB 4 aZ)))) Q g w :=
 gY 1 (OW _ g w (DE kn) (fun g w h => aM (FP 2 (NX _ g w kn hn h))) h)
def Ee (kn : K5) (eN gQ aV aO : anV) (w : anU) : Prop :=
 kn eN gQ aV aO (anW 0) w
theorem Px (kn : K5) (hn : N5 Q kn 1 3 4 5 8) (h : Ee kn (g 1) (g 3) (g 4) (g 5) w) : bA pg bE (aI 1 (aB 1 (aB 4 aZ))) Q g w :=
 dQ (kr := no) (l := []) h hn eZ trivial
def Dz (R : K1) (eN gQ aV aO : anV) (w : anU) : Prop :=
 Ee (fun eN gQ aV aO cS w => EP R eN gQ aV aO cS w) eN gQ aV aO w
def Ay (kn : K7) (eN gQ aV aO c8 c9 d0 : anV) (w : anU) : Prop :=
 aD pg (aG .add 3 aK aK d0 (anW 1)) w fun e5 w =>
 kn eN gQ aV aO c8 c9 e5 w
theorem Od (kn : K7) (hn : N7 Q kn 1 3 4 5 18 19 20) (h : Ay kn (g 1) (g 3) (g 4) (g 5) (g 18) (g 19) (g 20) w) : bA pg bE (aB 3 (bI (bI (aB 1 (aI 1 (aB 4 aZ)))))) Q g w :=
 dQ (kr := no) (l := []) h hn eZ trivial
def zJ (kn : K7) (k0 : K4) (eN gQ aV aO c8 c9 d0 : anV) (w : anU) : Prop :=
 aD pg (aG .lss 3 aK aK d0 c9) w fun d1 w =>
 eY d1
  (aD pg (bK 71 c8 d0) w fun d3 w =>
  aD pg (aL 3 d3) w fun d4 w =>
  aD pg (aG .eql 3 (.tmp 25) (.const (anW (-1))) d4 (anW (-1))) w fun d6 w =>
  eY d6
   (aD pg (aG .sub 3 aK aK aO (anW 1)) w fun d8 w =>
   aD pg (fB 3 5 d0) w fun e2 w =>
   aD pg (bK 79 aV d8) w fun e3 w =>
   aD pg (aJ 88 e3 0) w fun e4 w =>
   aD pg (bB 5 e4 e2) w fun _u w =>
   kn eN gQ aV d8 c8 c9 d0 w)
   (kn eN gQ aV aO c8 c9 d0 w))
  (k0 eN gQ aV aO w)
theorem OR (kn : K7) (k0 : K4) (hn : N7 Q kn 1 3 4 5 18 19 20) (h0 : E4 Q k0 0 1 3 4 5) (h : zJ kn k0 (g 1) (g 3) (g 4) (g 5) (g 18) (g 19) (g 20) w) : bA pg bE (aI 3 (bI (bI (aB 1 (aI 1 (aB 4 aZ)))))) Q g w :=
 dQ (kr := no) (l := [(0, fun g w => k0 (g 1) (g 3) (g 4) (g 5) w)]) h hn eZ ⟨h0, trivial⟩
def sN (kn : K7) (k0 : K4) (eN gQ aV aO c8 c9 d0 : anV) (w : anU) : Prop :=
 zJ (fun eN gQ aV aO c8 c9 d0 w => Ay kn eN gQ aV aO c8 c9 d0 w) k0 eN gQ aV aO c8 c9 d0 w
def D3 (k0 : K4) (eN gQ aV aO c8 c9 d0 : anV) (w : anU) : Prop :=
 cK (fun (X : (anV × anV) -> K0) (t : anV × anV) (w : anU) => sN (fun _ _ _ aO _ _ d0 w => X (aO, d0) w) k0 eN gQ aV t.1 c8 c9 t.2 w) (aO, d0) w
theorem OH (kn : K7) (k0 : K4) (hn : N7 Q kn 1 3 4 5 18 19 20) (h0 : E4 Q k0 0 1 3 4 5) (h : sN kn k0 (g 1) (g 3) (g 4) (g 5) (g 18) (g 19) (g 20) w) : bA pg bE (bI (bI (aB 1 (aI 1 (aB 4 aZ))))) Q g w :=
 gY 3 (OR _ g w (Ay kn) k0 (fun g w h => aM (Od _ g w kn hn h)) h0 h)
theorem OD (k0 : K4) (h0 : E4 Q k0 0 1 3 4 5) (h : D3 k0 (g 1) (g 3) (g 4) (g 5) (g 18) (g 19) (g 20) w) : bA pg bE (bI (aB 1 (aI 1 (aB 4 aZ)))) Q g w := by
 refine NN (fun g : Env => (g 5, g 20)) (fun X t w => sN (fun _ _ _ aO _ _ d0 w => X (aO, d0) w) k0 (g 1) (g 3) (g 4) t.1 (g 18) (g 19) t.2 w) h (fun X g1 w1 ha hL => ?_)
 rw [<- jB 1 ha, <- jB 3 ha, <- jB 4 ha, <- jB 18 ha, <- jB 19 ha] at hL
 exact (OH _ g1 w1 (fun _ _ _ aO _ _ d0 w => X (aO, d0) w) k0 (fun _ _ h => h) h0 hL)
def D5 (kn : K4) (eN gQ aV aO c8 c9 d0 : anV) (w : anU) : Prop :=
 D3 kn eN gQ aV aO c8 c9 d0 w
def D0 (kn : K7) (eN gQ aV aO : anV) (w : anU) : Prop :=
 aD pg (aJ 73 eN 1) w fun c7 w =>
 aD pg (aL 71 c7) w fun c8 w =>
 aD pg (gD .len #[71] 3 [c8]) w fun c9 w =>
 kn eN gQ aV aO c8 c9 (anW 0) w
theorem Oy (kn : K7) (hn : N7 Q kn 1 3 4 5 18 19 20) (h : D0 kn (g 1) (g 3) (g 4) (g 5) w) : bA pg bE (aI 1 (aI 1 (aB 4 aZ))) Q g w :=
 dQ (kr := no) (l := []) h hn eZ trivial
def Dq (kn : K4) (eN gQ aV aO : anV) (w : anU) : Prop :=
 D0 (fun eN gQ aV aO c8 c9 d0 w => D5 kn eN gQ aV aO c8 c9 d0 w) eN gQ aV aO w
def Dr (R : K1) (eN gQ aV aO : anV) (w : anU) : Prop :=
 Dq (fun eN gQ aV aO w => Dz R eN gQ aV aO w) eN gQ aV aO w
theorem Pt (kn : K4) (hn : N4 Q kn 1 3 4 5) (h : Dq kn (g 1) (g 3) (g 4) (g 5) w) : bA pg bE (aI 1 (aB 4 aZ)) Q g w :=
 gY 1 (Oy _ g w (D5 kn) (fun g w h => aM (FP 0 (OD _ g w kn hn h))) h)
def D9 (kn : K4) (WO : anV) (w : anU) : Prop :=
 aD pg (Ic 73 WO) w fun eN w =>
 aD pg (aJ 73 eN 0) w fun c1 w =>
 aD pg (aL 3 c1) w fun c2 w =>
 aD pg (aG .shl 3 aK aK (anW 1) c2) w fun c3 w =>
 aD pg (iA 79 c3 c3) w fun c5 w =>
 kn eN c3 c5 c3 w
theorem Pd (kn : K4) (hn : N4 Q kn 1 3 4 5) (h : D9 kn (g 0) w) : bA pg bE (aI 4 aZ) Q g w :=
 dQ (kr := no) (l := []) h hn eZ trivial
def Em (R : K1) (WO : anV) (w : anU) : Prop :=
 D9 (fun eN gQ aV aO w => Dr R eN gQ aV aO w) WO w
theorem Oa (R : K1) (hr : HR FO R Q) (h : Em R (g 0) w) : bA pg bE aZ Q g w :=
 gY 4 (Pd _ g w (Dr R) (fun g w h => aM (gY 1 (Pt _ g w (Dz R) (fun g w h => aM (gY 1 (Px _ g w (EP R) (fun g w h => aM (gY 1 (Of _ g w (BU R) (fun g w h => aM (Qd _ g w R hr h)) h))) h))) h))) h)
def Se (a0 : anV) (w : anU) (R : K1) : Prop :=
 Em R a0 w
theorem Rq {a0 : anV} {w : anU} {R : K1} (h : Se a0 w R) : aP pg yX #[a0] w R := by
 refine uS (ann := bE) Try.f60 aZ [a0] FO 70 TryM.mixed Try.func60 ?_
 exact (Oa _ _ _ R (fun _ _ h => h) h)
def yE : FA := ⟨hZ, fun i => match Nat.beq i 4 with | true => .leaf ([12], [(12, 15), (12, 16)]) [(false, []), (false, []), (false, []), (false, []), (false, []), (false, []), (false, []), (false, []), (false, []), (false, []), (false, []), (false, []), (true, []), (false, []), (false, []), (false, [2]), (false, [3]), (false, []), (false, [])] | false => .leaf ([], []) []⟩
def AL : List ResultVar := [.tmp 4]
noncomputable def xR : Code := bT Try.f61
def qP (R : K1) (G0 wD : anV) (w : anU) : Prop :=
 aD pg (aG .eql 76 (.tmp 7) (.const (.pointer none)) G0 (.pointer none)) w fun b8 w =>
 Gd (eS b8 false) (fun K => K wD w) w fun c0 w =>
 Gd (eS b8 false) (fun K => aD pg (aG .lss 3 aK aK c0 (anW 1)) w K) w fun c1 w =>
 aD pg (fH b8 (.bool true) c1) w fun c2 w =>
 Gd (eS c2 false) (fun K => K wD w) w fun c4 w =>
 Gd (eS c2 false) (fun K => aD pg (aG .gtr 3 aK aK c4 (anW 56)) w K) w fun c5 w =>
 aD pg (fH c2 (.bool true) c5) w fun c6 w =>
 eY c6
  (R (.int .u64 0) w)
  (aD pg (lN G0) w fun c8 w =>
  aD pg (aJ 116 c8 1) w fun c9 w =>
  aD pg (aL 3 c9) w fun d0 w =>
  aD pg (gD .max #[3, 3] 3 [d0, (anW 0)]) w fun d1 w =>
  aD pg (gD .min #[3, 3] 3 [d1, wD]) w fun d3 w =>
  (dr w) = (dr w) /\
  aD pg (lN G0) (dr w) fun d5 w_ => w_ = (dr w) /\
  aD pg (aJ 116 d5 0) (dr w) fun d6 w_ => w_ = (dr w) /\
  aD pg (aL 22 d6) (dr w) fun d7 w_ => w_ = (dr w) /\
  (dr w) = (dr w) /\
  aD pg (lN G0) (dr w) fun d9 w_ => w_ = (dr w) /\
  aD pg (aJ 116 d9 1) (dr w) fun e0 w_ => w_ = (dr w) /\
  aD pg (aL 3 e0) (dr w) fun e1 w_ => w_ = (dr w) /\
  aD pg (gD .max #[3, 3] 3 [e1, (anW 0)]) (dr w) fun e2 w_ => w_ = (dr w) /\
  (dr w) = (dr w) /\
  aD pg (aG .sub 3 aK aK e2 d3) (dr w) fun e4 w_ => w_ = (dr w) /\
  (dr w) = (dr w) /\
  aP pg Cd #[d7, e4, d3] (dr w) fun e6 Ht =>
  Ht = Ht /\
  Ht = Ht /\
  aD pg (aG .sub 3 aK aK wD d3) Ht fun e9 w_ => w_ = Ht /\
  (eL pg (aG .sub 3 aK aK wD d3) e9 (dr w) /\ True) /\
  aD pg (fB 3 48 e9) Ht fun f0 w_ => w_ = Ht /\
  (eL pg (fB 3 48 e9) f0 (dr w) /\ True) /\
  aD pg (aG .shl 47 aK aK e6 f0) Ht fun f1 w_ => w_ = Ht /\
  Ht = Ht /\
  aD pg (lN G0) Ht fun f3 w =>
  aD pg (aJ 116 f3 1) w fun f4 w =>
  aD pg (aL 3 f4) w fun f5 w =>
  aD pg (aG .sub 3 aK aK f5 wD) w fun f7 w =>
  aD pg (lN G0) w fun f8 w =>
  aD pg (aJ 116 f8 1) w fun f9 w =>
  aD pg (bB 3 f9 f7) w fun _u w =>
  R f1 w)
theorem Gm (R : K1) (hr : HR AL R Q) (h : qP R (g 0) (g 1) w) : bA pg yE xR Q g w :=
 dQ (kn := no) (l := []) h eZ hr trivial
def DT (a0 a1 : anV) (w : anU) (R : K1) : Prop :=
 qP R a0 a1 w
theorem Hg {a0 a1 : anV} {w : anU} {R : K1} (h : DT a0 a1 w R) : aP pg hZ #[a0, a1] w R := by
 refine uS (ann := yE) Try.f61 xR [a0, a1] AL 51 TryM.mixed Try.func61 ?_
 exact (Gm _ _ _ R (fun _ _ h => h) h)
def iQ : FA := ⟨rV, fun i => .leaf ([], []) []⟩
def wY : List ResultVar := [.tmp 2]
noncomputable def iE : Code := bT Try.f63
def lA (R : K1) (kE qY : anV) (w : anU) : Prop :=
 aD pg (fB 47 5 kE) w fun d1 w =>
 aD pg (L1 9 (.string ⟨#[0, 1, 2, 2, 3, 3, 3, 3, 4, 4, 4, 4, 4, 4, 4, 4, 5, 5, 5, 5, 5, 5, 5, 5, 5, 5, 5, 5, 5, 5, 5, 5, 6, 6, 6, 6, 6, 6, 6, 6, 6, 6, 6, 6, 6, 6, 6, 6, 6, 6, 6, 6, 6, 6, 6, 6, 6, 6, 6, 6, 6, 6, 6, 6, 7, 7, 7, 7, 7, 7, 7, 7, 7, 7, 7, 7, 7, 7, 7, 7, 7, 7, 7, 7, 7, 7, 7, 7, 7, 7, 7, 7, 7, 7, 7, 7, 7, 7, 7, 7, 7, 7, 7, 7, 7, 7, 7, 7, 7, 7, 7, 7, 7, 7, 7, 7, 7, 7, 7, 7, 7, 7, 7, 7, 7, 7, 7, 7, 8, 8, 8, 8, 8, 8, 8, 8, 8, 8, 8, 8, 8, 8, 8, 8, 8, 8, 8, 8, 8, 8, 8, 8, 8, 8, 8, 8, 8, 8, 8, 8, 8, 8, 8, 8, 8, 8, 8, 8, 8, 8, 8, 8, 8, 8, 8, 8, 8, 8, 8, 8, 8, 8, 8, 8, 8, 8, 8, 8, 8, 8, 8, 8, 8, 8, 8, 8, 8, 8, 8, 8, 8, 8, 8, 8, 8, 8, 8, 8, 8, 8, 8, 8, 8, 8, 8, 8, 8, 8, 8, 8, 8, 8, 8, 8, 8, 8, 8, 8, 8, 8, 8, 8, 8, 8, 8, 8, 8, 8, 8, 8, 8, 8, 8, 8, 8, 8, 8, 8, 8, 8, 8, 8, 8, 8, 8, 8]⟩) d1) w fun d2 w =>
 aD pg (fB 5 3 d2) w fun d3 w =>
 aD pg (aG .add 3 aK aK qY d3) w fun d4 w =>
 R d4 w
theorem I8 (R : K1) (hr : HR wY R Q) (h : lA R (g 0) (g 2) w) : bA pg iQ (aB 1 (aB 1 (aB 2 iE))) Q g w :=
 dQ (kn := no) (l := []) h eZ hr trivial
def wK (kn : K2) (kE qY : anV) (w : anU) : Prop :=
 aD pg (aG .geq 47 aK aK kE (.int .u64 256)) w fun c4 w =>
 eY c4
  (aD pg (aG .shr 47 aK aK kE (.int .u64 8)) w fun c6 w =>
  aD pg (aG .add 3 aK aK qY (anW 8)) w fun c8 w =>
  kn c6 c8 w)
  (kn kE qY w)
theorem I0 (kn : K2) (hn : N2 Q kn 0 2) (h : wK kn (g 0) (g 2) w) : bA pg iQ (aI 1 (aB 1 (aB 2 iE))) Q g w :=
 dQ (kr := no) (l := []) h hn eZ trivial
def oP (R : K1) (kE qY : anV) (w : anU) : Prop :=
 wK (fun kE qY w => lA R kE qY w) kE qY w
def wN (kn : K2) (kE qY : anV) (w : anU) : Prop :=
 aD pg (aG .geq 47 aK aK kE (.int .u64 65536)) w fun b8 w =>
 eY b8
  (aD pg (aG .shr 47 aK aK kE (.int .u64 16)) w fun c0 w =>
  aD pg (aG .add 3 aK aK qY (anW 16)) w fun c2 w =>
  kn c0 c2 w)
  (kn kE qY w)
theorem I9 (kn : K2) (hn : N2 Q kn 0 2) (h : wN kn (g 0) (g 2) w) : bA pg iQ (aI 1 (aB 2 iE)) Q g w :=
 dQ (kr := no) (l := []) h hn eZ trivial
def pG (R : K1) (kE qY : anV) (w : anU) : Prop :=
 wN (fun kE qY w => oP R kE qY w) kE qY w
def wE (kn : K2) (kE : anV) (w : anU) : Prop :=
 aD pg (aG .geq 47 aK aK kE (.int .u64 4294967296)) w fun b4 w =>
 eY b4
  (aD pg (aG .shr 47 aK aK kE (.int .u64 32)) w fun b6 w =>
  kn b6 (anW 32) w)
  (kn kE (anW 0) w)
theorem IV (kn : K2) (hn : N2 Q kn 0 2) (h : wE kn (g 0) w) : bA pg iQ (aI 2 iE) Q g w :=
 dQ (kr := no) (l := []) h hn eZ trivial
def xL (R : K1) (kE : anV) (w : anU) : Prop :=
 wE (fun kE qY w => pG R kE qY w) kE w
theorem IU (R : K1) (hr : HR wY R Q) (h : xL R (g 0) w) : bA pg iQ iE Q g w :=
 gY 2 (IV _ g w (pG R) (fun g w h => aM (gY 1 (I9 _ g w (oP R) (fun g w h => aM (gY 1 (I0 _ g w (lA R) (fun g w h => aM (I8 _ g w R hr h)) h))) h))) h)
def ID (a0 : anV) (w : anU) (R : K1) : Prop :=
 xL R a0 w
theorem KP {a0 : anV} {w : anU} {R : K1} (h : ID a0 w R) : aP pg rV #[a0] w R := by
 refine uS (ann := iQ) Try.f63 iE [a0] wY 25 TryM.mixed Try.func63 ?_
 exact (IU _ _ _ R (fun _ _ h => h) h)
def ED : FA := ⟨tR, fun i => .leaf ([], []) []⟩
def Fg : List ResultVar := [.tmp 0]
noncomputable def C9 : Code := bT Try.f64
def yQ (R : K1)  (w : anU) : Prop :=
 aD pg (dG 136 []) w fun b1 w =>
 aD pg (Ic 136 b1) w fun b2 w =>
 R b2 w
theorem KL (R : K1) (hr : HR Fg R Q) (h : yQ R w) : bA pg ED C9 Q g w :=
 dQ (kn := no) (l := []) h eZ hr trivial
def KU (w : anU) (R : K1) : Prop :=
 yQ R w
theorem Ma {w : anU} {R : K1} (h : KU w R) : aP pg tR #[] w R := by
 refine uS (ann := ED) Try.f64 C9 [] Fg 3 TryM.mixed Try.func64 ?_
 exact (KL _ _ _ R (fun _ _ h => h) h)
def vB : FA := ⟨pI, fun i => .leaf ([], []) []⟩
def xU : List ResultVar := [.tmp 2]
noncomputable def uF : Code := bT Try.f65
def oD (R : K1) (s_0 : anV) (w : anU) : Prop :=
 aD pg (Ic 22 s_0) w fun s_1 w =>
 aD pg (Vm (.func 70) [] [s_1]) w fun b3 w =>
 R b3 w
theorem Ez (R : K1) (hr : HR xU R Q) (h : oD R (g 0) w) : bA pg vB uF Q g w :=
 dQ (kn := no) (l := []) h eZ hr trivial
def B3 (a0 : anV) (w : anU) (R : K1) : Prop :=
 oD R a0 w
theorem ET {a0 : anV} {w : anU} {R : K1} (h : B3 a0 w R) : aP pg pI #[a0] w R := by
 refine uS (ann := vB) Try.f65 uF [a0] xU 4 TryM.mixed Try.func65 ?_
 exact (Ez _ _ _ R (fun _ _ h => h) h)
def dA : FA := ⟨iN, fun i => match Nat.beq i 6 with | true => .leaf ([25], []) [(false, []), (false, []), (false, []), (false, []), (false, []), (false, []), (false, []), (false, []), (false, []), (false, []), (false, []), (false, []), (false, []), (false, []), (false, []), (false, []), (false, []), (false, []), (false, []), (false, []), (false, []), (false, []), (false, []), (false, []), (false, []), (true, [])] | false => .leaf ([], []) []⟩
def sP : List ResultVar := []
noncomputable def cR : Code := bT Try.f66
def jW (kn : K4) (pO AP c7 c8 : anV) (w : anU) : Prop :=
 aD pg (aG .add 3 aK aK c8 (anW 1)) w fun j8 w =>
 kn pO AP c7 j8 w
theorem GW (kn : K4) (hn : N4 Q kn 0 1 17 18) (h : jW kn (g 0) (g 1) (g 17) (g 18) w) : bA pg dA (aB 1 (aB 2 (bI (bI (aB 2 cR))))) Q g w :=
 dQ (kr := no) (l := []) h hn eZ trivial
def fZ (kn : K4) (pO AP Cp c7 c8 : anV) (w : anU) : Prop :=
 (dr w) = (dr w) /\
 aD pg (lN pO) (dr w) fun e7 w_ => w_ = (dr w) /\
 aD pg (aJ 136 e7 0) (dr w) fun e8 w_ => w_ = (dr w) /\
 aD pg (aL 22 e8) (dr w) fun e9 w_ => w_ = (dr w) /\
 (dr w) = (dr w) /\
 aD pg (lN pO) (dr w) fun f1 w_ => w_ = (dr w) /\
 aD pg (aJ 136 f1 1) (dr w) fun f2 w_ => w_ = (dr w) /\
 aD pg (aL 3 f2) (dr w) fun f3 w_ => w_ = (dr w) /\
 aD pg (aG .quo 3 aK aK f3 (anW 8)) (dr w) fun f4 w_ => w_ = (dr w) /\
 aD pg (bK 22 e9 f4) (dr w) fun f5 w_ => w_ = (dr w) /\
 aD pg (aL 5 f5) (dr w) fun f6 w_ => w_ = (dr w) /\
 (dr w) = (dr w) /\
 (dr w) = (dr w) /\
 aD pg (fB 3 48 Cp) (dr w) fun f9 w_ => w_ = (dr w) /\
 aD pg (aG .shr 47 aK aK AP f9) (dr w) fun i0 w_ => w_ = (dr w) /\
 aD pg (aG .and 47 aK aK i0 (.int .u64 1)) (dr w) fun i1 w_ => w_ = (dr w) /\
 aD pg (fB 47 5 i1) (dr w) fun i2 w_ => w_ = (dr w) /\
 (dr w) = (dr w) /\
 aD pg (lN pO) (dr w) fun i4 w_ => w_ = (dr w) /\
 aD pg (aJ 136 i4 1) (dr w) fun i5 w_ => w_ = (dr w) /\
 aD pg (aL 3 i5) (dr w) fun i6 w_ => w_ = (dr w) /\
 aD pg (aG .rem 3 aK aK i6 (anW 8)) (dr w) fun i7 w_ => w_ = (dr w) /\
 aD pg (aG .shl 5 aK aK i2 i7) (dr w) fun i8 w_ => w_ = (dr w) /\
 aD pg (aG .or 5 aK aK f6 i8) (dr w) fun i9 w_ => w_ = (dr w) /\
 aD pg (bK 22 e9 f4) (dr w) fun j0 w_ => w_ = (dr w) /\
 aD pg (bB 5 j0 i9) (dr w) fun _u25 afI =>
 aD pg (lN pO) afI fun j2 w =>
 aD pg (aJ 136 j2 1) w fun j3 w =>
 aD pg (aL 3 j3) w fun j4 w =>
 aD pg (aG .add 3 aK aK j4 (anW 1)) w fun j5 w =>
 aD pg (lN pO) w fun j6 w =>
 aD pg (aJ 136 j6 1) w fun j7 w =>
 aD pg (bB 3 j7 j5) w fun _u w =>
 kn pO AP c7 c8 w
theorem Hk (kn : K4) (hn : N4 Q kn 0 1 17 18) (h : fZ kn (g 0) (g 1) (g 6) (g 17) (g 18) w) : bA pg dA (aB 2 (bI (aI 1 (aB 2 (bI (bI (aB 2 cR))))))) Q g w :=
 dQ (kr := no) (l := []) h hn eZ trivial
def mO (kn : K5) (pO AP c7 c8 : anV) (w : anU) : Prop :=
 aD pg (lN pO) w fun d2 w =>
 aD pg (aJ 136 d2 1) w fun d3 w =>
 aD pg (aL 3 d3) w fun d4 w =>
 aD pg (aG .rem 3 aK aK d4 (anW 8)) w fun d5 w =>
 aD pg (aG .eql 3 (.tmp 25) (.const (anW 0)) d5 (anW 0)) w fun d6 w =>
 eY d6
  (aD pg (lN pO) w fun d9 w =>
  aD pg (aJ 136 d9 0) w fun e0 w =>
  aD pg (aL 22 e0) w fun e1 w =>
  aD pg (cD 22 1 [(0, (.int .u8 0))]) w fun e2 w =>
  aD pg (gD .append #[22, 22] 22 [e1, e2]) w fun e3 w =>
  aD pg (lN pO) w fun e4 w =>
  aD pg (aJ 136 e4 0) w fun e5 w =>
  aD pg (bB 22 e5 e3) w fun _u w =>
  kn pO AP c8 c7 c8 w)
  (kn pO AP c8 c7 c8 w)
theorem Hu (kn : K5) (hn : N5 Q kn 0 1 6 17 18) (h : mO kn (g 0) (g 1) (g 17) (g 18) w) : bA pg dA (aI 2 (bI (aI 1 (aB 2 (bI (bI (aB 2 cR))))))) Q g w :=
 dQ (kr := no) (l := []) h hn eZ trivial
def jM (kn : K4) (pO AP c7 c8 : anV) (w : anU) : Prop :=
 mO (fun pO AP Cp c7 c8 w => fZ kn pO AP Cp c7 c8 w) pO AP c7 c8 w
def mL (kn : K4) (pO AP c7 c8 : anV) (w : anU) : Prop :=
 jM kn pO AP c7 c8 w
def mK (kn : K4) (pO AP c7 c8 : anV) (w : anU) : Prop :=
 mL (fun pO AP c7 c8 w => jW kn pO AP c7 c8 w) pO AP c7 c8 w
theorem Hz (kn : K4) (hn : N4 Q kn 0 1 17 18) (h : mL kn (g 0) (g 1) (g 17) (g 18) w) : bA pg dA (aI 1 (aB 2 (bI (bI (aB 2 cR))))) Q g w :=
 FP 1 (gY 2 (Hu _ g w (fZ kn) (fun g w h => aM (Hk _ g w kn hn h)) h))
def mF (kn : K4) (k0 : K0) (pO AP c7 c8 : anV) (w : anU) : Prop :=
 aD pg (aG .lss 3 aK aK c8 c7) w fun c9 w =>
 eY c9
  (kn pO AP c7 c8 w)
  (k0 w)
theorem GR (kn : K4) (k0 : K0) (hn : N4 Q kn 0 1 17 18) (h0 : E0 Q k0 0) (h : mF kn k0 (g 0) (g 1) (g 17) (g 18) w) : bA pg dA (aI 2 (bI (bI (aB 2 cR)))) Q g w :=
 dQ (kr := no) (l := [(0, fun g w => k0 w)]) h hn eZ ⟨h0, trivial⟩
def jP (kn : K4) (k0 : K0) (pO AP c7 c8 : anV) (w : anU) : Prop :=
 mF (fun pO AP c7 c8 w => mK kn pO AP c7 c8 w) k0 pO AP c7 c8 w
def lV (k0 : K0) (pO AP c7 c8 : anV) (w : anU) : Prop :=
 cK (fun (X : anV -> K0) (t : anV) (w : anU) => jP (fun _ _ _ c8 w => X c8 w) k0 pO AP c7 t w) c8 w
theorem HA (kn : K4) (k0 : K0) (hn : N4 Q kn 0 1 17 18) (h0 : E0 Q k0 0) (h : jP kn k0 (g 0) (g 1) (g 17) (g 18) w) : bA pg dA (bI (bI (aB 2 cR))) Q g w :=
 gY 2 (GR _ g w (mK kn) k0 (fun g w h => aM (gY 1 (Hz _ g w (jW kn) (fun g w h => aM (GW _ g w kn hn h)) h))) h0 h)
theorem Hm (k0 : K0) (h0 : E0 Q k0 0) (h : lV k0 (g 0) (g 1) (g 17) (g 18) w) : bA pg dA (bI (aB 2 cR)) Q g w := by
 refine NN (fun g : Env => g 18) (fun X t w => jP (fun _ _ _ c8 w => X c8 w) k0 (g 0) (g 1) (g 17) t w) h (fun X g1 w1 ha hL => ?_)
 rw [<- jB 0 ha, <- jB 1 ha, <- jB 17 ha] at hL
 exact (HA _ g1 w1 (fun _ _ _ c8 w => X c8 w) k0 (fun _ _ h => h) h0 hL)
def lG (kn : K0) (pO AP c7 c8 : anV) (w : anU) : Prop :=
 lV kn pO AP c7 c8 w
def lF (kn : K4) (R : K1) (pO AP qY : anV) (w : anU) : Prop :=
 aD pg (aG .eql 126 (.tmp 7) (.const (.pointer none)) pO (.pointer none)) w fun b8 w =>
 Gd (eS b8 false) (fun K => K qY w) w fun c0 w =>
 Gd (eS b8 false) (fun K => aD pg (aG .lss 3 aK aK c0 (anW 1)) w K) w fun c1 w =>
 aD pg (fH b8 (.bool true) c1) w fun c2 w =>
 Gd (eS c2 false) (fun K => K qY w) w fun c4 w =>
 Gd (eS c2 false) (fun K => aD pg (aG .gtr 3 aK aK c4 (anW 56)) w K) w fun c5 w =>
 aD pg (fH c2 (.bool true) c5) w fun c6 w =>
 eY c6
  (R (.tuple #[]) w)
  (kn pO AP qY (anW 0) w)
theorem Gi (kn : K4) (R : K1) (hn : N4 Q kn 0 1 17 18) (hr : HR sP R Q) (h : lF kn R (g 0) (g 1) (g 2) w) : bA pg dA (aI 2 cR) Q g w :=
 dQ (l := []) h hn hr trivial
def lH (kn : K0) (R : K1) (pO AP qY : anV) (w : anU) : Prop :=
 lF (fun pO AP c7 c8 w => lG kn pO AP c7 c8 w) R pO AP qY w
theorem F6 (kn : K0) (R : K1) (hn : N0 Q kn) (hr : HR sP R Q) (h : lH kn R (g 0) (g 1) (g 2) w) : bA pg dA cR Q g w :=
 gY 2 (Gi _ g w (lG kn) R (fun g w h => aM (FP 0 (Hm _ g w kn hn h))) hr h)
def yN (a0 a1 a2 : anV) (w : anU) (R : K1) : Prop :=
 lH (fun  w => R (.tuple #[]) w) R a0 a1 a2 w
theorem yS {a0 a1 a2 : anV} {w : anU} {R : K1} (h : yN a0 a1 a2 w R) : aP pg iN #[a0, a1, a2] w R := by
 refine uS (ann := dA) Try.f66 cR [a0, a1, a2] sP 69 TryM.mixed Try.func66 ?_
 exact (F6 _ _ _ (fun  w => R (.tuple #[]) w) R (fun _ _ h => h) (fun _ _ h => h) h)
def Aa : FA := ⟨lW, fun i => match Nat.beq i 3 with | true => .leaf ([4, 10], [(4, 6), (4, 7), (4, 8)]) [(false, []), (false, []), (false, []), (false, []), (true, []), (false, []), (false, [1]), (false, [2]), (false, [3]), (false, []), (true, []), (false, [])] | false => .leaf ([], []) []⟩
def AM : List ResultVar := [.tmp 2]
noncomputable def yA : Code := bT Try.f67
def qI (R : K1) (pO : anV) (w : anU) : Prop :=
 aD pg (aG .eql 126 (.tmp 4) (.const (.pointer none)) pO (.pointer none)) w fun b5 w =>
 eY b5
  (R (.slice none 0 0) w)
  ((dr w) = (dr w) /\
  aD pg (lN pO) (dr w) fun b7 w_ => w_ = (dr w) /\
  aD pg (aJ 136 b7 0) (dr w) fun b8 w_ => w_ = (dr w) /\
  aD pg (aL 22 b8) (dr w) fun b9 w_ => w_ = (dr w) /\
  aP pg cI #[b9] (dr w) fun c0 Kr =>
  Kr = Kr /\
  aD pg (lN pO) Kr fun c2 w_ => w_ = Kr /\
  (eL pg (lN pO) c2 (dr w) /\ True) /\
  aD pg (aJ 136 c2 1) Kr fun c3 w_ => w_ = Kr /\
  (eL pg (aJ 136 c2 1) c3 (dr w) /\ True) /\
  aD pg (aL 3 c3) Kr fun c4 w_ => w_ = Kr /\
  (eL pg (aL 3 c3) c4 (dr w) /\ True) /\
  aD pg (dG 136 [(0, c0), (1, c4)]) Kr fun c5 w_ => w_ = Kr /\
  aD pg (Ic 136 c5) Kr fun c6 ZD =>
  ZD = ZD /\
  aP pg iN #[c6, (.int .u64 1), (anW 1)] ZD fun c8 w =>
  aD pg (lN c6) w fun d0 w =>
  aD pg (aJ 136 d0 0) w fun d1 w =>
  aD pg (aL 22 d1) w fun d2 w =>
  R d2 w)
theorem F0 (R : K1) (hr : HR AM R Q) (h : qI R (g 0) w) : bA pg Aa yA Q g w :=
 dQ (kn := no) (l := []) h eZ hr trivial
def Dv (a0 : anV) (w : anU) (R : K1) : Prop :=
 qI R a0 w
theorem GD {a0 : anV} {w : anU} {R : K1} (h : Dv a0 w R) : aP pg lW #[a0] w R := by
 refine uS (ann := Aa) Try.f67 yA [a0] AM 23 TryM.mixed Try.func67 ?_
 exact (F0 _ _ _ R (fun _ _ h => h) h)
def kN : FA := ⟨Cd, fun i => .leaf ([], []) []⟩
def Il : List ResultVar := [.tmp 6]
noncomputable def jQ : Code := bT Try.f68
def Dj (R : K1) (Jh : anV) (w : anU) : Prop :=
 R Jh w
theorem Rt (R : K1) (hr : HR Il R Q) (h : Dj R (g 7) w) : bA pg kN (aB 1 (aB 2 jQ)) Q g w :=
 dQ (kn := no) (l := []) h eZ hr trivial
def Df (kn : K5) (k0 : K1) (cP Dh Jh c0 c1 : anV) (w : anU) : Prop :=
 aD pg (aG .lss 3 aK aK c1 c0) w fun c2 w =>
 eY c2
  (aD pg (aG .add 3 aK aK Dh c1) w fun c6 w =>
  aD pg (aG .quo 3 aK aK c6 (anW 8)) w fun d0 w =>
  aD pg (bK 22 cP d0) w fun d1 w =>
  aD pg (aL 5 d1) w fun d2 w =>
  aD pg (aG .rem 3 aK aK c6 (anW 8)) w fun d4 w =>
  aD pg (aG .shr 5 aK aK d2 d4) w fun d5 w =>
  aD pg (aG .and 5 aK aK d5 (.int .u8 1)) w fun d6 w =>
  aD pg (fB 5 47 d6) w fun d7 w =>
  aD pg (fB 3 48 c1) w fun d9 w =>
  aD pg (aG .shl 47 aK aK d7 d9) w fun e0 w =>
  aD pg (aG .or 47 aK aK Jh e0) w fun e1 w =>
  aD pg (aG .add 3 aK aK c1 (anW 1)) w fun e2 w =>
  kn cP Dh e1 c0 e2 w)
  (k0 Jh w)
theorem Ru (kn : K5) (k0 : K1) (hn : N5 Q kn 0 1 7 10 11) (h0 : E1 Q k0 0 7) (h : Df kn k0 (g 0) (g 1) (g 7) (g 10) (g 11) w) : bA pg kN (bI (bI (aB 1 (aI 1 (aB 2 jQ))))) Q g w :=
 dQ (kr := no) (l := [(0, fun g w => k0 (g 7) w)]) h hn eZ ⟨h0, trivial⟩
def H6 (k0 : K1) (cP Dh Jh c0 c1 : anV) (w : anU) : Prop :=
 cK (fun (X : (anV × anV) -> K0) (t : anV × anV) (w : anU) => Df (fun _ _ Jh _ c1 w => X (Jh, c1) w) k0 cP Dh t.1 c0 t.2 w) (Jh, c1) w
theorem Q4 (k0 : K1) (h0 : E1 Q k0 0 7) (h : H6 k0 (g 0) (g 1) (g 7) (g 10) (g 11) w) : bA pg kN (bI (aB 1 (aI 1 (aB 2 jQ)))) Q g w := by
 refine NN (fun g : Env => (g 7, g 11)) (fun X t w => Df (fun _ _ Jh _ c1 w => X (Jh, c1) w) k0 (g 0) (g 1) t.1 (g 10) t.2 w) h (fun X g1 w1 ha hL => ?_)
 rw [<- jB 0 ha, <- jB 1 ha, <- jB 10 ha] at hL
 exact (Ru _ g1 w1 (fun _ _ Jh _ c1 w => X (Jh, c1) w) k0 (fun _ _ h => h) h0 hL)
def HW (kn : K1) (cP Dh Jh c0 c1 : anV) (w : anU) : Prop :=
 H6 kn cP Dh Jh c0 c1 w
def Io (kn : K5) (cP Dh qY Jh : anV) (w : anU) : Prop :=
 kn cP Dh Jh qY (anW 0) w
theorem Rc (kn : K5) (hn : N5 Q kn 0 1 7 10 11) (h : Io kn (g 0) (g 1) (g 2) (g 7) w) : bA pg kN (aI 1 (aI 1 (aB 2 jQ))) Q g w :=
 dQ (kr := no) (l := []) h hn eZ trivial
def H8 (kn : K1) (cP Dh qY Jh : anV) (w : anU) : Prop :=
 Io (fun cP Dh Jh c0 c1 w => HW kn cP Dh Jh c0 c1 w) cP Dh qY Jh w
def HX (R : K1) (cP Dh qY Jh : anV) (w : anU) : Prop :=
 H8 (fun Jh w => Dj R Jh w) cP Dh qY Jh w
theorem Rj (kn : K1) (hn : N1 Q kn 7) (h : H8 kn (g 0) (g 1) (g 2) (g 7) w) : bA pg kN (aI 1 (aB 2 jQ)) Q g w :=
 gY 1 (Rc _ g w (HW kn) (fun g w h => aM (FP 0 (Q4 _ g w kn hn h))) h)
def H9 (kn : K4) (cP Dh qY : anV) (w : anU) : Prop :=
 kn cP Dh qY (.int .u64 0) w
theorem Q5 (kn : K4) (hn : N4 Q kn 0 1 2 7) (h : H9 kn (g 0) (g 1) (g 2) w) : bA pg kN (aI 2 jQ) Q g w :=
 dQ (kr := no) (l := []) h hn eZ trivial
def HQ (R : K1) (cP Dh qY : anV) (w : anU) : Prop :=
 H9 (fun cP Dh qY Jh w => HX R cP Dh qY Jh w) cP Dh qY w
theorem Rp (R : K1) (hr : HR Il R Q) (h : HQ R (g 0) (g 1) (g 2) w) : bA pg kN jQ Q g w :=
 gY 2 (Q5 _ g w (HX R) (fun g w h => aM (gY 1 (Rj _ g w (Dj R) (fun g w h => aM (Rt _ g w R hr h)) h))) h)
def Tl (a0 a1 a2 : anV) (w : anU) (R : K1) : Prop :=
 HQ R a0 a1 a2 w
theorem RG {a0 a1 a2 : anV} {w : anU} {R : K1} (h : Tl a0 a1 a2 w R) : aP pg Cd #[a0, a1, a2] w R := by
 refine uS (ann := kN) Try.f68 jQ [a0, a1, a2] Il 34 TryM.mixed Try.func68 ?_
 exact (Rp _ _ _ R (fun _ _ h => h) h)
def jT : FA := ⟨Di, fun i => .leaf ([], []) []⟩
def mQ : List ResultVar := [.tmp 2]
noncomputable def iS : Code := bT Try.f69
def BQ (R : K1) (gM : anV) (w : anU) : Prop :=
 aD pg (aG .eql 3 (.tmp 60) (.const (anW 0)) gM (anW 0)) w fun j1 w =>
 R j1 w
theorem Ql (R : K1) (hr : HR mQ R Q) (h : BQ R (g 3) w) : bA pg jT (aB 1 (aB 3 iS)) Q g w :=
 dQ (kn := no) (l := []) h eZ hr trivial
def qB (kn : K4) (k0 : K1) (R : K1) (gM f1 f2 f3 : anV) (w : anU) : Prop :=
 aD pg (aG .lss 3 aK aK f3 f2) w fun f4 w =>
 eY f4
  (aD pg (bK 71 f1 f3) w fun f5 w =>
  aD pg (aL 3 f5) w fun f6 w =>
  aD pg (aG .lss 3 aK aK f6 (anW (-1))) w fun f8 w =>
  Gd (eS f8 false) (fun K => K f6 w) w fun i0 w =>
  Gd (eS f8 false) (fun K => aP pg oC #[i0] w K) w fun i1 w =>
  Gd (eS f8 false) (fun K => K gM w) w fun i2 w =>
  Gd (eS f8 false) (fun K => aD pg (aG .gtr 3 aK aK i1 i2) w K) w fun i3 w =>
  aD pg (fH f8 (.bool true) i3) w fun i4 w =>
  eY i4
   (R (.bool false) w)
   (aP pg oC #[f6] w fun i7 w =>
   aD pg (aG .sub 3 aK aK gM i7) w fun i8 w =>
   aD pg (aG .add 3 aK aK f3 (anW 1)) w fun i9 w =>
   kn i8 f1 f2 i9 w))
  (k0 gM w)
theorem PW (kn : K4) (k0 : K1) (R : K1) (hn : N4 Q kn 3 41 42 43) (h0 : E1 Q k0 0 3) (hr : HR mQ R Q) (h : qB kn k0 R (g 3) (g 41) (g 42) (g 43) w) : bA pg jT (bI (bI (aB 1 (aI 1 (aB 3 iS))))) Q g w :=
 dQ (l := [(0, fun g w => k0 (g 3) w)]) h hn hr ⟨h0, trivial⟩
def Gz (k0 : K1) (R : K1) (gM f1 f2 f3 : anV) (w : anU) : Prop :=
 cK (fun (X : (anV × anV) -> K0) (t : anV × anV) (w : anU) => qB (fun gM _ _ f3 w => X (gM, f3) w) k0 R t.1 f1 f2 t.2 w) (gM, f3) w
theorem PD (k0 : K1) (R : K1) (h0 : E1 Q k0 0 3) (hr : HR mQ R Q) (h : Gz k0 R (g 3) (g 41) (g 42) (g 43) w) : bA pg jT (bI (aB 1 (aI 1 (aB 3 iS)))) Q g w := by
 refine NN (fun g : Env => (g 3, g 43)) (fun X t w => qB (fun gM _ _ f3 w => X (gM, f3) w) k0 R t.1 (g 41) (g 42) t.2 w) h (fun X g1 w1 ha hL => ?_)
 rw [<- jB 41 ha, <- jB 42 ha] at hL
 exact (PW _ g1 w1 (fun gM _ _ f3 w => X (gM, f3) w) k0 R (fun _ _ h => h) h0 hr hL)
def FU (kn : K1) (R : K1) (gM f1 f2 f3 : anV) (w : anU) : Prop :=
 Gz kn R gM f1 f2 f3 w
def Ge (kn : K4) (eN gM : anV) (w : anU) : Prop :=
 aD pg (aJ 73 eN 1) w fun f0 w =>
 aD pg (aL 71 f0) w fun f1 w =>
 aD pg (gD .len #[71] 3 [f1]) w fun f2 w =>
 kn gM f1 f2 (anW 0) w
theorem Qz (kn : K4) (hn : N4 Q kn 3 41 42 43) (h : Ge kn (g 1) (g 3) w) : bA pg jT (aI 1 (aI 1 (aB 3 iS))) Q g w :=
 dQ (kr := no) (l := []) h hn eZ trivial
def Gk (kn : K1) (R : K1) (eN gM : anV) (w : anU) : Prop :=
 Ge (fun gM f1 f2 f3 w => FU kn R gM f1 f2 f3 w) eN gM w
def F8 (R : K1) (eN gM : anV) (w : anU) : Prop :=
 Gk (fun gM w => BQ R gM w) R eN gM w
theorem PC (kn : K1) (R : K1) (hn : N1 Q kn 3) (hr : HR mQ R Q) (h : Gk kn R (g 1) (g 3) w) : bA pg jT (aI 1 (aB 3 iS)) Q g w :=
 gY 1 (Qz _ g w (FU kn R) (fun g w h => aM (FP 0 (PD _ g w kn R hn hr h))) h)
def Gn (kn : K2) (R : K1) (WO : anV) (w : anU) : Prop :=
 aD pg (Ic 73 WO) w fun eN w =>
 aD pg (aJ 73 eN 0) w fun b6 w =>
 aD pg (aL 3 b6) w fun b7 w =>
 aD pg (aG .lss 3 aK aK b7 (anW 5)) w fun b8 w =>
 Gd (eS b8 false) (fun K => aD pg (aJ 73 eN 0) w K) w fun c0 w =>
 Gd (eS b8 false) (fun K => aD pg (aL 3 c0) w K) w fun c1 w =>
 Gd (eS b8 false) (fun K => aD pg (aG .gtr 3 aK aK c1 (anW 15)) w K) w fun c2 w =>
 aD pg (fH b8 (.bool true) c2) w fun c3 w =>
 Gd (eS c3 false) (fun K => aD pg (aJ 73 eN 1) w K) w fun c5 w =>
 Gd (eS c3 false) (fun K => aD pg (aL 71 c5) w K) w fun c6 w =>
 Gd (eS c3 false) (fun K => aD pg (gD .len #[71] 3 [c6]) w K) w fun c7 w =>
 Gd (eS c3 false) (fun K => aD pg (aG .lss 3 aK aK c7 (anW 1)) w K) w fun c8 w =>
 aD pg (fH c3 (.bool true) c8) w fun c9 w =>
 Gd (eS c9 false) (fun K => aD pg (aJ 73 eN 1) w K) w fun d1 w =>
 Gd (eS c9 false) (fun K => aD pg (aL 71 d1) w K) w fun d2 w =>
 Gd (eS c9 false) (fun K => aD pg (gD .len #[71] 3 [d2]) w K) w fun d3 w =>
 Gd (eS c9 false) (fun K => aD pg (aG .gtr 3 aK aK d3 (anW 256)) w K) w fun d4 w =>
 aD pg (fH c9 (.bool true) d4) w fun d5 w =>
 Gd (eS d5 false) (fun K => aD pg (aJ 73 eN 1) w K) w fun d7 w =>
 Gd (eS d5 false) (fun K => aD pg (aL 71 d7) w K) w fun d8 w =>
 Gd (eS d5 false) (fun K => aD pg (aJ 73 eN 1) w K) w fun d9 w =>
 Gd (eS d5 false) (fun K => aD pg (aL 71 d9) w K) w fun e0 w =>
 Gd (eS d5 false) (fun K => aD pg (gD .len #[71] 3 [e0]) w K) w fun e1 w =>
 Gd (eS d5 false) (fun K => aD pg (aG .sub 3 aK aK e1 (anW 1)) w K) w fun e2 w =>
 Gd (eS d5 false) (fun K => aD pg (bK 71 d8 e2) w K) w fun e3 w =>
 Gd (eS d5 false) (fun K => aD pg (aL 3 e3) w K) w fun e4 w =>
 Gd (eS d5 false) (fun K => aD pg (aG .eql 3 (.tmp 34) (.const (anW 0)) e4 (anW 0)) w K) w fun e5 w =>
 aD pg (fH d5 (.bool true) e5) w fun e6 w =>
 eY e6
  (R (.bool false) w)
  (aD pg (aJ 73 eN 0) w fun e7 w =>
  aD pg (aL 3 e7) w fun e8 w =>
  aD pg (aG .shl 3 aK aK (anW 1) e8) w fun e9 w =>
  kn eN e9 w)
theorem Qo (kn : K2) (R : K1) (hn : N2 Q kn 1 3) (hr : HR mQ R Q) (h : Gn kn R (g 0) w) : bA pg jT (aI 3 iS) Q g w :=
 dQ (l := []) h hn hr trivial
def Gf (R : K1) (WO : anV) (w : anU) : Prop :=
 Gn (fun eN gM w => F8 R eN gM w) R WO w
theorem Qe (R : K1) (hr : HR mQ R Q) (h : Gf R (g 0) w) : bA pg jT iS Q g w :=
 gY 3 (Qo _ g w (F8 R) R (fun g w h => aM (gY 1 (PC _ g w (BQ R) R (fun g w h => aM (Ql _ g w R hr h)) hr h))) hr h)
def R6 (a0 : anV) (w : anU) (R : K1) : Prop :=
 Gf R a0 w
theorem Rh {a0 : anV} {w : anU} {R : K1} (h : R6 a0 w R) : aP pg Di #[a0] w R := by
 refine uS (ann := jT) Try.f69 iS [a0] mQ 62 TryM.mixed Try.func69 ?_
 exact (Qe _ _ _ R (fun _ _ h => h) h)
def fQ : FA := ⟨gJ, fun i => .leaf ([], []) []⟩
def iI : List ResultVar := []
noncomputable def fI : Code := bT Try.f70
def iJ (kn : K3) (k0 : K0) (R : K1) (rK b1 UI : anV) (w : anU) : Prop :=
 aD pg (aG .geq 3 aK aK UI (anW 0)) w fun b8 w =>
 eY b8
  (aD pg (aL 22 b1) w fun c3 w =>
  aD pg (bK 22 c3 UI) w fun c5 w =>
  aD pg (aL 5 c5) w fun c6 w =>
  aD pg (Du rK [UI, c6]) w fun c7 w =>
  aD pg (X0 .not c7) w fun c8 w =>
  eY c8
   (R (.tuple #[]) w)
   (aD pg (aG .sub 3 aK aK UI (anW 1)) w fun c0 w =>
   kn rK b1 c0 w))
  (k0 w)
theorem B1 (kn : K3) (k0 : K0) (R : K1) (hn : N3 Q kn 0 1 3) (h0 : E0 Q k0 0) (hr : HR iI R Q) (h : iJ kn k0 R (g 0) (g 1) (g 3) w) : bA pg fQ (bI (bI (aB 1 fI))) Q g w :=
 dQ (l := [(0, fun g w => k0 w)]) h hn hr ⟨h0, trivial⟩
def kX (k0 : K0) (R : K1) (rK b1 UI : anV) (w : anU) : Prop :=
 cK (fun (X : anV -> K0) (t : anV) (w : anU) => iJ (fun _ _ UI w => X UI w) k0 R rK b1 t w) UI w
theorem Ci (k0 : K0) (R : K1) (h0 : E0 Q k0 0) (hr : HR iI R Q) (h : kX k0 R (g 0) (g 1) (g 3) w) : bA pg fQ (bI (aB 1 fI)) Q g w := by
 refine NN (fun g : Env => g 3) (fun X t w => iJ (fun _ _ UI w => X UI w) k0 R (g 0) (g 1) t w) h (fun X g1 w1 ha hL => ?_)
 rw [<- jB 0 ha, <- jB 1 ha] at hL
 exact (B1 _ g1 w1 (fun _ _ UI w => X UI w) k0 R (fun _ _ h => h) h0 hr hL)
def kZ (kn : K0) (R : K1) (rK b1 UI : anV) (w : anU) : Prop :=
 kX kn R rK b1 UI w
def kT (kn : K3) (rK b1 : anV) (w : anU) : Prop :=
 aD pg (aL 22 b1) w fun b4 w =>
 aD pg (gD .len #[22] 3 [b4]) w fun b5 w =>
 aD pg (aG .sub 3 aK aK b5 (anW 1)) w fun b6 w =>
 kn rK b1 b6 w
theorem Cm (kn : K3) (hn : N3 Q kn 0 1 3) (h : kT kn (g 0) (g 1) w) : bA pg fQ (aI 1 fI) Q g w :=
 dQ (kr := no) (l := []) h hn eZ trivial
def kR (kn : K0) (R : K1) (rK b1 : anV) (w : anU) : Prop :=
 kT (fun rK b1 UI w => kZ kn R rK b1 UI w) rK b1 w
theorem B6 (kn : K0) (R : K1) (hn : N0 Q kn) (hr : HR iI R Q) (h : kR kn R (g 0) (g 1) w) : bA pg fQ fI Q g w :=
 gY 1 (Cm _ g w (kZ kn R) (fun g w h => aM (FP 0 (Ci _ g w kn R hn hr h))) h)
def xP (a0 a1 : anV) (w : anU) (R : K1) : Prop :=
 kR (fun  w => R (.tuple #[]) w) R a0 a1 w
theorem CF {a0 a1 : anV} {w : anU} {R : K1} (h : xP a0 a1 w R) : aP pg gJ #[a0, a1] w R := by
 refine uS (ann := fQ) Try.f70 fI [a0, a1] iI 19 TryM.mixed Try.func70 ?_
 exact (B6 _ _ _ (fun  w => R (.tuple #[]) w) R (fun _ _ h => h) (fun _ _ h => h) h)
end Go.Proofs.Ytgpimhlgaokobaa
namespace Go.En
open Go
section
variable {P : Program} {w : anU} {t : TypeId} {ox oy : Operand} {k : IntKind} {a b : Int}
theorem oY (s : Sem anV) : (V s).run P w = (s.run P w).andThen fun v w => .ok (.value v) w := by
 unfold V; rw [Sem.run_bind] <;> rfl
theorem ahG (s : Sem Unit) : (U s).run P w = (s.run P w).andThen fun _ w => .ok .skip w := by
 unfold U; rw [Sem.run_bind] <;> rfl
theorem bQ : (aG .add t ox oy (.int k a) (.int k b)).run P w = .ok (.value (.int k (k.wrap (a + b)))) w := by
 simp [aG, GV, oY, binOp, Op.intArith]
theorem fJ : (aG .sub t ox oy (.int k a) (.int k b)).run P w = .ok (.value (.int k (k.wrap (a - b)))) w := by
 simp [aG, GV, oY, binOp, Op.intArith]
theorem Ku : (aG .mul t ox oy (.int k a) (.int k b)).run P w = .ok (.value (.int k (k.wrap (a * b)))) w := by
 simp [aG, GV, oY, binOp, Op.intArith]
theorem Hx (h : b ≠ 0) : (aG .quo t ox oy (.int k a) (.int k b)).run P w = .ok (.value (.int k (k.wrap (a.tdiv b)))) w := by
 simp [aG, GV, oY, binOp, Op.intDiv, h]
theorem EM (h : b ≠ 0) : (aG .rem t ox oy (.int k a) (.int k b)).run P w = .ok (.value (.int k (a.tmod b))) w := by
 simp [aG, GV, oY, binOp, Op.intDiv, h]
def Jn (k : IntKind) (a b : Int) : Int := k.wrap (BitVec.ofInt k.bits a &&& BitVec.ofInt k.bits b).toNat
def UG (k : IntKind) (a b : Int) : Int := k.wrap (BitVec.ofInt k.bits a ||| BitVec.ofInt k.bits b).toNat
theorem He : (aG .and t ox oy (.int k a) (.int k b)).run P w = .ok (.value (.int k (Jn k a b))) w := by
 simp [aG, GV, oY, binOp, Op.intBits, Jn]
theorem SR : (aG .or t ox oy (.int k a) (.int k b)).run P w = .ok (.value (.int k (UG k a b))) w := by
 simp [aG, GV, oY, binOp, Op.intBits, UG]
theorem kM {k' : IntKind} (h : 0 <= b) : (aG .shl t ox oy (.int k a) (.int k' b)).run P w = .ok (.value (.int k (k.wrap (a * 2 ^ (min b.toNat k.bits))))) w := by
 simp [aG, GV, oY, binOp, Op.shift, Int.not_lt.2 h]
theorem uT {k' : IntKind} (h : 0 <= b) : (aG .shr t ox oy (.int k a) (.int k' b)).run P w = .ok (.value (.int k (a.fdiv (2 ^ (min b.toNat k.bits))))) w := by
 simp [aG, GV, oY, binOp, Op.shift, Int.not_lt.2 h]
theorem dV : (aG .eql t ox oy (.int k a) (.int k b)).run P w = .ok (.value (.bool (a == b))) w := by
 simp [aG, GV, oY, binOp, Op.intCmp, eqGuard]
theorem cO : (aG .neq t ox oy (.int k a) (.int k b)).run P w = .ok (.value (.bool (a != b))) w := by
 simp [aG, GV, oY, binOp, Op.intCmp, eqGuard]
theorem aY : (aG .lss t ox oy (.int k a) (.int k b)).run P w = .ok (.value (.bool (decide (a < b)))) w := by
 simp [aG, GV, oY, binOp, Op.intCmp]
theorem Y0 : (aG .leq t ox oy (.int k a) (.int k b)).run P w = .ok (.value (.bool (decide (a <= b)))) w := by
 simp [aG, GV, oY, binOp, Op.intCmp]
theorem dU : (aG .gtr t ox oy (.int k a) (.int k b)).run P w = .ok (.value (.bool (decide (b < a)))) w := by
 simp [aG, GV, oY, binOp, Op.intCmp]
theorem lK : (aG .geq t ox oy (.int k a) (.int k b)).run P w = .ok (.value (.bool (decide (b <= a)))) w := by
 simp [aG, GV, oY, binOp, Op.intCmp]
theorem agE : (X0 .neg (.int k a)).run P w = .ok (.value (.int k (k.wrap (0 - a)))) w := by
 simp [X0, oY, Op.unary, Op.intArith]
theorem rS (c : Bool) : (X0 .not (.bool c)).run P w = .ok (.value (.bool !c)) w := by
 simp [X0, oY, Op.unary]
theorem bO (c : Bool) (x y : anV) : (fH (.bool c) x y).run P w = .ok (.value (if c then x else y)) w := by
 simp [fH, asBool]
theorem VL {x y : anV} {r : Bool} (hg : eqGuard .eql t ox oy x y = pure ()) (hb : binOp .eql t x y = (do pure (.bool (<- Op.equal t x y)))) (he : (Op.equal t x y).run P w = .ok r w) :
 (aG .eql t ox oy x y).run P w = .ok (.value (.bool r)) w := by
 unfold aG
 simp only [GV, oY, hg, hb, pure_bind]
 rw [Sem.run_bind, he] <;> rfl
theorem Z7 {x y : anV} {r : Bool} (hg : eqGuard .neq t ox oy x y = pure ()) (hb : binOp .neq t x y = (do pure (.bool (!(<- Op.equal t x y))))) (he : (Op.equal t x y).run P w = .ok r w) :
 (aG .neq t ox oy x y).run P w = .ok (.value (.bool (!r))) w := by
 unfold aG
 simp only [GV, oY, hg, hb, pure_bind]
 rw [Sem.run_bind, he] <;> rfl
theorem aT {n : Int} (h0 : -9223372036854775808 <= n) (h1 : n <= 9223372036854775807) : IntKind.i64.wrap n = n := by
 unfold IntKind.wrap; simp [IntKind.bits, IntKind.signed]; split <;> omega
theorem iZ {n : Int} (h0 : 0 <= n) (h1 : n <= 18446744073709551615) : IntKind.u64.wrap n = n := by
 unfold IntKind.wrap; simp [IntKind.bits, IntKind.signed]; omega
theorem afW {n : Int} (h0 : 0 <= n) (h1 : n <= 4294967295) : IntKind.u32.wrap n = n := by
 unfold IntKind.wrap; simp [IntKind.bits, IntKind.signed]; omega
theorem LN {n : Int} (h0 : 0 <= n) (h1 : n <= 255) : IntKind.u8.wrap n = n := by
 unfold IntKind.wrap; simp [IntKind.bits, IntKind.signed]; omega
theorem Z5 (x y : ByteArray) : (aG .eql t ox oy (.string x) (.string y)).run P w = .ok (.value (.bool (x.toList == y.toList))) w := by
 simp [aG, GV, oY, binOp, Op.stringOp, eqGuard]
theorem Zp (n : Nat) {e : TypeId} (hu : P.underlying t = some (.pointer e)) (x : Option Addr) : (Op.equalIn (n + 1) t (.pointer x) (.pointer none)).run P w = .ok x.isNone w := by
 simp only [Op.equalIn, underlying]
 cases x <;> simp [hu]
theorem Y5 {e : TypeId} (hu : P.underlying t = some (.pointer e)) (x : Option Addr) : (Op.equal t (.pointer x) (.pointer none)).run P w = .ok x.isNone w := Zp 9999 hu x
theorem abF (m : Nat) {e : TypeId} (hu : P.underlying t = some (.slice e)) (x : Option Addr) (n c : Nat) : (Op.equalIn (m + 1) t (.slice x n c) (.slice none 0 0)).run P w = .ok x.isNone w := by
 simp only [Op.equalIn, underlying]
 cases x <;> simp [hu]
theorem afQ {e : TypeId} (hu : P.underlying t = some (.slice e)) (x : Option Addr) (n c : Nat) : (Op.equal t (.slice x n c) (.slice none 0 0)).run P w = .ok x.isNone w := abF 9999 hu x n c
theorem SG {e : TypeId} (hu : P.underlying t = some (.pointer e)) (x : Option Addr) : (aG .eql t ox oy (.pointer x) (.pointer none)).run P w = .ok (.value (.bool x.isNone)) w :=
 VL rfl rfl (Y5 hu x)
theorem adG {e : TypeId} (hu : P.underlying t = some (.pointer e)) (x : Option Addr) : (aG .neq t ox oy (.pointer x) (.pointer none)).run P w = .ok (.value (.bool (!x.isNone))) w :=
 Z7 rfl rfl (Y5 hu x)
theorem abO {e : TypeId} (hu : P.underlying t = some (.slice e)) (x : Option Addr) (n c : Nat) : (aG .eql t ox oy (.slice x n c) (.slice none 0 0)).run P w = .ok (.value (.bool x.isNone)) w :=
 VL rfl rfl (afQ hu x n c)
theorem Ga {s : TypeId} {d : TypeDesc} {kd : IntKind} (hs : P.underlying s = some d) (hu : P.underlying t = some (.int kd)) : (fB s t (.int k a)).run P w = .ok (.value (.int kd (kd.wrap a))) w := by
 cases d <;> simp [fB, oY, convert, underlying, hs, hu, Conv.intToInt]
theorem Uv {ty : TypeId} {e : TypeId} (hu : P.underlying t = some (.slice e)) (x : Option Addr) (n c : Nat) : (gD .len #[t] ty [.slice x n c]).run P w = .ok (.value (.int .i64 n)) w := by
 simp [gD, builtin, Builtin.len_, underlying, hu, goInt]
theorem afD {ats : Array TypeId} {ty : TypeId} : (gD .min ats ty [.int k a, .int k b]).run P w = .ok (.value (.int k (if b < a then b else a))) w := by
 simp [gD, builtin, Builtin.min_, Builtin.min2]
theorem Pl {ats : Array TypeId} {ty : TypeId} : (gD .max ats ty [.int k a, .int k b]).run P w = .ok (.value (.int k (if b > a then b else a))) w := by
 simp [gD, builtin, Builtin.max_, Builtin.max2]
theorem oH (a b : anV) : (bF (.tuple #[a, b]) 0).run P w = .ok (.value a) w := Eq.trans rfl rfl
theorem oF (a b : anV) : (bF (.tuple #[a, b]) 1).run P w = .ok (.value b) w := Eq.trans rfl rfl
theorem x30 (a b c : anV) : (bF (.tuple #[a, b, c]) 0).run P w = .ok (.value a) w := Eq.trans rfl rfl
theorem x31 (a b c : anV) : (bF (.tuple #[a, b, c]) 1).run P w = .ok (.value b) w := Eq.trans rfl rfl
theorem x32 (a b c : anV) : (bF (.tuple #[a, b, c]) 2).run P w = .ok (.value c) w := Eq.trans rfl rfl
theorem x40 (a b c d : anV) : (bF (.tuple #[a, b, c, d]) 0).run P w = .ok (.value a) w := Eq.trans rfl rfl
theorem x41 (a b c d : anV) : (bF (.tuple #[a, b, c, d]) 1).run P w = .ok (.value b) w := Eq.trans rfl rfl
theorem x42 (a b c d : anV) : (bF (.tuple #[a, b, c, d]) 2).run P w = .ok (.value c) w := Eq.trans rfl rfl
theorem x43 (a b c d : anV) : (bF (.tuple #[a, b, c, d]) 3).run P w = .ok (.value d) w := Eq.trans rfl rfl
theorem oL (x : Addr) : (lN (.pointer (some x))).run P w = .ok (.value (.pointer (some x))) w := Eq.trans rfl rfl
theorem gG {fs : Array Field} {f : Field} {i : Nat} {inf : TypeInfo} (hu : P.underlying t = some (.struct fs)) (hf : fs[i]? = some f)
 (hi : P.info? f.type = some inf) (hz : inf.size ≠ 0) (x : Addr) : (aJ t (.pointer (some x)) i).run P w = .ok (.value (.pointer (some (x.add f.offset)))) w := by
 simp [aJ, oY, Instr.fieldAt, underlying, hu, hf, Instr.sureAddr, fieldPlace, sizeOf, typeInfo, hi, hz]
theorem UR {e : TypeId} {inf : TypeInfo} (hu : P.underlying t = some (.slice e)) (hi : P.info? e = some inf) (x : Addr) (n c : Nat) (h0 : 0 <= a) (h1 : a < n) :
 (bK t (.slice (some x) n c) (.int k a)).run P w = .ok (.value (.pointer (some (x.add (a.toNat * inf.size))))) w := by
 simp [bK, oY, Instr.indexAt, asIntOf, underlying, hu, h0, h1, sizeOf, typeInfo, hi]
theorem Zr {e : TypeId} {len : Nat} {inf : TypeInfo} (hu : P.underlying t = some (.array len e)) (hi : P.info? e = some inf) (x : Addr) (h0 : 0 <= a) (h1 : a < len) :
 (bK t (.pointer (some x)) (.int k a)).run P w = .ok (.value (.pointer (some (x.add (a.toNat * inf.size))))) w := by
 simp [bK, oY, Instr.indexAt, asIntOf, underlying, hu, h0, h1, sizeOf, typeInfo, hi, Instr.sureAddr]
theorem aeU (hu : P.underlying t = some .string) (x : ByteArray) (h0 : 0 <= a) (h1 : a.toNat < x.size) :
 (L1 t (.string x) (.int k a)).run P w = .ok (.value (.int .u8 (x[a.toNat]'h1).toNat)) w := by
 simp [L1, oY, Instr.index, asIntOf, underlying, hu, h0, h1]
end
def cL (w : anU) (b : Nat) (cs : List anV) : Prop :=
 ∃ T lo hi, w.heap[b]? = some (.cells cs.toArray T (lo, hi)) /\ (cs.length <= lo ∨ hi = lo)
structure aR (w w' : anU) (M : Nat -> Prop) : Prop where
 os : w'.os = w.os
 tape : w'.tape = w.tape
 output : w'.output = w.output
 size : w.heap.size <= w'.heap.size
 keep : ∀ b, b < w.heap.size -> ¬ M b -> w'.heap[b]? = w.heap[b]?
def dH : Nat -> Prop := fun _ => False
theorem aR.refl (w : anU) (M : Nat -> Prop) : aR w w M := ⟨rfl, rfl, rfl, aiM _, fun _ _ _ => rfl⟩
theorem aR.mono {w w' : anU} {M N : Nat -> Prop} (h : aR w w' M) (hm : ∀ b, b < w.heap.size -> M b -> N b) : aR w w' N :=
 ⟨h.os, h.tape, h.output, h.size, fun b hb hn => h.keep b hb fun hM => hn (hm b hb hM)⟩
theorem aR.trans {a b c : anU} {M N : Nat -> Prop} (h : aR a b M) (k : aR b c N) (hn : ∀ x, x < a.heap.size -> N x -> M x) : aR a c M :=
 ⟨k.os.trans h.os, k.tape.trans h.tape, k.output.trans h.output, akT h.size k.size,
   fun x hx hM => (k.keep x (alM hx h.size) fun h => hM (hn x hx h)).trans (h.keep x hx hM)⟩
theorem aR.seq {a b c : anU} {M : Nat -> Prop} (h : aR a b M) (k : aR b c M) : aR a c M := h.trans k fun _ _ h => h
theorem aR.new {a b c : anU} {M : Nat -> Prop} {x : Nat} (h : aR a b M) (k : aR b c (fun y => y = x)) (hx : a.heap.size <= x) : aR a c M :=
 h.trans k fun y hy e => absurd hy (by subst e; omega)
theorem aR.more {a b c : anU} {M : Nat -> Prop} (h : aR a b M) (k : aR b c (fun _ => False)) : aR a c M := h.trans k fun _ _ h => h.elim
theorem aR.below {w w' : anU} (h : aR w w' dH) : Go.RowKit.Below w.heap.size w w' :=
 ⟨h.os, h.tape, h.output, h.size, fun k hk => h.keep k hk fun h => h⟩
theorem aR.dr (w : anU) (M : Nat -> Prop) : aR w (dr w) M := ⟨rfl, rfl, rfl, aiM _, fun _ _ _ => rfl⟩
theorem aR.alloc (w : anU) (o : Obj) (M : Nat -> Prop) : aR w (w.alloc o) M :=
 ⟨rfl, rfl, rfl, by simp, fun b hb _ => by show (w.heap.push o)[b]? = _; rw [Array.getElem?_push, if_neg (by omega)]⟩
theorem Rn (w : anU) (a : Addr) (v : anV) (b : Nat) (h : b ≠ a.block) : (w.setCell a v).heap[b]? = w.heap[b]? := Go.RowKit.Below.heap_setCell w a v b h
theorem aR.setCell (w : anU) (a : Addr) (v : anV) {M : Nat -> Prop} (h : a.block < w.heap.size -> M a.block) : aR w (w.setCell a v) M :=
 ⟨rfl, rfl, rfl, by simp, fun b hb hM => Rn w a v b fun e => hM (e ▸ h (e ▸ hb))⟩
theorem cL.lt {w : anU} {b : Nat} {cs : List anV} (h : cL w b cs) : b < w.heap.size := by
 obtain ⟨T, lo, hi, h, _⟩ := h
 rcases aiS b w.heap.size with h' | h'
 .exact h'
 .rw [alI h'] at h; cases h
theorem cL.ext {w w' : anU} {b : Nat} {cs : List anV} {M : Nat -> Prop} (h : cL w b cs) (hx : aR w w' M) (hM : ¬ M b) : cL w' b cs := by
 have := h.lt
 obtain ⟨T, lo, hi, h, k⟩ := h
 exact ⟨T, lo, hi, by rw [hx.keep b this hM]; exact h, k⟩
theorem cL.cell {w : anU} {b off : Nat} {cs : List anV} (h : cL w b cs) : w.cell? ⟨b, off, none⟩ = cs[off]? := by
 obtain ⟨T, lo, hi, h, _⟩ := h
 simp [World.cell?, h]
theorem cL.free {w : anU} {b off : Nat} {cs : List anV} {s : Option Nat} (h : cL w b cs) (ho : off < cs.length) : w.frozen? ⟨b, off, s⟩ = false := by
 obtain ⟨T, lo, hi, h, k⟩ := h
 simp only [World.frozen?, h]
 rcases k with k | k <;> (simp; omega)
theorem cL.setCell {w : anU} {b off : Nat} {cs : List anV} (h : cL w b cs) (v : anV) : cL (w.setCell ⟨b, off, none⟩ v) b (cs.set off v) := by
 have hb := h.lt
 obtain ⟨T, lo, hi, h, k⟩ := h
 refine ⟨T, lo, hi, ?_, by simpa using k⟩
 simp only [World.setCell, amP, h]
 simp
theorem cL.alloc (w : anU) (cs : List anV) (T : TypeId) : cL (w.alloc (.cells cs.toArray T)) w.heap.size cs :=
 ⟨T, 0, 0, by show (w.heap.push _)[w.heap.size]? = _; simp, .inr rfl⟩
theorem OZ {w w' : anU} {M : Nat -> Prop} {a : Addr} {v : anV} (h : w.cell? a = some v) (hx : aR w w' M) (hM : ¬ M a.block) : w'.cell? a = some v := by
 have hb := World.block_lt_of_cell? w a h
 have e := hx.keep _ hb hM
 unfold World.cell? at h ⊢
 rw [e]; exact h
section
variable {P : Program} {w : anU} {t : TypeId}
def VS (d : TypeDesc) : Bool := match d with | .struct _ | .array _ _ => true | _ => false
theorem GN {d : TypeDesc} (hu : P.underlying t = some d) : (isAgg t).run P w = .ok (VS d) w := by
 cases d <;> simp [isAgg, underlying, hu, VS]
theorem dK {i : TypeInfo} (hi : P.info? t = some i) : (sizeOf t).run P w = .ok i.size w := by simp [sizeOf, typeInfo, hi]
theorem OJ {b off : Nat} {cs : List anV} (ho : cL w b cs) : ∀ (n i : Nat) (acc : Array anV), off + i + n <= cs.length →
 (loadCellsFrom ⟨b, off, none⟩ i n acc).run P w = .ok (acc ++ ((cs.drop (off + i)).take n).toArray) w := by
 intro n
 induction n with
 | zero => intro i acc _; simp [loadCellsFrom]
 | succ n ih =>
   intro i acc h
   have hc : w.cell? ((⟨b, off, none⟩ : Addr).add i) = some cs[off + i] := by
    unfold Addr.add
    split
    .rename_i hi; subst hi; rw [ho.cell]; simp
    .show w.cell? ⟨b, off + i, none⟩ = _; rw [ho.cell]; simp
   simp only [loadCellsFrom, Sem.run_bind, run_load, hc, Result.andThen_ok]
   rw [ih (i + 1) _ (by omega)]
   congr 1
   rw [ajK (by omega : off + i < cs.length)]
   simp [alJ]
theorem MB {b off n : Nat} {cs : List anV} (ho : cL w b cs) (h : off + n <= cs.length) :
 (loadCells ⟨b, off, none⟩ n).run P w = .ok ((cs.drop off).take n).toArray w := by
 unfold loadCells
 rw [OJ ho n 0 #[] (by omega)]
 simp
theorem Fq {d : TypeDesc} {i : TypeInfo} (hu : P.underlying t = some d) (hd : VS d = true) (hi : P.info? t = some i) {b off : Nat} {cs : List anV} (ho : cL w b cs) (h : off + i.size <= cs.length) :
 (aL t (.pointer (some ⟨b, off, none⟩))).run P w = .ok (.value (.agg ((cs.drop off).take i.size).toArray)) w := by
 unfold aL
 rw [oY]
 simp only [Instr.loadAt, Instr.sureAddr, loadVar, pure_bind, Sem.run_bind, GN hu, hd, Result.andThen_ok, if_true, dK hi, MB ho h, Sem.run_pure]
def one (v : anV) : Bool := match v with | .agg _ | .tuple _ => false | _ => true
theorem Ww {a : Addr} {v x : anV} (hv : one v = true) (hc : w.cell? a = some x) (hf : w.frozen? a = false) : (store a v).run P w = .ok () (w.setCell a v) := by
 unfold store
 cases v <;> simp [one] at hv <;> simp [Sem.run, hc, hf]
def cG (cs : List anV) (off : Nat) : List anV -> List anV
 | [] => cs
 | v :: vs => cG (cs.set off v) (off + 1) vs
theorem zY {b : Nat} {M : Nat -> Prop} (hM : M b) : ∀ (vs : List anV) (w : anU) (off i : Nat) (cs : List anV), cL w b cs -> off + i + vs.length <= cs.length -> (∀ v ∈ vs, one v = true) →
 ∃ w', (storeCells ⟨b, off, none⟩ vs i).run P w = .ok () w' /\ cL w' b (cG cs (off + i) vs) /\ aR w w' M /\ w'.heap.size = w.heap.size /\ w'.drawn = w.drawn := by
 intro vs
 induction vs with
 | nil => intro w off i cs ho _ _; exact ⟨w, by simp [storeCells], ho, aR.refl _ _, rfl, rfl⟩
 | cons v vs ih =>
   intro w off i cs ho h hv
   simp only [aiP] at h
   have ha : (⟨b, off, none⟩ : Addr).add i = ⟨b, off + i, none⟩ := by
    unfold Addr.add; split
    .rename_i hi; subst hi; rfl
    .rfl
   have hlt : off + i < cs.length := by omega
   have hc : w.cell? ⟨b, off + i, none⟩ = some cs[off + i] := by rw [ho.cell]; simp
   have hs := Ww (P := P) (hv v (by simp)) hc (ho.free hlt)
   obtain ⟨w', h1, h2, h3, h4, h5⟩ := ih (w.setCell ⟨b, off + i, none⟩ v) off (i + 1) (cs.set (off + i) v) (ho.setCell v) (by simp; omega) (fun x hx => hv x (aiT _ hx))
   refine ⟨w', ?_, h2, (aR.setCell w _ v fun _ => hM).trans h3 (fun _ _ h => h), by rw [h4]; simp, by rw [h5] <;> rfl⟩
   simp only [storeCells, Sem.run_bind, ha, hs, Result.andThen_ok]
   exact h1
theorem qC {i : TypeInfo} (hi : P.info? t = some i) {b off : Nat} {cs : List anV} (ho : cL w b cs) {v : anV} (hs : v.cells.size = i.size)
 (hv : ∀ x ∈ v.cells.toList, one x = true) (h : off + i.size <= cs.length) {K : anV -> anU -> Prop}
 (hk : ∀ w', cL w' b (cG cs off v.cells.toList) -> aR w w' (fun x => x = b) -> w'.heap.size = w.heap.size -> K undef w') : aD P (bB t (.pointer (some ⟨b, off, none⟩)) v) w K := by
 obtain ⟨w', h1, h2, h3, h4, _⟩ := zY (P := P) (M := fun x => x = b) rfl v.cells.toList w off 0 cs ho (by simp [hs]; omega) hv
 have : (bB t (.pointer (some ⟨b, off, none⟩)) v).run P w = .ok .skip w' := by
  unfold bB
  rw [ahG]
  simp only [Instr.storeAt, Instr.sureAddr, storeVar, pure_bind, Sem.run_bind, dK hi, Result.andThen_ok, hs]
  simp [h1]
 unfold aD
 rw [this]
 exact hk w' h2 h3 h4
theorem PQ {v : anV} (hv : one v = true) : v.cells = #[v] := by cases v <;> simp [one] at hv <;> rfl
theorem xA {i : TypeInfo} (hi : P.info? t = some i) (h1 : i.size = 1) {b off : Nat} {cs : List anV} (ho : cL w b cs) {v : anV} (hv : one v = true) (h : off < cs.length) {K : anV -> anU -> Prop}
 (hk : ∀ w', cL w' b (cs.set off v) -> aR w w' (fun x => x = b) -> w'.heap.size = w.heap.size -> K undef w') : aD P (bB t (.pointer (some ⟨b, off, none⟩)) v) w K := by
 have e := PQ hv
 refine qC hi ho (by rw [e, h1] <;> rfl) (by rw [e]; simpa using hv) (by omega) fun w' a b c => hk w' ?_ b c
 rw [e] at a; exact a
def XJ (c : Option anV) (w : anU) (YT : Result Next) : Result Next := match c with | some v => .ok (.value v) w | none => YT
def YT (P : Program) (t : TypeId) (x : Addr) (w : anU) : Result Next := (aL t (.pointer (some x))).run P w
theorem aH (v : anV) (w : anU) (f : Result Next) : XJ (some v) w f = .ok (.value v) w := rfl
theorem Ub {d : TypeDesc} (hu : P.underlying t = some d) (hd : VS d = false) (x : Addr) (w : anU) :
 (aL t (.pointer (some x))).run P w = XJ (w.cell? x) w (YT P t x w) := by
 cases h : w.cell? x with
 | none => rfl
 | some v =>
   unfold aL
   rw [oY]
   simp only [Instr.loadAt, Instr.sureAddr, loadVar, pure_bind, Sem.run_bind, GN hu, hd, Result.andThen_ok, aiD, if_false, run_load, h, XJ]
theorem OI {d : TypeDesc} {i : TypeInfo} (hu : P.underlying t = some d) (hd : VS d = true) (hi : P.info? t = some i) {b off : Nat} {cs : List anV} (ho : cL w b cs) (h : off + i.size <= cs.length) {K : anV -> Prop}
 (hk : K (.agg ((cs.drop off).take i.size).toArray)) : Mz P t (.pointer (some ⟨b, off, none⟩)) w K := by
 refine ⟨_, ?_, hk⟩
 simp only [asAddr, loadVar, pure_bind, Sem.run_bind, GN hu, hd, Result.andThen_ok, if_true, dK hi, MB ho h, Sem.run_pure]
theorem Xt {d : TypeDesc} (hu : P.underlying t = some d) (hd : VS d = false) {b off : Nat} {cs : List anV} (ho : cL w b cs) {v : anV} (h : cs[off]? = some v) {K : anV -> Prop}
 (hk : K v) : Mz P t (.pointer (some ⟨b, off, none⟩)) w K := by
 refine ⟨_, ?_, hk⟩
 simp only [asAddr, loadVar, pure_bind, Sem.run_bind, GN hu, hd, Result.andThen_ok, aiD, if_false, run_load, ho.cell, h]
theorem mX {v : anV} {K : anV -> anU -> Prop} (hk : ∀ w', cL w' w.heap.size v.cells.toList -> aR w w' dH -> w'.heap.size = w.heap.size + 1 -> K (.pointer (some ⟨w.heap.size, 0, none⟩)) w') :
 aD P (Ic t v) w K := by
 have : (Ic t v).run P w = .ok (.value (.pointer (some ⟨w.heap.size, 0, none⟩))) (w.alloc (.cells v.cells.toList.toArray t)) := by
  unfold Ic; rw [oY]
  simp [Instr.box, newVar, newRow]
 unfold aD
 rw [this]
 exact hk _ (cL.alloc _ _ _) (aR.alloc _ _ _) (by simp)
theorem lR {i : TypeInfo} {z : anV} (hi : P.info? t = some i) (hz : i.zero = some z) {K : anV -> anU -> Prop}
 (hk : ∀ w', cL w' w.heap.size z.cells.toList -> aR w w' dH -> w'.heap.size = w.heap.size + 1 -> K (.pointer (some ⟨w.heap.size, 0, none⟩)) w') :
 aD P (eM t) w K := by
 have : (eM t).run P w = .ok (.value (.pointer (some ⟨w.heap.size, 0, none⟩))) (w.alloc (.cells z.cells.toList.toArray t)) := by
  unfold eM; rw [oY]
  simp [Instr.alloc, zeroValue, typeInfo, hi, hz, newVar, newRow]
 unfold aD
 rw [this]
 exact hk _ (cL.alloc _ _ _) (aR.alloc _ _ _) (by simp)
end
theorem Lh {P : Program} {w : anU} {k : IntKind} {a : Int} {y : Nat} {code : BoundsCode} (h0 : 0 <= a) (h1 : a <= y) : (Instr.sliceBound (.int k a) y code).run P w = .ok a.toNat w := by
 simp [Instr.sliceBound, asIntOf, h0, h1]
section
variable {P : Program} {w : anU} {t e : TypeId} {k k' : IntKind} {lo hi : Int} {i : TypeInfo}
def fY (x : Option Addr) (m l sz : Nat) : Option Addr := if m = l then x else x.map (·.add (l * sz))
theorem Xf (hu : P.underlying t = some (.slice e)) (hi' : P.info? e = some i) (x : Option Addr) (n c : Nat) (h0 : 0 <= lo) (h1 : lo <= n) :
 (lO t (.slice x n c) (some (.int k lo)) none none).run P w = .ok (.value (.slice (fY x c lo.toNat i.size) (n - lo.toNat) (c - lo.toNat))) w := by
 simp only [lO, oY, Instr.sliceAt, underlying, hu, Sem.run_bind, run_program, Result.andThen_ok, Sem.run_pure, Instr.slice, Instr.sliceBounds, pure_bind, Lh h0 h1, dK hi', fY]
theorem WV (hu : P.underlying t = some (.slice e)) (hi' : P.info? e = some i) (x : Option Addr) (n c : Nat) (h0 : 0 <= hi) (h1 : hi <= c) :
 (lO t (.slice x n c) none (some (.int k hi)) none).run P w = .ok (.value (.slice (fY x c 0 i.size) (hi.toNat - 0) (c - 0))) w := by
 simp only [lO, oY, Instr.sliceAt, underlying, hu, Sem.run_bind, run_program, Result.andThen_ok, Sem.run_pure, Instr.slice, Instr.sliceBounds, pure_bind, Lh h0 h1, dK hi', fY]
end
def Sl (w : anU) (v : anV) (l : List anV) : Prop :=
 ∃ a n c, v = .slice a n c /\ n = l.length /\ n <= c /\ (0 < n -> ∃ b off, a = some ⟨b, off, none⟩ /\ ∀ i, i < n -> w.cell? ⟨b, off + i, none⟩ = l[i]?)
def TF (v : anV) (M : Nat -> Prop) : Prop := match v with | .slice (some a) (_ + 1) _ => M a.block | _ => False
theorem Sl.ext {w w' : anU} {v : anV} {l : List anV} {M : Nat -> Prop} (h : Sl w v l) (hx : aR w w' M) (hM : ¬ TF v M) : Sl w' v l := by
 obtain ⟨a, n, c, rfl, hn, hc, h⟩ := h
 refine ⟨a, n, c, rfl, hn, hc, fun h0 => ?_⟩
 obtain ⟨b, off, rfl, h2⟩ := h h0
 refine ⟨b, off, rfl, fun i hi => ?_⟩
 have h1 := h2 i hi
 obtain ⟨v, hv⟩ : ∃ v, l[i]? = some v := ⟨l[i], by simp⟩
 rw [hv] at h1 ⊢
 refine OZ h1 hx ?_
 obtain ⟨m, rfl⟩ : ∃ m, n = m + 1 := ⟨n - 1, by omega⟩
 exact hM
theorem Sl.old {w : anU} {v : anV} {l : List anV} (h : Sl w v l) : ¬ TF v (fun b => w.heap.size <= b) := by
 obtain ⟨a, n, c, rfl, hn, hc, h⟩ := h
 unfold TF
 split
 .rename_i x m _ e
  obtain ⟨rfl, rfl, rfl⟩ : a = some x /\ n = m + 1 /\ c = _ := by simpa using e
  obtain ⟨b, off, e, h2⟩ := h (by omega)
  have e := ajE e; subst e
  have h1 := h2 0 (by omega)
  obtain ⟨v, hv⟩ : ∃ v, l[0]? = some v := ⟨l[0], by simp⟩
  rw [hv] at h1
  have := World.block_lt_of_cell? _ _ h1
  simp at this ⊢; omega
 .simp
def lL (x : UInt8) : anV := .int .u8 x.toNat
abbrev Bs (w : anU) (v : anV) (l : List UInt8) : Prop := Sl w v (l.map lL)
theorem Ep (b o n : Nat) : (⟨b, o, none⟩ : Addr).add n = ⟨b, o + n, none⟩ := by
 unfold Addr.add; split
 .rename_i h; subst h; rfl
 .rfl
section
variable {P : Program} {w : anU} {t e : TypeId} {k : IntKind} {a : Int}
theorem Qv {inf : TypeInfo} {sz : Nat} (hz : inf.size = sz) (hu : P.underlying t = some (.slice e)) (hi : P.info? e = some inf) (b o n c : Nat) (h0 : 0 <= a) (h1 : a < n) :
 (bK t (.slice (some ⟨b, o, none⟩) n c) (.int k a)).run P w = .ok (.value (.pointer (some ⟨b, o + a.toNat * sz, none⟩))) w := by
 rw [UR hu hi _ n c h0 h1, Ep, hz]
theorem Tf {inf : TypeInfo} (hz : inf.size = 1) (hu : P.underlying t = some (.slice e)) (hi : P.info? e = some inf) (b o n c : Nat) (h0 : 0 <= a) (h1 : a < n) :
 (bK t (.slice (some ⟨b, o, none⟩) n c) (.int k a)).run P w = .ok (.value (.pointer (some ⟨b, o + a.toNat, none⟩))) w := by
 rw [UR hu hi _ n c h0 h1, Ep, hz, alA]
theorem Tk {inf : TypeInfo} {len : Nat} (hz : inf.size = 1) (hu : P.underlying t = some (.array len e)) (hi : P.info? e = some inf) (b o : Nat) (h0 : 0 <= a) (h1 : a < (len : Int)) :
 (bK t (.pointer (some ⟨b, o, none⟩)) (.int k a)).run P w = .ok (.value (.pointer (some ⟨b, o + a.toNat, none⟩))) w := by
 rw [Zr hu hi _ h0 h1, Ep, hz, alA]
end
section
variable {P : Program} {w : anU} {s d e : TypeId}
theorem ZG (hs : P.underlying s = some (.slice e)) (hd : P.underlying d = some .string) (he : P.underlying e = some (.int .u8)) {l : List UInt8} {v : anV} (h : Bs w v l) :
 (fB s d v).run P w = .ok (.value (.string ⟨l.toArray⟩)) w := by
 obtain ⟨a, n, c, rfl, hn, hc, h⟩ := h
 simp only [aiI] at hn
 unfold fB
 rw [oY]
 have key : (convert s d (.slice a n c)).run P w = .ok (.string ⟨l.toArray⟩) w := by
  cases a with
  | none =>
    have hl : l = [] := by
     cases l with
     | nil => rfl
     | cons x l => obtain ⟨b, off, e, _⟩ := h (by rw [hn]; simp); cases e
    subst hl
    rw [run_convert_bytes_string w s d e none n c hs he hd]
    rfl
  | some x =>
    subst hn
    refine run_convert_bytes_back w s d e x c l hs he hd fun j hj => ?_
    obtain ⟨b, off, hx, h2⟩ := h (by omega)
    have hx := ajE hx
    subst hx
    rw [Ep, h2 j hj]
    simp [lL, hj]
 rw [key] <;> rfl
end
theorem P6 (l : List UInt8) : ∀ x ∈ l.map lL, one x = true := by
 intro x hx
 obtain ⟨c, _, rfl⟩ := akM.1 hx
 rfl
theorem Sl.drop {w : anU} {b o n c : Nat} {l : List anV} (h : Sl w (.slice (some ⟨b, o, none⟩) n c) l) {k : Nat} (hk : k <= n) :
 Sl w (.slice (fY (some ⟨b, o, none⟩) c k 1) (n - k) (c - k)) (l.drop k) := by
 obtain ⟨x, m, c', e, hm, hc, hh⟩ := h
 cases e
 refine ⟨_, _, _, rfl, by rw [aiV]; omega, by omega, fun h0 => ?_⟩
 obtain ⟨b', o', e, h2⟩ := hh (by omega)
 cases e
 have hne : ¬ c = k := by omega
 refine ⟨b, o + k, by unfold fY; rw [if_neg hne, ajS, Ep, alA], fun i hi => ?_⟩
 rw [alJ, h2 (k + i) (by omega), alP]
theorem Sl.take {w : anU} {b o n c : Nat} {l : List anV} (h : Sl w (.slice (some ⟨b, o, none⟩) n c) l) {k : Nat} (hk : k <= n) :
 Sl w (.slice (fY (some ⟨b, o, none⟩) c 0 1) (k - 0) (c - 0)) (l.take k) := by
 obtain ⟨x, m, c', e, hm, hc, hh⟩ := h
 cases e
 refine ⟨_, _, _, rfl, by rw [aiR]; omega, by omega, fun h0 => ?_⟩
 obtain ⟨b', o', e, h2⟩ := hh (by omega)
 cases e
 have hne : ¬ c = 0 := by omega
 refine ⟨b, o, by unfold fY; rw [if_neg hne, ajS, Ep] <;> rfl, fun i hi => ?_⟩
 rw [h2 i (by omega), akA (by omega)]
theorem cL.bs {w : anU} {b off c : Nat} {cs : List anV} {l : List UInt8} (h : cL w b cs) (hc : l.length <= c) (hl : ∀ i (hi : i < l.length), cs[off + i]? = some (lL l[i])) : Bs w (.slice (some ⟨b, off, none⟩) l.length c) l :=
 ⟨_, _, _, rfl, by simp, hc, fun _ => ⟨b, off, rfl, fun i hi => by rw [h.cell, hl i hi]; simp [hi]⟩⟩
section
variable {P : Program} {w : anU} {t e : TypeId} {k : IntKind} {a : Int}
theorem adJ {len : Nat} {d : TypeDesc} {i : TypeInfo} (hu : P.underlying t = some (.array len e)) (hd : P.underlying e = some d) (ha : VS d = false) (hi : P.info? e = some i) (h1 : i.size = 1)
 (cs : Array anV) (h0 : 0 <= a) (hl : a < (len : Int)) {v : anV} (hv : cs[a.toNat]? = some v) : (L1 t (.agg cs) (.int k a)).run P w = .ok (.value v) w := by
 unfold L1
 rw [oY]
 simp only [Instr.index, asIntOf, pure_bind, underlying, hu, Sem.run_bind, run_program, Result.andThen_ok, Sem.run_pure, h0, hl, and_self, if_true, dK hi, h1, alA, part, GN hd, ha, aiD, if_false, hv]
def afU (P : Program) (t : TypeId) (cs : Array anV) (k : IntKind) (a : Int) (w : anU) : Result Next := (L1 t (.agg cs) (.int k a)).run P w
theorem adX {len : Nat} {d : TypeDesc} {i : TypeInfo} (hu : P.underlying t = some (.array len e)) (hd : P.underlying e = some d) (ha : VS d = false) (hi : P.info? e = some i) (h1 : i.size = 1)
 (cs : Array anV) (h0 : 0 <= a) (hl : a < (len : Int)) : (L1 t (.agg cs) (.int k a)).run P w = XJ cs[a.toNat]? w (afU P t cs k a w) := by
 cases hv : cs[a.toNat]? with
 | none => rfl
 | some v => exact adJ hu hd ha hi h1 cs h0 hl hv
theorem Po {b off : Nat} {l : List anV} (h : ∀ i, i < l.length -> w.cell? ⟨b, off + i, none⟩ = l[i]?) (n : Nat) (hn : n <= l.length) :
 (loadCells ⟨b, off, none⟩ n).run P w = .ok (l.take n).toArray w := by
 have key : ∀ (m i : Nat) (acc : Array anV), i + m <= l.length -> (loadCellsFrom ⟨b, off, none⟩ i m acc).run P w = .ok (acc ++ ((l.drop i).take m).toArray) w := by
  intro m
  induction m with
  | zero => intro i acc _; simp [loadCellsFrom]
  | succ m ih =>
    intro i acc hm
    have hc := h i (by omega)
    rw [aiH (by omega)] at hc
    simp only [loadCellsFrom, Sem.run_bind, run_load, Ep, hc, Result.andThen_ok]
    rw [ih (i + 1) _ (by omega), ajK (by omega : i < l.length), aiQ]
    simp
 unfold loadCells
 rw [key n 0 #[] (by omega)]
 simp
theorem SU {sz n : Nat} {v : anV} {l : List anV} (h1 : sz = 1) (h : Sl w v l) (hn : n <= l.length) : (Builtin.firstCells sz n v).run P w = .ok (l.take n).toArray w := by
 subst h1
 obtain ⟨x, m, c, rfl, hm, hc, hh⟩ := h
 cases x with
 | none =>
   have : l = [] := by
    cases l with
    | nil => rfl
    | cons y l => obtain ⟨b, off, e, _⟩ := hh (by rw [hm]; simp); cases e
   subst this
   simp [Builtin.firstCells]
 | some x =>
   simp only [Builtin.firstCells, alA]
   by_cases h0 : 0 < m
   .obtain ⟨b, off, e, h2⟩ := hh h0
    have e := ajE e; subst e
    exact Po (fun i hi => h2 i (by omega)) n hn
   .have h00 : n = 0 := by omega
    subst h00
    simp [loadCells, loadCellsFrom]
theorem aeJ {v : anV} {l : List anV} (h : Sl w v l) : (Builtin.lenOf v).run P w = .ok l.length w := by
 obtain ⟨x, m, c, rfl, hm, hc, hh⟩ := h
 simp [Builtin.lenOf, hm]
theorem aaJ {ty t2 : TypeId} {i : TypeInfo} (hu : P.underlying t = some (.slice e)) (hi : P.info? e = some i) (h1 : i.size = 1) {b off dl c : Nat} {cs : List anV} (ho : cL w b cs) (hl : off + dl <= cs.length)
 {v : anV} {l : List anV} (h : Sl w v l) (hv : ∀ x ∈ l, one x = true) {K : anV -> anU -> Prop}
 (hk : ∀ w', cL w' b (cG cs off (l.take (min l.length dl))) -> aR w w' (fun x => x = b) -> w'.heap.size = w.heap.size -> K (.int .i64 (min l.length dl : Nat)) w') :
 aD P (gD .copy #[t, t2] ty [.slice (some ⟨b, off, none⟩) dl c, v]) w K := by
 have hlen : (l.take (min l.length dl)).length = min l.length dl := by rw [aiR]; omega
 obtain ⟨w', s1, s2, s3, s4, _⟩ := zY (P := P) (M := fun x => x = b) rfl (l.take (min l.length dl)) w off 0 cs ho (by rw [hlen]; omega) (fun x hx => hv x (alB hx))
 have : (gD .copy #[t, t2] ty [.slice (some ⟨b, off, none⟩) dl c, v]).run P w = .ok (.value (.int .i64 (min l.length dl : Nat))) w' := by
  unfold gD builtin
  simp only [Builtin.copy_, akL, ahZ, aiA]
  simp only [underlying, Sem.run_bind, run_program, Result.andThen_ok, hu, Sem.run_pure, aeJ h, dK hi, h1]
  have := SU (P := P) (n := min l.length dl) rfl h (Nat.min_le_left _ _)
  rw [show (Nat.min l.length dl) = min l.length dl from rfl, this]
  simp only [Result.andThen_ok, s1, goInt]
 unfold aD
 rw [this]
 exact hk w' (by simpa using s2) s3 s4
theorem UX {i : TypeInfo} {z : anV} (hu : P.underlying t = some (.slice e)) (hi : P.info? e = some i) (h1 : i.size = 1) (hz : i.zero = some z) (hz1 : one z = true) {n : Int} (h0 : 0 <= n) (hn : i.bytes * n <= 2 ^ 48) (hn2 : n <= 9223372036854775807)
 {K : anV -> anU -> Prop}
 (hk : ∀ w', cL w' w.heap.size (List.replicate n.toNat z) -> aR w w' dH -> w'.heap.size = w.heap.size + 1 -> K (.slice (some ⟨w.heap.size, 0, none⟩) n.toNat n.toNat) w') :
 aD P (iA t (.int k n) (.int k n)) w K := by
 have hw : IntKind.i64.wrap n = n := aT (by omega) hn2
 have hcells : z.cells = #[z] := PQ hz1
 have harr : (Array.range n.toNat).map (fun j => (#[z] : Array anV)[j % (#[z] : Array anV).size]!) = (List.replicate n.toNat z).toArray := by
  apply Array.ext
  .simp
  .intro j h1 h2; simp [Nat.mod_one]
 have hz' : (zeroValue e).run P w = .ok z w := by simp [zeroValue, typeInfo, hi, hz]
 have : (iA t (.int k n) (.int k n)).run P w = .ok (.value (.slice (some ⟨w.heap.size, 0, none⟩) n.toNat n.toNat)) (w.alloc (.cells (List.replicate n.toNat z).toArray e)) := by
  unfold iA
  rw [oY]
  have t1 : (decide (n < 0) || decide ((i.bytes : Int) * n > 2 ^ 48) || decide (n < 0) || decide (n > n)) = false := by
   simp only [amC, decide_eq_false_iff_not]; omega
  by_cases hn0 : n.toNat = 0
  .simp only [Instr.makeSlice, underlying, typeInfo, asInt, asIntOf, pure_bind, Sem.run_bind, run_program, Result.andThen_ok, hu, hi, Sem.run_pure, hw, t1, aiD, if_false, run_askRoom, dK hi, h1, alA, hn0, if_true, newRow, run_newObj]
   have : (Array.range 0).map (fun x => (#[] : Array anV)[x % (#[] : Array anV).size]!) = (List.replicate 0 z).toArray := by simp
   rw [this]
   rfl
  .simp only [Instr.makeSlice, underlying, typeInfo, asInt, asIntOf, pure_bind, Sem.run_bind, run_program, Result.andThen_ok, hu, hi, Sem.run_pure, hw, t1, aiD, if_false, run_askRoom, dK hi, h1, alA, hn0, hz', hcells, newRow, run_newObj, harr]
   rfl
 unfold aD
 rw [this]
 exact hk _ (cL.alloc _ _ _) (aR.alloc _ _ _) (by simp)
end
def Cl (w : anU) (sz : Nat) (v : anV) (n : Nat) (l : List anV) : Prop :=
 ∃ a c, v = .slice a n c /\ l.length = n * sz /\ (0 < n -> ∃ b off, a = some ⟨b, off, none⟩ /\ ∀ i, i < l.length -> w.cell? ⟨b, off + i, none⟩ = l[i]?)
def oI (w : anU) (base sz : Nat) (v : anV) (n : Nat) (l : List anV) : Prop :=
 l.length = n * sz /\ ((v = .slice none 0 0 /\ n = 0) ∨
   ∃ b c rest, v = .slice (some ⟨b, 0, none⟩) n c /\ base <= b /\ cL w b (l ++ rest) /\ (l ++ rest).length = c * sz /\ n <= c)
def OL (w : anU) (S : Nat -> Prop) (sz : Nat) (v : anV) (n : Nat) (l : List anV) : Prop :=
 l.length = n * sz /\ ((v = .slice none 0 0 /\ n = 0) ∨
   ∃ b c rest, v = .slice (some ⟨b, 0, none⟩) n c /\ S b /\ cL w b (l ++ rest) /\ (l ++ rest).length = c * sz /\ n <= c)
theorem Sl.cl {w : anU} {v : anV} {l : List anV} (h : Sl w v l) : Cl w 1 v l.length l := by
 obtain ⟨a, n, c, rfl, rfl, hc, h⟩ := h
 exact ⟨a, c, rfl, by omega, fun h0 => h h0⟩
theorem cL.cl {w : anU} {b sz n c off : Nat} {cs l : List anV} (h : cL w b cs) (hl : l.length = n * sz) (hcs : ∀ i, i < l.length -> cs[off + i]? = l[i]?) : Cl w sz (.slice (some ⟨b, off, none⟩) n c) n l :=
 ⟨_, _, rfl, hl, fun _ => ⟨b, off, rfl, fun i hi => by rw [h.cell, hcs i hi]⟩⟩
theorem oI.nil (w : anU) (base sz : Nat) : oI w base sz (.slice none 0 0) 0 [] := ⟨by simp, .inl ⟨rfl, rfl⟩⟩
theorem oI.ext {w w' : anU} {base sz n : Nat} {v : anV} {l : List anV} {M : Nat -> Prop} (h : oI w base sz v n l) (hx : aR w w' M) (hM : ∀ b, base <= b -> ¬ M b) : oI w' base sz v n l := by
 refine ⟨h.1, ?_⟩
 rcases h.2 with h2 | ⟨b, c, rest, h1, h2, h3, h4, h5⟩
 .exact .inl h2
 .exact .inr ⟨b, c, rest, h1, h2, h3.ext hx (hM b h2), h4, h5⟩
theorem oI.cl {w : anU} {base sz n : Nat} {v : anV} {l : List anV} (h : oI w base sz v n l) : Cl w sz v n l := by
 rcases h.2 with ⟨rfl, rfl⟩ | ⟨b, c, rest, rfl, h2, h3, h4, h5⟩
 .exact ⟨_, _, rfl, h.1, fun h => by omega⟩
 .refine ⟨_, _, rfl, h.1, fun _ => ⟨b, 0, rfl, fun i hi => ?_⟩⟩
  rw [h3.cell, aiC, aiX hi]
theorem oI.sl {w : anU} {base n : Nat} {v : anV} {l : List anV} (h : oI w base 1 v n l) : Sl w v l := by
 have hl := h.1
 rcases h.2 with ⟨rfl, rfl⟩ | ⟨b, c, rest, rfl, h2, h3, h4, h5⟩
 .exact ⟨_, _, _, rfl, by omega, by omega, fun h => by omega⟩
 .refine ⟨_, _, _, rfl, by omega, h5, fun _ => ⟨b, 0, rfl, fun i hi => ?_⟩⟩
  rw [h3.cell, aiC, aiX (by omega)]
section
variable {P : Program} {w : anU} {t e : TypeId}
theorem T6 {b off : Nat} {l : List anV} (h : ∀ i, i < l.length -> w.cell? ⟨b, off + i, none⟩ = l[i]?) : (loadCells ⟨b, off, none⟩ l.length).run P w = .ok l.toArray w := by
 have := Po (P := P) h l.length (aiM _)
 rwa [amG] at this
theorem vA {sz n : Nat} {v : anV} {l : List anV} (h : Cl w sz v n l) : (Builtin.firstCells sz n v).run P w = .ok l.toArray w := by
 obtain ⟨x, c, rfl, hl, hh⟩ := h
 cases x with
 | none =>
   have : n = 0 := by
    rcases alX n with h | h
    .exact h
    .obtain ⟨b, off, e, _⟩ := hh h; cases e
   subst this
   have : l = [] := ajM.1 (by omega)
   subst this
   simp [Builtin.firstCells]
 | some x =>
   simp only [Builtin.firstCells]
   rw [<- hl]
   by_cases h0 : 0 < n
   .obtain ⟨b, off, e, h2⟩ := hh h0
    have e := ajE e; subst e
    exact T6 h2
   .have : n = 0 := by omega
    subst this
    have : l = [] := ajM.1 (by omega)
    subst this
    simp [loadCells, loadCellsFrom]
theorem kP (zs : Array anV) (n : Nat) : (Builtin.zeroCells zs n).size = n * zs.size := by simp [Builtin.zeroCells]
theorem ME (vs : List anV) : ∀ (ahY rest : List anV), vs.length <= rest.length -> cG (ahY ++ rest) ahY.length vs = ahY ++ vs ++ rest.drop vs.length := by
 induction vs with
 | nil => intro ahY rest _; simp [cG]
 | cons v vs ih =>
   intro ahY rest h
   cases rest with
   | nil => simp at h
   | cons r rest =>
     have := ih (ahY ++ [v]) rest (by simpa using h)
     simp only [cG, aiE, aiP, List.length_nil, ajI, akJ, alE] at this ⊢
     rw [alV, <- this, amA _ _ (aiM _), alY, aiG, aiC]
theorem QS {S : Nat -> Prop} {sz n m : Nat} {i : TypeInfo} {z : anV} {ty t2 e2 : TypeId} (hu : P.underlying t = some (.slice e)) (hu2 : P.underlying t2 = some (.slice e2)) (hi : P.info? e = some i) (hsz : i.size = sz) (hz : i.zero = some z) (hzs : z.cells.size = sz)
 {v x : anV} {l news : List anV} (h : OL w S sz v n l) (hx : Cl w sz x m news) (hone : ∀ y ∈ news, one y = true) (hb : ∀ b, w.heap.size <= b -> S b)
 (hn : n + m <= 9223372036854775807) (hbytes : (n + m) * i.bytes <= 140737488355328) (_hpos : i.bytes ≠ 0)
 {K : anV -> anU -> Prop} (hk : ∀ v' w', OL w' S sz v' (n + m) (l ++ news) -> aR w w' S -> Cl w' sz v n l -> K v' w') : aD P (gD .append #[t, t2] ty [v, x]) w K := by
 have hlx : (Builtin.lenOf x).run P w = .ok m w := by
  obtain ⟨a, c, rfl, _⟩ := hx; simp [Builtin.lenOf]
 have hnl := hx.choose_spec.choose_spec.2.1
 have hfx := vA (P := P) hx
 have hmax : IntKind.i64.max = 9223372036854775807 := by decide
 have hnot : ¬ (((n + m : Nat) : Int) > IntKind.i64.max /\ (False ∨ i.bytes = 0)) := by rw [hmax]; omega
 have hz' : ∀ w, (zeroValue e).run P w = .ok z w := fun w => by simp [zeroValue, typeInfo, hi, hz]
 have hlen := h.1
 rcases h.2 with ⟨rfl, rfl⟩ | ⟨b, c, rest, rfl, h2, h3, h4, h5⟩
 .
  have hl0 : l = [] := ajM.1 (by omega)
  subst hl0
  by_cases hm : m = 0
  .subst hm
   have hn0 : news = [] := ajM.1 (by omega)
   subst hn0
   have : (gD .append #[t, t2] ty [.slice none 0 0, x]).run P w = .ok (.value (.slice none 0 0)) w := by
    unfold gD builtin
    simp only [Builtin.append_, akL, ahZ, aiA]
    simp only [underlying, Sem.run_bind, run_program, Result.andThen_ok, hu, hu2, Sem.run_pure, dK hi, hsz, aiD, if_false, hlx, aiM, akN, if_true, akU, hfx]
   unfold aD
   rw [this]
   exact hk _ _ ⟨by simp, .inl ⟨rfl, by omega⟩⟩ (aR.refl _ _) ⟨none, 0, rfl, hlen, fun h => absurd h (by omega)⟩
  .have hfit := growslice_fits (need := 0 + m) (old := 0) (bytes := i.bytes) (by omega) (by omega)
   have hfit' : ¬ (Builtin.nextslicecap (0 + m) 0 * i.bytes > 2 ^ 48) := by omega
   have hle : ¬ (0 + m <= 0) := by omega
   have hq : (Question.appendCap (0 + m) 0 e).forced = false := rfl
   obtain ⟨r, hr⟩ : ∃ r, (Question.appendCap (0 + m) 0 e).cut (w.tape w.drawn (.appendCap (0 + m) 0 e)) = m + r :=
    ⟨(w.tape w.drawn (.appendCap (0 + m) 0 e)) % (2 ^ 63 - (0 + m)), by simp only [Question.cut]; omega⟩
   have : (gD .append #[t, t2] ty [.slice none 0 0, x]).run P w = .ok (.value (.slice (some ⟨w.heap.size, 0, none⟩) (0 + m) (m + r))) ((dr w).alloc (.cells (news ++ (Builtin.zeroCells z.cells (m + r - (0 + m))).toList).toArray e)) := by
    have hfx' := vA (P := P) (w := dr w) hx
    unfold gD builtin
    simp only [Builtin.append_, akL, ahZ, aiA]
    simp only [underlying, typeInfo, Sem.run_bind, run_program, Result.andThen_ok, hu, hu2, hi, Sem.run_pure, dK hi, hsz, aiD, if_false, hlx, hle, akU, if_true, hnot, hfit', run_choose, hq, hr, run_askRoom]
    change ((Sem.run P _ (dr w)).andThen _).andThen _ = _
    simp only [Sem.run_bind, hfx', run_firstCells_none, Result.andThen_ok, hz', Sem.run_pure, newRow, run_newObj]
    have e1 : (#[] ++ news.toArray ++ Builtin.zeroCells z.cells (m + r - (0 + m)) : Array anV) = (news ++ (Builtin.zeroCells z.cells (m + r - (0 + m))).toList).toArray := by
     apply Array.ext'; simp
    rw [e1]
    rfl
   unfold aD
   rw [this]
   refine hk _ _ ⟨by simp only [alE]; rw [hnl, aiC], .inr ⟨w.heap.size, m + r, (Builtin.zeroCells z.cells (m + r - (0 + m))).toList, by rw [aiC], hb _ (aiM _), cL.alloc (dr w) _ _, ?_, by omega⟩⟩ ((aR.dr w _).seq (aR.alloc _ _ _)) ⟨none, 0, rfl, hlen, fun h => absurd h (by omega)⟩
   simp only [alE, aiE, alH, kP, hzs, hnl]
   rw [show m + r - (0 + m) = r from by omega, ajR]
 .by_cases hc : n + m <= c
  .
   have hroom : news.length <= rest.length := by
    rw [aiE, hlen] at h4
    have : (n + m) * sz <= c * sz := ajG _ hc
    rw [ajR] at this; omega
   obtain ⟨w', s1, s2, s3, s4, _⟩ := zY (P := P) (M := S) h2 news w (n * sz) 0 (l ++ rest) h3 (by rw [aiE, hlen]; omega) hone
   have : (gD .append #[t, t2] ty [.slice (some ⟨b, 0, none⟩) n c, x]).run P w = .ok (.value (.slice (some ⟨b, 0, none⟩) (n + m) c)) w' := by
    unfold gD builtin
    simp only [Builtin.append_, akL, ahZ, aiA]
    simp only [underlying, Sem.run_bind, run_program, Result.andThen_ok, hu, hu2, Sem.run_pure, dK hi, hsz, aiD, if_false, hlx, hc, if_true, akU, hfx, Ep, aiC, s1]
   unfold aD
   rw [this]
   rw [akN, <- hlen, ME _ _ _ hroom] at s2
   refine hk _ _ ⟨by rw [aiE, hlen, hnl, ajR], .inr ⟨b, c, rest.drop news.length, rfl, h2, s2, ?_, hc⟩⟩ s3 ⟨_, _, rfl, hlen, fun _ => ⟨b, 0, rfl, fun i hi => by
    rw [s2.cell, aiC, ajI, aiX hi]⟩⟩
   rw [<- h4]; simp; omega
  .
   have hfit := growslice_fits (need := n + m) (old := c) (bytes := i.bytes) (by omega) hbytes
   have hfit' : ¬ (Builtin.nextslicecap (n + m) c * i.bytes > 2 ^ 48) := by omega
   have hq : (Question.appendCap (n + m) c e).forced = false := rfl
   obtain ⟨r, hr⟩ : ∃ r, (Question.appendCap (n + m) c e).cut (w.tape w.drawn (.appendCap (n + m) c e)) = n + m + r :=
    ⟨(w.tape w.drawn (.appendCap (n + m) c e)) % (2 ^ 63 - (n + m)), by simp only [Question.cut]⟩
   have hold : Cl (dr w) sz (.slice (some ⟨b, 0, none⟩) n c) n l := ⟨_, _, rfl, hlen, fun _ => ⟨b, 0, rfl, fun i hi => by
    show w.cell? _ = _
    rw [h3.cell, aiC, aiX hi]⟩⟩
   have : (gD .append #[t, t2] ty [.slice (some ⟨b, 0, none⟩) n c, x]).run P w = .ok (.value (.slice (some ⟨w.heap.size, 0, none⟩) (n + m) (n + m + r))) ((dr w).alloc (.cells (l ++ news ++ (Builtin.zeroCells z.cells (n + m + r - (n + m))).toList).toArray e)) := by
    have hfx' := vA (P := P) (w := dr w) hx
    have hfo := vA (P := P) hold
    unfold gD builtin
    simp only [Builtin.append_, akL, ahZ, aiA]
    simp only [underlying, typeInfo, Sem.run_bind, run_program, Result.andThen_ok, hu, hu2, hi, Sem.run_pure, dK hi, hsz, aiD, if_false, hlx, hc, akU, if_true, hnot, hfit', run_choose, hq, hr, run_askRoom]
    change ((Sem.run P _ (dr w)).andThen _).andThen _ = _
    simp only [Sem.run_bind, hfx', hfo, Result.andThen_ok, hz', Sem.run_pure, newRow, run_newObj]
    have e1 : (l.toArray ++ news.toArray ++ Builtin.zeroCells z.cells (n + m + r - (n + m)) : Array anV) = (l ++ news ++ (Builtin.zeroCells z.cells (n + m + r - (n + m))).toList).toArray := by
     apply Array.ext'; simp
    rw [e1]
    rfl
   unfold aD
   rw [this]
   refine hk _ _ ⟨by rw [aiE, hlen, hnl, ajR], .inr ⟨w.heap.size, n + m + r, _, rfl, hb _ (aiM _), cL.alloc (dr w) _ _, ?_, by omega⟩⟩ ((aR.dr w _).seq (aR.alloc _ _ _)) ⟨_, _, rfl, hlen, fun _ => ⟨b, 0, rfl, fun i hi => by
    have o9 := h3.ext ((aR.dr w dH).seq (aR.alloc (dr w) (.cells (l ++ news ++ (Builtin.zeroCells z.cells (n + m + r - (n + m))).toList).toArray e) dH)) (fun h => h)
    rw [o9.cell, aiC, aiX hi]⟩⟩
   simp only [aiE, alH, kP, hzs, hnl, hlen]
   rw [show n + m + r - (n + m) = r from by omega, ajR, ajR]
theorem oK {S : Nat -> Prop} {sz n m : Nat} {i : TypeInfo} {z : anV} {ty t2 e2 : TypeId} (hu : P.underlying t = some (.slice e)) (hu2 : P.underlying t2 = some (.slice e2)) (hi : P.info? e = some i) (hsz : i.size = sz) (hz : i.zero = some z) (hzs : z.cells.size = sz)
 {v x : anV} {l news : List anV} (h : OL w S sz v n l) (hx : Cl w sz x m news) (hone : ∀ y ∈ news, one y = true) (hb : ∀ b, w.heap.size <= b -> S b)
 (hn : n + m <= 9223372036854775807) (hbytes : (n + m) * i.bytes <= 140737488355328) (_hpos : i.bytes ≠ 0)
 {K : anV -> anU -> Prop} (hk : ∀ v' w', OL w' S sz v' (n + m) (l ++ news) -> aR w w' S -> K v' w') : aD P (gD .append #[t, t2] ty [v, x]) w K :=
 QS hu hu2 hi hsz hz hzs h hx hone hb hn hbytes _hpos fun v' w' a b _ => hk v' w' a b
theorem Sa {base sz n m : Nat} {i : TypeInfo} {z : anV} {ty t2 e2 : TypeId} (hu : P.underlying t = some (.slice e)) (hu2 : P.underlying t2 = some (.slice e2)) (hi : P.info? e = some i) (hsz : i.size = sz) (hz : i.zero = some z) (hzs : z.cells.size = sz)
 {v x : anV} {l news : List anV} (h : oI w base sz v n l) (hx : Cl w sz x m news) (hone : ∀ y ∈ news, one y = true) (hb : base <= w.heap.size)
 (hn : n + m <= 9223372036854775807) (hbytes : (n + m) * i.bytes <= 140737488355328) (_hpos : i.bytes ≠ 0)
 {K : anV -> anU -> Prop} (hk : ∀ v' w', oI w' base sz v' (n + m) (l ++ news) -> aR w w' (fun y => base <= y) -> K v' w') : aD P (gD .append #[t, t2] ty [v, x]) w K :=
 oK (S := fun y => base <= y) hu hu2 hi hsz hz hzs h hx hone (fun _ h => akT hb h) hn hbytes _hpos hk
end
section
variable {P : Program} {w : anU} {t e : TypeId}
theorem SJ {i : TypeInfo} {z : anV} {n : Nat} {ps : List (Nat × anV)} {cells : Array anV} (hu : P.underlying t = some (.slice e)) (hi : P.info? e = some i) (hz : i.zero = some z)
 (h1 : ¬ n * i.size > 2 ^ 24) (h0 : ¬ n * i.size = 0) (hf : Instr.fill (fun j => some (j * i.size, i.size)) ((Array.range (n * i.size)).map (z.cells[· % z.cells.size]!)) ps = some cells)
 {K : anV -> anU -> Prop} (hk : ∀ w', cL w' w.heap.size cells.toList -> aR w w' dH -> w'.heap.size = w.heap.size + 1 -> K (.slice (some ⟨w.heap.size, 0, none⟩) n n) w') :
 aD P (cD t n ps) w K := by
 have hz' : (zeroValue e).run P w = .ok z w := by simp [zeroValue, typeInfo, hi, hz]
 have : (cD t n ps).run P w = .ok (.value (.slice (some ⟨w.heap.size, 0, none⟩) n n)) (w.alloc (.cells cells.toList.toArray e)) := by
  unfold cD; rw [oY]
  simp only [Instr.buildSlice, underlying, pure_bind, Sem.run_bind, run_program, Result.andThen_ok, hu, Sem.run_pure, dK hi, h1, h0, if_false, hz', hf, newRow, run_newObj]
  rfl
 unfold aD
 rw [this]
 exact hk _ (cL.alloc _ _ _) (aR.alloc _ _ _) (by simp)
theorem cL.mark {b : Nat} {cs : List anV} (h : cL w b cs) : cL (w.freeze ⟨b, cs.length, none⟩ 1) b cs := by
 have hb := h.lt
 obtain ⟨T, lo, hi, h, k⟩ := h
 by_cases hlh : (lo == hi) = true
 .refine ⟨T, cs.length, cs.length + 1, ?_, .inl (aiM _)⟩
  show (w.heap.modify b _)[b]? = _
  rw [amP, if_pos rfl, h]
  have hlh : lo = hi := by simpa using hlh
  simp [hlh]
 .refine ⟨T, min lo cs.length, max hi (cs.length + 1), ?_, .inl ?_⟩
  .show (w.heap.modify b _)[b]? = _
   rw [amP, if_pos rfl, h]
   have hlh : ¬ lo = hi := by simpa using hlh
   simp [hlh]
  .rcases k with k | k
   .omega
   .exfalso; apply hlh; rw [k]; simp
theorem aR.mark (w : anU) (a : Addr) : aR w (w.freeze a 1) (fun y => y = a.block) :=
 ⟨rfl, rfl, rfl, by show _ <= (w.heap.modify _ _).size; simp, fun b hb hn => by
  show (w.heap.modify a.block _)[b]? = _
  rw [amP]
  rw [if_neg (fun h => hn h.symm)]⟩
end
section
variable {P : Program} {w : anU} {t e : TypeId}
def Grown (es : Array MapEntry) (clock : Nat) : Prop := (es.toList.map (·.born)).Pairwise (· < ·) /\ ∀ e ∈ es.toList, e.born < clock
def Mp {κ : Type} (w : anU) (m : Nat) (enc : κ -> anV) (l : List (κ × anV)) : Prop :=
 ∃ es clock, w.heap[m]? = some (.map es clock) /\ es.toList.map (fun e => (e.key, e.val)) = l.map (fun p => (enc p.1, p.2)) /\ Grown es clock /\ (l.map (·.1)).Nodup
theorem Mp.lt {κ : Type} {m : Nat} {enc : κ -> anV} {l : List (κ × anV)} (h : Mp w m enc l) : m < w.heap.size := by
 obtain ⟨es, c, h, _⟩ := h
 rcases aiS m w.heap.size with h' | h'
 .exact h'
 .rw [alI h'] at h; cases h
theorem Mp.ext {κ : Type} {w w' : anU} {m : Nat} {enc : κ -> anV} {l : List (κ × anV)} {M : Nat -> Prop} (h : Mp w m enc l) (hx : aR w w' M) (hM : ¬ M m) : Mp w' m enc l := by
 have := h.lt
 obtain ⟨es, c, h, k⟩ := h
 exact ⟨es, c, by rw [hx.keep m this hM]; exact h, k⟩
theorem Mp.dr {κ : Type} {w : anU} {m : Nat} {enc : κ -> anV} {l : List (κ × anV)} (h : Mp w m enc l) : Mp (dr w) m enc l := h
variable {κ : Type} [DecidableEq κ] {enc : κ -> anV}
end
theorem fT {w : anU} {b : Nat} {cs : List anV} (h : cL w b cs) : cL (dr w) b cs := h.ext (aR.dr w dH) (fun h => h)
theorem Sl.dr {w : anU} {v : anV} {l : List anV} (h : Sl w v l) : Sl (dr w) v l := h
theorem Sl.open {w : anU} {v : anV} {l : List UInt8} (h : Bs w v l) (h0 : 0 < l.length) : ∃ b off c, v = .slice (some ⟨b, off, none⟩) l.length c /\ l.length <= c /\ ∀ i, (h : i < l.length) -> w.cell? ⟨b, off + i, none⟩ = some (lL l[i]) := by
 obtain ⟨a, n, c, rfl, hn, hc, h⟩ := h
 simp only [aiI] at hn
 subst hn
 obtain ⟨b, off, rfl, hh⟩ := h h0
 exact ⟨b, off, c, rfl, hc, fun i hi => by rw [hh i hi]; simp [hi]⟩
theorem Sl.len {w : anU} {v : anV} {l : List anV} (h : Sl w v l) : ∃ a c, v = .slice a l.length c /\ l.length <= c := by
 obtain ⟨a, n, c, rfl, rfl, hc, _⟩ := h
 exact ⟨a, c, rfl, hc⟩
theorem aW (v : anV) : ¬ TF v dH := by unfold TF dH; split <;> simp
theorem Sv {b o m l : Nat} (h : l ≠ m) : fY (some ⟨b, o, none⟩) m l 1 = some ⟨b, o + l, none⟩ := by
 unfold fY; rw [if_neg (fun e => h e.symm)]; simp [Ep]
theorem Pq {v : anV} {M N : Nat -> Prop} (h : TF v M) (hm : ∀ b, M b -> N b) : TF v N := by
 unfold TF at *
 split at h
 .exact hm _ h
 .exact h
theorem oI.len {w : anU} {b sz n : Nat} {v : anV} {l : List anV} (h : oI w b sz v n l) : ∃ a c, v = .slice a n c := by
 rcases h.2 with ⟨rfl, rfl⟩ | ⟨x, c, r, rfl, _⟩
 .exact ⟨_, _, rfl⟩
 .exact ⟨_, _, rfl⟩
theorem oI.lower {w : anU} {a b sz n : Nat} {v : anV} {l : List anV} (h : oI w b sz v n l) (hab : a <= b) : oI w a sz v n l := by
 refine ⟨h.1, ?_⟩
 rcases h.2 with h | ⟨x, c, r, h1, h2, h3⟩
 .exact .inl h
 .exact .inr ⟨x, c, r, h1, by omega, h3⟩
theorem Sl.nil (w : anU) : Sl w (.slice none 0 0) [] := ⟨none, 0, 0, rfl, rfl, aiM _, fun h => absurd h (by simp)⟩
theorem Sl.take' {w : anU} {a : Option Addr} {n c : Nat} {l : List anV} (h : Sl w (.slice a n c) l) {k : Nat} (hk : k <= n) : Sl w (.slice (fY a c 0 1) (k - 0) (c - 0)) (l.take k) := by
 have h' := h
 obtain ⟨a', n', c', e, hn, hc, hh⟩ := h'
 cases e
 by_cases h0 : k = 0
 .subst h0
  exact ⟨_, _, _, rfl, by simp, by omega, fun h => by simp at h⟩
 .obtain ⟨b, off, rfl, _⟩ := hh (by omega)
  exact h.take hk
theorem Sl.drop' {w : anU} {a : Option Addr} {n c : Nat} {l : List anV} (h : Sl w (.slice a n c) l) {k : Nat} (hk : k <= n) : Sl w (.slice (fY a c k 1) (n - k) (c - k)) (l.drop k) := by
 have h' := h
 obtain ⟨a', n', c', e, hn, hc, hh⟩ := h'
 cases e
 by_cases h0 : n = 0
 .exact ⟨_, _, _, rfl, by rw [aiV]; omega, by omega, fun h => by omega⟩
 .obtain ⟨b, off, rfl, _⟩ := hh (by omega)
  exact h.drop hk
theorem Sl.openV {w : anU} {v : anV} {l : List anV} (h : Sl w v l) (h0 : 0 < l.length) : ∃ b off c, v = .slice (some ⟨b, off, none⟩) l.length c /\ l.length <= c /\ ∀ i, (h : i < l.length) -> w.cell? ⟨b, off + i, none⟩ = some l[i] := by
 obtain ⟨a, n, c, rfl, hn, hc, h⟩ := h
 subst hn
 obtain ⟨b, off, rfl, hh⟩ := h h0
 exact ⟨b, off, c, rfl, hc, fun i hi => by rw [hh i hi]; simp [hi]⟩
theorem Sl.openI {w : anU} {v : anV} {k : IntKind} {l : List Int} (h : Sl w v (l.map (Value.int k))) (h0 : 0 < l.length) : ∃ b off c, v = .slice (some ⟨b, off, none⟩) l.length c /\ l.length <= c /\ ∀ i, (h : i < l.length) -> w.cell? ⟨b, off + i, none⟩ = some (.int k l[i]) := by
 obtain ⟨b, off, c, e, hc, hh⟩ := h.openV (by simpa using h0)
 simp only [aiI] at e hc hh
 exact ⟨b, off, c, e, hc, fun i hi => by rw [hh i hi]; simp⟩
theorem Sl.lenI {w : anU} {v : anV} {k : IntKind} {l : List Int} (h : Sl w v (l.map (Value.int k))) : ∃ a c, v = .slice a l.length c /\ l.length <= c := by
 obtain ⟨a, c, e, hc⟩ := h.len
 simp only [aiI] at e hc
 exact ⟨a, c, e, hc⟩
def Ai (n : Nat) (l : List anV) : List anV := (List.replicate n l).flatten
theorem Ph (n : Nat) (l : List anV) : (Ai n l).length = n * l.length := by
 unfold Ai; rw [List.length_flatten]; simp
theorem YQ : ∀ (n : Nat) (l : List anV) (j : Nat) (_ : j < n * l.length) (h0 : 0 < l.length), (Ai n l)[j]? = some (l[j % l.length]'(amD _ h0)) := by
 intro n
 induction n with
 | zero => intro l j h; simp at h
 | succ n ih =>
   intro l j h h0
   unfold Ai
   rw [ajQ, amB]
   by_cases hj : j < l.length
   .rw [aiX hj, aiH hj]
    simp only [ajJ hj]
   .rw [akF (by omega)]
    have := ih l (j - l.length) (by rw [Nat.succ_mul] at h; omega) h0
    unfold Ai at this
    rw [this]
    simp only [<- Nat.mod_eq_sub_mod (show j ≥ l.length by omega)]
theorem Qs {P : Program} {w : anU} {t e : TypeId} {k : IntKind} {i : TypeInfo} {z : anV} {sz : Nat} (hu : P.underlying t = some (.slice e)) (hi : P.info? e = some i) (h1 : i.size = sz) (hsz : 0 < sz) (hz : i.zero = some z) (hz1 : z.cells.size = sz) {n : Int} (h0 : 0 <= n) (hn : i.bytes * n <= 2 ^ 48) (hn2 : n <= 9223372036854775807)
 {K : anV -> anU -> Prop}
 (hk : ∀ w', cL w' w.heap.size (Ai n.toNat z.cells.toList) -> aR w w' dH -> w'.heap.size = w.heap.size + 1 -> K (.slice (some ⟨w.heap.size, 0, none⟩) n.toNat n.toNat) w') :
 aD P (iA t (.int k n) (.int k n)) w K := by
 have hw : IntKind.i64.wrap n = n := aT (by omega) hn2
 have hl : z.cells.toList.length = sz := by simpa using hz1
 have harr : (Array.range (n.toNat * sz)).map (fun j => z.cells[j % z.cells.size]!) = (Ai n.toNat z.cells.toList).toArray := by
  apply Array.ext
  .simp [Ph, hz1]
  .intro j h1 h2
   have hj : j < n.toNat * sz := by simpa using h1
   have := YQ n.toNat z.cells.toList j (by rw [hl]; exact hj) (by rw [hl]; exact hsz)
   have hm : j % z.cells.size < z.cells.size := amD _ (by omega)
   simp only [Array.getElem_map, Array.getElem_range, List.getElem_toArray]
   rw [getElem!_pos z.cells _ hm]
   rw [aiH (by rw [Ph, hl]; exact hj)] at this
   have := ajE this
   rw [this]
   simp
 have hz' : (zeroValue e).run P w = .ok z w := by simp [zeroValue, typeInfo, hi, hz]
 have : (iA t (.int k n) (.int k n)).run P w = .ok (.value (.slice (some ⟨w.heap.size, 0, none⟩) n.toNat n.toNat)) (w.alloc (.cells (Ai n.toNat z.cells.toList).toArray e)) := by
  unfold iA
  rw [oY]
  have t1 : (decide (n < 0) || decide ((i.bytes : Int) * n > 2 ^ 48) || decide (n < 0) || decide (n > n)) = false := by
   simp only [amC, decide_eq_false_iff_not]; omega
  by_cases hn0 : n.toNat * sz = 0
  .simp only [Instr.makeSlice, underlying, typeInfo, asInt, asIntOf, pure_bind, Sem.run_bind, run_program, Result.andThen_ok, hu, hi, Sem.run_pure, hw, t1, aiD, if_false, run_askRoom, dK hi, h1, hn0, if_true, newRow, run_newObj]
   have hn : n.toNat = 0 := by rcases Nat.mul_eq_zero.1 hn0 with h | h <;> omega
   have : (Array.range 0).map (fun x => (#[] : Array anV)[x % (#[] : Array anV).size]!) = (Ai n.toNat z.cells.toList).toArray := by rw [hn]; simp [Ai]
   rw [this]
   rfl
  .simp only [Instr.makeSlice, underlying, typeInfo, asInt, asIntOf, pure_bind, Sem.run_bind, run_program, Result.andThen_ok, hu, hi, Sem.run_pure, hw, t1, aiD, if_false, run_askRoom, dK hi, h1, hn0, hz', newRow, run_newObj, harr]
   rfl
 unfold aD
 rw [this]
 exact hk _ (cL.alloc _ _ _) (aR.alloc _ _ _) (by simp)
abbrev T3 := Int × Int × Int
def fe (k : IntKind) : List T3 -> List anV
 | [] => []
 | e :: r => .int k e.1 :: .int .i64 e.2.1 :: .int .i64 e.2.2 :: fe k r
theorem A1 (k : IntKind) : ∀ L : List T3, (fe k L).length = L.length * 3
 | [] => rfl
 | e :: r => by simp [fe, A1 k r]; omega
theorem RE (k : IntKind) : ∀ (L : List T3) (i : Nat) (h : i < L.length), (fe k L)[i * 3]? = some (.int k L[i].1) /\ (fe k L)[i * 3 + 1]? = some (.int .i64 L[i].2.1) /\ (fe k L)[i * 3 + 2]? = some (.int .i64 L[i].2.2)
 | [], i, h => by simp at h
 | e :: r, 0, _ => ⟨rfl, rfl, rfl⟩
 | e :: r, i + 1, h => by
   have := RE k r i (by simpa using h)
   rw [ajR]
   exact this
theorem Us (k : IntKind) : ∀ (L : List T3) (i : Nat) (h : i < L.length) (x : Int), (fe k L).set (i * 3) (.int k x) = fe k (L.set i (x, L[i].2)) /\ (fe k L).set (i * 3 + 1) (.int .i64 x) = fe k (L.set i (L[i].1, x, L[i].2.2)) /\ (fe k L).set (i * 3 + 2) (.int .i64 x) = fe k (L.set i (L[i].1, L[i].2.1, x))
 | [], i, h, _ => by simp at h
 | e :: r, 0, _, x => ⟨rfl, rfl, rfl⟩
 | e :: r, i + 1, h, x => by
   have := Us k r i (by simpa using h) x
   rw [ajR]
   obtain ⟨h1, h2, h3⟩ := this
   refine ⟨?_, ?_, ?_⟩
   .show (_ :: _ :: _ :: (fe k r).set (i * 3) _) = _; rw [h1] <;> rfl
   .show (_ :: _ :: _ :: (fe k r).set (i * 3 + 1) _) = _; rw [h2] <;> rfl
   .show (_ :: _ :: _ :: (fe k r).set (i * 3 + 2) _) = _; rw [h3] <;> rfl
theorem XV (k : IntKind) (x : Int) : ∀ n : Nat, Ai n [.int k x, .int .i64 0, .int .i64 0] = fe k (List.replicate n (x, 0, 0))
 | 0 => rfl
 | n + 1 => by
   have := XV k x n
   unfold Ai at this ⊢
   rw [ajQ, amB, this, ajQ] <;> rfl
theorem WZ {P : Program} {w : anU} {t e : TypeId} {k k' : IntKind} {hi mx : Int} {i : TypeInfo} (hu : P.underlying t = some (.slice e)) (hi' : P.info? e = some i) (x : Option Addr) (n c : Nat) (h0 : 0 <= hi) (h1 : hi <= mx) (h2 : mx <= c) :
 (lO t (.slice x n c) none (some (.int k hi)) (some (.int k' mx))).run P w = .ok (.value (.slice (fY x mx.toNat 0 i.size) (hi.toNat - 0) (mx.toNat - 0))) w := by
 have h3 : (0 : Int) <= mx := by omega
 have h4 : hi <= (mx.toNat : Int) := by omega
 simp only [lO, oY, Instr.sliceAt, underlying, hu, Sem.run_bind, run_program, Result.andThen_ok, Sem.run_pure, Instr.slice, Instr.sliceBounds, pure_bind, Lh h3 h2, Lh h0 h4, dK hi', fY]
end Go.En
namespace Go.Proofs.Ytgpimhlgaokobaa
open Go Go.En
set_option maxRecDepth 4000
theorem aN {ty : TypeId} (x : Option Addr) (n c : Nat) (w : anU) : (gD .len #[22] ty [.slice x n c]).run pg w = .ok (.value (.int .i64 n)) w := Uv Try.underlying22 x n c
theorem FR : (pg).info? 5 = some Try.t5 := by kernel_rfl
theorem fA {base n m : Nat} {ty : TypeId} {w : anU} {v x : anV} {l news : List anV} (h : oI w base 1 v n l) (hx : Cl w 1 x m news) (hone : ∀ y ∈ news, one y = true) (hb : base <= w.heap.size) (hbytes : (n + m) * 1 <= 140737488355328) {K : anV -> anU -> Prop} (hk : ∀ v' w', oI w' base 1 v' (n + m) (l ++ news) -> aR w w' (fun y => base <= y) -> K v' w') : aD pg (gD .append #[22, 22] ty [v, x]) w K := Sa (i := Try.t5) Try.underlying22 Try.underlying22 FR rfl rfl rfl h hx hone hb (by omega) hbytes (by decide) hk
theorem Gg {k : IntKind} (a : Int) (w : anU) : (fB 23 3 (.int k a)).run pg w = .ok (.value (.int .i64 (IntKind.i64.wrap a))) w := Ga Try.underlying23 Try.underlying3
theorem nO {k : IntKind} {hi : Int} (a : Option Addr) (n c : Nat) (w : anU) (h0 : 0 <= hi) (h1 : hi <= c) : (lO 22 (.slice a n c) none (some (.int k hi)) none).run pg w = .ok (.value (.slice (fY a c (0) 1) (hi.toNat - 0) (c - 0))) w := WV Try.underlying22 FR _ n c h0 h1
theorem jF {l : List UInt8} {v : anV} {w : anU} (h : Bs w v l) : (fB 22 9 v).run pg w = .ok (.value (.string ⟨l.toArray⟩)) w := ZG Try.underlying22 Try.underlying9 Try.underlying5 h
theorem iC {n : Nat} {ps : List (Nat × anV)} {cells : Array anV} {w : anU} (h1 : ¬ n * 1 > 2 ^ 24) (h0 : ¬ n * 1 = 0) (hf : Go.Instr.fill (fun j => some (j * 1, 1)) ((Array.range (n * 1)).map ((Try.t5.zero.get!).cells[· % (Try.t5.zero.get!).cells.size]!)) ps = some cells) {K : anV -> anU -> Prop} (hk : ∀ w', cL w' w.heap.size cells.toList -> aR w w' dH -> w'.heap.size = w.heap.size + 1 -> K (.slice (some ⟨w.heap.size, 0, none⟩) n n) w') : aD pg (cD 22 n ps) w K := SJ (i := Try.t5) Try.underlying22 FR rfl h1 h0 hf hk
theorem XU : (pg).info? 35 = some Try.t35 := by kernel_rfl
theorem tE {w : anU} {K : anV -> anU -> Prop} (hk : ∀ w', cL w' w.heap.size [(.int .i64 0), (.int .i64 0), (.int .i64 0), (.int .i64 0), (.int .i64 0)] -> aR w w' dH -> w'.heap.size = w.heap.size + 1 -> K (.pointer (some ⟨w.heap.size, 0, none⟩)) w') : aD pg (eM 35) w K := lR (i := Try.t35) XU rfl hk
theorem iK {b off : Nat} {cs : List anV} {w : anU} {xs : Array anV} {K : anV -> anU -> Prop} (ho : cL w b cs) (hs : xs.size = 5) (hv : ∀ x ∈ xs.toList, one x = true) (h : off + 5 <= cs.length) (hk : ∀ w', cL w' b (cG cs off xs.toList) -> aR w w' (fun x => x = b) -> w'.heap.size = w.heap.size -> K undef w') : aD pg (bB 35 (.pointer (some ⟨b, off, none⟩)) (.agg xs)) w K := qC (v := .agg xs) XU ho hs hv h hk
theorem CC : (pg).info? 3 = some Try.t3 := by kernel_rfl
theorem bG (b o : Nat) (w : anU) : (aJ 35 (.pointer (some ⟨b, o, none⟩)) 2).run pg w = .ok (.value (.pointer (some ⟨b, o + 2, none⟩))) w := gG (i := 2) Try.underlying35 rfl CC (by decide) _
theorem bH (x : Addr) (w : anU) : (aL 3 (.pointer (some x))).run pg w = XJ (w.cell? x) w (YT pg 3 x w) := Ub Try.underlying3 rfl x w
theorem eD {k : IntKind} {lo : Int} (a : Option Addr) (n c : Nat) (w : anU) (h0 : 0 <= lo) (h1 : lo <= n) : (lO 22 (.slice a n c) (some (.int k lo)) none none).run pg w = .ok (.value (.slice (fY a c (lo.toNat) 1) (n - lo.toNat) (c - lo.toNat))) w := Xf Try.underlying22 FR _ n c h0 h1
theorem fO (b o : Nat) (w : anU) : (aJ 35 (.pointer (some ⟨b, o, none⟩)) 0).run pg w = .ok (.value (.pointer (some ⟨b, o, none⟩))) w := gG (i := 0) Try.underlying35 rfl CC (by decide) _
theorem bU (b o : Nat) (w : anU) : (aJ 35 (.pointer (some ⟨b, o, none⟩)) 3).run pg w = .ok (.value (.pointer (some ⟨b, o + 3, none⟩))) w := gG (i := 3) Try.underlying35 rfl CC (by decide) _
theorem dW (b o : Nat) (w : anU) : (aJ 35 (.pointer (some ⟨b, o, none⟩)) 4).run pg w = .ok (.value (.pointer (some ⟨b, o + 4, none⟩))) w := gG (i := 4) Try.underlying35 rfl CC (by decide) _
theorem jS {b off : Nat} {cs : List anV} {w : anU} {v : anV} {K : anV -> anU -> Prop} (ho : cL w b cs) (hv : one v = true) (h : off < cs.length) (hk : ∀ w', cL w' b (cs.set off v) -> aR w w' (fun x => x = b) -> w'.heap.size = w.heap.size -> K undef w') : aD pg (bB 3 (.pointer (some ⟨b, off, none⟩)) v) w K := xA CC rfl ho hv h hk
theorem Fv {b off : Nat} {cs : List anV} {w : anU} (ho : cL w b cs) (h : off + 5 <= cs.length) : (aL 35 (.pointer (some ⟨b, off, none⟩))).run pg w = .ok (.value (.agg ((cs.drop off).take 5).toArray)) w := Fq Try.underlying35 rfl XU ho h
theorem qA {k : IntKind} (a : Int) (w : anU) : (fB 3 47 (.int k a)).run pg w = .ok (.value (.int .u64 (IntKind.u64.wrap a))) w := Ga Try.underlying3 Try.underlying47
theorem qX {b off : Nat} {cs : List anV} {w : anU} (ho : cL w b cs) (h : off + 5 <= cs.length) {K : anV -> Prop} (hk : K (.agg ((cs.drop off).take 5).toArray)) : Mz pg 35 (.pointer (some ⟨b, off, none⟩)) w K := OI Try.underlying35 rfl XU ho h hk
theorem zN  (w : anU) : (dG 35 []).run pg w = .ok (.value (.agg #[(.int .i64 0), (.int .i64 0), (.int .i64 0), (.int .i64 0), (.int .i64 0)])) w := by kernel_rfl
theorem cJ {k : IntKind} {a : Int} (b o n c : Nat) (w : anU) (h0 : 0 <= a) (h1 : a < n) : (bK 22 (.slice (some ⟨b, o, none⟩) n c) (.int k a)).run pg w = .ok (.value (.pointer (some ⟨b, o + a.toNat, none⟩))) w := Tf rfl Try.underlying22 FR b o n c h0 h1
theorem dY (x : Addr) (w : anU) : (aL 5 (.pointer (some x))).run pg w = XJ (w.cell? x) w (YT pg 5 x w) := Ub Try.underlying5 rfl x w
theorem gH {k : IntKind} (a : Int) (w : anU) : (fB 5 3 (.int k a)).run pg w = .ok (.value (.int .i64 (IntKind.i64.wrap a))) w := Ga Try.underlying5 Try.underlying3
theorem JE (n0 : Int) (n1 : Int) (w : anU) : (dG 35 [(0, (.int .i64 n0)), (1, (.int .i64 n1))]).run pg w = .ok (.value (.agg #[(.int .i64 n0), (.int .i64 n1), (.int .i64 0), (.int .i64 0), (.int .i64 0)])) w := by kernel_rfl
theorem fG (n0 : Int) (n1 : Int) (n2 : Int) (n3 : Int) (w : anU) : (dG 51 [(0, (.int .i64 n0)), (1, (.int .i64 n1)), (2, (.int .i64 n2)), (3, (.int .i64 n3))]).run pg w = .ok (.value (.agg #[(.int .i64 n0), (.int .i64 n1), (.int .i64 n2), (.int .i64 n3)])) w := by kernel_rfl
theorem dB (b o : Nat) (w : anU) : (aJ 35 (.pointer (some ⟨b, o, none⟩)) 1).run pg w = .ok (.value (.pointer (some ⟨b, o + 1, none⟩))) w := gG (i := 1) Try.underlying35 rfl CC (by decide) _
theorem jG {k : IntKind} {a : Int} (cs : Array anV) (w : anU) (h0 : 0 <= a) (h1 : a < 4) : (L1 51 (.agg cs) (.int k a)).run pg w = XJ cs[a.toNat]? w (afU pg 51 cs k a w) := adX Try.underlying51 Try.underlying3 rfl CC rfl cs h0 (by simpa using h1)
theorem gT {k : IntKind} (a : Int) (w : anU) : (fB 47 3 (.int k a)).run pg w = .ok (.value (.int .i64 (IntKind.i64.wrap a))) w := Ga Try.underlying47 Try.underlying3
theorem MA {ox oy : Operand} (x : Option Addr) (n c : Nat) (w : anU) : (aG .eql 22 ox oy (.slice x n c) (.slice none 0 0)).run pg w = .ok (.value (.bool x.isNone)) w := abO Try.underlying22 x n c
theorem dZ {k : IntKind} (a : Int) (w : anU) : (fB 3 48 (.int k a)).run pg w = .ok (.value (.int .u64 (IntKind.u64.wrap a))) w := Ga Try.underlying3 Try.underlying48
theorem U6 {k : IntKind} (a : Int) (w : anU) : (fB 48 3 (.int k a)).run pg w = .ok (.value (.int .i64 (IntKind.i64.wrap a))) w := Ga Try.underlying48 Try.underlying3
theorem U9 {k : IntKind} {n : Int} {w : anU} {K : anV -> anU -> Prop} (h0 : 0 <= n) (hn : 1 * n <= 2 ^ 48) (hk : ∀ w', cL w' w.heap.size (List.replicate n.toNat (.int .u8 0)) -> aR w w' dH -> w'.heap.size = w.heap.size + 1 -> K (.slice (some ⟨w.heap.size, 0, none⟩) n.toNat n.toNat) w') : aD pg (iA 22 (.int k n) (.int k n)) w K := UX (i := Try.t5) Try.underlying22 FR rfl rfl rfl h0 hn (by omega) hk
theorem QW {ty : TypeId} {w : anU} {b off dl c : Nat} {cs : List anV} (ho : cL w b cs) (hl : off + dl <= cs.length) {v : anV} {l : List anV} (h : Sl w v l) (hv : ∀ x ∈ l, one x = true) {K : anV -> anU -> Prop} (hk : ∀ w', cL w' b (cG cs off (l.take (min l.length dl))) -> aR w w' (fun x => x = b) -> w'.heap.size = w.heap.size -> K (.int .i64 (min l.length dl : Nat)) w') : aD pg (gD .copy #[22, 22] ty [.slice (some ⟨b, off, none⟩) dl c, v]) w K := aaJ Try.underlying22 FR rfl ho hl h hv hk
theorem jK {k : IntKind} (a : Int) (w : anU) : (fB 3 5 (.int k a)).run pg w = .ok (.value (.int .u8 (IntKind.u8.wrap a))) w := Ga Try.underlying3 Try.underlying5
theorem OS  (w : anU) : (dG 62 []).run pg w = .ok (.value (.agg #[(.slice none 0 0)])) w := by kernel_rfl
theorem Ce {ox oy : Operand} (x : Option Addr) (w : anU) : (aG .eql 44 ox oy (.pointer x) (.pointer none)).run pg w = .ok (.value (.bool x.isNone)) w := SG Try.underlying44 x
theorem R5 : (pg).info? 22 = some Try.t22 := by kernel_rfl
theorem oS (b o : Nat) (w : anU) : (aJ 62 (.pointer (some ⟨b, o, none⟩)) 0).run pg w = .ok (.value (.pointer (some ⟨b, o, none⟩))) w := gG (i := 0) Try.underlying62 rfl R5 (by decide) _
theorem cU (x : Addr) (w : anU) : (aL 22 (.pointer (some x))).run pg w = XJ (w.cell? x) w (YT pg 22 x w) := Ub Try.underlying22 rfl x w
theorem pP {k : IntKind} (a : Int) (w : anU) : (fB 47 5 (.int k a)).run pg w = .ok (.value (.int .u8 (IntKind.u8.wrap a))) w := Ga Try.underlying47 Try.underlying5
theorem oJ {b off : Nat} {cs : List anV} {w : anU} {v : anV} {K : anV -> anU -> Prop} (ho : cL w b cs) (hv : one v = true) (h : off < cs.length) (hk : ∀ w', cL w' b (cs.set off v) -> aR w w' (fun x => x = b) -> w'.heap.size = w.heap.size -> K undef w') : aD pg (bB 22 (.pointer (some ⟨b, off, none⟩)) v) w K := xA R5 rfl ho hv h hk
theorem JS {ox oy : Operand} (x : Option Addr) (w : anU) : (aG .neq 44 ox oy (.pointer x) (.pointer none)).run pg w = .ok (.value (.bool (!x.isNone))) w := adG Try.underlying44 x
theorem Nc (a0 : Option Addr) (l0 c0 : Nat) (w : anU) : (dG 64 [(0, (.slice a0 l0 c0))]).run pg w = .ok (.value (.agg #[(.slice a0 l0 c0), (.int .i64 0)])) w := by kernel_rfl
theorem mH {ox oy : Operand} (x : Option Addr) (w : anU) : (aG .eql 52 ox oy (.pointer x) (.pointer none)).run pg w = .ok (.value (.bool x.isNone)) w := SG Try.underlying52 x
theorem IE {k : IntKind} (a : Int) (w : anU) : (fB 5 47 (.int k a)).run pg w = .ok (.value (.int .u64 (IntKind.u64.wrap a))) w := Ga Try.underlying5 Try.underlying47
theorem ZL : (pg).info? 25 = some Try.t25 := by kernel_rfl
theorem pJ (b o : Nat) (w : anU) : (aJ 64 (.pointer (some ⟨b, o, none⟩)) 1).run pg w = .ok (.value (.pointer (some ⟨b, o + 1, none⟩))) w := gG (i := 1) Try.underlying64 rfl ZL (by decide) _
theorem Dl (x : Addr) (w : anU) : (aL 25 (.pointer (some x))).run pg w = XJ (w.cell? x) w (YT pg 25 x w) := Ub Try.underlying25 rfl x w
theorem KY {k : IntKind} (a : Int) (w : anU) : (fB 48 66 (.int k a)).run pg w = .ok (.value (.int .u32 (IntKind.u32.wrap a))) w := Ga Try.underlying48 Try.underlying66
theorem XO : (pg).info? 73 = some Try.t73 := by kernel_rfl
theorem tZ {w : anU} {K : anV -> anU -> Prop} (hk : ∀ w', cL w' w.heap.size [(.int .i64 0), (.slice none 0 0)] -> aR w w' dH -> w'.heap.size = w.heap.size + 1 -> K (.pointer (some ⟨w.heap.size, 0, none⟩)) w') : aD pg (eM 73) w K := lR (i := Try.t73) XO rfl hk
theorem mI {b off : Nat} {cs : List anV} {w : anU} {xs : Array anV} {K : anV -> anU -> Prop} (ho : cL w b cs) (hs : xs.size = 2) (hv : ∀ x ∈ xs.toList, one x = true) (h : off + 2 <= cs.length) (hk : ∀ w', cL w' b (cG cs off xs.toList) -> aR w w' (fun x => x = b) -> w'.heap.size = w.heap.size -> K undef w') : aD pg (bB 73 (.pointer (some ⟨b, off, none⟩)) (.agg xs)) w K := qC (v := .agg xs) XO ho hs hv h hk
theorem iL {b off : Nat} {cs : List anV} {w : anU} (ho : cL w b cs) (h : off + 2 <= cs.length) : (aL 73 (.pointer (some ⟨b, off, none⟩))).run pg w = .ok (.value (.agg ((cs.drop off).take 2).toArray)) w := Fq Try.underlying73 rfl XO ho h
theorem XL : (pg).info? 81 = some Try.t81 := by kernel_rfl
theorem Dm {w : anU} {K : anV -> anU -> Prop} (hk : ∀ w', cL w' w.heap.size [(.int .i64 0), (.slice none 0 0)] -> aR w w' dH -> w'.heap.size = w.heap.size + 1 -> K (.pointer (some ⟨w.heap.size, 0, none⟩)) w') : aD pg (eM 81) w K := lR (i := Try.t81) XL rfl hk
theorem BM {b off : Nat} {cs : List anV} {w : anU} {xs : Array anV} {K : anV -> anU -> Prop} (ho : cL w b cs) (hs : xs.size = 2) (hv : ∀ x ∈ xs.toList, one x = true) (h : off + 2 <= cs.length) (hk : ∀ w', cL w' b (cG cs off xs.toList) -> aR w w' (fun x => x = b) -> w'.heap.size = w.heap.size -> K undef w') : aD pg (bB 81 (.pointer (some ⟨b, off, none⟩)) (.agg xs)) w K := qC (v := .agg xs) XL ho hs hv h hk
theorem QY  (w : anU) : (dG 84 []).run pg w = .ok (.value (.agg #[(.int .i64 0), (.int .i64 0)])) w := by kernel_rfl
theorem acQ : (pg).info? 84 = some Try.t84 := by kernel_rfl
theorem Wk {w : anU} {K : anV -> anU -> Prop} (hk : ∀ w', cL w' w.heap.size [(.int .i64 0), (.int .i64 0)] -> aR w w' dH -> w'.heap.size = w.heap.size + 1 -> K (.pointer (some ⟨w.heap.size, 0, none⟩)) w') : aD pg (eM 84) w K := lR (i := Try.t84) acQ rfl hk
theorem UJ {b off : Nat} {cs : List anV} {w : anU} {xs : Array anV} {K : anV -> anU -> Prop} (ho : cL w b cs) (hs : xs.size = 2) (hv : ∀ x ∈ xs.toList, one x = true) (h : off + 2 <= cs.length) (hk : ∀ w', cL w' b (cG cs off xs.toList) -> aR w w' (fun x => x = b) -> w'.heap.size = w.heap.size -> K undef w') : aD pg (bB 84 (.pointer (some ⟨b, off, none⟩)) (.agg xs)) w K := qC (v := .agg xs) acQ ho hs hv h hk
theorem FQ {b off : Nat} {cs : List anV} {w : anU} (ho : cL w b cs) (h : off + 2 <= cs.length) : (aL 81 (.pointer (some ⟨b, off, none⟩))).run pg w = .ok (.value (.agg ((cs.drop off).take 2).toArray)) w := Fq Try.underlying81 rfl XL ho h
theorem NH {k : IntKind} {a : Int} (b o : Nat) (w : anU) (h0 : 0 <= a) (h1 : a < 2) : (bK 84 (.pointer (some ⟨b, o, none⟩)) (.int k a)).run pg w = .ok (.value (.pointer (some ⟨b, o + a.toNat, none⟩))) w := Tk rfl Try.underlying84 CC b o h0 (by simpa using h1)
theorem agF : (pg).info? 79 = some Try.t79 := by kernel_rfl
theorem fD (b o : Nat) (w : anU) : (aJ 81 (.pointer (some ⟨b, o, none⟩)) 1).run pg w = .ok (.value (.pointer (some ⟨b, o + 1, none⟩))) w := gG (i := 1) Try.underlying81 rfl agF (by decide) _
theorem iU (x : Addr) (w : anU) : (aL 79 (.pointer (some x))).run pg w = XJ (w.cell? x) w (YT pg 79 x w) := Ub Try.underlying79 rfl x w
theorem Vn : (pg).info? 88 = some Try.t88 := by kernel_rfl
theorem lQ {k : IntKind} {a : Int} (b o n c : Nat) (w : anU) (h0 : 0 <= a) (h1 : a < n) : (bK 79 (.slice (some ⟨b, o, none⟩) n c) (.int k a)).run pg w = .ok (.value (.pointer (some ⟨b, o + a.toNat * 3, none⟩))) w := Qv rfl Try.underlying79 Vn b o n c h0 h1
theorem ML {b off : Nat} {cs : List anV} {w : anU} (ho : cL w b cs) (h : off + 3 <= cs.length) : (aL 88 (.pointer (some ⟨b, off, none⟩))).run pg w = .ok (.value (.agg ((cs.drop off).take 3).toArray)) w := Fq Try.underlying88 rfl Vn ho h
theorem Ot {w : anU} {K : anV -> anU -> Prop} (hk : ∀ w', cL w' w.heap.size [(.int .u8 0), (.int .i64 0), (.int .i64 0)] -> aR w w' dH -> w'.heap.size = w.heap.size + 1 -> K (.pointer (some ⟨w.heap.size, 0, none⟩)) w') : aD pg (eM 88) w K := lR (i := Try.t88) Vn rfl hk
theorem My {b off : Nat} {cs : List anV} {w : anU} {xs : Array anV} {K : anV -> anU -> Prop} (ho : cL w b cs) (hs : xs.size = 3) (hv : ∀ x ∈ xs.toList, one x = true) (h : off + 3 <= cs.length) (hk : ∀ w', cL w' b (cG cs off xs.toList) -> aR w w' (fun x => x = b) -> w'.heap.size = w.heap.size -> K undef w') : aD pg (bB 88 (.pointer (some ⟨b, off, none⟩)) (.agg xs)) w K := qC (v := .agg xs) Vn ho hs hv h hk
theorem kH (b o : Nat) (w : anU) : (aJ 88 (.pointer (some ⟨b, o, none⟩)) 0).run pg w = .ok (.value (.pointer (some ⟨b, o, none⟩))) w := gG (i := 0) Try.underlying88 rfl FR (by decide) _
theorem rC (b o : Nat) (w : anU) : (aJ 88 (.pointer (some ⟨b, o, none⟩)) 1).run pg w = .ok (.value (.pointer (some ⟨b, o + 1, none⟩))) w := gG (i := 1) Try.underlying88 rfl CC (by decide) _
theorem XZ : (pg).info? 95 = some Try.t95 := by kernel_rfl
theorem mR {w : anU} {K : anV -> anU -> Prop} (hk : ∀ w', cL w' w.heap.size [(.int .i64 0), (.slice none 0 0)] -> aR w w' dH -> w'.heap.size = w.heap.size + 1 -> K (.pointer (some ⟨w.heap.size, 0, none⟩)) w') : aD pg (eM 95) w K := lR (i := Try.t95) XZ rfl hk
theorem kY {b off : Nat} {cs : List anV} {w : anU} {xs : Array anV} {K : anV -> anU -> Prop} (ho : cL w b cs) (hs : xs.size = 2) (hv : ∀ x ∈ xs.toList, one x = true) (h : off + 2 <= cs.length) (hk : ∀ w', cL w' b (cG cs off xs.toList) -> aR w w' (fun x => x = b) -> w'.heap.size = w.heap.size -> K undef w') : aD pg (bB 95 (.pointer (some ⟨b, off, none⟩)) (.agg xs)) w K := qC (v := .agg xs) XZ ho hs hv h hk
theorem Ds {b off : Nat} {cs : List anV} {w : anU} (ho : cL w b cs) (h : off + 2 <= cs.length) : (aL 95 (.pointer (some ⟨b, off, none⟩))).run pg w = .ok (.value (.agg ((cs.drop off).take 2).toArray)) w := Fq Try.underlying95 rfl XZ ho h
theorem Xi : (pg).info? 51 = some Try.t51 := by kernel_rfl
theorem HH {w : anU} {K : anV -> anU -> Prop} (hk : ∀ w', cL w' w.heap.size [(.int .i64 0), (.int .i64 0), (.int .i64 0), (.int .i64 0)] -> aR w w' dH -> w'.heap.size = w.heap.size + 1 -> K (.pointer (some ⟨w.heap.size, 0, none⟩)) w') : aD pg (eM 51) w K := lR (i := Try.t51) Xi rfl hk
theorem J6 {b off : Nat} {cs : List anV} {w : anU} {xs : Array anV} {K : anV -> anU -> Prop} (ho : cL w b cs) (hs : xs.size = 4) (hv : ∀ x ∈ xs.toList, one x = true) (h : off + 4 <= cs.length) (hk : ∀ w', cL w' b (cG cs off xs.toList) -> aR w w' (fun x => x = b) -> w'.heap.size = w.heap.size -> K undef w') : aD pg (bB 51 (.pointer (some ⟨b, off, none⟩)) (.agg xs)) w K := qC (v := .agg xs) Xi ho hs hv h hk
theorem HK {k : IntKind} {a : Int} (b o : Nat) (w : anU) (h0 : 0 <= a) (h1 : a < 4) : (bK 51 (.pointer (some ⟨b, o, none⟩)) (.int k a)).run pg w = .ok (.value (.pointer (some ⟨b, o + a.toNat, none⟩))) w := Tk rfl Try.underlying51 CC b o h0 (by simpa using h1)
theorem UK {b off : Nat} {cs : List anV} {w : anU} (ho : cL w b cs) (h : off + 4 <= cs.length) : (aL 51 (.pointer (some ⟨b, off, none⟩))).run pg w = .ok (.value (.agg ((cs.drop off).take 4).toArray)) w := Fq Try.underlying51 rfl Xi ho h
theorem De {b off : Nat} {cs : List anV} {w : anU} {v : anV} {K : anV -> anU -> Prop} (ho : cL w b cs) (hv : one v = true) (h : off < cs.length) (hk : ∀ w', cL w' b (cs.set off v) -> aR w w' (fun x => x = b) -> w'.heap.size = w.heap.size -> K undef w') : aD pg (bB 25 (.pointer (some ⟨b, off, none⟩)) v) w K := xA ZL rfl ho hv h hk
theorem pC (b o : Nat) (w : anU) : (aJ 64 (.pointer (some ⟨b, o, none⟩)) 0).run pg w = .ok (.value (.pointer (some ⟨b, o, none⟩))) w := gG (i := 0) Try.underlying64 rfl R5 (by decide) _
theorem SL {k k' : IntKind} {hi mx : Int} (a : Option Addr) (n c : Nat) (w : anU) (h0 : 0 <= hi) (h1 : hi <= mx) (h2 : mx <= c) : (lO 22 (.slice a n c) none (some (.int k hi)) (some (.int k' mx))).run pg w = .ok (.value (.slice (fY a mx.toNat 0 1) (hi.toNat - 0) (mx.toNat - 0))) w := WZ Try.underlying22 FR a n c h0 h1 h2
theorem Fc {b off : Nat} {cs : List anV} {w : anU} (ho : cL w b cs) (h : off + 2 <= cs.length) {K : anV -> Prop} (hk : K (.agg ((cs.drop off).take 2).toArray)) : Mz pg 73 (.pointer (some ⟨b, off, none⟩)) w K := OI Try.underlying73 rfl XO ho h hk
theorem lX  (w : anU) : (dG 73 []).run pg w = .ok (.value (.agg #[(.int .i64 0), (.slice none 0 0)])) w := by kernel_rfl
theorem MW (n0 : Int) (w : anU) : (dG 73 [(0, (.int .i64 n0))]).run pg w = .ok (.value (.agg #[(.int .i64 n0), (.slice none 0 0)])) w := by kernel_rfl
theorem cB (b o : Nat) (w : anU) : (aJ 73 (.pointer (some ⟨b, o, none⟩)) 0).run pg w = .ok (.value (.pointer (some ⟨b, o, none⟩))) w := gG (i := 0) Try.underlying73 rfl CC (by decide) _
theorem acS : (pg).info? 71 = some Try.t71 := by kernel_rfl
theorem bM (b o : Nat) (w : anU) : (aJ 73 (.pointer (some ⟨b, o, none⟩)) 1).run pg w = .ok (.value (.pointer (some ⟨b, o + 1, none⟩))) w := gG (i := 1) Try.underlying73 rfl acS (by decide) _
theorem kO (x : Addr) (w : anU) : (aL 71 (.pointer (some x))).run pg w = XJ (w.cell? x) w (YT pg 71 x w) := Ub Try.underlying71 rfl x w
theorem Ym {n : Nat} {ps : List (Nat × anV)} {cells : Array anV} {w : anU} (h1 : ¬ n * 1 > 2 ^ 24) (h0 : ¬ n * 1 = 0) (hf : Go.Instr.fill (fun j => some (j * 1, 1)) ((Array.range (n * 1)).map ((Try.t3.zero.get!).cells[· % (Try.t3.zero.get!).cells.size]!)) ps = some cells) {K : anV -> anU -> Prop} (hk : ∀ w', cL w' w.heap.size cells.toList -> aR w w' dH -> w'.heap.size = w.heap.size + 1 -> K (.slice (some ⟨w.heap.size, 0, none⟩) n n) w') : aD pg (cD 71 n ps) w K := SJ (i := Try.t3) Try.underlying71 CC rfl h1 h0 hf hk
theorem Qu {base n m : Nat} {ty : TypeId} {w : anU} {v x : anV} {l news : List anV} (h : oI w base 1 v n l) (hx : Cl w 1 x m news) (hone : ∀ y ∈ news, one y = true) (hb : base <= w.heap.size) (hbytes : (n + m) * 8 <= 140737488355328) {K : anV -> anU -> Prop} (hk : ∀ v' w', oI w' base 1 v' (n + m) (l ++ news) -> aR w w' (fun y => base <= y) -> K v' w') : aD pg (gD .append #[71, 71] ty [v, x]) w K := Sa (i := Try.t3) Try.underlying71 Try.underlying71 CC rfl rfl rfl h hx hone hb (by omega) hbytes (by decide) hk
theorem Tc {b off : Nat} {cs : List anV} {w : anU} {v : anV} {K : anV -> anU -> Prop} (ho : cL w b cs) (hv : one v = true) (h : off < cs.length) (hk : ∀ w', cL w' b (cs.set off v) -> aR w w' (fun x => x = b) -> w'.heap.size = w.heap.size -> K undef w') : aD pg (bB 71 (.pointer (some ⟨b, off, none⟩)) v) w K := xA acS rfl ho hv h hk
theorem nR {ty : TypeId} (x : Option Addr) (n c : Nat) (w : anU) : (gD .len #[71] ty [.slice x n c]).run pg w = .ok (.value (.int .i64 n)) w := Uv Try.underlying71 x n c
theorem Kb (a0 : Option Addr) (l0 c0 : Nat) (n1 : Int) (w : anU) : (dG 116 [(0, (.slice a0 l0 c0)), (1, (.int .i64 n1))]).run pg w = .ok (.value (.agg #[(.slice a0 l0 c0), (.int .i64 n1)])) w := by kernel_rfl
theorem S5 {b off : Nat} {cs : List anV} {w : anU} (ho : cL w b cs) (h : off + 2 <= cs.length) {K : anV -> Prop} (hk : K (.agg ((cs.drop off).take 2).toArray)) : Mz pg 81 (.pointer (some ⟨b, off, none⟩)) w K := OI Try.underlying81 rfl XL ho h hk
theorem SV  (w : anU) : (dG 81 []).run pg w = .ok (.value (.agg #[(.int .i64 0), (.slice none 0 0)])) w := by kernel_rfl
theorem Hb (n0 : Int) (a1 : Option Addr) (l1 c1 : Nat) (w : anU) : (dG 81 [(0, (.int .i64 n0)), (1, (.slice a1 l1 c1))]).run pg w = .ok (.value (.agg #[(.int .i64 n0), (.slice a1 l1 c1)])) w := by kernel_rfl
theorem Yf {k : IntKind} {n : Int} {w : anU} {K : anV -> anU -> Prop} (h0 : 0 <= n) (hn : 8 * n <= 2 ^ 48) (hk : ∀ w', cL w' w.heap.size (List.replicate n.toNat (.int .i64 0)) -> aR w w' dH -> w'.heap.size = w.heap.size + 1 -> K (.slice (some ⟨w.heap.size, 0, none⟩) n.toNat n.toNat) w') : aD pg (iA 71 (.int k n) (.int k n)) w K := UX (i := Try.t3) Try.underlying71 CC rfl rfl rfl h0 hn (by omega) hk
theorem tI {k : IntKind} {a : Int} (b o n c : Nat) (w : anU) (h0 : 0 <= a) (h1 : a < n) : (bK 71 (.slice (some ⟨b, o, none⟩) n c) (.int k a)).run pg w = .ok (.value (.pointer (some ⟨b, o + a.toNat, none⟩))) w := Tf rfl Try.underlying71 CC b o n c h0 h1
theorem vN {ty : TypeId} (x : Option Addr) (n c : Nat) (w : anU) : (gD .len #[79] ty [.slice x n c]).run pg w = .ok (.value (.int .i64 n)) w := Uv Try.underlying79 x n c
theorem Fj (b o : Nat) (w : anU) : (aJ 88 (.pointer (some ⟨b, o, none⟩)) 2).run pg w = .ok (.value (.pointer (some ⟨b, o + 2, none⟩))) w := gG (i := 2) Try.underlying88 rfl CC (by decide) _
theorem PH (b o : Nat) (w : anU) : (aJ 81 (.pointer (some ⟨b, o, none⟩)) 0).run pg w = .ok (.value (.pointer (some ⟨b, o, none⟩))) w := gG (i := 0) Try.underlying81 rfl CC (by decide) _
theorem sH {ox oy : Operand} (x : Option Addr) (w : anU) : (aG .eql 76 ox oy (.pointer x) (.pointer none)).run pg w = .ok (.value (.bool x.isNone)) w := SG Try.underlying76 x
theorem qK (b o : Nat) (w : anU) : (aJ 116 (.pointer (some ⟨b, o, none⟩)) 1).run pg w = .ok (.value (.pointer (some ⟨b, o + 1, none⟩))) w := gG (i := 1) Try.underlying116 rfl CC (by decide) _
theorem Kh {b off : Nat} {cs : List anV} {w : anU} (ho : cL w b cs) (h : off + 2 <= cs.length) {K : anV -> Prop} (hk : K (.agg ((cs.drop off).take 2).toArray)) : Mz pg 95 (.pointer (some ⟨b, off, none⟩)) w K := OI Try.underlying95 rfl XZ ho h hk
theorem KR  (w : anU) : (dG 95 []).run pg w = .ok (.value (.agg #[(.int .i64 0), (.slice none 0 0)])) w := by kernel_rfl
theorem kS {ty : TypeId} (x : Option Addr) (n c : Nat) (w : anU) : (gD .len #[102] ty [.slice x n c]).run pg w = .ok (.value (.int .i64 n)) w := Uv Try.underlying102 x n c
theorem RD : (pg).info? 123 = some Try.t123 := by kernel_rfl
theorem jD {k : IntKind} {a : Int} (b o n c : Nat) (w : anU) (h0 : 0 <= a) (h1 : a < n) : (bK 102 (.slice (some ⟨b, o, none⟩) n c) (.int k a)).run pg w = .ok (.value (.pointer (some ⟨b, o + a.toNat * 2, none⟩))) w := Qv rfl Try.underlying102 RD b o n c h0 h1
theorem HC {b off : Nat} {cs : List anV} {w : anU} (ho : cL w b cs) (h : off + 2 <= cs.length) : (aL 123 (.pointer (some ⟨b, off, none⟩))).run pg w = .ok (.value (.agg ((cs.drop off).take 2).toArray)) w := Fq Try.underlying123 rfl RD ho h
theorem Ix {w : anU} {K : anV -> anU -> Prop} (hk : ∀ w', cL w' w.heap.size [(.int .i64 0), (.int .i64 0)] -> aR w w' dH -> w'.heap.size = w.heap.size + 1 -> K (.pointer (some ⟨w.heap.size, 0, none⟩)) w') : aD pg (eM 123) w K := lR (i := Try.t123) RD rfl hk
theorem BD {b off : Nat} {cs : List anV} {w : anU} {xs : Array anV} {K : anV -> anU -> Prop} (ho : cL w b cs) (hs : xs.size = 2) (hv : ∀ x ∈ xs.toList, one x = true) (h : off + 2 <= cs.length) (hk : ∀ w', cL w' b (cG cs off xs.toList) -> aR w w' (fun x => x = b) -> w'.heap.size = w.heap.size -> K undef w') : aD pg (bB 123 (.pointer (some ⟨b, off, none⟩)) (.agg xs)) w K := qC (v := .agg xs) RD ho hs hv h hk
theorem mN (b o : Nat) (w : anU) : (aJ 95 (.pointer (some ⟨b, o, none⟩)) 0).run pg w = .ok (.value (.pointer (some ⟨b, o, none⟩))) w := gG (i := 0) Try.underlying95 rfl CC (by decide) _
theorem fW (b o : Nat) (w : anU) : (aJ 123 (.pointer (some ⟨b, o, none⟩)) 0).run pg w = .ok (.value (.pointer (some ⟨b, o, none⟩))) w := gG (i := 0) Try.underlying123 rfl CC (by decide) _
theorem Sk : (pg).info? 125 = some Try.t125 := by kernel_rfl
theorem OG {k : IntKind} {n : Int} {w : anU} {K : anV -> anU -> Prop} (h0 : 0 <= n) (hn : 16 * n <= 2 ^ 48) (hk : ∀ w', cL w' w.heap.size (Ai n.toNat [(.int .u8 0), (.int .i64 0)]) -> aR w w' dH -> w'.heap.size = w.heap.size + 1 -> K (.slice (some ⟨w.heap.size, 0, none⟩) n.toNat n.toNat) w') : aD pg (iA 93 (.int k n) (.int k n)) w K := Qs (i := Try.t125) Try.underlying93 Sk rfl (by decide) rfl rfl h0 hn (by omega) hk
theorem acW : (pg).info? 93 = some Try.t93 := by kernel_rfl
theorem lB (b o : Nat) (w : anU) : (aJ 95 (.pointer (some ⟨b, o, none⟩)) 1).run pg w = .ok (.value (.pointer (some ⟨b, o + 1, none⟩))) w := gG (i := 1) Try.underlying95 rfl acW (by decide) _
theorem PT {b off : Nat} {cs : List anV} {w : anU} {v : anV} {K : anV -> anU -> Prop} (ho : cL w b cs) (hv : one v = true) (h : off < cs.length) (hk : ∀ w', cL w' b (cs.set off v) -> aR w w' (fun x => x = b) -> w'.heap.size = w.heap.size -> K undef w') : aD pg (bB 93 (.pointer (some ⟨b, off, none⟩)) v) w K := xA acW rfl ho hv h hk
theorem sJ (b o : Nat) (w : anU) : (aJ 123 (.pointer (some ⟨b, o, none⟩)) 1).run pg w = .ok (.value (.pointer (some ⟨b, o + 1, none⟩))) w := gG (i := 1) Try.underlying123 rfl CC (by decide) _
theorem tH (x : Addr) (w : anU) : (aL 93 (.pointer (some x))).run pg w = XJ (w.cell? x) w (YT pg 93 x w) := Ub Try.underlying93 rfl x w
theorem O5 (n0 : Int) (n1 : Int) (w : anU) : (dG 125 [(0, (.int .u8 n0)), (1, (.int .i64 n1))]).run pg w = .ok (.value (.agg #[(.int .u8 n0), (.int .i64 n1)])) w := by kernel_rfl
theorem GF {k : IntKind} {a : Int} (b o n c : Nat) (w : anU) (h0 : 0 <= a) (h1 : a < n) : (bK 93 (.slice (some ⟨b, o, none⟩) n c) (.int k a)).run pg w = .ok (.value (.pointer (some ⟨b, o + a.toNat * 2, none⟩))) w := Qv rfl Try.underlying93 Sk b o n c h0 h1
theorem KB {b off : Nat} {cs : List anV} {w : anU} {xs : Array anV} {K : anV -> anU -> Prop} (ho : cL w b cs) (hs : xs.size = 2) (hv : ∀ x ∈ xs.toList, one x = true) (h : off + 2 <= cs.length) (hk : ∀ w', cL w' b (cG cs off xs.toList) -> aR w w' (fun x => x = b) -> w'.heap.size = w.heap.size -> K undef w') : aD pg (bB 125 (.pointer (some ⟨b, off, none⟩)) (.agg xs)) w K := qC (v := .agg xs) Sk ho hs hv h hk
theorem RP {b off : Nat} {cs : List anV} {w : anU} (ho : cL w b cs) (h : off + 2 <= cs.length) : (aL 125 (.pointer (some ⟨b, off, none⟩))).run pg w = .ok (.value (.agg ((cs.drop off).take 2).toArray)) w := Fq Try.underlying125 rfl Sk ho h
theorem S8 {w : anU} {K : anV -> anU -> Prop} (hk : ∀ w', cL w' w.heap.size [(.int .u8 0), (.int .i64 0)] -> aR w w' dH -> w'.heap.size = w.heap.size + 1 -> K (.pointer (some ⟨w.heap.size, 0, none⟩)) w') : aD pg (eM 125) w K := lR (i := Try.t125) Sk rfl hk
theorem JJ (b o : Nat) (w : anU) : (aJ 125 (.pointer (some ⟨b, o, none⟩)) 0).run pg w = .ok (.value (.pointer (some ⟨b, o, none⟩))) w := gG (i := 0) Try.underlying125 rfl FR (by decide) _
theorem Nm (b o : Nat) (w : anU) : (aJ 125 (.pointer (some ⟨b, o, none⟩)) 1).run pg w = .ok (.value (.pointer (some ⟨b, o + 1, none⟩))) w := gG (i := 1) Try.underlying125 rfl CC (by decide) _
theorem VN {b off : Nat} {cs : List anV} {w : anU} (ho : cL w b cs) (h : off + 4 <= cs.length) {K : anV -> Prop} (hk : K (.agg ((cs.drop off).take 4).toArray)) : Mz pg 51 (.pointer (some ⟨b, off, none⟩)) w K := OI Try.underlying51 rfl Xi ho h hk
theorem L5 {k : IntKind} {n : Int} {w : anU} {K : anV -> anU -> Prop} (h0 : 0 <= n) (hn : 16 * n <= 2 ^ 48) (hk : ∀ w', cL w' w.heap.size (Ai n.toNat [(.int .i64 0), (.int .i64 0)]) -> aR w w' dH -> w'.heap.size = w.heap.size + 1 -> K (.slice (some ⟨w.heap.size, 0, none⟩) n.toNat n.toNat) w') : aD pg (iA 102 (.int k n) (.int k n)) w K := Qs (i := Try.t123) Try.underlying102 RD rfl (by decide) rfl rfl h0 hn (by omega) hk
theorem uP (n0 : Int) (n1 : Int) (w : anU) : (dG 123 [(0, (.int .i64 n0)), (1, (.int .i64 n1))]).run pg w = .ok (.value (.agg #[(.int .i64 n0), (.int .i64 n1)])) w := by kernel_rfl
theorem OV {b off : Nat} {cs : List anV} {w : anU} (ho : cL w b cs) {v : anV} (h : cs[off]? = some v) {K : anV -> Prop} (hk : K v) : Mz pg 22 (.pointer (some ⟨b, off, none⟩)) w K := Xt Try.underlying22 rfl ho h hk
theorem MF {b off : Nat} {cs : List anV} {w : anU} (ho : cL w b cs) {v : anV} (h : cs[off]? = some v) {K : anV -> Prop} (hk : K v) : Mz pg 25 (.pointer (some ⟨b, off, none⟩)) w K := Xt Try.underlying25 rfl ho h hk
theorem Vo {w : anU} {K : anV -> anU -> Prop} (hk : ∀ w', cL w' w.heap.size [(.slice none 0 0)] -> aR w w' dH -> w'.heap.size = w.heap.size + 1 -> K (.pointer (some ⟨w.heap.size, 0, none⟩)) w') : aD pg (eM 22) w K := lR (i := Try.t22) R5 rfl hk
theorem T5 {w : anU} {K : anV -> anU -> Prop} (hk : ∀ w', cL w' w.heap.size [(.int .i64 0)] -> aR w w' dH -> w'.heap.size = w.heap.size + 1 -> K (.pointer (some ⟨w.heap.size, 0, none⟩)) w') : aD pg (eM 25) w K := lR (i := Try.t25) ZL rfl hk
theorem Zk : (pg).info? 126 = some Try.t126 := by kernel_rfl
theorem P1 {w : anU} {K : anV -> anU -> Prop} (hk : ∀ w', cL w' w.heap.size [(.pointer none)] -> aR w w' dH -> w'.heap.size = w.heap.size + 1 -> K (.pointer (some ⟨w.heap.size, 0, none⟩)) w') : aD pg (eM 126) w K := lR (i := Try.t126) Zk rfl hk
theorem P4 {b off : Nat} {cs : List anV} {w : anU} {v : anV} {K : anV -> anU -> Prop} (ho : cL w b cs) (hv : one v = true) (h : off < cs.length) (hk : ∀ w', cL w' b (cs.set off v) -> aR w w' (fun x => x = b) -> w'.heap.size = w.heap.size -> K undef w') : aD pg (bB 126 (.pointer (some ⟨b, off, none⟩)) v) w K := xA Zk rfl ho hv h hk
theorem vW (x : Addr) (w : anU) : (aL 102 (.pointer (some x))).run pg w = XJ (w.cell? x) w (YT pg 102 x w) := Ub Try.underlying102 rfl x w
theorem tM (x : Addr) (w : anU) : (aL 126 (.pointer (some x))).run pg w = XJ (w.cell? x) w (YT pg 126 x w) := Ub Try.underlying126 rfl x w
theorem Pn (a0 : Option Addr) (l0 c0 : Nat) (w : anU) : (dG 132 [(0, (.slice a0 l0 c0))]).run pg w = .ok (.value (.agg #[(.slice a0 l0 c0), (.int .i64 0)])) w := by kernel_rfl
theorem uJ {ox oy : Operand} (x : Option Addr) (w : anU) : (aG .eql 106 ox oy (.pointer x) (.pointer none)).run pg w = .ok (.value (.bool x.isNone)) w := SG Try.underlying106 x
theorem Fo (b o : Nat) (w : anU) : (aJ 132 (.pointer (some ⟨b, o, none⟩)) 0).run pg w = .ok (.value (.pointer (some ⟨b, o, none⟩))) w := gG (i := 0) Try.underlying132 rfl R5 (by decide) _
theorem wU (b o : Nat) (w : anU) : (aJ 132 (.pointer (some ⟨b, o, none⟩)) 1).run pg w = .ok (.value (.pointer (some ⟨b, o + 1, none⟩))) w := gG (i := 1) Try.underlying132 rfl CC (by decide) _
theorem Tz {k : IntKind} {a : Int} (x : ByteArray) (w : anU) (h0 : 0 <= a) (h1 : a.toNat < x.size) : (L1 9 (.string x) (.int k a)).run pg w = .ok (.value (.int .u8 (x[a.toNat]'h1).toNat)) w := aeU Try.underlying9 x h0 h1
theorem Qg {k : IntKind} {n : Int} {w : anU} {K : anV -> anU -> Prop} (h0 : 0 <= n) (hn : 24 * n <= 2 ^ 48) (hk : ∀ w', cL w' w.heap.size (Ai n.toNat [(.int .u8 0), (.int .i64 0), (.int .i64 0)]) -> aR w w' dH -> w'.heap.size = w.heap.size + 1 -> K (.slice (some ⟨w.heap.size, 0, none⟩) n.toNat n.toNat) w') : aD pg (iA 79 (.int k n) (.int k n)) w K := Qs (i := Try.t88) Try.underlying79 Vn rfl (by decide) rfl rfl h0 hn (by omega) hk
theorem NW {b off : Nat} {cs : List anV} {w : anU} {v : anV} {K : anV -> anU -> Prop} (ho : cL w b cs) (hv : one v = true) (h : off < cs.length) (hk : ∀ w', cL w' b (cs.set off v) -> aR w w' (fun x => x = b) -> w'.heap.size = w.heap.size -> K undef w') : aD pg (bB 5 (.pointer (some ⟨b, off, none⟩)) v) w K := xA FR rfl ho hv h hk
theorem DH (b o : Nat) (w : anU) : (aJ 116 (.pointer (some ⟨b, o, none⟩)) 0).run pg w = .ok (.value (.pointer (some ⟨b, o, none⟩))) w := gG (i := 0) Try.underlying116 rfl R5 (by decide) _
theorem Rf  (w : anU) : (dG 136 []).run pg w = .ok (.value (.agg #[(.slice none 0 0), (.int .i64 0)])) w := by kernel_rfl
theorem kW {ox oy : Operand} (x : Option Addr) (w : anU) : (aG .eql 126 ox oy (.pointer x) (.pointer none)).run pg w = .ok (.value (.bool x.isNone)) w := SG Try.underlying126 x
theorem jC (b o : Nat) (w : anU) : (aJ 136 (.pointer (some ⟨b, o, none⟩)) 1).run pg w = .ok (.value (.pointer (some ⟨b, o + 1, none⟩))) w := gG (i := 1) Try.underlying136 rfl CC (by decide) _
theorem hJ (b o : Nat) (w : anU) : (aJ 136 (.pointer (some ⟨b, o, none⟩)) 0).run pg w = .ok (.value (.pointer (some ⟨b, o, none⟩))) w := gG (i := 0) Try.underlying136 rfl R5 (by decide) _
theorem MS (a0 : Option Addr) (l0 c0 : Nat) (n1 : Int) (w : anU) : (dG 136 [(0, (.slice a0 l0 c0)), (1, (.int .i64 n1))]).run pg w = .ok (.value (.agg #[(.slice a0 l0 c0), (.int .i64 n1)])) w := by kernel_rfl
end Go.Proofs.Ytgpimhlgaokobaa
namespace Go.Pu
def dR (p : Int) : Int := if p < 0 then 1 else p
def fits : Int -> List Int -> Bool
 | left, [] => left == 0
 | left, p :: r => if p < -1 ∨ left < dR p then false else fits (left - dR p) r
def Hv (ps : List Int) : Int := (ps.map dR).sum
def XM (log : Int) (ps : List Int) : Bool := decide (5 <= log /\ log <= 15 /\ 1 <= ps.length /\ ps.length <= 256 /\ ps.getLast? ≠ some 0)
def TX (log : Int) (ps : List Int) : Bool := XM log ps && fits (2 ^ log.toNat) ps
theorem Be (p : Int) (ps : List Int) : Hv (p :: ps) = dR p + Hv ps := by simp [Hv]
theorem QN (a b : List Int) : Hv (a ++ b) = Hv a + Hv b := by simp [Hv]
theorem mP {p : Int} (h : -1 <= p) : 0 <= dR p := by unfold dR; split <;> omega
theorem QC {ps : List Int} (h : ∀ p ∈ ps, -1 <= p) : 0 <= Hv ps := by
 induction ps with
 | nil => simp [Hv]
 | cons p r ih =>
   rw [Be]
   have := mP (h p (by simp))
   have := ih fun q hq => h q (aiT _ hq)
   omega
theorem V6 : ∀ {ps : List Int} {left : Int}, fits left ps = true ↔ (∀ p ∈ ps, -1 <= p) /\ Hv ps = left
 | [], left => by simp [fits, Hv]; constructor <;> intro h <;> omega
 | p :: r, left => by
   rw [fits, Be]
   by_cases h : p < -1 ∨ left < dR p
   .rw [if_pos h]
    constructor
    .intro h; cases h
    .rintro ⟨h1, h2⟩
     have hp := h1 p (by simp)
     have := QC (ps := r) fun q hq => h1 q (aiT _ hq)
     omega
   .rw [if_neg h, V6]
    constructor
    .rintro ⟨h1, h2⟩
     exact ⟨fun q hq => by rcases ajW.1 hq with rfl | hq; · omega
                           .exact h1 q hq, by omega⟩
    .rintro ⟨h1, h2⟩
     exact ⟨fun q hq => h1 q (aiT _ hq), by omega⟩
structure Vd (log : Nat) (ps : List Int) : Prop where
 log5 : 5 <= log
 log15 : log <= 15
 len1 : 1 <= ps.length
 len256 : ps.length <= 256
 last : ps.getLast? ≠ some 0
 low : ∀ p ∈ ps, -1 <= p
 sum : Hv ps = 2 ^ log
theorem Vd.b {log : Nat} {ps : List Int} (h : Vd log ps) : TX log ps = true := by
 unfold TX XM
 simp only [aiN, decide_eq_true_eq]
 have h1 := h.log5
 have h2 := h.log15
 refine ⟨⟨by omega, by omega, h.len1, h.len256, h.last⟩, ?_⟩
 rw [V6, aiB]
 exact ⟨h.low, h.sum⟩
theorem Y9 {log : Nat} (h : log <= 15) : (2 : Int) ^ log <= 32768 := by
 have : 2 ^ log <= 2 ^ 15 := aiK (by omega) h
 have e : ((2 ^ log : Nat) : Int) = (2 : Int) ^ log := by simp
 omega
theorem YZ (log : Nat) : (1 : Int) <= 2 ^ log := by
 have : 1 <= 2 ^ log := Nat.one_le_two_pow
 have e : ((2 ^ log : Nat) : Int) = (2 : Int) ^ log := by simp
 omega
theorem aaP {ps : List Int} (h : ∀ p ∈ ps, -1 <= p) {p : Int} (hp : p ∈ ps) : dR p <= Hv ps := by
 induction ps with
 | nil => cases hp
 | cons q r ih =>
   rw [Be]
   have h0 := mP (h q (by simp))
   have h1 := QC (ps := r) fun q hq => h q (aiT _ hq)
   rcases ajW.1 hp with rfl | hp
   .omega
   .have := ih (fun q hq => h q (aiT _ hq)) hp
    omega
def adv (n a : Nat) : Nat := (a + n / 2 + n / 8 + 3) % n
def PO (n high : Nat) : Nat -> Nat -> Nat
 | 0, a => a
 | f + 1, a => if a < high then a else PO n high f (adv n a)
def Sy : List Int -> Nat -> Nat -> List Int -> Nat × List Int
 | [], _, high, arr => (high, arr)
 | p :: r, s, high, arr => if p = -1 then Sy r (s + 1) (high - 1) (arr.set (high - 1) s) else Sy r (s + 1) high arr
def mU : List Int -> Nat -> List Nat
 | [], _ => []
 | p :: r, s => List.replicate p.toNat s ++ mU r (s + 1)
def place (n high : Nat) : List Nat -> Nat -> List Int -> List Int
 | [], _, arr => arr
 | s :: r, a, arr => place n high r (PO n high n (adv n a)) (arr.set a s)
def jL (x0 : Int) (log : Nat) (ps : List Int) : List Int :=
 place (2 ^ log) (Sy ps 0 (2 ^ log) (List.replicate (2 ^ log) x0)).1 (mU ps 0) 0 (Sy ps 0 (2 ^ log) (List.replicate (2 ^ log) x0)).2
def pos (n j : Nat) : Nat := (j * (n / 2 + n / 8 + 3)) % n
theorem Lk (n j : Nat) : adv n (pos n j) = pos n (j + 1) := by
 unfold adv pos
 rw [alJ, alJ, Nat.mod_add_mod, ajR, amU, alJ]
theorem aaR {s : Nat} (hs : s % 2 = 1) : ∀ (k x : Nat), 2 ^ k ∣ s * x -> 2 ^ k ∣ x := by
 intro k
 induction k with
 | zero => intro x _; simp
 | succ k ih =>
   intro x h
   have h2 : 2 ∣ s * x := Nat.dvd_trans ⟨2 ^ k, by rw [ajU, ajD]⟩ h
   have hx : x % 2 = 0 := by
    have : (s * x) % 2 = 0 := Nat.mod_eq_zero_of_dvd h2
    rw [Nat.mul_mod, hs, amU, Nat.mod_mod] at this
    exact this
   obtain ⟨y, rfl⟩ : ∃ y, x = 2 * y := ⟨x / 2, by omega⟩
   rw [ajU, ajD (2 ^ k) 2, show s * (2 * y) = 2 * (s * y) by rw [Nat.mul_left_comm]] at h
   rw [ajU, ajD (2 ^ k) 2]
   exact Nat.mul_dvd_mul_left 2 (ih y (Nat.dvd_of_mul_dvd_mul_left (by omega) h))
theorem ZU {log : Nat} (h : 5 <= log) : (2 ^ log / 2 + 2 ^ log / 8 + 3) % 2 = 1 := by
 obtain ⟨k, rfl⟩ : ∃ k, log = k + 5 := ⟨log - 5, by omega⟩
 have : 2 ^ (k + 5) = 32 * 2 ^ k := by rw [akC, ajD]
 omega
theorem abR {log : Nat} (h : 5 <= log) {i j : Nat} (hij : i < j) (hj : j < 2 ^ log) : pos (2 ^ log) i ≠ pos (2 ^ log) j := by
 unfold pos
 generalize hst : 2 ^ log / 2 + 2 ^ log / 8 + 3 = st
 have hodd : st % 2 = 1 := by rw [<- hst]; exact ZU h
 intro e
 have hle : i * st <= j * st := ajG _ (by omega)
 have hd : 2 ^ log ∣ st * (j - i) := by
  rw [ajD, Nat.sub_mul]
  exact Nat.dvd_of_mod_eq_zero (Nat.sub_mod_eq_zero_of_mod_eq e.symm)
 have := Nat.le_of_dvd (by omega) (aaR hodd _ _ hd)
 omega
theorem ZK : ∀ (n : Nat) (l : List Nat), l.Nodup -> (∀ a ∈ l, a < n) -> l.length <= n := by
 intro n
 induction n with
 | zero => intro l _ h; cases l with
   | nil => simp
   | cons a r => exact absurd (h a (by simp)) (by omega)
 | succ n ih =>
   intro l hd h
   by_cases hn : n ∈ l
   .have := ih (l.erase n) (hd.erase n) (fun a ha => by
     have h1 := h a (List.mem_of_mem_erase ha)
     have h2 : a ≠ n := fun e => by subst e; exact hd.not_mem_erase ha
     omega)
    rw [anA hn] at this
    omega
   .have := ih l hd (fun a ha => by
     have h1 := h a ha
     have h2 : a ≠ n := fun e => by subst e; exact hn ha
     omega)
    omega
theorem Yc {n : Nat} {l : List Nat} (hd : l.Nodup) (h : ∀ a ∈ l, a < n) (hl : l.length = n) {a : Nat} (ha : a < n) : a ∈ l := by
 refine Classical.byContradiction fun hn => ?_
 have := ZK n (a :: l) (List.nodup_cons.2 ⟨hn, hd⟩) (fun b hb => (ajW.1 hb).elim (fun e => e ▸ ha) (h b))
 simp at this; omega
def gS (n high j : Nat) : List Nat := ((List.range' j (n - j)).map (pos n)).filter (· < high)
theorem Ki {n high j : Nat} (h : j < n) : gS n high j = if pos n j < high then pos n j :: gS n high (j + 1) else gS n high (j + 1) := by
 unfold gS
 rw [show n - j = (n - (j + 1)) + 1 from by omega, List.range'_succ, akZ, amH]
 simp
theorem Oq (n high : Nat) : gS n high n = [] := by unfold gS; simp
theorem WI {n : Nat} (h : 0 < n) (j : Nat) : pos n j < n := amD _ h
theorem RQ (n : Nat) : pos n 0 = 0 := by simp [pos]
theorem afX (n : Nat) : pos n n = 0 := by simp [pos, Nat.mul_mod_right]
theorem Ya {n high : Nat} (hh : 0 < high) : ∀ (d j f : Nat), j + d = n -> d <= f -> PO n high f (pos n j) = (gS n high j).headD 0 := by
 intro d
 induction d with
 | zero =>
   intro j f hj _
   obtain rfl : j = n := by omega
   rw [Oq, afX]
   cases f with
   | zero => rfl
   | succ f => unfold PO; rw [if_pos hh] <;> rfl
 | succ d ih =>
   intro j f hj hf
   obtain ⟨f, rfl⟩ : ∃ g, f = g + 1 := ⟨f - 1, by omega⟩
   rw [Ki (by omega)]
   unfold PO
   split
   .rfl
   .rw [Lk]; exact ih (j + 1) f (by omega) (by omega)
def setAt : List (Nat × Nat) -> List Int -> List Int
 | [], arr => arr
 | (q, s) :: r, arr => setAt r (arr.set q s)
theorem Wh {n high : Nat} (hh : 0 < high) : ∀ (syms : List Nat) (j a : Nat) (arr : List Int), j <= n -> syms.length <= (gS n high j).length -> (syms ≠ [] -> (gS n high j).headD 0 = a) →
 place n high syms a arr = setAt ((gS n high j).zip syms) arr := by
 intro syms
 induction syms with
 | nil => intro j a arr _ _ _; simp [place, setAt]
 | cons s r ih =>
   intro j a arr hj hlen ha
   have ha := ha (by simp)
   have key : ∀ (d j : Nat), j + d = n -> (s :: r).length <= (gS n high j).length -> (gS n high j).headD 0 = a -> ∃ i, i < n /\ j <= i /\ pos n i = a /\ gS n high j = a :: gS n high (i + 1) := by
    intro d
    induction d with
    | zero =>
      intro j hj hl _
      obtain rfl : j = n := by omega
      rw [Oq] at hl; simp at hl
    | succ d ihd =>
      intro j hj hl hd
      have e := Ki (high := high) (show j < n by omega)
      by_cases hp : pos n j < high
      .rw [if_pos hp] at e
       rw [e] at hd
       have : pos n j = a := hd
       exact ⟨j, by omega, aiM _, this, by rw [e, this]⟩
      .rw [if_neg hp] at e
       rw [e] at hl hd ⊢
       obtain ⟨i, h1, h2, h3, h4⟩ := ihd (j + 1) (by omega) hl hd
       exact ⟨i, h1, by omega, h3, h4⟩
   obtain ⟨i, h1, h2, h3, h4⟩ := key (n - j) j (by omega) hlen ha
   rw [h4] at hlen ⊢
   simp only [aiP] at hlen
   rw [place, List.zip_cons_cons, setAt]
   refine ih (i + 1) _ _ (by omega) (by omega) (fun hr => ?_)
   rw [<- h3, Lk]
   exact (Ya hh (n - (i + 1)) (i + 1) n (by omega) (by omega)).symm
def nN : List Int -> Nat -> List Nat
 | [], _ => []
 | p :: r, s => if p = -1 then s :: nN r (s + 1) else nN r (s + 1)
def toI (l : List Nat) : List Int := l.map Int.ofNat
theorem Te : ∀ (ps : List Int) (s high : Nat) (arr : List Int), (nN ps s).length <= high -> high <= arr.length →
 Sy ps s high arr = (high - (nN ps s).length, arr.take (high - (nN ps s).length) ++ toI (nN ps s).reverse ++ arr.drop high) := by
 intro ps
 induction ps with
 | nil => intro s high arr h1 h2; simp [Sy, nN, toI]
 | cons p r ih =>
   intro s high arr h1 h2
   unfold Sy nN
   unfold nN at h1
   by_cases hp : p = -1
   .rw [if_pos hp, if_pos hp]
    rw [if_pos hp] at h1
    simp only [aiP] at h1 ⊢
    rw [ih (s + 1) (high - 1) _ (by omega) (by simp; omega)]
    congr 1
    .omega
    .have hlt : high - 1 < arr.length := by omega
     rw [List.take_set_of_le (by omega), show high - 1 - (nN r (s + 1)).length = high - ((nN r (s + 1)).length + 1) from by omega]
     have : (arr.set (high - 1) (s : Int)).drop (high - 1) = (s : Int) :: arr.drop high := by
      rw [ajK (by simp; omega)]
      simp only [anN]
      rw [show high - 1 + 1 = high from by omega, List.drop_set_of_lt (by omega)]
     rw [this]
     simp [toI]
   .rw [if_neg hp, if_neg hp]
    rw [if_neg hp] at h1
    exact ih (s + 1) high arr h1 h2
theorem O1 : ∀ (l : List (Nat × Nat)) (arr : List Int), (setAt l arr).length = arr.length
 | [], _ => rfl
 | (q, s) :: r, arr => by rw [setAt, O1]; simp
theorem Kv {q : Nat} : ∀ (l : List (Nat × Nat)) (arr : List Int), (∀ x ∈ l, x.1 ≠ q) -> (setAt l arr)[q]? = arr[q]?
 | [], _, _ => rfl
 | (a, s) :: r, arr, h => by
   rw [setAt, Kv r _ fun x hx => h x (aiT _ hx), List.getElem?_set_ne (h (a, s) (by simp))]
theorem Yu : ∀ (us : List Nat) (ss : List Nat) (arr : List Int) (t : Nat), us.Nodup -> us.length = ss.length -> (∀ q ∈ us, q < arr.length) -> (ht : t < us.length) -> (ht' : t < ss.length) →
 (setAt (us.zip ss) arr)[us[t]]? = some (ss[t] : Int) := by
 intro us
 induction us with
 | nil => intro ss arr t _ _ _ ht; simp at ht
 | cons u us ih =>
   intro ss arr t hd hl hb ht ht'
   cases ss with
   | nil => simp at hl
   | cons x ss =>
     obtain ⟨h1, h2⟩ := List.nodup_cons.1 hd
     rw [List.zip_cons_cons, setAt]
     cases t with
     | zero =>
       simp only [anE]
       rw [Kv _ _ (fun y hy => fun e => h1 (by have := (List.of_mem_zip (a := y.1) (b := y.2) hy).1; rw [e] at this; exact this))]
       have : u < arr.length := hb u (by simp)
       simp [this]
     | succ t =>
       simp only [anF]
       exact ih ss _ t h2 (by simpa using hl) (fun q hq => by simpa using hb q (aiT _ hq)) (by simpa using ht) (by simpa using ht')
theorem SF : ∀ (n : Nat) (l : List Nat), l.Nodup -> (∀ a ∈ l, a < n) -> l.length = n -> l.Perm (List.range n) := by
 intro n
 induction n with
 | zero => intro l _ _ h; rw [ajM.1 h]; exact List.Perm.refl _
 | succ n ih =>
   intro l hd h hl
   have hn : n ∈ l := Yc hd h hl (by omega)
   have p1 := List.perm_cons_erase hn
   have p2 := ih (l.erase n) (hd.erase n) (fun a ha => by
    have h1 := h a (List.mem_of_mem_erase ha)
    have h2 : a ≠ n := fun e => by subst e; exact hd.not_mem_erase ha
    omega) (by rw [anA hn]; omega)
   rw [amX]
   exact p1.trans ((p2.cons n).trans (List.perm_append_singleton n _).symm)
theorem V1 : ∀ (ps : List Int) (s : Nat), (∀ p ∈ ps, -1 <= p) -> ((mU ps s).length : Int) + (nN ps s).length = Hv ps := by
 intro ps
 induction ps with
 | nil => intro s _; simp [mU, nN, Hv]
 | cons p r ih =>
   intro s h
   have := ih (s + 1) fun q hq => h q (aiT _ hq)
   have hp := h p (by simp)
   rw [Be]
   unfold mU nN dR
   by_cases h1 : p = -1
   .rw [if_pos h1, if_pos (by omega)]; subst h1; simp; omega
   .rw [if_neg h1, if_neg (by omega)]; simp; omega
theorem WU : ∀ (ps : List Int) (s i : Nat), (mU ps s).count (s + i) = if h : i < ps.length then ps[i].toNat else 0 := by
 intro ps
 induction ps with
 | nil => intro s i; simp [mU]
 | cons p r ih =>
   intro s i
   have low : ∀ (ps : List Int) (s a : Nat), a < s -> (mU ps s).count a = 0 := by
    intro ps
    induction ps with
    | nil => intro s a _; simp [mU]
    | cons p r ih =>
      intro s a h
      unfold mU
      rw [alS, ih (s + 1) a (by omega), List.count_replicate]
      simp; omega
   unfold mU
   rw [alS, List.count_replicate]
   cases i with
   | zero => rw [akN, low r (s + 1) s (by omega)]; simp
   | succ i =>
     rw [show s + (i + 1) = s + 1 + i from by omega, ih (s + 1) i]
     have : (s == s + 1 + i) = false := by simp; omega
     rw [this]; simp
theorem Wj : ∀ (ps : List Int) (s i : Nat), (nN ps s).count (s + i) = if h : i < ps.length then (if ps[i] = -1 then 1 else 0) else 0 := by
 intro ps
 induction ps with
 | nil => intro s i; simp [nN]
 | cons p r ih =>
   intro s i
   have low : ∀ (ps : List Int) (s a : Nat), a < s -> (nN ps s).count a = 0 := by
    intro ps
    induction ps with
    | nil => intro s a _; simp [nN]
    | cons p r ih =>
      intro s a h
      unfold nN
      split
      .rw [alF, ih (s + 1) a (by omega)]; simp; omega
      .exact ih (s + 1) a (by omega)
   unfold nN
   cases i with
   | zero =>
     rw [akN]
     by_cases h : p = -1
     .rw [if_pos h, alF, low r (s + 1) s (by omega)]; simp [h]
     .rw [if_neg h, low r (s + 1) s (by omega)]; simp [h]
   | succ i =>
     have e : s + (i + 1) = s + 1 + i := by omega
     by_cases h : p = -1
     .rw [if_pos h, alF, e, ih (s + 1) i]
      have : (s == s + 1 + i) = false := by simp; omega
      rw [this]; simp
     .rw [if_neg h, e, ih (s + 1) i]; simp
theorem aaN : ∀ (ps : List Int) (s i : Nat) (h : i < ps.length), ps[i] = -1 -> (nN ps s)[(ps.take i).count (-1)]? = some (s + i) := by
 intro ps
 induction ps with
 | nil => intro s i h; simp at h
 | cons p r ih =>
   intro s i h hp
   unfold nN
   cases i with
   | zero => simp only [anE] at hp; rw [if_pos hp]; simp
   | succ i =>
     simp only [anF] at hp
     have := ih (s + 1) i (by simpa using h) hp
     rw [aiQ, alF]
     by_cases h1 : p = -1
     .rw [if_pos h1]; simp only [h1, beq_self_eq_true, if_true, aiA]; rw [this]; congr 1; omega
     .rw [if_neg h1]
      have : (p == -1) = false := by simpa using h1
      rw [this]; simp only [aiD, if_false, akN]
      rw [‹(nN r (s + 1))[_]? = _›]; congr 1; omega
theorem S2 {log high : Nat} (hl : 5 <= log) (hh : high <= 2 ^ log) : (gS (2 ^ log) high 0).Nodup /\ (∀ a ∈ gS (2 ^ log) high 0, a < high) /\ (gS (2 ^ log) high 0).length = high := by
 have hn : 0 < 2 ^ log := aiY log
 have hnd : ((List.range (2 ^ log)).map (pos (2 ^ log))).Nodup := by
  rw [List.nodup_iff_pairwise_ne, List.pairwise_map]
  refine List.pairwise_iff_getElem.2 fun i j hi hj hij => ?_
  simp only [anD] at hi hj
  simp only [alZ]
  exact abR hl hij hj
 have hp := SF (2 ^ log) _ hnd (fun a ha => by
  obtain ⟨j, _, rfl⟩ := akM.1 ha
  exact WI hn j) (by simp)
 unfold gS
 rw [Nat.sub_zero, <- List.range_eq_range']
 refine ⟨hnd.filter _, fun a ha => by simpa using (amW.1 ha).2, ?_⟩
 rw [(hp.filter _).length_eq]
 have : ∀ m : Nat, high <= m -> ((List.range m).filter (· < high)).length = high := by
  intro m
  induction m with
  | zero => intro h; simp; omega
  | succ m ih =>
    intro h
    rw [amX, List.filter_append, aiE]
    by_cases hm : high <= m
    .rw [ih hm]; simp; omega
    .have : high = m + 1 := by omega
     subst this
     have : (List.range m).filter (fun x => decide (x < m + 1)) = List.range m := List.filter_eq_self.2 fun a ha => by have := ajL.1 ha; simp; omega
     rw [this]; simp
 exact this _ hh
structure Lay (log : Nat) (ps : List Int) (S : List Int) : Prop where
 len : S.length = 2 ^ log
 cnt : ∀ s (h : s < ps.length), S.count (s : Int) = (dR ps[s]).toNat
 rng : ∀ x ∈ S, ∃ s : Nat, s < ps.length /\ x = s
 top : ∀ s (h : s < ps.length), ps[s] = -1 -> S[2 ^ log - 1 - (ps.take s).count (-1)]? = some (s : Int)
theorem TN (l : List Nat) (s : Nat) : (toI l).count (s : Int) = l.count s := by
 induction l with
 | nil => rfl
 | cons a r ih =>
   show List.count _ (Int.ofNat a :: toI r) = _
   rw [alF, alF, ih]
   congr 1
   by_cases h : a = s
   .subst h; simp
   .simp [h]; omega
theorem Ze : ∀ (ps : List Int) (s : Nat), ∀ x ∈ mU ps s, s <= x /\ x < s + ps.length := by
 intro ps
 induction ps with
 | nil => intro s x h; simp [mU] at h
 | cons p r ih =>
   intro s x h
   unfold mU at h
   rcases ajT.1 h with h | h
   .have := (List.mem_replicate.1 h).2; simp; omega
   .have := ih (s + 1) x h; simp; omega
theorem ZE : ∀ (ps : List Int) (s : Nat), ∀ x ∈ nN ps s, s <= x /\ x < s + ps.length := by
 intro ps
 induction ps with
 | nil => intro s x h; simp [nN] at h
 | cons p r ih =>
   intro s x h
   unfold nN at h
   split at h
   .rcases ajW.1 h with rfl | h
    .simp
    .have := ih (s + 1) x h; simp; omega
   .have := ih (s + 1) x h; simp; omega
theorem VP {log : Nat} {ps : List Int} (h : Vd log ps) (x0 : Int) :
 ∃ low : List Int, jL x0 log ps = low ++ toI (nN ps 0).reverse /\ low.Perm (toI (mU ps 0)) /\ ((nN ps 0).length + low.length = 2 ^ log) /\
   (∀ t (h1 : t < (gS (2 ^ log) (mU ps 0).length 0).length) (h2 : t < (mU ps 0).length), low[(gS (2 ^ log) (mU ps 0).length 0)[t]]? = some ((mU ps 0)[t] : Int)) := by
 have hrl := V1 ps 0 h.low
 rw [h.sum] at hrl
 have hpow : ((2 ^ log : Nat) : Int) = (2 : Int) ^ log := by simp
 obtain ⟨m, hm⟩ : ∃ m, m = (nN ps 0).length := ⟨_, rfl⟩
 obtain ⟨hi, hhi⟩ : ∃ x, x = (mU ps 0).length := ⟨_, rfl⟩
 rw [<- hm, <- hhi] at hrl
 have hsum : hi + m = 2 ^ log := by omega
 have ht := Te ps 0 (2 ^ log) (List.replicate (2 ^ log) x0) (by omega) (by simp)
 rw [<- hm, show 2 ^ log - m = hi from by omega] at ht
 have e2 : (List.replicate (2 ^ log) x0).take hi = List.replicate hi x0 := by rw [List.take_replicate]; congr 1; omega
 have e3 : (List.replicate (2 ^ log) x0).drop (2 ^ log) = [] := by simp
 rw [e2, e3, akB] at ht
 unfold jL
 rw [ht]
 simp only
 obtain ⟨u1, u2, u3⟩ := S2 (high := hi) h.log5 (by omega)
 by_cases h0 : hi = 0
 .have hr : mU ps 0 = [] := ajM.1 (by omega)
  rw [hr, h0]
  refine ⟨[], by simp [place], by simp [toI], by simp; omega, fun t _ h2 => by simp at h2⟩
 .have hp := Wh (n := 2 ^ log) (high := hi) (by omega) (mU ps 0) 0 0 (List.replicate hi x0 ++ toI (nN ps 0).reverse) (by omega) (by rw [u3]; omega) (fun _ => by
   rw [Ki (aiY log), RQ, if_pos (by omega)] <;> rfl)
  rw [hp]
  generalize hU : gS (2 ^ log) hi 0 = U at *
  have hb : ∀ q ∈ U, q < (List.replicate hi x0 ++ toI (nN ps 0).reverse).length := fun q hq => by have := u2 q hq; simp; omega
  obtain ⟨R, hR⟩ : ∃ R, R = setAt (U.zip (mU ps 0)) (List.replicate hi x0 ++ toI (nN ps 0).reverse) := ⟨_, rfl⟩
  have hRl : R.length = hi + m := by rw [hR, O1]; simp [toI, hm]
  have hRd : R.drop hi = toI (nN ps 0).reverse := by
   apply akQ
   intro i
   rw [alP, hR, Kv _ _ (fun x hx => by
     have := u2 _ (List.of_mem_zip (a := x.1) (b := x.2) hx).1
     omega), akF (by simp)]
   simp
  have hget : ∀ t (h1 : t < U.length) (h2 : t < (mU ps 0).length), R[U[t]]? = some ((mU ps 0)[t] : Int) := fun t h1 h2 => by
   rw [hR]; exact Yu U _ _ t u1 (by omega) hb h1 h2
  rw [<- hR]
  refine ⟨R.take hi, by rw [<- hRd, alQ], ?_, by rw [aiR]; omega, fun t h1 h2 => ?_⟩
  .have p1 : (U.map fun q => R.getD q 0).Perm ((List.range hi).map fun q => R.getD q 0) := (SF hi U u1 u2 u3).map _
   have p2 : (U.map fun q => R.getD q 0) = toI (mU ps 0) := by
    apply alW
    .simp [toI]; omega
    .intro t h1 h2
     simp only [aiI] at h1
     have := hget t h1 (by omega)
     simp only [akX, toI, aiJ, this]
     rfl
   have p3 : ((List.range hi).map fun q => R.getD q 0) = R.take hi := by
    apply alW
    .simp; omega
    .intro q h1 h2
     simp only [aiI, anD] at h1
     simp only [akX, alZ, List.getElem_take, aiJ]
     rw [aiH (by omega)] <;> rfl
   rw [p2, p3] at p1
   exact p1.symm
  .subst hhi
   simp only [hU] at h1 ⊢
   have := hget t h1 h2
   rw [akA (u2 _ (akK h1))]
   exact this
theorem HV {log : Nat} {ps : List Int} (h : Vd log ps) (x0 : Int) : Lay log ps (jL x0 log ps) := by
 obtain ⟨low, e, hp, hl, _⟩ := VP h x0
 rw [e]
 refine ⟨by simp [toI]; omega, fun s hs => ?_, fun x hx => ?_, fun s hs hps => ?_⟩
 .rw [alS, hp.count_eq, TN, TN, List.count_reverse]
  have h1 := WU ps 0 s
  have h2 := Wj ps 0 s
  rw [aiC] at h1 h2
  rw [h1, h2, dif_pos hs, dif_pos hs]
  have := h.low _ (akK hs)
  unfold dR
  split <;> split <;> omega
 .rcases ajT.1 hx with hx | hx
  .have hx := hp.mem_iff.1 hx
   obtain ⟨s, hs, rfl⟩ := akM.1 hx
   exact ⟨s, by have := Ze ps 0 s hs; omega, rfl⟩
  .obtain ⟨s, hs, rfl⟩ := akM.1 hx
   exact ⟨s, by have := ZE ps 0 s (List.mem_reverse.1 hs); omega, rfl⟩
 .have h1 := aaN ps 0 s hs hps
  rw [aiC] at h1
  have hlt : (ps.take s).count (-1) < (nN ps 0).length := by
   rcases aiS ((ps.take s).count (-1)) (nN ps 0).length with h | h
   .exact h
   .rw [aiO h] at h1; cases h1
  rw [akF (by omega)]
  unfold toI
  rw [ajA, List.getElem?_reverse (by omega), show (nN ps 0).length - 1 - (2 ^ log - 1 - List.count (-1) (List.take s ps) - low.length) = (ps.take s).count (-1) from by omega, h1]
  rfl
def bl (k : Nat) : Nat := if k = 0 then 0 else k.log2 + 1
theorem QD (k : Nat) : k < 2 ^ bl k := by
 unfold bl
 split
 .subst_vars; simp
 .exact Nat.lt_log2_self
theorem RH {k : Nat} (h : k ≠ 0) : 2 ^ (bl k - 1) <= k := by
 unfold bl
 rw [if_neg h, akO]
 exact Nat.log2_self_le h
theorem KM {k : Nat} (h : k ≠ 0) : 1 <= bl k := by unfold bl; rw [if_neg h]; omega
theorem uU {k n : Nat} (h : k < 2 ^ n) : bl k <= n := by
 by_cases h0 : k = 0
 .subst h0; simp [bl]
 .rcases aiS n (bl k) with hh | hh
  .have h1 := RH h0
   have := aiK (n := 2) (by omega) (show n <= bl k - 1 by omega)
   omega
  .exact hh
theorem acT {k n : Nat} (h1 : 2 ^ n <= k) (h2 : k < 2 ^ (n + 1)) : bl k = n + 1 := by
 have h0 : k ≠ 0 := by have := aiY n; omega
 have a := uU h2
 have b := QD k
 rcases aiS (bl k) (n + 1) with h | h
 .have := aiK (n := 2) (by omega) (show bl k <= n by omega)
  omega
 .omega
def Xw (ps S : List Int) (i : Nat) : Nat := (dR (ps.getD (S.getD i 0).toNat 0)).toNat + (S.take i).count (S.getD i 0)
def Iy (log : Nat) (x : Int) (k : Nat) : Int × Int × Int := (x, ((log + 1 - bl k : Nat) : Int), ((k * 2 ^ (log + 1 - bl k) : Nat) : Int) - 2 ^ log)
def MI (log : Nat) (ps S : List Int) (i : Nat) : Int × Int × Int := Iy log (S.getD i 0) (Xw ps S i)
def qR (log : Nat) (ps : List Int) : List (Int × Int × Int) := (List.range (2 ^ log)).map (MI log ps (jL 0 log ps))
theorem qE (log : Nat) (ps : List Int) : (qR log ps).length = 2 ^ log := by simp [qR]
theorem S4 {S : List Int} {i : Nat} (h : i < S.length) : (S.take i).count S[i] + 1 <= S.count S[i] := by
 have e : S = S.take i ++ S[i] :: S.drop (i + 1) := by rw [<- ajK h, alQ]
 have : S.count S[i] = (S.take i ++ S[i] :: S.drop (i + 1)).count S[i] := by rw [<- e]
 rw [this, alS, alF]; simp
theorem SE {log : Nat} {ps : List Int} (h : Vd log ps) {s : Nat} (hs : s < ps.length) : (dR ps[s]).toNat <= 2 ^ log := by
 have := aaP h.low (akK hs)
 rw [h.sum] at this
 have hpow : ((2 ^ log : Nat) : Int) = (2 : Int) ^ log := by simp
 rw [<- hpow] at this
 exact Int.toNat_le.2 this
theorem Ue {log : Nat} {ps S : List Int} (h : Vd log ps) (L : Lay log ps S) {i : Nat} (hi : i < 2 ^ log) :
 ∃ s : Nat, ∃ hs : s < ps.length, S.getD i 0 = (s : Int) /\ 1 <= (dR ps[s]).toNat /\ (dR ps[s]).toNat <= 2 ^ log /\ Xw ps S i = (dR ps[s]).toNat + (S.take i).count (s : Int) /\ (S.take i).count (s : Int) < (dR ps[s]).toNat := by
 have hil : i < S.length := by rw [L.len]; exact hi
 have hg : S.getD i 0 = S[i] := by rw [aiJ, aiH hil] <;> rfl
 obtain ⟨s, hs, e⟩ := L.rng _ (akK hil)
 have hc := S4 hil
 rw [e, L.cnt s hs] at hc
 refine ⟨s, hs, by rw [hg, e], by omega, SE h hs, ?_, by omega⟩
 unfold Xw
 rw [hg, e, aiB, aiJ, aiH hs] <;> rfl
theorem Xh {log k : Nat} (h1 : 1 <= k) (h2 : k < 2 ^ (log + 1)) : 2 ^ log <= k * 2 ^ (log + 1 - bl k) /\ (k + 1) * 2 ^ (log + 1 - bl k) <= 2 ^ (log + 1) /\ bl k <= log + 1 /\ 1 <= bl k := by
 have a := uU h2
 have b := KM (k := k) (by omega)
 have c := RH (k := k) (by omega)
 have d := QD k
 refine ⟨?_, ?_, a, b⟩
 .calc 2 ^ log = 2 ^ (bl k - 1) * 2 ^ (log + 1 - bl k) := by rw [<- akC]; congr 1; omega
   _ <= k * 2 ^ (log + 1 - bl k) := ajG _ c
 .calc (k + 1) * 2 ^ (log + 1 - bl k) <= 2 ^ bl k * 2 ^ (log + 1 - bl k) := ajG _ d
   _ = 2 ^ (log + 1) := by rw [<- akC]; congr 1; omega
theorem abM (n j : Nat) (hn : 0 < n) : ∃ d, d < n /\ pos n (j + d) = 0 := by
 refine ⟨(n - j % n) % n, amD _ hn, ?_⟩
 unfold pos
 have : (j + (n - j % n) % n) % n = 0 := by
  rw [Nat.add_mod_mod]
  have h1 := amD j hn
  have h2 := Nat.div_add_mod j n
  have : j + (n - j % n) = n * (j / n + 1) := by
   rw [amV, alA]
   generalize n * (j / n) = y at *
   generalize j % n = r at *
   omega
  rw [this, Nat.mul_mod_right]
 rw [Nat.mul_mod, this, anP, Nat.zero_mod]
theorem TC {n high : Nat} (hn : 0 < n) (hh : 0 < high) (j : Nat) : ∃ d, (∀ e, e < d -> high <= pos n (j + e)) /\ pos n (j + d) < high /\ PO n high n (pos n j) = pos n (j + d) := by
 obtain ⟨D, hD, h0⟩ := abM n j hn
 have key : ∀ (D f j : Nat), D <= f -> pos n (j + D) < high -> ∃ d, (∀ e, e < d -> high <= pos n (j + e)) /\ pos n (j + d) < high /\ PO n high f (pos n j) = pos n (j + d) := by
  intro D
  induction D with
  | zero =>
    intro f j _ h
    refine ⟨0, fun e he => by omega, h, ?_⟩
    rw [akN] at h ⊢
    cases f with
    | zero => rfl
    | succ f => unfold PO; rw [if_pos h]
  | succ D ih =>
    intro f j hf h
    obtain ⟨f, rfl⟩ : ∃ g, f = g + 1 := ⟨f - 1, by omega⟩
    by_cases hj : pos n j < high
    .exact ⟨0, fun e he => by omega, hj, by unfold PO; rw [if_pos hj] <;> rfl⟩
    .obtain ⟨d, h1, h2, h3⟩ := ih f (j + 1) (by omega) (by rw [show j + 1 + D = j + (D + 1) from by omega]; exact h)
     refine ⟨d + 1, fun e he => ?_, by rw [show j + (d + 1) = j + 1 + d from by omega]; exact h2, ?_⟩
     .cases e with
      | zero => rw [akN]; omega
      | succ e => rw [show j + (e + 1) = j + 1 + e from by omega]; exact h1 e (by omega)
     .unfold PO; rw [if_neg hj, Lk, h3]; congr 1; omega
 exact key D n j (by omega) (by rw [h0]; exact hh)
theorem Vk {log : Nat} {ps : List Int} (h : Vd log ps) (x0 : Int) : ∃ arr, Sy ps 0 (2 ^ log) (List.replicate (2 ^ log) x0) = ((mU ps 0).length, arr) /\ arr.length = 2 ^ log /\ (nN ps 0).length + (mU ps 0).length = 2 ^ log /\ jL x0 log ps = place (2 ^ log) (mU ps 0).length (mU ps 0) 0 arr := by
 have hrl := V1 ps 0 h.low
 rw [h.sum] at hrl
 have hpow : ((2 ^ log : Nat) : Int) = (2 : Int) ^ log := by simp
 have hsum : (nN ps 0).length + (mU ps 0).length = 2 ^ log := by omega
 have ht := Te ps 0 (2 ^ log) (List.replicate (2 ^ log) x0) (by omega) (by simp)
 rw [show 2 ^ log - (nN ps 0).length = (mU ps 0).length from by omega] at ht
 refine ⟨_, ht, ?_, hsum, ?_⟩
 .simp [toI]; omega
 .unfold jL; rw [ht]
end Go.Pu
namespace Go.En
open Go
section
variable {P : Program} {w : anU} {t e : TypeId}
theorem VX {i : TypeInfo} (hu : P.underlying t = some (.slice e)) (hi : P.info? e = some i)
 {K : anV -> anU -> Prop} (hk : ∀ w', cL w' w.heap.size [] -> aR w w' dH -> w'.heap.size = w.heap.size + 1 -> K (.slice (some ⟨w.heap.size, 0, none⟩) 0 0) w') :
 aD P (cD t 0 []) w K := by
 have : (cD t 0 []).run P w = .ok (.value (.slice (some ⟨w.heap.size, 0, none⟩) 0 0)) (w.alloc (.cells ([] : List anV).toArray e)) := by
  unfold cD; rw [oY]
  have h1 : ¬ (0 > 2 ^ 24) := by omega
  have e : ∀ f : Nat -> anV, Array.map f (Array.range 0) = #[] := fun f => by simp
  simp only [Instr.buildSlice, underlying, pure_bind, Sem.run_bind, run_program, Result.andThen_ok, hu, Sem.run_pure, dK hi, anP, h1, if_false, if_true, newRow, run_newObj, Instr.fill, e]
  rfl
 unfold aD
 rw [this]
 exact hk _ (cL.alloc _ _ _) (aR.alloc _ _ _) (by simp)
def At (v : anV) (b : Nat) : Prop := ∀ M : Nat -> Prop, ¬ M b -> ¬ TF v M
theorem At.nil (c b : Nat) (a : Option Addr) : At (.slice a 0 c) b := fun M h => by unfold TF; split <;> simp_all
theorem At.at (b o n c : Nat) : At (.slice (some ⟨b, o, none⟩) n c) b := fun M h => by
 unfold TF; split
 .rename_i x m _ e
  obtain ⟨rfl, _⟩ : (⟨b, o, none⟩ : Addr) = x /\ _ := by simpa using e
  exact h
 .simp
theorem oI.at' {w : anU} {base sz n : Nat} {v : anV} {l : List anV} (h : oI w base sz v n l) (hb : base < w.heap.size) : ∃ b, base <= b /\ b < w.heap.size /\ At v b := by
 rcases h.2 with ⟨rfl, rfl⟩ | ⟨b, c, rest, rfl, h2, h3, h4, h5⟩
 .exact ⟨base, aiM _, hb, At.nil _ _ _⟩
 .exact ⟨b, h2, h3.lt, At.at _ _ _ _⟩
end
end Go.En
namespace Go.Proofs.Ytgpimhlgaokobaa
open Go Go.En Go.Pu
set_option maxRecDepth 4000
def Vu : ByteArray := ⟨#[0, 1, 2, 2, 3, 3, 3, 3, 4, 4, 4, 4, 4, 4, 4, 4, 5, 5, 5, 5, 5, 5, 5, 5, 5, 5, 5, 5, 5, 5, 5, 5, 6, 6, 6, 6, 6, 6, 6, 6, 6, 6, 6, 6, 6, 6, 6, 6, 6, 6, 6, 6, 6, 6, 6, 6, 6, 6, 6, 6, 6, 6, 6, 6, 7, 7, 7, 7, 7, 7, 7, 7, 7, 7, 7, 7, 7, 7, 7, 7, 7, 7, 7, 7, 7, 7, 7, 7, 7, 7, 7, 7, 7, 7, 7, 7, 7, 7, 7, 7, 7, 7, 7, 7, 7, 7, 7, 7, 7, 7, 7, 7, 7, 7, 7, 7, 7, 7, 7, 7, 7, 7, 7, 7, 7, 7, 7, 7, 8, 8, 8, 8, 8, 8, 8, 8, 8, 8, 8, 8, 8, 8, 8, 8, 8, 8, 8, 8, 8, 8, 8, 8, 8, 8, 8, 8, 8, 8, 8, 8, 8, 8, 8, 8, 8, 8, 8, 8, 8, 8, 8, 8, 8, 8, 8, 8, 8, 8, 8, 8, 8, 8, 8, 8, 8, 8, 8, 8, 8, 8, 8, 8, 8, 8, 8, 8, 8, 8, 8, 8, 8, 8, 8, 8, 8, 8, 8, 8, 8, 8, 8, 8, 8, 8, 8, 8, 8, 8, 8, 8, 8, 8, 8, 8, 8, 8, 8, 8, 8, 8, 8, 8, 8, 8, 8, 8, 8, 8, 8, 8, 8, 8, 8, 8, 8, 8, 8, 8, 8, 8, 8, 8, 8, 8, 8, 8]⟩
theorem Lp : Vu.size = 256 := by decide
set_option maxRecDepth 100000 in
theorem UN (x : Nat) (h : x < 256) : (Vu[x]'(by rw [Lp]; exact h)).toNat = bl x := by
 have : ∀ k : Fin 256, (Vu.data[k.val]!).toNat = bl k.val := by decide +kernel
 have h2 := this ⟨x, h⟩
 simp only at h2
 rw [<- h2]
 have hs : x < Vu.data.size := by have := Lp; exact (show Vu.data.size = 256 from this) ▸ h
 rw [getElem!_pos Vu.data x hs]
 rfl
theorem RZ {x j : Nat} (h : 2 ^ j <= x) : bl x = bl (x / 2 ^ j) + j := by
 have hp := aiY j
 have h0 : x / 2 ^ j ≠ 0 := by
  have := Nat.div_pos h hp
  omega
 have a := RH h0
 have b := QD (x / 2 ^ j)
 have c := KM h0
 obtain ⟨m, hm⟩ : ∃ m, bl (x / 2 ^ j) = m + 1 := ⟨bl (x / 2 ^ j) - 1, by omega⟩
 rw [hm, akO] at a
 rw [hm] at b ⊢
 have h1 : 2 ^ (m + j) <= x := by
  rw [akC]
  exact akT (ajG _ a) (Nat.div_mul_le_self _ _)
 have h2 : x < 2 ^ (m + j + 1) := by
  rw [show m + j + 1 = (m + 1) + j from by omega, akC]
  exact (amQ hp).1 b
 rw [acT h1 h2]; omega
theorem US {x n : Nat} (hx : x < 256) (hn : n <= 1000) (R : anV -> anU -> Prop) (w : anU) (h : R (.int .i64 ((n + bl x : Nat) : Int)) w) :
 lA R (.int .u64 x) (.int .i64 n) w := by
 have hg := UN x hx
 have hs := Lp
 have hb : bl x <= 8 := uU (n := 8) (by omega)
 unfold lA
 change aD pg _ w fun t21 w => aD pg (L1 9 (.string Vu) t21) w _
 simp (disch := omega) only [aD, pP, LN, aA, Tz, aiB, hg, gH, aT, bQ]
 rw [Int.natCast_add] at h
 exact h
theorem SM (a b : Nat) : ((a : Int)).fdiv (b : Int) = ((a / b : Nat) : Int) := by rw [alK _ (by omega)] <;> rfl
theorem Lm (x j : Nat) (hj : j <= 64) : ((x : Int)).fdiv (2 ^ (min (j : Nat) IntKind.u64.bits)) = ((x / 2 ^ j : Nat) : Int) := by
 have e : min j IntKind.u64.bits = j := by simp only [IntKind.bits]; omega
 rw [e, <- SM]; simp
theorem abB (x : Nat) (hx : x < 18446744073709551616) (w : anU) : aP pg rV #[.int .u64 x] w (fun r w' => r = .int .i64 (bl x : Nat) /\ w' = w) := by
 refine KP ?_
 unfold ID xL wE
 have step8 : ∀ (y n : Nat), y < 65536 -> n <= 64 -> n + bl y = bl x -> oP (fun r w' => r = .int .i64 (bl x : Nat) /\ w' = w) (.int .u64 y) (.int .i64 n) w := by
  intro y n hy hn e
  unfold oP wK
  by_cases h : 256 <= y
  .have d : decide ((256 : Int) <= (y : Int)) = true := by simp; omega
   have sh := Lm y 8 (by omega)
   have hq : y / 2 ^ 8 < 256 := by omega
   have := RZ (x := y) (j := 8) (by omega)
   have e2 : (n : Int) + 8 = ((n + 8 : Nat) : Int) := by omega
   simp (disch := omega) only [aD, lK, d, uT, bQ, e2, aT, aA, aF]
   rw [show (8 : Int).toNat = 8 from rfl, sh]
   exact US hq (by omega) _ _ ⟨by rw [<- e, this]; congr 2; omega, rfl⟩
  .have d : decide ((256 : Int) <= (y : Int)) = false := by simp; omega
   simp (disch := omega) only [aD, lK, d, uT, bQ, aT, aA, aE]
   exact US (by omega) (by omega) _ _ ⟨by rw [e], rfl⟩
 have step16 : ∀ (y n : Nat), y < 4294967296 -> n <= 32 -> n + bl y = bl x -> pG (fun r w' => r = .int .i64 (bl x : Nat) /\ w' = w) (.int .u64 y) (.int .i64 n) w := by
  intro y n hy hn e
  unfold pG wN
  by_cases h : 65536 <= y
  .have d : decide ((65536 : Int) <= (y : Int)) = true := by simp; omega
   have sh := Lm y 16 (by omega)
   have hq : y / 2 ^ 16 < 65536 := by omega
   have := RZ (x := y) (j := 16) (by omega)
   have e2 : (n : Int) + 16 = ((n + 16 : Nat) : Int) := by omega
   simp (disch := omega) only [aD, lK, d, uT, bQ, e2, aT, aA, aF]
   rw [show (16 : Int).toNat = 16 from rfl, sh]
   exact step8 _ _ hq (by omega) (by rw [<- e, this]; omega)
  .have d : decide ((65536 : Int) <= (y : Int)) = false := by simp; omega
   simp (disch := omega) only [aD, lK, d, uT, bQ, aT, aA, aE]
   exact step8 _ _ (by omega) (by omega) e
 by_cases h : 4294967296 <= x
 .have d : decide ((4294967296 : Int) <= (x : Int)) = true := by simp; omega
  have sh := Lm x 32 (by omega)
  have hq : x / 2 ^ 32 < 4294967296 := by omega
  have := RZ (x := x) (j := 32) (by omega)
  simp (disch := omega) only [aD, lK, d, uT, aA, aF]
  rw [show (32 : Int).toNat = 32 from rfl, sh]
  exact step16 _ 32 hq (by omega) (by rw [this]; omega)
 .have d : decide ((4294967296 : Int) <= (x : Int)) = false := by simp; omega
  simp (disch := omega) only [aD, lK, d, uT, aA, aE]
  exact step16 _ 0 (by omega) (by omega) (by omega)
theorem Vh (x : Nat) (hx : x < 18446744073709551616) (w : anU) : aP pg iT #[.int .u64 x] w (fun r w' => r = .int .i64 (bl x : Nat) /\ w' = w) := by
 refine MZ ?_
 simp (disch := omega) only [MM, BG, aD, KY, aA, aE]
 exact abB x hx w
theorem Yt {n : Nat} (h : n <= 20) : IntKind.i64.wrap (1 * 2 ^ (min n IntKind.i64.bits)) = ((2 ^ n : Nat) : Int) := by
 have : ∀ k : Fin 21, IntKind.i64.wrap (1 * 2 ^ (min k.val IntKind.i64.bits)) = ((2 ^ k.val : Nat) : Int) := by decide
 exact this ⟨n, by omega⟩
theorem El {w : anU} {v : anV} {l : List UInt8} (h : Bs w v l) (h0 : 0 < l.length) : ∃ b off c, v = .slice (some ⟨b, off, none⟩) l.length c /\ l.length <= c /\ ∀ i, (h : i < l.length) -> w.cell? ⟨b, off + i, none⟩ = some (.int .u8 (l[i].toNat : Nat)) := by
 obtain ⟨b, off, c, rfl, hc, hcell⟩ := h.openV (by simpa using h0)
 refine ⟨b, off, c, by rw [aiI], by simpa using hc, fun i hi => ?_⟩
 have := hcell i (by simpa using hi)
 simpa [lL] using this
theorem BP {v : anV} {l : List UInt8} {w : anU} (h : Bs w v l) (hl : l.length <= 1000000000) :
 aP pg cI #[v] w (fun r w' => oI w' w.heap.size 1 r l.length (l.map lL) /\ aR w w' dH) := by
 refine Ij ?_
 have h1 := h
 obtain ⟨a, n, c, rfl, hn, hc, hh⟩ := h
 rw [aiI] at hn
 unfold FD sF
 cases a with
 | none =>
   have h0 : l = [] := by
    cases l with
    | nil => rfl
    | cons x l => obtain ⟨b, off, h, _⟩ := hh (by simp at hn; omega); cases h
   subst h0
   simp (disch := omega) only [aD, MA, Option.isNone_none, aA, aF]
   exact ⟨oI.nil _ _ _, aR.refl _ _⟩
 | some x =>
   simp (disch := omega) only [aD, MA, ajF, aA, aE]
   refine VX Try.underlying22 FR fun w1 o1 x1 s1 => ?_
   have hcl1 := (h1.ext x1 (aW _)).cl
   rw [aiI] at hcl1
   have hos : oI w1 w.heap.size 1 (.slice (some ⟨w.heap.size, 0, none⟩) 0 0) 0 [] := ⟨rfl, .inr ⟨_, 0, [], rfl, aiM _, o1, rfl, aiM _⟩⟩
   refine fA hos hcl1 (P6 _) x1.size (by omega) fun v3 w3 o3 x3 => ?_
   rw [aiC, alE] at o3
   exact ⟨o3, x1.trans x3 fun b hb h => Nat.not_le_of_lt hb h⟩
def UH (v : anV) (lo hi : Nat) : Prop := ∀ M : Nat -> Prop, (∀ b, lo <= b -> b < hi -> ¬ M b) -> ¬ TF v M
theorem oI.atI {w : anU} {base sz n : Nat} {v : anV} {l : List anV} (h : oI w base sz v n l) : UH v base w.heap.size := by
 intro M hM
 rcases h.2 with ⟨rfl, rfl⟩ | ⟨b, c, rest, rfl, h2, h3, h4, h5⟩
 .exact fun h => h
 .exact At.at b 0 n c M (hM b h2 h3.lt)
theorem slA {w : anU} {a : Option Addr} {n c : Nat} {l : List anV} (h : Sl w (.slice a n c) l) (h0 : 0 < n) : ∃ b off, a = some ⟨b, off, none⟩ /\ ∀ i, i < n -> w.cell? ⟨b, off + i, none⟩ = l[i]? := by
 obtain ⟨a', n', c', e, hn, hc, hh⟩ := h
 cases e
 exact hh h0
end Go.Proofs.Ytgpimhlgaokobaa
namespace Go.En
open Go
section
variable {P : Program}
theorem Sw {a : Array anV} {t x : Nat} {v : anV} (h : t < a.size) : I1 (a.setIfInBounds t v) x = if x = t then v else I1 a x := by
 unfold I1
 rw [aiL, aiL]
 by_cases hx : x = t
 .subst hx; rw [ajX h, if_pos rfl] <;> rfl
 .rw [ajZ (fun e => hx e.symm), if_neg hx]
theorem Yx {N x : Nat} {g : Env} (h : x < N) : I1 (tmpsOf N g) x = g x := by
 unfold I1 tmpsOf
 rw [aiL, ajC (by simpa using h)]
 simp
theorem acH {f : FuncId} {fn : Func} (hf : P.funcs[f]? = some fn) (hb : fn.body.isSome = true) (hn : (fn.name == "runtime.NumGoroutine") = false) (cap : Array anV) (args : List anV) (w : anU) :
 (Du (.func (.func f) #[] cap) args).run P w = .ok (.enter f (args.toArray ++ cap)) w := by
 unfold Du Deferred.ofValue
 simp only [pure_bind, invoke, Array.empty_append]
 exact OB hf hb hn _ _
def SO (r : Loop) (args : List anV) : Array anV := (r.params.zip args.toArray).foldl (fun tmps (t, a) => tmps.setIfInBounds t a) r.tmps
theorem aaT {r : Loop} {a b : Tmp} {t : Array anV} (hp : r.params = #[a, b]) (ht : r.tmps = t) (x y : anV) : SO r [x, y] = (t.setIfInBounds a x).setIfInBounds b y := by
 unfold SO; rw [hp, ht]; simp
theorem aaU {l : Nat} {r : Loop} {args : List anV} {w : anU} (h : w.heap[l]? = some (.loop r)) (hs : args.length = r.params.size) :
 (Du (DZ l) args).run P w = .ok (.round l r.fn (SO r args) r.assign r.body) w := by
 unfold Du DZ Deferred.ofValue
 simp only [pure_bind, invoke, Array.empty_append]
 exact run_yield h (by simpa using hs)
theorem Zm {f fi : FuncId} {fn : Func} {gf : Operand} {ps : Array Tmp} {ahY bd : Code} {Q : Exit -> Env -> anU -> Prop} {g : Env} {w : anU} {cap : Array anV}
 (hm : noMark (g DS) = true) (he : ev g gf = .func (.func fi) #[] cap) (hf : P.funcs[fi]? = some fn) (hb : fn.body.isSome = true) (hn : (fn.name == "runtime.NumGoroutine") = false)
 (h : aP P fi (#[DZ (w.heap.size + 1)] ++ cap) (YU f (PR P f) ps ahY bd g w) fun _ w3 => Zb (w.heap.size + 1) Q (put g (some DS) (.pointer (some ⟨w.heap.size, 0, none⟩))) w3) :
 RF P f gf ps ahY bd Q g w := by
 unfold RF
 rw [hm]
 simp only
 rw [he, acH hf hb hn]
 exact h
theorem aR.putObj (w : anU) (l : Nat) (o : Obj) : aR w (w.putObj l o) (fun y => y = l) :=
 ⟨rfl, rfl, rfl, by simp, fun b hb hM => World.putObj_heap_other hM⟩
theorem BF {w w' : anU} {l : Nat} {o : Obj} {M : Nat -> Prop} (h : w.heap[l]? = some o) (hx : aR w w' M) (hM : ¬ M l) : w'.heap[l]? = some o := by
 have : l < w.heap.size := by
  rcases aiS l w.heap.size with h' | h'
  .exact h'
  .rw [alI h'] at h; cases h
 rw [hx.keep l this hM]; exact h
theorem adD {w : anU} {l : Nat} {o : Obj} (h : w.heap[l]? = some o) : l < w.heap.size := by
 rcases aiS l w.heap.size with h' | h'
 .exact h'
 .rw [alI h'] at h; cases h
theorem Yv (f : FuncId) (N : Nat) (ps : Array Tmp) (ahY bd : Code) (g : Env) (w : anU) :
 aR w (YU f N ps ahY bd g w) dH /\ (YU f N ps ahY bd g w).heap.size = w.heap.size + 2 /\ (YU f N ps ahY bd g w).heap[w.heap.size]? = some (.deferred (some [])) /\
  (YU f N ps ahY bd g w).heap[w.heap.size + 1]? = some (.loop { state := .ready, pending := none, fn := f, tmps := tmpsOf N g, params := ps, assign := ahY, body := bd, defers := w.heap.size }) := by
 unfold YU
 have x1 := aR.alloc w (.deferred (some [])) dH
 have h1 := World.alloc_heap_new w (.deferred (some []))
 have z1 : (w.alloc (.deferred (some []))).heap.size = w.heap.size + 1 := by simp
 generalize w.alloc (.deferred (some [])) = w1 at *
 refine ⟨x1.seq (aR.alloc w1 _ dH), by simp [z1], BF h1 (aR.alloc w1 _ dH) (fun h => h), ?_⟩
 have := World.alloc_heap_new w1 (.loop { state := .ready, pending := none, fn := f, tmps := tmpsOf N g, params := ps, assign := ahY, body := bd, defers := w.heap.size })
 rw [z1] at this
 exact this
theorem Yj {l : Nat} {r : Loop} {w : anU} {K : anU -> Prop} (h : w.heap[l]? = some (.loop r)) (hr : r.state = .ready)
 (hk : ∀ w', w'.heap[l]? = some (.loop { r with state := .busy }) -> aR w w' (fun y => y = l) -> w'.heap.size = w.heap.size -> K w') : Rdy l w K :=
 ⟨r, h, hr, hk _ (World.putObj_heap_same (adD h)) (aR.putObj _ _ _) (by simp)⟩
theorem RV {l : Nat} {r : Loop} {j : Option Code} {w : anU} {R : anV -> anU -> Prop} (h : w.heap[l]? = some (.loop r))
 (hk : ∀ w', w'.heap[l]? = some (.loop { r with state := jSt j, pending := j }) -> aR w w' (fun y => y = l) -> w'.heap.size = w.heap.size -> R (.bool j.isNone) w') : U5 l j R w :=
 ⟨r, h, hk _ (World.putObj_heap_same (adD h)) (aR.putObj _ _ _) (by simp)⟩
theorem QK {l : Nat} {r : Loop} {w : anU} {Q : Exit -> Env -> anU -> Prop} {g : Env} (h : w.heap[l]? = some (.loop r)) (hb : r.state ≠ .busy)
 (hk : ∀ w', aR w w' (fun y => y = l) -> w'.heap.size = w.heap.size -> adW Q g r.pending w') : Zb l Q g w :=
 ⟨r, h, hb, hk _ (aR.putObj _ _ _) (by simp)⟩
theorem Si {b : Nat} {w : anU} {K : anU -> Prop} (h : w.heap[b]? = some (.deferred (some []))) (hk : ∀ w', aR w w' (fun y => y = b) -> w'.heap.size = w.heap.size -> K w') :
 AE (.pointer (some ⟨b, 0, none⟩)) w K := ⟨h, hk _ (aR.putObj _ _ _) (by simp)⟩
theorem adY {f : FuncId} (first captured : List anV) (w : anU) : (Vm (.func f) first captured).run P w = .ok (.value (.func (.func f) first.toArray captured.toArray)) w := by
 unfold Vm V Instr.makeFunc
 simp [Sem.run_bind, Sem.run_pure]
end
end Go.En
namespace Go.Proofs.Ytgpimhlgaokobaa
open Go Go.En Go.Pu
set_option maxRecDepth 4000
theorem Wc {l : List UInt8} {v : anV} {box lp : Nat} {r0 : Loop} {w : anU} (I : Nat -> anU -> Prop) (S : anU -> Prop)
 (hI : ∀ i W, I i W -> cL W box [v] /\ Bs W v l /\ W.heap[lp]? = some (.loop r0)) (hp : r0.params.size = 2) (hl : l.length <= 1000000000) (h0 : I l.length w)
 (hs : ∀ i W, (hi : i < l.length) -> I (i + 1) W -> TK pg lp r0.fn (SO r0 [.int .i64 i, .int .u8 ((l[i]'hi).toNat : Nat)]) r0.assign r0.body W (fun b W' => (b = .bool true /\ I i W') ∨ (b = .bool false /\ S W'))) :
 aP pg gJ #[DZ lp, .pointer (some ⟨box, 0, none⟩)] w (fun r W => r = .tuple #[] /\ (I 0 W ∨ S W)) := by
 refine CF ?_
 obtain ⟨o, hb, hlp⟩ := hI _ _ h0
 have c0 := o.cell (off := 0)
 simp only [ahZ] at c0
 obtain ⟨a, n, c, hv, hn, hc, _⟩ := id hb
 rw [aiI] at hn
 unfold xP kR kT
 subst hn
 have e1 : (l.length : Int) - 1 = (l.length : Int) - 1 := rfl
 subst hv
 simp (disch := omega) only [aD, cU, c0, aH, true_and, aA, aN, fJ, aT]
 unfold kZ kX
 refine cK.rule (fun m (t : anV) w' => ∃ i : Nat, m = i /\ t = .int .i64 ((i : Int) - 1) /\ i <= l.length /\ I i w') l.length ⟨l.length, rfl, rfl, aiM _, h0⟩ ?_
 rintro i t w1 ⟨i', rfl, rfl, hi, hIw⟩
 unfold iJ
 cases i with
 | zero =>
   have d1 : decide ((0 : Int) <= ((0 : Nat) : Int) - 1) = false := rfl
   simp (disch := omega) only [aD, lK, d1, cU, true_and, fJ, aT, aA, aE]
   exact .inl hIw
 | succ j =>
   have e0 : ((j + 1 : Nat) : Int) - 1 = (j : Int) := by omega
   have d1 : decide ((0 : Int) <= (j : Int)) = true := by simp
   obtain ⟨o1, hb1, hlp1⟩ := hI _ _ hIw
   have c1 := o1.cell (off := 0)
   simp only [ahZ] at c1
   obtain ⟨b, off, c', hv', hc', hcell⟩ := hb1.openV (by simp; omega)
   simp only [aiI, Value.slice.injEq] at hv'
   obtain ⟨rfl, _, rfl⟩ := hv'
   have g1 := hcell j (by rw [aiI]; omega)
   simp only [akX, lL] at g1
   have q1 := aaU (P := pg) (args := [.int .i64 (j : Nat), .int .u8 ((l[j]'hi).toNat : Nat)]) hlp1 (by rw [hp] <;> rfl)
   rw [e0]
   simp (disch := omega) only [aD, lK, d1, cU, true_and, fJ, aT, aA, c1, aH, cJ, aiB, dY, g1, q1, V0, aF]
   obtain ⟨b', w2, hret, hR⟩ := hs j w1 hi hIw
   refine ⟨b', w2, hret, ?_⟩
   rcases hR with ⟨rfl, hI2⟩ | ⟨rfl, hS⟩
   .simp (disch := omega) only [rS, ajB, aA, aE]
    exact ⟨j, by omega, j, rfl, rfl, by omega, hI2⟩
   .simp (disch := omega) only [rS, akU, aA, aF]
    exact .inr hS
end Go.Proofs.Ytgpimhlgaokobaa
namespace Go.Pu
open Go Go.En
def IH (c : UInt8) : List Bool := (List.range 8).map c.toNat.testBit
def aQ : List UInt8 -> List Bool
 | [] => []
 | c :: l => IH c ++ aQ l
def tN : List Bool -> Nat
 | [] => 0
 | b :: l => b.toNat + 2 * tN l
theorem pN (c : UInt8) : (IH c).length = 8 := by simp [IH]
theorem kI : ∀ l : List UInt8, (aQ l).length = 8 * l.length
 | [] => rfl
 | c :: l => by rw [aQ, aiE, pN, kI l, aiP]; omega
theorem OX : ∀ a b : List UInt8, aQ (a ++ b) = aQ a ++ aQ b
 | [], b => rfl
 | c :: a, b => by rw [akJ, aQ, aQ, OX a b, ajI]
theorem YE (c : UInt8) {k : Nat} (h : k < 8) : (IH c)[k]? = some (c.toNat.testBit k) := by
 unfold IH
 rw [ajA, akD h] <;> rfl
theorem Dp : ∀ (l : List UInt8) (i : Nat) (h : i < 8 * l.length), (aQ l)[i]? = some ((l[i / 8]'(by omega)).toNat.testBit (i % 8))
 | [], i, h => by simp at h
 | c :: l, i, h => by
   rw [aQ]
   rcases aiS i 8 with h8 | h8
   .rw [aiX (by rw [pN]; exact h8), YE c h8]
    have e : i / 8 = 0 := by omega
    have e2 : i % 8 = i := by omega
    simp [e, e2]
   .rw [akF (by rw [pN]; exact h8), pN, Dp l (i - 8) (by simp at h; omega)]
    have e : i / 8 = (i - 8) / 8 + 1 := by omega
    have e2 : (i - 8) % 8 = i % 8 := by omega
    simp [e, e2]
theorem RA : ∀ l : List Bool, tN l < 2 ^ l.length
 | [] => by simp [tN]
 | b :: l => by
   have := RA l
   rw [tN, aiP, ajU]
   have : b.toNat <= 1 := Bool.toNat_le b
   omega
theorem KE : ∀ a b : List Bool, tN (a ++ b) = tN a + 2 ^ a.length * tN b
 | [], b => by simp [tN]
 | x :: a, b => by
   rw [akJ, tN, tN, KE a b, aiP, ajU, amV, <- anI, <- alJ, ajD 2 (2 ^ a.length)]
theorem YC (a : List Bool) (x : Bool) : tN (a ++ [x]) = tN a + 2 ^ a.length * x.toNat := by
 rw [KE]; simp [tN]
def rF (x : Nat) (n : Nat) : List Bool := (List.range n).map x.testBit
theorem zD (x n : Nat) : (rF x n).length = n := by simp [rF]
theorem Ig (x : Nat) : rF x 0 = [] := rfl
theorem Sc (x n : Nat) : rF x (n + 1) = rF x n ++ [x.testBit n] := by
 unfold rF; rw [amX, aiZ] <;> rfl
theorem W5 (x n : Nat) : rF x (n + 1) = x.testBit 0 :: rF (x / 2) n := by
 unfold rF
 rw [List.range_succ_eq_map, akZ, anQ]
 congr 1
 apply ajH
 intro k _
 simp [Nat.testBit_succ]
theorem R8 : ∀ (n x : Nat), tN (rF x n) = x % 2 ^ n
 | 0, x => by simp [rF, tN, Nat.mod_one]
 | n + 1, x => by
   rw [W5, tN, R8 n (x / 2), ajU, ajD (2 ^ n) 2, Nat.mod_mul]
   congr 1
   rw [Nat.testBit_zero]
   have : x % 2 = 0 ∨ x % 2 = 1 := by omega
   rcases this with h | h <;> simp [h]
theorem Sg {x i : Nat} (h : x < 2 ^ i) (b : Nat) : x ||| (b * 2 ^ i) = x + 2 ^ i * b := by
 rw [Nat.or_comm, ajD b, <- Nat.two_pow_add_eq_or_of_lt h b, Nat.add_comm]
theorem Ud {a b : Nat} (ha : a < 2 ^ 64) (hb : b < 2 ^ 64) : UG .u64 (a : Int) (b : Int) = ((a ||| b : Nat) : Int) := by
 have h := Nat.or_lt_two_pow ha hb
 unfold UG
 have e : IntKind.u64.bits = 64 := rfl
 rw [e, BitVec.ofInt_natCast, BitVec.ofInt_natCast, BitVec.toNat_or, BitVec.toNat_ofNat, BitVec.toNat_ofNat, ajJ ha, ajJ hb]
 exact iZ (by omega) (by have : ((a ||| b : Nat) : Int) < ((2 ^ 64 : Nat) : Int) := by exact_mod_cast h
                         omega)
theorem Sq {a b : Nat} (ha : a < 2 ^ 8) (hb : b < 2 ^ 8) : UG .u8 (a : Int) (b : Int) = ((a ||| b : Nat) : Int) := by
 have h := Nat.or_lt_two_pow ha hb
 unfold UG
 have e : IntKind.u8.bits = 8 := rfl
 rw [e, BitVec.ofInt_natCast, BitVec.ofInt_natCast, BitVec.toNat_or, BitVec.toNat_ofNat, BitVec.toNat_ofNat, ajJ ha, ajJ hb]
 exact LN (by omega) (by have : ((a ||| b : Nat) : Int) < ((2 ^ 8 : Nat) : Int) := by exact_mod_cast h
                         omega)
theorem acJ {a : Nat} (h : a < 2 ^ 8) : Jn .u8 (a : Int) 1 = ((a % 2 : Nat) : Int) := by
 have : ∀ k : Fin 256, Jn .u8 (k.val : Int) 1 = ((k.val % 2 : Nat) : Int) := by decide +kernel
 exact this ⟨a, h⟩
theorem VW {a : Nat} (h : a < 2 ^ 64) : Jn .u64 (a : Int) 1 = ((a % 2 : Nat) : Int) := by
 unfold Jn
 have e : IntKind.u64.bits = 64 := rfl
 rw [e, BitVec.ofInt_natCast, show (BitVec.ofInt 64 1) = BitVec.ofNat 64 1 from rfl, BitVec.toNat_and, BitVec.toNat_ofNat, BitVec.toNat_ofNat, ajJ h, show 1 % 2 ^ 64 = 1 from rfl, Nat.and_one_is_mod]
 exact iZ (by omega) (by omega)
theorem Qb (x k : Nat) : (x.testBit k).toNat = x / 2 ^ k % 2 := by
 rw [Nat.testBit_eq_decide_div_mod_eq]
 have : x / 2 ^ k % 2 = 0 ∨ x / 2 ^ k % 2 = 1 := by omega
 rcases this with h | h <;> simp [h]
def mT (L : List Bool) (n : Nat) : Nat := tN (L.drop (L.length - min n L.length)) * 2 ^ (n - min n L.length)
theorem vD (L : List Bool) (n : Nat) : mT L n < 2 ^ n := by
 unfold mT
 have h := RA (L.drop (L.length - min n L.length))
 rw [aiV, show L.length - (L.length - min n L.length) = min n L.length from by omega] at h
 calc _ < 2 ^ min n L.length * 2 ^ (n - min n L.length) := Nat.mul_lt_mul_of_pos_right h (aiY _)
  _ = 2 ^ n := by rw [<- akC]; congr 1; omega
theorem SZ {L : List Bool} {at' i : Nat} {b : Bool} (h : L[at' + i]? = some b) : (L.drop at').take (i + 1) = (L.drop at').take i ++ [b] := by
 rw [alD, alP, h] <;> rfl
def Q7 (l : List UInt8) : Option Nat := match l.getLast? with
 | none => none
 | some c => if c.toNat = 0 then none else some (8 * (l.length - 1) + bl c.toNat - 1)
theorem Li {l : List UInt8} (h : 0 < l.length) : Q7 l = if (l[l.length - 1]'(by omega)).toNat = 0 then none else some (8 * (l.length - 1) + bl (l[l.length - 1]'(by omega)).toNat - 1) := by
 unfold Q7
 rw [amY, aiH (by omega)]
theorem Lu {l : List UInt8} {k : Nat} (h : Q7 l = some k) : 0 < l.length /\ k < 8 * l.length /\ 8 * (l.length - 1) <= k /\ (aQ l)[k]? = some true /\ ∀ j, k < j -> j < 8 * l.length -> (aQ l)[j]? = some false := by
 have h0 : 0 < l.length := by
  cases l with
  | nil => simp [Q7] at h
  | cons x l => simp
 rw [Li h0] at h
 generalize hc : l[l.length - 1]'(by omega) = c at h
 split at h
 .cases h
 .rename_i hne
  have hk := ajE h
  have h1 := KM hne
  have h2 : bl c.toNat <= 8 := uU (by have : c.toNat < 256 := ajV c
                                      omega)
  have h3 := RH hne
  have h4 := QD c.toNat
  refine ⟨h0, by omega, by omega, ?_, ?_⟩
  .rw [Dp l k (by omega)]
   have e : k / 8 = l.length - 1 := by omega
   have e2 : k % 8 = bl c.toNat - 1 := by omega
   simp only [e, hc, e2]
   rw [Nat.testBit_eq_decide_div_mod_eq]
   obtain ⟨m, hm⟩ : ∃ m, bl c.toNat = m + 1 := ⟨bl c.toNat - 1, by omega⟩
   rw [hm, akO] at h3 ⊢
   rw [hm, ajU] at h4
   have : c.toNat / 2 ^ m = 1 := by
    have hp := aiY m
    have := (Nat.le_div_iff_mul_le hp).2 (show 1 * 2 ^ m <= c.toNat by omega)
    have := (amQ hp).2 (show c.toNat < 2 * 2 ^ m by omega)
    omega
   simp [this]
  .intro j h5 h6
   rw [Dp l j h6]
   have e : j / 8 = l.length - 1 := by omega
   simp only [e, hc]
   rw [Nat.testBit_lt_two_pow]
   exact alM h4 (aiK (by omega) (by omega))
end Go.Pu
namespace Go.Proofs.Ytgpimhlgaokobaa
open Go Go.En Go.Pu
set_option maxRecDepth 4000
theorem ZV {l : List UInt8} {v : anV} {st n : Nat} {w : anU} (h : Bs w v l) (hn : n <= 64) (hat : st + n <= 8 * l.length) (hl : l.length <= 1000000000) :
 aP pg Cd #[v, .int .i64 st, .int .i64 n] w (fun r w' => r = .int .u64 (tN (((aQ l).drop st).take n)) /\ w' = w) := by
 refine RG ?_
 unfold Tl HQ H9 HX H8 Io HW H6
 refine cK.rule (fun m (t : anV × anV) w' => ∃ i : Nat, m = n - i /\ t = (.int .u64 (tN (((aQ l).drop st).take i) : Nat), .int .i64 i) /\ i <= n /\ w' = w) n ⟨0, rfl, by simp [tN], by omega, rfl⟩ ?_
 rintro m t w1 ⟨i, rfl, rfl, hi, rfl⟩
 unfold Df
 by_cases hlt : i < n
 .have d1 : decide ((i : Int) < (n : Int)) = true := by simp; omega
  obtain ⟨b, off, c, rfl, hc, hcell⟩ := h.openV (by simp; omega)
  obtain ⟨q, hq⟩ : ∃ q, q = st + i := ⟨_, rfl⟩
  have e0 : (st : Int) + (i : Int) = (q : Int) := by omega
  have e1 : (q : Int).tdiv 8 = ((q / 8 : Nat) : Int) := by rw [akG (by omega)]; omega
  have e2 : (q : Int).tmod 8 = ((q % 8 : Nat) : Int) := by rw [ajO (by omega)]; omega
  have hq8 : q / 8 < l.length := by omega
  have hb : (aQ l)[st + i]? = some ((l[q / 8]'hq8).toNat.testBit (q % 8)) := by subst hq; exact Dp l _ (by omega)
  have ht := SZ hb
  have g1 := hcell (q / 8) (by simpa using hq8)
  simp only [akX, lL] at g1
  have hx : (l[q / 8]'hq8).toNat < 256 := ajV _
  generalize (l[q / 8]'hq8).toNat = x at *
  have e3 : (x : Int).fdiv (2 ^ (min (q % 8) IntKind.u8.bits)) = ((x / 2 ^ (q % 8) : Nat) : Int) := by
   rw [show min (q % 8) IntKind.u8.bits = q % 8 from ajY (by have : IntKind.u8.bits = 8 := rfl
                                                             omega), alK _ (Int.pow_nonneg (by omega))]
   simp
  have hy : x / 2 ^ (q % 8) < 2 ^ 8 := by have := alG x (2 ^ (q % 8)); omega
  have e4 := acJ hy
  rw [<- Qb] at e4
  have hbt : (x.testBit (q % 8)).toNat <= 1 := Bool.toNat_le _
  have hlen : (((aQ l).drop st).take i).length = i := by rw [aiR, aiV, kI]; omega
  have hnb := RA (((aQ l).drop st).take i)
  have hsn := YC (((aQ l).drop st).take i) (x.testBit (q % 8))
  rw [<- ht, hlen] at hsn
  rw [hlen] at hnb
  have hp : 2 ^ i < 2 ^ 64 := Nat.pow_lt_pow_right (by omega) (by omega)
  have hp2 : 2 ^ i <= 2 ^ 63 := aiK (by omega) (by omega)
  generalize (x.testBit (q % 8)).toNat = bt at *
  have hm : bt * 2 ^ i <= 2 ^ i := by
   have := ajG (2 ^ i) hbt
   omega
  have e5 : IntKind.u64.wrap ((bt : Int) * 2 ^ (min i IntKind.u64.bits)) = ((bt * 2 ^ i : Nat) : Int) := by
   rw [show min i IntKind.u64.bits = i from ajY (by have : IntKind.u64.bits = 64 := rfl
                                                    omega)]
   have e : (bt : Int) * 2 ^ i = ((bt * 2 ^ i : Nat) : Int) := by simp
   rw [e]
   exact iZ (by omega) (by omega)
  have e6 := Ud (a := tN (((aQ l).drop st).take i)) (b := bt * 2 ^ i) (by omega) (by omega)
  rw [Sg hnb, <- hsn] at e6
  simp (disch := omega) only [aD, aY, d1, bQ, e0, aT, aiI, dZ, iZ, aA, Hx, e1, EM, e2, cJ, aiB, dY, g1, aH, uT, e3, He, e4, IE, kM, e5, SR, e6, and_true, aF]
  exact ⟨n - (i + 1), by omega, i + 1, rfl, rfl, by omega⟩
 .have d1 : decide ((i : Int) < (n : Int)) = false := by simp; omega
  obtain rfl : i = n := by omega
  unfold Dj
  simp (disch := omega) only [aD, aY, d1, bQ, aT, dZ, iZ, aA, Hx, EM, true_and, aE]
def Wa (w : anU) (lo hi : Nat) (l : List UInt8) (st : Nat) : Prop := ∃ v, cL w hi [v, .int .i64 st] /\ Bs w v l /\ UH v lo hi
theorem Wa.ext {w w' : anU} {lo hi st : Nat} {l : List UInt8} {M : Nat -> Prop} (h : Wa w lo hi l st) (hx : aR w w' M) (hM : ∀ b, lo <= b -> b <= hi -> ¬ M b) (hlh : lo <= hi) : Wa w' lo hi l st := by
 obtain ⟨v, h1, h2, h3⟩ := h
 exact ⟨v, h1.ext hx (hM _ hlh (aiM _)), h2.ext hx (h3 M fun b hb hh => hM b hb (by omega)), h3⟩
theorem T4 {v : anV} {l : List UInt8} {w : anU} (h : Bs w v l) (hl : l.length <= 1000000000) :
 aP pg qU #[v] w (fun r w' => ∃ hi, r = .pointer (some ⟨hi, 0, none⟩) /\ w.heap.size <= hi /\ hi < w'.heap.size /\ Wa w' w.heap.size hi l 0 /\ aR w w' dH) := by
 refine JQ ?_
 unfold IB xM
 refine (BP h hl).mono ?_
 rintro r w1 ⟨o1, x1⟩
 have hat := oI.atI o1
 have hs := o1.sl
 obtain ⟨a, c, rfl⟩ := o1.len
 simp (disch := omega) only [aD, Pn, aA]
 refine mX fun w2 o2 x2 s2 => ?_
 simp only [Value.cells] at o2
 exact ⟨_, rfl, x1.size, by omega, ⟨_, o2, hs.ext x2 (aW _), hat⟩, x1.seq x2⟩
theorem Lj {l : List UInt8} {lo hi st n : Nat} {w : anU} (h : Wa w lo hi l st) (hlh : lo <= hi) (hn : n <= 32) (hst : st <= 8 * l.length) (hl : l.length <= 1000000) :
 aP pg gO #[.pointer (some ⟨hi, 0, none⟩), .int .i64 n] w (fun r w' =>
  (8 * l.length < st + n /\ r = .tuple #[.int .u64 0, .int .i64 10] /\ Wa w' lo hi l st /\ aR w w' dH) ∨
  (st + n <= 8 * l.length /\ r = .tuple #[.int .u64 (tN (((aQ l).drop st).take n)), .int .i64 0] /\ Wa w' lo hi l (st + n) /\ aR w w' (fun y => y = hi))) := by
 refine HI ?_
 obtain ⟨v, o, hs, hat⟩ := h
 unfold Fz sD
 have d1 : decide ((n : Int) < 0) = false := by simp
 have d2 : decide ((32 : Int) < (n : Int)) = false := by simp; omega
 have c0 := o.cell (off := 0)
 have c1 := o.cell (off := 1)
 simp only [ahZ, aiA] at c0 c1
 obtain ⟨a, n', c, hv, hn', hc, hh⟩ := id hs
 rw [aiI] at hn'
 subst hn'
 by_cases hsh : 8 * l.length < st + n
 .have d3 : decide (8 * (l.length : Int) - (st : Int) < (n : Int)) = true := by simp; omega
  subst hv
  have od := fT o
  have c0d := od.cell (off := 0)
  have c1d := od.cell (off := 1)
  simp only [ahZ, aiA] at c0d c1d
  simp (disch := omega) only [aD, uJ, ajF, oL, true_and, aA, wU, aiC, bH, Fo, cU, dS, bO, aiD, if_false, bW, aY, d1, dU, d2, c0d, aH, c1d, aN, Ku, aT, fJ, d3, aF, aE]
  exact .inl ⟨hsh, ⟨_, fT o, hs.ext (aR.dr _ dH) (aW _), hat⟩, aR.dr _ _⟩
 .have d3 : decide (8 * (l.length : Int) - (st : Int) < (n : Int)) = false := by simp; omega
  subst hv
  have c0e := (fT o).cell (off := 0)
  have c1e := (fT o).cell (off := 1)
  have od := fT (fT o)
  have c0d := od.cell (off := 0)
  have c1d := od.cell (off := 1)
  simp only [ahZ, aiA] at c0d c1d c0e c1e
  simp (disch := omega) only [aD, uJ, ajF, oL, true_and, aA, wU, aiC, bH, Fo, cU, dS, bO, aiD, if_false, bW, aY, d1, dU, d2, c0e, aH, c1e, c0d, c1d, aN, Ku, aT, fJ, d3, aE]
  refine (ZV (l := l) (st := st) (n := n) ((hs.ext (aR.dr _ dH) (aW _)).ext (aR.dr _ dH) (aW _)) (by omega) (by omega) (by omega)).mono ?_
  rintro r w1 ⟨rfl, rfl⟩
  simp (disch := omega) only [c1d, aH, true_and, aA, bQ, aT]
  refine jS od rfl (by simp) fun w2 o2 x2 s2 => ?_
  simp only [aiG, aiF] at o2
  have e1 : (st : Int) + (n : Int) = ((st + n : Nat) : Int) := by omega
  rw [e1] at o2
  have x02 : aR w w2 (fun y => y = hi) := ((aR.dr _ _).seq (aR.dr _ _)).seq x2
  exact .inr ⟨by omega, ⟨_, o2, hs.ext x02 (hat _ fun b hb hh => by omega), hat⟩, x02⟩
theorem YA {l : List UInt8} {lo hi st : Nat} {w : anU} (h : Wa w lo hi l st) (hst : st <= 1000000000) :
 aP pg mZ #[.pointer (some ⟨hi, 0, none⟩)] w (fun r w' => r = .int .i64 (((st + 7) / 8 : Nat)) /\ w' = w) := by
 refine H5 ?_
 obtain ⟨v, o, hs, hat⟩ := h
 have c1 := o.cell (off := 1)
 simp only [ahZ, aiA] at c1
 have e1 : ((st : Int) + 7).tdiv 8 = (((st + 7) / 8 : Nat) : Int) := by rw [akG (by omega)]; omega
 unfold Fm sQ
 simp (disch := omega) only [aD, uJ, ajF, oL, aA, wU, aiC, bH, and_true, c1, aH, bQ, aT, Hx, e1, aE]
end Go.Proofs.Ytgpimhlgaokobaa
namespace Go.Pu
open Go Go.En
structure Ra (B : List Bool) (l : List UInt8) : Prop where
 len : l.length = (B.length + 7) / 8
 bits : aQ l = B ++ List.replicate (8 * l.length - B.length) false
theorem Zq : Ra [] [] := ⟨rfl, rfl⟩
theorem WE : IH 0 = List.replicate 8 false := by decide
theorem Tn {B : List Bool} {l : List UInt8} (h : Ra B l) (h8 : B.length % 8 = 0) : aQ (l ++ [0]) = B ++ List.replicate (8 * (l.length + 1) - B.length) false /\ (l ++ [(0 : UInt8)]).length = (B.length + 1 + 7) / 8 := by
 have hl := h.len
 refine ⟨?_, by rw [aiE, ajP]; omega⟩
 rw [OX, h.bits, aQ, aQ, WE, akB, ajI]
 congr 1
 rw [show 8 * l.length - B.length = 0 from by omega, show 8 * (l.length + 1) - B.length = 8 from by omega]
 rfl
theorem Zz (c : UInt8) (r : Nat) (hr : r < 8) (y : Bool) (h : c.toNat.testBit r = false) : IH (UInt8.ofNat (c.toNat + 2 ^ r * y.toNat)) = (IH c).set r y /\ c.toNat + 2 ^ r * y.toNat < 256 /\ c.toNat ||| (y.toNat * 2 ^ r) = c.toNat + 2 ^ r * y.toNat := by
 have key : ∀ (c : Fin 256) (r : Fin 8) (y : Bool), c.val.testBit r.val = false -> IH (UInt8.ofNat (c.val + 2 ^ r.val * y.toNat)) = (IH (UInt8.ofNat c.val)).set r.val y /\ c.val + 2 ^ r.val * y.toNat < 256 /\ c.val ||| (y.toNat * 2 ^ r.val) = c.val + 2 ^ r.val * y.toNat := by decide +kernel
 have := key ⟨c.toNat, ajV c⟩ ⟨r, hr⟩ y h
 simpa using this
theorem Tr : ∀ (l : List UInt8) (i r : Nat) (c : UInt8) (y : Bool) (hi : i < l.length), r < 8 -> IH c = (IH l[i]).set r y -> aQ (l.set i c) = (aQ l).set (8 * i + r) y
 | [], i, r, c, y, hi, hr, h => by simp at hi
 | x :: l, 0, r, c, y, hi, hr, h => by
   rw [aiG, aQ, aQ, h, anR _ _ (by rw [pN]; omega)]
   simp
 | x :: l, i + 1, r, c, y, hi, hr, h => by
   rw [aiF, aQ, aQ, amA _ _ (by rw [pN]; omega), pN, Tr l i r c y (by simpa using hi) hr (by simpa using h)]
   congr 2
   omega
theorem VZ {B : List Bool} {l : List UInt8} {y : Bool} (hb : aQ l = B ++ List.replicate (8 * l.length - B.length) false) (hl : l.length = (B.length + 1 + 7) / 8) :
 ∃ hi : B.length / 8 < l.length, Ra (B ++ [y]) (l.set (B.length / 8) (UInt8.ofNat ((l[B.length / 8]'hi).toNat + 2 ^ (B.length % 8) * y.toNat))) /\
   (l[B.length / 8]'hi).toNat + 2 ^ (B.length % 8) * y.toNat < 256 /\ (l[B.length / 8]'hi).toNat ||| (y.toNat * 2 ^ (B.length % 8)) = (l[B.length / 8]'hi).toNat + 2 ^ (B.length % 8) * y.toNat := by
 have hi : B.length / 8 < l.length := by omega
 have hbit := Dp l B.length (by omega)
 rw [hb, akF (aiM _), alY, alU, if_pos (by omega)] at hbit
 have hbit := (ajE hbit).symm
 obtain ⟨h1, h2, h3⟩ := Zz _ (B.length % 8) (by omega) y hbit
 refine ⟨hi, ⟨?_, ?_⟩, h2, h3⟩
 .rw [anS, aiE, ajP]; exact hl
 .rw [Tr l _ (B.length % 8) _ y hi (by omega) h1, hb, show 8 * (B.length / 8) + B.length % 8 = B.length from by omega, amA _ _ (aiM _), alY, anS, aiE, ajP, ajI]
  congr 1
  rw [show 8 * l.length - B.length = (8 * l.length - (B.length + 1)) + 1 from by omega, ajQ, aiG]
  rfl
theorem Zs {B : List Bool} {l : List UInt8} (h : Ra (B ++ [true]) l) : Q7 l = some B.length /\ (aQ l).take B.length = B := by
 have hl := h.len
 have hb := h.bits
 rw [aiE, ajP] at hl hb
 have h0 : 0 < l.length := by omega
 have htop : (aQ l)[B.length]? = some true := by
  rw [hb, ajI, akF (aiM _), alY] <;> rfl
 have hoff : ∀ j, B.length < j -> j < 8 * l.length -> (aQ l)[j]? = some false := by
  intro j h1 h2
  rw [hb, ajI, akF (by omega), List.singleton_append, List.getElem?_cons, if_neg (by omega), alU, if_pos (by omega)]
 refine ⟨?_, by rw [hb, ajI, amL] <;> rfl⟩
 cases he : Q7 l with
 | none =>
   rw [Li h0] at he
   split at he
   .rename_i hz
    rw [Dp l _ (by omega)] at htop
    have e : B.length / 8 = l.length - 1 := by omega
    simp only [e, hz] at htop
    simp at htop
   .cases he
 | some k =>
   obtain ⟨_, h1, _, h2, h3⟩ := Lu he
   rcases anC k B.length with h | h | h
   .rw [h3 _ h (by omega)] at htop; simp at htop
   .rw [h]
   .rw [hoff _ h h1] at h2; simp at h2
theorem Y2 {x n : Nat} (h : x < 2 ^ n) : tN (rF x n) = x := by rw [R8, ajJ h]
theorem WX {B : List Bool} {x n : Nat} (h : x < 2 ^ n) : mT (B ++ rF x n) n = x := by
 unfold mT
 rw [aiE, zD, show min n (B.length + n) = n from by omega, alY, akO, List.drop_left, Y2 h]; simp
end Go.Pu
namespace Go.Proofs.Ytgpimhlgaokobaa
open Go Go.En Go.Pu
set_option maxRecDepth 4000
theorem Cy {w w' : anU} {S M : Nat -> Prop} {sz n : Nat} {v : anV} {l : List anV} (h : OL w S sz v n l) (hx : aR w w' M) (hM : ∀ b, S b -> ¬ M b) : OL w' S sz v n l := by
 refine ⟨h.1, ?_⟩
 rcases h.2 with h2 | ⟨b, c, rest, h1, h2, h3, h4, h5⟩
 .exact .inl h2
 .exact .inr ⟨b, c, rest, h1, h2, h3.ext hx (hM b h2), h4, h5⟩
def Wr (w : anU) (lo p : Nat) (B : List Bool) : Prop := lo <= p /\ ∃ v bytes, cL w p [v, .int .i64 B.length] /\ OL w (fun b => lo <= b /\ b ≠ p) 1 v bytes.length (bytes.map lL) /\ Ra B bytes
def Rm (w : anU) (lo p : Nat) (B : List Bool) : Prop := lo <= p /\ ∃ v bytes, cL w p [v, .int .i64 B.length] /\ OL w (fun b => lo <= b /\ b ≠ p) 1 v bytes.length (bytes.map lL) /\
 aQ bytes = B ++ List.replicate (8 * bytes.length - B.length) false /\ bytes.length = (B.length + 1 + 7) / 8
theorem Wr.ext {w w' : anU} {lo p : Nat} {B : List Bool} {M : Nat -> Prop} (h : Wr w lo p B) (hx : aR w w' M) (hM : ∀ b, lo <= b -> ¬ M b) : Wr w' lo p B := by
 obtain ⟨h0, v, bytes, h1, h2, h3⟩ := h
 exact ⟨h0, v, bytes, h1.ext hx (hM _ h0), Cy h2 hx fun b hb => hM b hb.1, h3⟩
theorem acP {lo p x i : Nat} {B : List Bool} {t17 : anV} {w : anU} (h : Rm w lo p B) (hx : x < 2 ^ 64) (hi : i <= 60) (hB : B.length <= 1000000000)
 {kn : anV -> anV -> anV -> anV -> anU -> Prop} (hR : ∀ w', Wr w' lo p (B ++ [x.testBit i]) -> aR w w' (fun y => lo <= y) -> kn (.pointer (some ⟨p, 0, none⟩)) (.int .u64 x) t17 (.int .i64 i) w') :
 fZ kn (.pointer (some ⟨p, 0, none⟩)) (.int .u64 x) (.int .i64 i) t17 (.int .i64 i) w := by
 obtain ⟨h0, v, bytes, o, os, hbits, hlen⟩ := h
 obtain ⟨hlt, hheld, hval, hor⟩ := VZ (y := x.testBit i) hbits hlen
 rcases os.2 with ⟨rfl, hz⟩ | ⟨b, c, rest, rfl, hS, ob, hc, hn⟩
 .rw [hlen] at hz; omega
 generalize hq : B.length = q at *
 have hcell : (bytes.map lL ++ rest)[q / 8]? = some (.int .u8 ((bytes[q / 8]'hlt).toNat : Nat)) := by
  rw [aiX (by rw [aiI]; exact hlt), ajA, aiH hlt] <;> rfl
 have hcl : (bytes[q / 8]'hlt).toNat < 2 ^ 8 := ajV _
 have hset : (bytes.map lL ++ rest).set (q / 8) (.int .u8 (((bytes[q / 8]'hlt).toNat + 2 ^ (q % 8) * (x.testBit i).toNat : Nat))) = (bytes.set (q / 8) (UInt8.ofNat ((bytes[q / 8]'hlt).toNat + 2 ^ (q % 8) * (x.testBit i).toNat))).map lL ++ rest := by
  rw [anR _ _ (by rw [aiI]; exact hlt), anT, lL, akY (by simpa using hval)]
 have hbl : (bytes.set (q / 8) (UInt8.ofNat ((bytes[q / 8]'hlt).toNat + 2 ^ (q % 8) * (x.testBit i).toNat))).length = bytes.length := anS
 generalize bytes.set (q / 8) (UInt8.ofNat ((bytes[q / 8]'hlt).toNat + 2 ^ (q % 8) * (x.testBit i).toNat)) = bytes' at *
 generalize (bytes[q / 8]'hlt).toNat = y at *
 have e1 : (q : Int).tdiv 8 = ((q / 8 : Nat) : Int) := by rw [akG (by omega)]; omega
 have e2 : (q : Int).tmod 8 = ((q % 8 : Nat) : Int) := by rw [ajO (by omega)]; omega
 have e3 := Lm x i (by omega)
 have hxl : x / 2 ^ i < 2 ^ 64 := by have := alG x (2 ^ i); omega
 have e4 := VW hxl
 rw [<- Qb] at e4
 have hbt : (x.testBit i).toNat <= 1 := Bool.toNat_le _
 have hp8 : 2 ^ (q % 8) <= 2 ^ 7 := aiK (by omega) (by omega)
 have hm : (x.testBit i).toNat * 2 ^ (q % 8) <= 2 ^ (q % 8) := by
  have := ajG (2 ^ (q % 8)) hbt
  omega
 have e5 : IntKind.u8.wrap (((x.testBit i).toNat : Int) * 2 ^ (min (q % 8) IntKind.u8.bits)) = (((x.testBit i).toNat * 2 ^ (q % 8) : Nat) : Int) := by
  rw [show min (q % 8) IntKind.u8.bits = q % 8 from ajY (by have h8 : IntKind.u8.bits = 8 := rfl; omega)]
  have e : ((x.testBit i).toNat : Int) * 2 ^ (q % 8) = (((x.testBit i).toNat * 2 ^ (q % 8) : Nat) : Int) := by simp
  rw [e]
  exact LN (by omega) (by omega)
 have e6 := Sq (a := y) (b := (x.testBit i).toNat * 2 ^ (q % 8)) hcl (by omega)
 rw [hor] at e6
 have e7 : (q : Int) + 1 = ((q + 1 : Nat) : Int) := by omega
 have od := fT o
 have obd := fT ob
 have c0 := od.cell (off := 0)
 have c1 := od.cell (off := 1)
 have g := obd.cell (off := q / 8)
 rw [hcell] at g
 simp only [ahZ, aiA] at c0 c1
 unfold fZ
 simp (disch := omega) only [aD, oL, dZ, iZ, aA, jC, aiC, bH, c1, aH, EM, e2, true_and, uT, aiB, e3, He, e4, pP, LN, kM, e5, Hx, e1, aT, hJ, cU, c0, cJ, dY, g, SR, e6]
 refine NW obd rfl (by rw [aiE, aiI]; omega) fun w2 o2 x2 s2 => ?_
 rw [hset] at o2
 have op2 := od.ext x2 (fun h => hS.2 h.symm)
 have c12 := op2.cell (off := 1)
 simp only [ahZ, aiA] at c12
 simp (disch := omega) only [c12, aH, aA, bQ, e7, aT]
 refine jS op2 rfl (by simp) fun w3 o3 x3 s3 => ?_
 simp only [aiG, aiF] at o3
 have hBl : (B ++ [x.testBit i]).length = q + 1 := by rw [aiE, hq] <;> rfl
 refine hR _ ⟨h0, _, bytes', by rw [hBl]; exact o3, ⟨by simp, .inr ⟨b, c, rest, by rw [hbl], hS, o2.ext x3 hS.2, ?_, by rw [hbl]; exact hn⟩⟩, hheld⟩ ?_
 .rw [aiE, aiI] at hc ⊢; rw [hbl]; exact hc
 .exact ((aR.dr _ _).seq (x2.mono fun z _ h => by omega)).seq (x3.mono fun z _ h => by omega)
theorem afP {lo p x i n : Nat} {B : List Bool} {w : anU} (hw : Wr w lo p B) (hx : x < 2 ^ 64) (hi : i <= 60) (hB : B.length <= 1000000000)
 {kn : anV -> anV -> anV -> anV -> anU -> Prop} (hR : ∀ w', Wr w' lo p (B ++ [x.testBit i]) -> aR w w' (fun y => lo <= y) -> kn (.pointer (some ⟨p, 0, none⟩)) (.int .u64 x) (.int .i64 n) (.int .i64 i) w') :
 jM kn (.pointer (some ⟨p, 0, none⟩)) (.int .u64 x) (.int .i64 n) (.int .i64 i) w := by
 unfold jM mO
 obtain ⟨h0, v, bytes, o, os, hh⟩ := hw
 have c1 := o.cell (off := 1)
 have c0 := o.cell (off := 0)
 simp only [ahZ, aiA] at c0 c1
 have e2 : (B.length : Int).tmod 8 = ((B.length % 8 : Nat) : Int) := by rw [ajO (by omega)]; omega
 by_cases h8 : B.length % 8 = 0
 .have d4 : (((B.length % 8 : Nat) : Int) == 0) = true := by rw [h8] <;> rfl
  obtain ⟨hr1, hr2⟩ := Tn hh h8
  have hl2 := hh.len
  have lp := o.lt
  simp (disch := omega) only [aD, oL, aA, hJ, cU, jC, aiC, bH, c1, aH, EM, e2, dV, d4, c0, aF]
  refine iC (cells := #[.int .u8 0]) (by decide) (by decide) (by kernel_rfl) fun w2 o2 x2 s2 => ?_
  refine oK (m := 1) (news := [lL 0]) (i := Try.t5) Try.underlying22 Try.underlying22 FR rfl rfl rfl (Cy os x2 (fun _ _ h => h)) (o2.cl (off := 0) (l := [lL 0]) (n := 1) rfl (fun i hi => by rw [aiC] <;> rfl)) (by simp [one, lL]) (fun b hb => ⟨by omega, by omega⟩) (by omega) (by rw [show Try.t5.bytes = 1 from rfl]; omega) (by decide) fun v3 w3 o3 x3 => ?_
  have x13 : aR w w3 (fun y => lo <= y /\ y ≠ p) := (x2.mono fun _ _ h => h.elim).seq x3
  have op3 := o.ext x13 (fun h => h.2 rfl)
  have hv3 : ∃ a n c, v3 = .slice a n c := by
   rcases o3.2 with ⟨rfl, _⟩ | ⟨b, c, rest, rfl, _⟩
   .exact ⟨_, _, _, rfl⟩
   .exact ⟨_, _, _, rfl⟩
  obtain ⟨a3, n3, c3, rfl⟩ := hv3
  refine oJ op3 rfl (by simp) fun w4 o4 x4 s4 => ?_
  simp only [aiG, aiF] at o4
  have x14 : aR w w4 (fun y => lo <= y) := (x13.mono fun y _ h => h.1).seq (x4.mono fun y _ h => by omega)
  refine acP (w := w4) ⟨h0, _, bytes ++ [0], o4, ?_, ?_, hr2⟩ hx hi hB fun w5 h5 x5 => hR w5 h5 (x14.seq x5)
  .have := Cy o3 x4 (fun b hb h => hb.2 h)
   rw [aiE, aiZ]
   exact this
  .rw [aiE]; exact hr1
 .have d4 : (((B.length % 8 : Nat) : Int) == 0) = false := by simp; omega
  simp (disch := omega) only [aD, oL, aA, hJ, cU, jC, aiC, bH, c1, aH, EM, e2, dV, d4, aE]
  refine acP (w := w) ⟨h0, v, bytes, o, os, hh.bits, ?_⟩ hx hi hB fun w5 h5 x5 => hR w5 h5 x5
  rw [hh.len]; omega
theorem abN {lo p x n : Nat} {B : List Bool} {w : anU} (h : Wr w lo p B) (hx : x < 2 ^ 64) (hn : n <= 56) (hB : B.length <= 100000000) :
 aP pg iN #[.pointer (some ⟨p, 0, none⟩), .int .u64 x, .int .i64 n] w (fun r w' => r = .tuple #[] /\ Wr w' lo p (B ++ rF x n) /\ aR w w' (fun y => lo <= y)) := by
 refine yS ?_
 unfold yN lH lF
 by_cases hn0 : n = 0
 .subst hn0
  have d1 : decide (((0 : Nat) : Int) < 1) = true := rfl
  simp (disch := omega) only [aD, kW, ajF, true_and, aA, dS, bO, aiD, if_false, bW, aY, d1, jV, if_true, aF, eF]
  exact ⟨by rw [Ig, akB]; exact h, aR.refl _ _⟩
 have d1 : decide ((n : Int) < 1) = false := by simp; omega
 have d2 : decide ((56 : Int) < (n : Int)) = false := by simp; omega
 simp (disch := omega) only [aD, kW, ajF, true_and, aA, dS, bO, aiD, if_false, bW, aY, d1, dU, d2, aE]
 unfold lG lV
 refine cK.rule (fun m (t : anV) w' => ∃ i : Nat, m = n - i /\ t = .int .i64 i /\ i <= n /\ Wr w' lo p (B ++ rF x i) /\ aR w w' (fun y => lo <= y)) n
  ⟨0, rfl, rfl, by omega, by rw [Ig, akB]; exact h, aR.refl _ _⟩ ?_
 rintro m t w1 ⟨i, rfl, rfl, hi, hw, x1⟩
 unfold jP mF
 by_cases hlt : i < n
 .have d3 : decide ((i : Int) < (n : Int)) = true := by simp; omega
  simp (disch := omega) only [aD, aY, d3, aA, aF]
  unfold mK mL
  refine afP hw hx (by omega) (by rw [aiE, zD]; omega) fun w3 hw3 x3 => ?_
  unfold jW
  simp (disch := omega) only [aD, bQ, aT, aA]
  refine ⟨n - (i + 1), by omega, i + 1, rfl, rfl, by omega, ?_, x1.seq x3⟩
  rw [Sc, <- ajI]
  exact hw3
 .have d3 : decide ((i : Int) < (n : Int)) = false := by simp; omega
  obtain rfl : i = n := by omega
  simp (disch := omega) only [aD, aY, d3, aA, aE]
  exact ⟨hw, x1⟩
def Ws (w : anU) (S : Nat -> Prop) (p : Nat) (B : List Bool) : Prop := ¬ S p /\ ∃ v bytes, cL w p [v, .int .i64 B.length] /\ OL w S 1 v bytes.length (bytes.map lL) /\ Ra B bytes
def Rs (w : anU) (S : Nat -> Prop) (p : Nat) (B : List Bool) : Prop := ¬ S p /\ ∃ v bytes, cL w p [v, .int .i64 B.length] /\ OL w S 1 v bytes.length (bytes.map lL) /\
 aQ bytes = B ++ List.replicate (8 * bytes.length - B.length) false /\ bytes.length = (B.length + 1 + 7) / 8
theorem Ws.ext {w w' : anU} {S M : Nat -> Prop} {p : Nat} {B : List Bool} (h : Ws w S p B) (hx : aR w w' M) (hp : ¬ M p) (hM : ∀ b, S b -> ¬ M b) : Ws w' S p B := by
 obtain ⟨h0, v, bytes, h1, h2, h3⟩ := h
 exact ⟨h0, v, bytes, h1.ext hx hp, Cy h2 hx hM, h3⟩
theorem Ws.turn {w : anU} {S T : Nat -> Prop} {p : Nat} {B : List Bool} (h : Ws w S p B) (hp : ¬ T p) (hT : ∀ b, S b -> b < w.heap.size -> T b) : Ws w T p B := by
 obtain ⟨h0, v, bytes, h1, h2, h3⟩ := h
 refine ⟨hp, v, bytes, h1, ⟨h2.1, ?_⟩, h3⟩
 rcases h2.2 with h2 | ⟨b, c, rest, e, hb, o, hc, hn⟩
 .exact .inl h2
 .exact .inr ⟨b, c, rest, e, hT b hb o.lt, o, hc, hn⟩
theorem Y6 {S : Nat -> Prop} {p x i : Nat} {B : List Bool} {t17 : anV} {w : anU} (h : Rs w S p B) (hx : x < 2 ^ 64) (hi : i <= 60) (hB : B.length <= 1000000000)
 {kn : anV -> anV -> anV -> anV -> anU -> Prop} (hR : ∀ w', Ws w' S p (B ++ [x.testBit i]) -> aR w w' (fun y => y = p ∨ S y) -> kn (.pointer (some ⟨p, 0, none⟩)) (.int .u64 x) t17 (.int .i64 i) w') :
 fZ kn (.pointer (some ⟨p, 0, none⟩)) (.int .u64 x) (.int .i64 i) t17 (.int .i64 i) w := by
 obtain ⟨h0, v, bytes, o, os, hbits, hlen⟩ := h
 obtain ⟨hlt, hheld, hval, hor⟩ := VZ (y := x.testBit i) hbits hlen
 rcases os.2 with ⟨rfl, hz⟩ | ⟨b, c, rest, rfl, hS, ob, hc, hn⟩
 .rw [hlen] at hz; omega
 generalize hq : B.length = q at *
 have hcell : (bytes.map lL ++ rest)[q / 8]? = some (.int .u8 ((bytes[q / 8]'hlt).toNat : Nat)) := by
  rw [aiX (by rw [aiI]; exact hlt), ajA, aiH hlt] <;> rfl
 have hcl : (bytes[q / 8]'hlt).toNat < 2 ^ 8 := ajV _
 have hset : (bytes.map lL ++ rest).set (q / 8) (.int .u8 (((bytes[q / 8]'hlt).toNat + 2 ^ (q % 8) * (x.testBit i).toNat : Nat))) = (bytes.set (q / 8) (UInt8.ofNat ((bytes[q / 8]'hlt).toNat + 2 ^ (q % 8) * (x.testBit i).toNat))).map lL ++ rest := by
  rw [anR _ _ (by rw [aiI]; exact hlt), anT, lL, akY (by simpa using hval)]
 have hbl : (bytes.set (q / 8) (UInt8.ofNat ((bytes[q / 8]'hlt).toNat + 2 ^ (q % 8) * (x.testBit i).toNat))).length = bytes.length := anS
 generalize bytes.set (q / 8) (UInt8.ofNat ((bytes[q / 8]'hlt).toNat + 2 ^ (q % 8) * (x.testBit i).toNat)) = bytes' at *
 generalize (bytes[q / 8]'hlt).toNat = y at *
 have e1 : (q : Int).tdiv 8 = ((q / 8 : Nat) : Int) := by rw [akG (by omega)]; omega
 have e2 : (q : Int).tmod 8 = ((q % 8 : Nat) : Int) := by rw [ajO (by omega)]; omega
 have e3 := Lm x i (by omega)
 have hxl : x / 2 ^ i < 2 ^ 64 := by have := alG x (2 ^ i); omega
 have e4 := VW hxl
 rw [<- Qb] at e4
 have hbt : (x.testBit i).toNat <= 1 := Bool.toNat_le _
 have hp8 : 2 ^ (q % 8) <= 2 ^ 7 := aiK (by omega) (by omega)
 have hm : (x.testBit i).toNat * 2 ^ (q % 8) <= 2 ^ (q % 8) := by
  have := ajG (2 ^ (q % 8)) hbt
  omega
 have e5 : IntKind.u8.wrap (((x.testBit i).toNat : Int) * 2 ^ (min (q % 8) IntKind.u8.bits)) = (((x.testBit i).toNat * 2 ^ (q % 8) : Nat) : Int) := by
  rw [show min (q % 8) IntKind.u8.bits = q % 8 from ajY (by have h8 : IntKind.u8.bits = 8 := rfl; omega)]
  have e : ((x.testBit i).toNat : Int) * 2 ^ (q % 8) = (((x.testBit i).toNat * 2 ^ (q % 8) : Nat) : Int) := by simp
  rw [e]
  exact LN (by omega) (by omega)
 have e6 := Sq (a := y) (b := (x.testBit i).toNat * 2 ^ (q % 8)) hcl (by omega)
 rw [hor] at e6
 have e7 : (q : Int) + 1 = ((q + 1 : Nat) : Int) := by omega
 have od := fT o
 have obd := fT ob
 have c0 := od.cell (off := 0)
 have c1 := od.cell (off := 1)
 have g := obd.cell (off := q / 8)
 rw [hcell] at g
 simp only [ahZ, aiA] at c0 c1
 unfold fZ
 simp (disch := omega) only [aD, oL, dZ, iZ, aA, jC, aiC, bH, c1, aH, EM, e2, true_and, uT, aiB, e3, He, e4, pP, LN, kM, e5, Hx, e1, aT, hJ, cU, c0, cJ, dY, g, SR, e6]
 refine NW obd rfl (by rw [aiE, aiI]; omega) fun w2 o2 x2 s2 => ?_
 rw [hset] at o2
 have op2 := od.ext x2 (fun h => h0 (h ▸ hS))
 have c12 := op2.cell (off := 1)
 simp only [ahZ, aiA] at c12
 simp (disch := omega) only [c12, aH, aA, bQ, e7, aT]
 refine jS op2 rfl (by simp) fun w3 o3 x3 s3 => ?_
 simp only [aiG, aiF] at o3
 have hBl : (B ++ [x.testBit i]).length = q + 1 := by rw [aiE, hq] <;> rfl
 refine hR _ ⟨h0, _, bytes', by rw [hBl]; exact o3, ⟨by simp, .inr ⟨b, c, rest, by rw [hbl], hS, o2.ext x3 (fun h => h0 (h ▸ hS)), ?_, by rw [hbl]; exact hn⟩⟩, hheld⟩ ?_
 .rw [aiE, aiI] at hc ⊢; rw [hbl]; exact hc
 .exact ((aR.dr _ _).seq (x2.mono fun z _ h => .inr (h ▸ hS))).seq (x3.mono fun z _ h => .inl h)
theorem adI {S : Nat -> Prop} {p x i n : Nat} {B : List Bool} {w : anU} (hw : Ws w S p B) (hN : ∀ b, w.heap.size <= b -> S b) (hx : x < 2 ^ 64) (hi : i <= 60) (hB : B.length <= 1000000000)
 {kn : anV -> anV -> anV -> anV -> anU -> Prop} (hR : ∀ w', Ws w' S p (B ++ [x.testBit i]) -> aR w w' (fun y => y = p ∨ S y) -> kn (.pointer (some ⟨p, 0, none⟩)) (.int .u64 x) (.int .i64 n) (.int .i64 i) w') :
 jM kn (.pointer (some ⟨p, 0, none⟩)) (.int .u64 x) (.int .i64 n) (.int .i64 i) w := by
 unfold jM mO
 obtain ⟨h0, v, bytes, o, os, hh⟩ := hw
 have c1 := o.cell (off := 1)
 have c0 := o.cell (off := 0)
 simp only [ahZ, aiA] at c0 c1
 have e2 : (B.length : Int).tmod 8 = ((B.length % 8 : Nat) : Int) := by rw [ajO (by omega)]; omega
 by_cases h8 : B.length % 8 = 0
 .have d4 : (((B.length % 8 : Nat) : Int) == 0) = true := by rw [h8] <;> rfl
  obtain ⟨hr1, hr2⟩ := Tn hh h8
  have hl2 := hh.len
  have lp := o.lt
  simp (disch := omega) only [aD, oL, aA, hJ, cU, jC, aiC, bH, c1, aH, EM, e2, dV, d4, c0, aF]
  refine iC (cells := #[.int .u8 0]) (by decide) (by decide) (by kernel_rfl) fun w2 o2 x2 s2 => ?_
  refine oK (m := 1) (news := [lL 0]) (i := Try.t5) Try.underlying22 Try.underlying22 FR rfl rfl rfl (Cy os x2 (fun _ _ h => h)) (o2.cl (off := 0) (l := [lL 0]) (n := 1) rfl (fun i hi => by rw [aiC] <;> rfl)) (by simp [one, lL]) (fun b hb => hN b (by omega)) (by omega) (by rw [show Try.t5.bytes = 1 from rfl]; omega) (by decide) fun v3 w3 o3 x3 => ?_
  have x13 : aR w w3 S := (x2.mono fun _ _ h => h.elim).seq x3
  have op3 := o.ext x13 h0
  have hv3 : ∃ a n c, v3 = .slice a n c := by
   rcases o3.2 with ⟨rfl, _⟩ | ⟨b, c, rest, rfl, _⟩
   .exact ⟨_, _, _, rfl⟩
   .exact ⟨_, _, _, rfl⟩
  obtain ⟨a3, n3, c3, rfl⟩ := hv3
  refine oJ op3 rfl (by simp) fun w4 o4 x4 s4 => ?_
  simp only [aiG, aiF] at o4
  have x14 : aR w w4 (fun y => y = p ∨ S y) := (x13.mono fun y _ h => .inr h).seq (x4.mono fun y _ h => .inl h)
  refine Y6 (w := w4) ⟨h0, _, bytes ++ [0], o4, ?_, ?_, hr2⟩ hx hi hB fun w5 h5 x5 => hR w5 h5 (x14.seq x5)
  .have := Cy o3 x4 (fun b hb h => h0 (h ▸ hb))
   rw [aiE, aiZ]
   exact this
  .rw [aiE]; exact hr1
 .have d4 : (((B.length % 8 : Nat) : Int) == 0) = false := by simp; omega
  simp (disch := omega) only [aD, oL, aA, hJ, cU, jC, aiC, bH, c1, aH, EM, e2, dV, d4, aE]
  refine Y6 (w := w) ⟨h0, v, bytes, o, os, hh.bits, ?_⟩ hx hi hB fun w5 h5 x5 => hR w5 h5 x5
  rw [hh.len]; omega
theorem Z0 {S : Nat -> Prop} {p x n : Nat} {B : List Bool} {w : anU} (h : Ws w S p B) (hN : ∀ b, w.heap.size <= b -> S b) (hx : x < 2 ^ 64) (hn : n <= 56) (hB : B.length <= 100000000) :
 aP pg iN #[.pointer (some ⟨p, 0, none⟩), .int .u64 x, .int .i64 n] w (fun r w' => r = .tuple #[] /\ Ws w' S p (B ++ rF x n) /\ aR w w' (fun y => y = p ∨ S y)) := by
 refine yS ?_
 unfold yN lH lF
 by_cases hn0 : n = 0
 .subst hn0
  have d1 : decide (((0 : Nat) : Int) < 1) = true := rfl
  simp (disch := omega) only [aD, kW, ajF, true_and, aA, dS, bO, aiD, if_false, bW, aY, d1, jV, if_true, aF, eF]
  exact ⟨by rw [Ig, akB]; exact h, aR.refl _ _⟩
 have d1 : decide ((n : Int) < 1) = false := by simp; omega
 have d2 : decide ((56 : Int) < (n : Int)) = false := by simp; omega
 simp (disch := omega) only [aD, kW, ajF, true_and, aA, dS, bO, aiD, if_false, bW, aY, d1, dU, d2, aE]
 unfold lG lV
 refine cK.rule (fun m (t : anV) w' => ∃ i : Nat, m = n - i /\ t = .int .i64 i /\ i <= n /\ Ws w' S p (B ++ rF x i) /\ aR w w' (fun y => y = p ∨ S y)) n
  ⟨0, rfl, rfl, by omega, by rw [Ig, akB]; exact h, aR.refl _ _⟩ ?_
 rintro m t w1 ⟨i, rfl, rfl, hi, hw, x1⟩
 unfold jP mF
 by_cases hlt : i < n
 .have d3 : decide ((i : Int) < (n : Int)) = true := by simp; omega
  simp (disch := omega) only [aD, aY, d3, aA, aF]
  unfold mK mL
  refine adI hw (fun b hb => hN b (by have := x1.size; omega)) hx (by omega) (by rw [aiE, zD]; omega) fun w3 hw3 x3 => ?_
  unfold jW
  simp (disch := omega) only [aD, bQ, aT, aA]
  refine ⟨n - (i + 1), by omega, i + 1, rfl, rfl, by omega, ?_, x1.seq x3⟩
  rw [Sc, <- ajI]
  exact hw3
 .have d3 : decide ((i : Int) < (n : Int)) = false := by simp; omega
  obtain rfl : i = n := by omega
  simp (disch := omega) only [aD, aY, d3, aA, aE]
  exact ⟨hw, x1⟩
theorem Ws.wr {w : anU} {S : Nat -> Prop} {p : Nat} {B : List Bool} (h : Ws w S p B) : Wr w 0 p B := by
 have h1 := h.turn (T := fun b => 0 <= b /\ b ≠ p) (fun h => h.2 rfl) (fun b hb _ => ⟨amE _, fun e => h.1 (e ▸ hb)⟩)
 obtain ⟨h0, v, bytes, a, b, c⟩ := h1
 exact ⟨amE _, v, bytes, a, b, c⟩
theorem UB (w : anU) : aP pg tR #[] w (fun r w' => r = .pointer (some ⟨w.heap.size, 0, none⟩) /\ w'.heap.size = w.heap.size + 1 /\ Ws w' (fun _ => False) w.heap.size [] /\ aR w w' dH) := by
 refine Ma ?_
 unfold KU yQ
 simp (disch := omega) only [aD, Rf, aA]
 refine mX fun w1 o1 x1 s1 => ?_
 simp only [Value.cells] at o1
 exact ⟨rfl, by omega, ⟨fun h => h, _, [], o1, ⟨rfl, .inl ⟨rfl, rfl⟩⟩, Zq⟩, x1⟩
theorem aaC {lo p : Nat} {B : List Bool} {w : anU} (h : Wr w lo p B) (hB : B.length <= 10000000) :
 aP pg lW #[.pointer (some ⟨p, 0, none⟩)] w (fun r w' => ∃ bytes, Bs w' r bytes /\ Ra (B ++ [true]) bytes /\ UH r w.heap.size w'.heap.size /\ aR w w' dH) := by
 refine GD ?_
 obtain ⟨h0, v, bytes, o, os, hh⟩ := h
 have c0 := (fT o).cell (off := 0)
 have c1 := (fT o).cell (off := 1)
 simp only [ahZ, aiA] at c0 c1
 have hs : Bs w v bytes := by
  have h1 := os.1
  rcases os.2 with ⟨rfl, h2⟩ | ⟨b, c, rest, rfl, h2, h3, h4, h5⟩
  .exact ⟨_, _, _, rfl, by omega, by omega, fun h => by omega⟩
  .refine ⟨_, _, _, rfl, by omega, h5, fun _ => ⟨b, 0, rfl, fun i hi => ?_⟩⟩
   rw [h3.cell, aiC, aiX (by omega)]
 have hl := hh.len
 unfold Dv qI
 simp (disch := omega) only [aD, kW, ajF, oL, eL, Result.ok.injEq, Next.value.injEq, and_true, true_and, aA, jC, aiC, bH, hJ, cU, c0, aH, c1, aE]
 refine (BP (hs.ext (aR.dr _ dH) (aW _)) (by omega)).mono ?_
 rintro r w1 ⟨o1, x1⟩
 have z1 := x1.size
 have x01 : aR w w1 dH := (aR.dr w dH).seq x1
 have c11 := (o.ext x01 (fun h => h)).cell (off := 1)
 simp only [ahZ, aiA] at c11
 have hdr : (dr w).heap.size = w.heap.size := rfl
 rw [hdr] at o1 z1
 obtain ⟨a1, cc1, rfl⟩ := o1.len
 simp (disch := omega) only [c11, aH, aA, MS, true_and]
 refine mX fun w2 o2 x2 s2 => ?_
 simp only [Value.cells] at o2
 have hw : Wr w2 w.heap.size w1.heap.size B := by
  refine ⟨z1, _, bytes, o2, ⟨o1.1, ?_⟩, hh⟩
  rcases o1.2 with h2 | ⟨b, c, rest, h1, h2, h3, h4, h5⟩
  .exact .inl h2
  .have := h3.lt
   exact .inr ⟨b, c, rest, h1, ⟨h2, by omega⟩, h3.ext x2 (fun h => h), h4, h5⟩
 refine (abN (x := 1) (n := 1) hw (by omega) (by omega) (by omega)).mono ?_
 rintro r w3 ⟨rfl, ⟨h0', v3, bytes3, o3, os3, hh3⟩, x3⟩
 have c03 := o3.cell (off := 0)
 simp only [ahZ, aiA] at c03
 simp (disch := omega) only [oL, aA, hJ, cU, c03, aH]
 have e1 : rF 1 1 = [true] := by decide
 rw [e1] at hh3
 refine ⟨bytes3, ?_, hh3, ?_, ?_⟩
 .have h1 := os3.1
  rcases os3.2 with ⟨rfl, h2⟩ | ⟨b, c, rest, rfl, h2, h3, h4, h5⟩
  .exact ⟨_, _, _, rfl, by omega, by omega, fun h => by omega⟩
  .refine ⟨_, _, _, rfl, by omega, h5, fun _ => ⟨b, 0, rfl, fun i hi => ?_⟩⟩
   rw [h3.cell, aiC, aiX (by omega)]
 .intro M hM
  rcases os3.2 with ⟨rfl, h2⟩ | ⟨b, c, rest, rfl, h2, h3, h4, h5⟩
  .exact fun h => h
  .exact At.at b 0 _ c M (hM b h2.1 h3.lt)
 .exact (x01.seq x2).trans x3 fun b hb h => by omega
end Go.Proofs.Ytgpimhlgaokobaa
namespace Go.Pu
def ES (w : Nat) : Nat := if w = 0 then 0 else 2 ^ (w - 1)
def bN (l : List Nat) : Nat := (l.map ES).sum
def oM (d : Nat) (l : List Nat) : Bool := l.all fun w => decide (w <= d)
def dD (l : List Nat) : Nat :=
 if oM 11 l = true /\ 2 <= l.length /\ l.length <= 256 /\ l.getLast? ≠ some 0 /\ 2 ^ (bN l).log2 = bN l /\ (bN l).log2 <= 11 /\ oM (bN l).log2 l = true then (bN l).log2 else 0
theorem BK (a b : List Nat) : bN (a ++ b) = bN a + bN b := by simp [bN]
theorem gP (w : Nat) (l : List Nat) : bN (w :: l) = ES w + bN l := by simp [bN]
theorem XK {w : Nat} (h : w <= 11) : ES w <= 1024 := by
 unfold ES
 split
 .omega
 .have : 2 ^ (w - 1) <= 2 ^ 10 := aiK (by omega) (by omega)
  omega
theorem Lo : ∀ {l : List Nat}, (∀ w ∈ l, w <= 11) -> bN l <= 1024 * l.length
 | [], _ => by simp [bN]
 | w :: l, h => by
   have h1 := XK (h w (alN ..))
   have h2 := Lo fun x hx => h x (aiT _ hx)
   rw [gP, aiP]; omega
theorem SI {w : Nat} : ∀ {l : List Nat}, w ∈ l -> ES w <= bN l
 | [], h => by cases h
 | x :: l, h => by
   rw [gP]
   rcases ajW.1 h with rfl | h
   .omega
   .have := SI h; omega
theorem nP {d : Nat} {l : List Nat} : oM d l = true ↔ ∀ w ∈ l, w <= d := by simp [oM]
theorem V3 : ∀ (s : Nat), 0 < s -> ((s &&& (s - 1) = 0) ↔ 2 ^ s.log2 = s) := by
 intro s
 induction s using Nat.strongRecOn with
 | ind s ih =>
   intro h
   by_cases h1 : s = 1
   .subst h1; decide
   .have hl : s.log2 = (s / 2).log2 + 1 := by
     rw [Nat.log2_def, if_pos (by omega)]
    have hd : (s &&& (s - 1)) / 2 = s / 2 &&& (s - 1) / 2 := Nat.and_div_two
    have hm : (s &&& (s - 1)) % 2 = 0 := by
     rcases alL (s &&& (s - 1)) with h' | h'
     .exact h'
     .rw [Nat.and_mod_two_eq_one] at h'; omega
    rw [hl, ajU]
    rcases alL s with h2 | h2
    .have he : (s - 1) / 2 = s / 2 - 1 := by omega
     rw [he] at hd
     have := ih (s / 2) (by omega) (by omega)
     constructor
     .intro h0
      rw [h0] at hd
      have := this.1 (by omega)
      omega
     .intro h0
      have := this.2 (by omega)
      omega
    .have he : (s - 1) / 2 = s / 2 := by omega
     rw [he, Nat.and_self] at hd
     constructor
     .intro h0; omega
     .intro h0; omega
theorem pY {l : List Nat} {d : Nat} (h : dD l = d) (hd : d ≠ 0) : (∀ w ∈ l, w <= d) /\ d <= 11 /\ 2 <= l.length /\ l.length <= 256 /\ l.getLast? ≠ some 0 /\ bN l = 2 ^ d := by
 unfold dD at h
 split at h
 .rename_i hh
  obtain ⟨h1, h2, h3, h4, h5, h6, h7⟩ := hh
  subst h
  exact ⟨nP.1 h7, h6, h2, h3, h4, h5.symm⟩
 .exact absurd h.symm hd
theorem Yb {l : List Nat} {d : Nat} (h1 : ∀ w ∈ l, w <= d) (h2 : d <= 11) (h3 : 2 <= l.length) (h4 : l.length <= 256) (h5 : l.getLast? ≠ some 0) (h6 : bN l = 2 ^ d) : dD l = d := by
 unfold dD
 have hl : (bN l).log2 = d := by rw [h6, anK]
 rw [hl, if_pos ⟨nP.2 fun w hw => akT (h1 w hw) h2, h3, h4, h5, h6.symm, h2, nP.2 h1⟩]
def nX (l : List Nat) (w : Nat) : Nat := bN (l.filter fun x => decide (x < w))
def EW (l : List Nat) (s : Nat) : Nat := nX l (l.getD s 0) + (l.take s).count (l.getD s 0) * 2 ^ (l.getD s 0 - 1)
def A5 (l : List Nat) (d s : Nat) : Nat × Nat := if l.getD s 0 = 0 then (0, 0) else (d + 1 - l.getD s 0, EW l s / 2 ^ (l.getD s 0 - 1))
theorem Fx (l : List Nat) (w : Nat) (hw : 1 <= w) : nX l (w + 1) = nX l w + l.count w * 2 ^ (w - 1) := by
 unfold nX
 induction l with
 | nil => simp [bN]
 | cons x l ih =>
   rw [alF, amH, amH]
   by_cases h1 : x < w
   .rw [if_pos (by simp; omega), if_pos (by simp; omega), gP, gP, ih]
    have : (x == w) = false := by simp; omega
    rw [this]; simp; omega
   .by_cases h2 : x = w
    .subst h2
     rw [if_pos (by simp), if_neg (by simp), gP, ih]
     have : ES x = 2 ^ (x - 1) := by unfold ES; rw [if_neg (by omega)]
     rw [this]; simp [ajR]; omega
    .rw [if_neg (by simp; omega), if_neg (by simp; omega), ih]
     have : (x == w) = false := by simpa using h2
     rw [this]; simp
theorem RM (l : List Nat) : nX l 1 = 0 := by
 unfold nX
 induction l with
 | nil => rfl
 | cons x l ih =>
   rw [amH]
   split
   .rename_i h
    have : x = 0 := by simp at h; omega
    subst this
    rw [gP, ih] <;> rfl
   .exact ih
theorem Ns {l : List Nat} {d : Nat} (h : ∀ w ∈ l, w <= d) : nX l (d + 1) = bN l := by
 unfold nX
 rw [List.filter_eq_self.2 fun a ha => by have := h a ha; simp; omega]
theorem SH {l : List Nat} {d w : Nat} (hs : bN l = 2 ^ d) (hw : w <= d + 1) (h1 : 1 <= w) : 2 ^ (w - 1) ∣ nX l w := by
 have hsplit : ∀ l : List Nat, bN l = nX l w + bN (l.filter fun x => decide (w <= x)) := by
  intro l
  unfold nX
  induction l with
  | nil => rfl
  | cons x l ih =>
    rw [amH, amH, gP, ih]
    by_cases h : x < w
    .rw [if_pos (by simpa using h), if_neg (by simp; omega), gP]; omega
    .rw [if_neg (by simpa using h), if_pos (by simp; omega), gP]; omega
 have hhigh : 2 ^ (w - 1) ∣ bN (l.filter fun x => decide (w <= x)) := by
  generalize hL : l.filter (fun x => decide (w <= x)) = L
  have hge : ∀ x ∈ L, w <= x := fun x hx => by rw [<- hL] at hx; simpa using (amW.1 hx).2
  clear hL
  induction L with
  | nil => exact Nat.dvd_zero _
  | cons x L ih =>
    rw [gP]
    refine Nat.dvd_add ?_ (ih fun y hy => hge y (aiT _ hy))
    have := hge x (alN ..)
    unfold ES
    rw [if_neg (by omega)]
    exact Nat.pow_dvd_pow 2 (by omega)
 have htot : 2 ^ (w - 1) ∣ bN l := by rw [hs]; exact Nat.pow_dvd_pow 2 (by omega)
 rw [hsplit l] at htot
 exact (Nat.dvd_add_left hhigh).1 htot
def pD (l : List Nat) : Option Nat :=
 if oM 11 l = true /\ 1 <= l.length /\ l.length <= 255 /\ 0 < bN l /\ bl (bN l) <= 11 /\ 2 ^ (2 ^ bl (bN l) - bN l).log2 = 2 ^ bl (bN l) - bN l
 then some ((2 ^ bl (bN l) - bN l).log2 + 1) else none
theorem UA {l : List Nat} {k : Nat} (h : pD l = some k) : dD (l ++ [k]) = bl (bN l) /\ 1 <= bl (bN l) /\ 1 <= k /\ k <= 11 /\ l.length <= 255 /\ 1 <= l.length /\ ∀ x, dD (l ++ [x]) = bl (bN l) -> x = k := by
 unfold pD at h
 split at h
 .rename_i hh
  obtain ⟨h1, h2, h3, h4, h5, h6⟩ := hh
  have hk := ajE h
  have hlt := QD (bN l)
  have hle := RH (k := bN l) (by omega)
  have hb1 := KM (k := bN l) (by omega)
  generalize hD : bl (bN l) = D at *
  generalize hlog : (2 ^ D - bN l).log2 = k0 at *
  have hW : bN (l ++ [k]) = 2 ^ D := by
   rw [BK, gP, <- hk]
   have : ES (k0 + 1) = 2 ^ k0 := by unfold ES; rw [if_neg (by omega), akO]
   rw [this, h6]
   have : bN [] = 0 := rfl
   rw [this]; omega
  have hp2 : 2 ^ D = 2 * 2 ^ (D - 1) := by
   obtain ⟨E, rfl⟩ : ∃ E, D = E + 1 := ⟨D - 1, by omega⟩
   rw [akO, ajU, ajD]
  have hk0 : k0 <= D - 1 := by
   rcases aiS (D - 1) k0 with hq | hq
   .have := Nat.pow_lt_pow_right (a := 2) (by omega) hq
    omega
   .exact hq
  have hall : ∀ w ∈ l ++ [k], w <= D := by
   intro w hw
   rcases ajT.1 hw with hw | hw
   .have h7 := SI hw
    rcases aiS D w with hq | hq
    .exfalso
     unfold ES at h7
     rw [if_neg (by omega)] at h7
     have := aiK (n := 2) (by omega) (show D <= w - 1 by omega)
     omega
    .exact hq
   .rw [amM.1 hw]; omega
  refine ⟨Yb hall h5 (by simp; omega) (by simp; omega) (by rw [amR]; intro e; have := ajE e; omega) hW, hb1, by omega, by omega, h3, h2, fun x hx => ?_⟩
  obtain ⟨q1, q2, q3, q4, q5, q6⟩ := pY hx (by omega)
  rw [BK, gP] at q6
  have e0 : bN [] = 0 := rfl
  rw [amR] at q5
  have hx0 : x ≠ 0 := fun e => q5 (by rw [e])
  have hwx : ES x = 2 ^ (x - 1) := by unfold ES; rw [if_neg hx0]
  rw [hwx, e0] at q6
  have : 2 ^ (x - 1) = 2 ^ k0 := by omega
  have := congrArg Nat.log2 this
  rw [anK, anK] at this
  omega
 .cases h
theorem vE {l : List Nat} {s : Nat} (h : s < l.length) : l.getD s 0 ∈ l := by
 rw [aiJ, aiH h]; exact akK h
theorem ZZ {l : List Nat} {s : Nat} (h : s < l.length) : (l.take s).count (l.getD s 0) + 1 <= l.count (l.getD s 0) := by
 have hg : l.getD s 0 = l[s] := by rw [aiJ, aiH h] <;> rfl
 have e : l = l.take s ++ l[s] :: l.drop (s + 1) := by rw [<- ajK h, alQ]
 rw [hg]
 have : l.count l[s] = (l.take s ++ l[s] :: l.drop (s + 1)).count l[s] := by rw [<- e]
 rw [this, alS, alF]; simp
theorem KO {l : List Nat} {a b : Nat} (h1 : 1 <= a) (h : a <= b) : nX l a <= nX l b := by
 obtain ⟨c, rfl⟩ := Nat.exists_eq_add_of_le h
 induction c with
 | zero => exact aiM _
 | succ c ih =>
   have := Fx l (a + c) (by omega)
   rw [<- alJ]
   have := ih (by omega)
   omega
theorem Zn {l : List Nat} {s : Nat} (h : s < l.length) (h0 : l.getD s 0 ≠ 0) : EW l s + 2 ^ (l.getD s 0 - 1) <= nX l (l.getD s 0 + 1) := by
 have h1 := ZZ h
 rw [Fx l _ (by omega)]
 unfold EW
 have := ajG (2 ^ (l.getD s 0 - 1)) h1
 rw [ajR] at this
 omega
theorem ZS {l : List Nat} {s d : Nat} (h : s < l.length) (h0 : l.getD s 0 ≠ 0) (hs : bN l = 2 ^ d) (hd : l.getD s 0 <= d) : 2 ^ (l.getD s 0 - 1) ∣ EW l s :=
 Nat.dvd_add (SH hs (by omega) (by omega)) (Nat.dvd_mul_left _ _)
theorem Yq {l : List Nat} {s d : Nat} (h : s < l.length) (h0 : l.getD s 0 ≠ 0) (hs : bN l = 2 ^ d) (hall : ∀ w ∈ l, w <= d) : EW l s / 2 ^ (l.getD s 0 - 1) < 2 ^ (d + 1 - l.getD s 0) := by
 have hd := hall _ (vE h)
 have h1 := Zn h h0
 have h2 := KO (l := l) (a := l.getD s 0 + 1) (b := d + 1) (by omega) (by omega)
 rw [Ns hall, hs] at h2
 rw [amQ (aiY _), <- akC, show d + 1 - l.getD s 0 + (l.getD s 0 - 1) = d from by omega]
 have := aiY (l.getD s 0 - 1)
 omega
theorem TP {l : List Nat} {s t d : Nat} (hsl : s < l.length) (htl : t < l.length) (hst : s ≠ t) (hs0 : l.getD s 0 ≠ 0) (ht0 : l.getD t 0 ≠ 0) (hw : l.getD t 0 <= l.getD s 0) (hs : bN l = 2 ^ d) (hall : ∀ w ∈ l, w <= d) :
 EW l t / 2 ^ (l.getD t 0 - 1) / 2 ^ (l.getD s 0 - l.getD t 0) ≠ EW l s / 2 ^ (l.getD s 0 - 1) := by
 rw [amN, <- akC, show l.getD t 0 - 1 + (l.getD s 0 - l.getD t 0) = l.getD s 0 - 1 from by omega]
 have hp := aiY (l.getD s 0 - 1)
 obtain ⟨q, hq⟩ := ZS hsl hs0 hs (hall _ (vE hsl))
 rw [hq, anB _ hp]
 rcases aiS (l.getD t 0) (l.getD s 0) with hlt | hge
 .have h1 := Zn htl ht0
  have h2 := KO (l := l) (a := l.getD t 0 + 1) (b := l.getD s 0) (by omega) (by omega)
  have h3 : nX l (l.getD s 0) <= EW l s := Nat.le_add_right _ _
  have hp2 := aiY (l.getD t 0 - 1)
  have : EW l t / 2 ^ (l.getD s 0 - 1) < q := by
   rw [amQ hp, ajD]
   omega
  omega
 .have he : l.getD t 0 = l.getD s 0 := by omega
  have hne : (l.take t).count (l.getD t 0) ≠ (l.take s).count (l.getD s 0) := by
   have key : ∀ {a b : Nat}, a < b -> b < l.length -> l.getD a 0 = l.getD b 0 -> (l.take a).count (l.getD a 0) < (l.take b).count (l.getD b 0) := by
    intro a b hab hb hab2
    have h1 := ZZ (l := l.take b) (s := a) (by rw [aiR]; omega)
    have h2 : (l.take b).getD a 0 = l.getD a 0 := by
     rw [aiJ, aiJ, akA hab]
    rw [h2, List.take_take, ajY (by omega)] at h1
    rw [<- hab2]; omega
   rcases Nat.lt_or_gt_of_ne hst with h | h
   .have := key h htl he.symm; omega
   .have := key h hsl he; omega
  intro h
  apply hne
  unfold EW at hq h
  rw [he] at h ⊢
  obtain ⟨r, hr⟩ := SH hs (by have := hall _ (vE hsl); omega) (by omega : 1 <= l.getD s 0)
  rw [hr] at hq h
  generalize 2 ^ (l.getD s 0 - 1) = p at *
  generalize (l.take t).count (l.getD s 0) = x at *
  generalize (l.take s).count (l.getD s 0) = y at *
  rw [ajD x p, <- amV, anB _ hp] at h
  rw [ajD y p, <- amV] at hq
  have := Nat.eq_of_mul_eq_mul_left hp hq
  omega
end Go.Pu
namespace Go.Proofs.Ytgpimhlgaokobaa
open Go Go.En Go.Pu
set_option maxRecDepth 4000
abbrev aU (l : List UInt8) : List Nat := l.map (·.toNat)
theorem cT (l : List UInt8) : (aU l).length = l.length := by simp
theorem VH {l : List UInt8} {i : Nat} (h : i < l.length) : (aU l)[i]? = some (l[i].toNat) := by rw [ajA, aiH h] <;> rfl
theorem Lr {l : List UInt8} {i : Nat} (h : i < l.length) : aU (l.take (i + 1)) = aU (l.take i) ++ [l[i].toNat] := by
 unfold aU
 rw [alD, aiH h, aiZ] <;> rfl
theorem YB {l : List UInt8} (h : 0 < l.length) : (aU l).getLast? = some 0 ↔ l[l.length - 1].toNat = 0 := by
 rw [amY, cT, VH (by omega)]
 simp
theorem Un (l : List UInt8) : ∀ w ∈ aU l, w < 256 := fun w hw => by
 obtain ⟨x, _, rfl⟩ := akM.1 hw
 exact ajV x
theorem WD {d : Nat} {l : List Nat} {x : Nat} : oM d (l ++ [x]) = (oM d l && decide (x <= d)) := by
 unfold oM; rw [List.all_append]; simp
theorem WS {d : Nat} {l : List Nat} {i : Nat} (h : oM d (l.take i) = false) : oM d l = false := by
 cases hq : oM d l with
 | false => rfl
 | true =>
   rw [nP] at hq
   have : oM d (l.take i) = true := nP.2 fun w hw => hq w (alB hw)
   rw [this] at h; cases h
theorem XI {v : anV} {l : List UInt8} {w : anU} (h : Bs w v l) (hl : l.length <= 100000) :
 aP pg pX #[v] w (fun r w' => r = .tuple #[.int .i64 (if oM 11 (aU l) = true then bN (aU l) else 0 : Nat), .bool (oM 11 (aU l))] /\ w' = w) := by
 refine Np ?_
 obtain ⟨a, n, c, rfl, hn, hc, hh⟩ := id h
 rw [aiI] at hn
 subst hn
 unfold Mw Ae Ag Bw Bx A2
 simp (disch := omega) only [aD, aN, aA]
 unfold AX AZ
 refine cK.rule (fun m (t : anV × anV) w' => ∃ i : Nat, m = l.length - i /\ t = (.int .i64 (bN (aU (l.take i)) : Nat), .int .i64 i) /\ i <= l.length /\ oM 11 (aU (l.take i)) = true /\ w' = w) l.length
  ⟨0, rfl, by simp [bN], by omega, by simp [oM], rfl⟩ ?_
 rintro m t w1 ⟨i, rfl, rfl, hi, hle, rfl⟩
 unfold tC Bi
 by_cases hlt : i < l.length
 .have d1 : decide ((i : Int) < (l.length : Int)) = true := by simp; omega
  obtain ⟨b, off, rfl, hcell⟩ := slA h (by omega)
  have g1 := hcell i hlt
  rw [ajA, aiH hlt] at g1
  simp only [ajS, lL] at g1
  have ht := Lr hlt
  have hx : (l[i]).toNat < 256 := ajV _
  have hwl := Lo (nP.1 hle)
  rw [cT, aiR] at hwl
  have hsn : oM 11 (aU (l.take (i + 1))) = (oM 11 (aU (l.take i)) && decide ((l[i]).toNat <= 11)) := by rw [ht, WD]
  have hwn : bN (aU (l.take (i + 1))) = bN (aU (l.take i)) + ES (l[i]).toNat := by rw [ht, BK, gP] <;> rfl
  have hbad : oM 11 (aU (l.take (i + 1))) = false -> oM 11 (aU l) = false := fun h => WS (i := i + 1) (by rw [<- amT]; exact h)
  generalize (l[i]).toNat = x at *
  unfold tO
  by_cases h11 : 11 < x
  .have d2 : decide ((11 : Int) < (x : Int)) = true := by simp; omega
   have hf := hbad (by rw [hsn, hle, decide_eq_false (by omega)] <;> rfl)
   simp (disch := omega) only [aD, aY, d1, cJ, aiB, bQ, aT, aA, dY, g1, aH, dU, d2, fJ, LN, kM, and_true, aF]
   rw [hf]; simp
  .have d2 : decide ((11 : Int) < (x : Int)) = false := by simp; omega
   have hle1 : oM 11 (aU (l.take (i + 1))) = true := by rw [hsn, hle, decide_eq_true (by omega)] <;> rfl
   have hwp := XK (w := x) (by omega)
   by_cases h0 : 0 < x
   .have d3 : decide ((0 : Int) < (x : Int)) = true := by simp; omega
    have e1 : (x : Int) - 1 = ((x - 1 : Nat) : Int) := by omega
    have hsh := Yt (n := x - 1) (by omega)
    have hpw : ES x = 2 ^ (x - 1) := by unfold ES; rw [if_neg (by omega)]
    have e2 : ((bN (aU (l.take i)) : Nat) : Int) + ((2 ^ (x - 1) : Nat) : Int) = ((bN (aU (l.take i)) + 2 ^ (x - 1) : Nat) : Int) := by omega
    rw [hpw] at hwp hwn
    simp (disch := omega) only [aD, aY, d1, cJ, aiB, bQ, aT, aA, dY, g1, aH, dU, d2, d3, fJ, e1, LN, kM, hsh, e2, aF, and_true, aE]
    exact ⟨l.length - (i + 1), by omega, i + 1, rfl, by rw [hwn] <;> rfl, by omega, hle1⟩
   .have d3 : decide ((0 : Int) < (x : Int)) = false := by simp; omega
    have hpw : ES x = 0 := by unfold ES; rw [if_pos (by omega)]
    simp (disch := omega) only [aD, aY, d1, cJ, aiB, bQ, aT, aA, dY, g1, aH, dU, d2, d3, fJ, aE, and_true, aF]
    exact ⟨l.length - (i + 1), by omega, i + 1, rfl, by rw [hwn, hpw] <;> rfl, by omega, hle1⟩
 .have d1 : decide ((i : Int) < (l.length : Int)) = false := by simp; omega
  obtain rfl : i = l.length := by omega
  rw [amG] at *
  unfold uB
  simp (disch := omega) only [aD, aY, d1, aA, and_true, aE]
  rw [hle]; simp
end Go.Proofs.Ytgpimhlgaokobaa

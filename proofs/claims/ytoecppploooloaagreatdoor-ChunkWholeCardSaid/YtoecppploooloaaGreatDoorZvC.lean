/- Parts of the proof of ChunkWhole: merged and given short names by a program of ours. -/
import Derived.Test.YtoecppploooloaaGreatDoorZvB
set_option linter.unusedVariables false
set_option linter.unusedSimpArgs false
open Array renaming getD_eq_getD_getElem? → anZ, getElem?_eq_getElem → aoH, getElem?_setIfInBounds_self_of_lt → aoS, getElem?_setIfInBounds_ne → apA, getElem?_eq_none → apU
open Bool renaming false_eq_true → anO, not_false → anT, not_true → anU, and_eq_true → aoB
open Int renaming toNat_natCast → anP, fdiv_eq_ediv_of_nonneg → aqL, tdiv_eq_ediv_of_nonneg → aqZ, tmod_eq_emod_of_nonneg → arA
open List renaming getElem?_cons_zero → anM, getElem?_cons_succ → anN, length_map → anV, length_append → anW, getElem?_eq_getElem → anX, getD_eq_getElem?_getD → anY, mem_cons_of_mem → aoC, getElem?_eq_none → aoD, take_of_length_le → aoF, length_cons → aoG, getElem?_append_left → aoI, getElem?_map → aoJ, set_cons_zero → aoK, length_take → aoL, set_cons_succ → aoM, length_drop → aoN, getElem?_append_right → aoP, map_cons → aoT, append_assoc → aoU, mem_cons_self → aoV, map_append → aoX, all_eq_true → aoY, length_singleton → apD, length_eq_zero_iff → apE, mem_range → apF, mem_cons → apK, nil_append → apL, mem_map → apM, getElem?_take_of_lt → apO, getElem_mem → apP, getElem_of_mem → apQ, set_append_right → apS, mem_append → apV, mem_of_mem_take → apX, drop_eq_getElem_cons → aqA, append_nil → aqC, take_append_of_le_length → aqE, mem_of_getElem? → aqF, ext_getElem? → aqI, getElem_cons_succ → aqK, cons_append → aqM, drop_zero → aqQ, getElem?_eq_some_iff → aqR, length_set → aqT, take_append_drop → aqX, set_append_left → arB, drop_drop → arD, getElem?_replicate → arE, sum_cons → arF, getElem?_drop → arH, drop_eq_nil_of_le → arJ, drop_append_of_le_length → arK, take_add_one → arL, map_set → arT, take_length → arV, filter_cons → arW, mem_of_mem_drop → arX, map_take → arY, replicate_succ → arZ, getElem?_range → asA, getLast?_eq_getElem? → asD, take_left' → asE, mem_singleton → asH, eq_of_mem_replicate → asI, flatten_cons → asM, getElem_cons_zero → asO, countP_le_length → asR, mem_filter → asT, map_nil → asV, drop_left' → asX
open Nat renaming zero_add → anS, le_refl → aoA, lt_or_ge → aoE, pow_le_pow_right → aoO, mul_le_mul_right → aoQ, two_pow_pos → apC, add_mul → apG, mod_eq_of_lt → apH, add_zero → apI, mul_comm → apJ, le_trans → apN, mul_one → apT, pow_add → apY, min_eq_left → aqD, div_div_eq_div_mul → aqJ, eq_zero_or_pos → aqP, lt_of_lt_of_le → aqW, add_assoc → aqY, mul_add → arC, add_sub_cancel → arI, sub_self → arO, sub_zero → arP, zero_mul → arQ, div_lt_iff_lt_mul → arR, pow_succ → arS, div_le_self → asF, add_sub_cancel_left → asJ, mul_div_cancel_left → asK, lt_trichotomy → asL, zero_le → asN, le_total → asS, pow_dvd_pow → asW
open Option renaming isNone_some → anQ, isNone_none → anR, map_some → aoW
open Option.some renaming inj → aoZ
open UInt8 renaming toNat_lt → aqG, toNat_ofNat_of_lt' → asG
namespace Go.Proofs.YtoecppploooloaaGreatDoor
open Go Go.En
set_option maxRecDepth 4000
def alN : List Int := [IntKind.u64.wrap (11400714785074694791 + 14029467366897019727), 14029467366897019727, 0, IntKind.u64.wrap (0 - 11400714785074694791)]
def NU (vs : List Int) (s : List UInt8) (i : Nat) : List Int := vs.mapIdx fun j v => if j < i then acC v (EI ((s.drop (8 * j)).take 8)) else v
def Px : Nat -> List UInt8 -> List Int
 | 0, _ => alN
 | k + 1, L => NU (Px k L) ((L.drop (32 * k)).take 32) 4
theorem wJ (vs : List Int) (s : List UInt8) (i : Nat) : (NU vs s i).length = vs.length := by simp [NU]
theorem Ap : ∀ k L, (Px k L).length = 4
 | 0, _ => rfl
 | k + 1, L => by rw [Px, wJ, Ap k L]
theorem abZ (vs : List Int) (s : List UInt8) : NU vs s 0 = vs := by
 apply List.ext_getElem
 .simp [NU]
 .intro i h1 h2; simp [NU]
theorem afW (vs : List Int) (s : List UInt8) (i : Nat) (h : i < vs.length) : (NU vs s i)[i]? = some vs[i] := by
 rw [anX (by rw [wJ]; exact h)]; simp [NU]
theorem afD (vs : List Int) (s : List UInt8) (i : Nat) (h : i < vs.length) : (NU vs s i).set i (acC vs[i] (EI ((s.drop (8 * i)).take 8))) = NU vs s (i + 1) := by
 apply List.ext_getElem
 .simp [NU]
 .intro j h1 h2
  rw [List.getElem_set]
  simp only [NU, List.getElem_mapIdx]
  by_cases hij : i = j
  .subst hij; simp
  .simp only [hij, if_false]
   by_cases hj : j < i
   .rw [if_pos hj, if_pos (by omega)]
   .rw [if_neg hj, if_neg (by omega)]
theorem TU : ∀ k (L M : List UInt8), 32 * k <= L.length -> Px k (L ++ M) = Px k L
 | 0, _, _, _ => rfl
 | k + 1, L, M, h => by
   rw [Px, Px, TU k L M (by omega)]
   congr 1
   rw [arK (by omega), aqE (by rw [aoN]; omega)]
def lB (vs : List Int) (kept : List UInt8) (n all : Nat) : List asZ := vs.map (Value.int .u64) ++ (kept.map pB ++ [.int .i64 (n : Int), .int .u64 (all : Int)])
theorem sL {vs : List Int} {kept : List UInt8} {n all : Nat} (h1 : vs.length = 4) (h2 : kept.length = 32) : (lB vs kept n all).length = 38 := by
 simp [lB, h1, h2]
theorem Ud {vs : List Int} {kept : List UInt8} {n all : Nat} (i : Nat) (h : i < vs.length) : (lB vs kept n all)[i]? = some (.int .u64 vs[i]) := by
 unfold lB; rw [aoI (by simpa using h)]; simp [h]
theorem OQ {vs : List Int} {kept : List UInt8} {n all : Nat} (h1 : vs.length = 4) (i : Nat) (h : i < kept.length) : (lB vs kept n all)[4 + i]? = some (pB kept[i]) := by
 unfold lB
 rw [aoP (by simp [h1]), anV, h1, asJ, aoI (by simpa using h)]; simp [h]
theorem Jj {vs : List Int} {kept : List UInt8} {n all : Nat} (h1 : vs.length = 4) (h2 : kept.length = 32) : (lB vs kept n all)[36]? = some (.int .i64 (n : Int)) := by
 unfold lB
 rw [aoP (by simp [h1]), anV, h1, aoP (by simp [h2]), anV, h2] <;> rfl
theorem F7 {vs : List Int} {kept : List UInt8} {n all : Nat} (h1 : vs.length = 4) (h2 : kept.length = 32) : (lB vs kept n all)[37]? = some (.int .u64 (all : Int)) := by
 unfold lB
 rw [aoP (by simp [h1]), anV, h1, aoP (by simp [h2]), anV, h2] <;> rfl
theorem Ur {vs : List Int} {kept : List UInt8} {n all : Nat} (i : Nat) (x : Int) (h : i < vs.length) : (lB vs kept n all).set i (.int .u64 x) = lB (vs.set i x) kept n all := by
 unfold lB; rw [arB _ _ (by simpa using h), arT]
theorem MD {vs : List Int} {kept : List UInt8} {n all : Nat} (h1 : vs.length = 4) (h2 : kept.length = 32) (m : Nat) : (lB vs kept n all).set 36 (.int .i64 (m : Int)) = lB vs kept m all := by
 unfold lB
 rw [apS _ _ (by simp [h1]), anV, h1, apS _ _ (by simp [h2]), anV, h2] <;> rfl
theorem SN {vs : List Int} {kept : List UInt8} {n all : Nat} (h1 : vs.length = 4) (h2 : kept.length = 32) (m : Nat) : (lB vs kept n all).set 37 (.int .u64 (m : Int)) = lB vs kept n m := by
 unfold lB
 rw [apS _ _ (by simp [h1]), anV, h1, apS _ _ (by simp [h2]), anV, h2] <;> rfl
def Lm (l : List UInt8) (o : Nat) (x : List UInt8) : List UInt8 := l.take o ++ x ++ l.drop (o + x.length)
theorem VL {l : List UInt8} {o : Nat} {x : List UInt8} (h : o + x.length <= l.length) : (Lm l o x).length = l.length := by
 simp [Lm]; omega
theorem aaC {l : List UInt8} {o : Nat} {c : UInt8} {x : List UInt8} (h : o + (x.length + 1) <= l.length) : Lm (l.set o c) (o + 1) x = Lm l o (c :: x) := by
 unfold Lm
 rw [List.take_set, List.drop_set_of_lt (by omega)]
 have e : (l.take (o + 1)).set o c = l.take o ++ [c] := by
  rw [List.take_succ_eq_append_getElem (by omega), apS _ _ (by simp; omega)]
  simp only [aoL]
  rw [show o - min o l.length = 0 from by omega] <;> rfl
 rw [e]
 simp only [aoU, List.singleton_append, aoG, aqM, apL]
 rw [show o + 1 + x.length = o + (x.length + 1) from by omega]
theorem U9 {vs : List Int} {n all : Nat} (h1 : vs.length = 4) : ∀ (x kept : List UInt8) (o : Nat), o + x.length <= kept.length →
 qM (lB vs kept n all) (4 + o) (x.map pB) = lB vs (Lm kept o x) n all := by
 intro x
 induction x with
 | nil => intro kept o _; simp [qM, Lm]
 | cons c x ih =>
   intro kept o h
   rw [aoG] at h
   have e : (lB vs kept n all).set (4 + o) (pB c) = lB vs (kept.set o c) n all := by
    unfold lB
    rw [apS _ _ (by simp [h1]), anV, h1, asJ, arB _ _ (by simp; omega), arT]
   rw [aoT, qM, e, aqY, ih _ _ (by simp; omega), aaC (by omega)]
def ZD (w : asY) (b : Nat) (L : List UInt8) (all : Nat) : Prop :=
 ∃ kept, kept.length = 32 /\ kept.take (L.length % 32) = L.drop (32 * (L.length / 32)) /\ mP w b (lB (Px (L.length / 32) L) kept (L.length % 32) all)
abbrev TA (w : asY) (b : Nat) (L : List UInt8) : Prop := ZD w b L L.length
theorem agY (w : asY) : jD pg Pa #[] w (fun v w' => v = .pointer (some ⟨w.heap.size, 0, none⟩) /\ TA w' w.heap.size [] /\ jM w w' mM) := by
 refine W4 ?_
 simp (disch := omega) only [ZT, QN, gD, jF, cJ, stepR_skip, hO, iB, iP, iN, iK, iO, jI, iV, gK, iC, iF, iD, iH, hJ, iM, hU, iE, iW, iS, iJ, gQ, iR, iQ, iG, kU, kV, lF, lC, lH, lE, lJ, lG, lD, gB, Result.ok.injEq, Next.value.injEq, true_and, and_true, gZ, hZ, iX, iT, iU, jG, anP, gW, gU, gX, gT, gM, gI, gN, gL, fZ, fT, if_true, if_false, anO, anS, anQ, anR, anU, anT, anN, anM, fM, fK, fB, fQ, cU, eQ, eE, dJ, bJ, fR, fE, aL, dD, aZ, bM, bP, aO, cQ, cF, eP, aF, gS, aP, cK, aR, bS, fS, cI, cC, aB, gC, fA, aI, aG, bN, gO, aN, eU, dZ, dV, gG, dH, fC, dC, eF, eZ, eY, cB, cY, gJ, eD, bZ, bF, bY, bX, fO, aD, aE, aM, aV, bE, cS, bK, aA, fF, aH, cO, fI, eT, gH, bO, eM, eK, bW, fW, eS, eI, cZ, cL, dF, aX, bD, aQ, gA, aJ, dB, dY, bB, cH, fJ, dK, gE, fL, fH, fG, dS, aK, cG, dG, fX, fY, fD, dE, aT, dT, fV, cP, eX, fN, cD, bL, dP, aW, dX, dR, cN, eN, eL, aY, dI, bA, dO, dW, dN, bH, cR, cM, dM, bR, cW, cV, fP, bV, eH, eJ, gF, dU, dQ, dL, dA, bG, bQ, bU, bT, aS, cX, aU]
 refine Ce fun w1 o1 x1 s1 => ⟨rfl, ⟨List.replicate 32 0, rfl, rfl, ?_⟩, x1⟩
 exact o1
theorem Sg {w : asY} {b : Nat} {cs : List asZ} (h : mP w b cs) : mP (dr w) b cs := h.ext (jM.dr w mM) (fun h => h)
theorem WD (w0 : asY) (b : Nat) (vs : List Int) (kept : List UInt8) (all : Nat) (h1 : vs.length = 4) (h2 : kept.length = 32) (v : asZ) (R : asZ -> asZ -> asY -> Prop)
 (hR : ∀ w', mP w' b (lB (NU vs kept 4) kept 32 all) -> jM w0 w' (fun x => x = b) -> R (.pointer (some ⟨b, 0, none⟩)) v w') (w : asY) (ho : mP w b (lB vs kept 32 all)) (hx : jM w0 w (fun x => x = b)) :
 zY R (.pointer (some ⟨b, 0, none⟩)) v w := by
 simp (disch := omega) only [zY, El, Dj, Dy]
 refine kE.rule (fun n t w' => ∃ i : Nat, i <= 4 /\ n = 4 - i /\ t = .int .i64 (i : Int) /\ mP w' b (lB (NU vs kept i) kept 32 all) /\ jM w0 w' (fun x => x = b)) 4
  ⟨0, by omega, rfl, rfl, by rw [abZ]; exact ho, hx⟩ ?_
 rintro n t w' ⟨i, hi, rfl, rfl, ho, hx⟩
 by_cases hlt : i < 4
 .have hd : decide ((i : Int) < 4) = true := by simp; omega
  have hod := Sg ho
  have hv := afW vs kept i (by omega)
  have hc : (lB (NU vs kept i) kept 32 all)[i]? = some (.int .u64 vs[i]) := by
   rw [Ud i (by rw [wJ]; omega)]
   rw [anX (by rw [wJ]; omega)] at hv
   rw [aoZ hv]
  have t1 : (8 * (i : Int)).toNat = 8 * i := by omega
  have t2 : (8 * (i : Int) + 8).toNat = 8 * i + 8 := by omega
  simp (disch := omega) only [uE, gD, jF, cJ, stepR_skip, hO, iB, iP, iN, iK, iO, jI, iV, gK, iC, iF, iD, iH, hJ, iM, hU, iE, iW, iS, iJ, gQ, iR, iQ, iG, kU, kV, lF, lC, lH, lE, lJ, lG, lD, gB, Result.ok.injEq, Next.value.injEq, true_and, and_true, gZ, hZ, iX, iT, iU, jG, anP, gW, gU, gX, gT, gM, gI, gN, gL, fZ, fT, if_true, if_false, anO, anS, anQ, anR, anU, anT, anN, anM, fM, fK, fB, fQ, cU, eQ, eE, dJ, bJ, fR, fE, aL, dD, aZ, bM, bP, aO, cQ, cF, eP, aF, gS, aP, cK, aR, bS, fS, cI, cC, aB, gC, fA, aI, aG, bN, gO, aN, eU, dZ, dV, gG, dH, fC, dC, eF, eZ, eY, cB, cY, gJ, eD, bZ, bF, bY, bX, fO, aD, aE, aM, aV, bE, cS, bK, aA, fF, aH, cO, fI, eT, gH, bO, eM, eK, bW, fW, eS, eI, cZ, cL, dF, aX, bD, aQ, gA, aJ, dB, dY, bB, cH, fJ, dK, gE, fL, fH, fG, dS, aK, cG, dG, fX, fY, fD, dE, aT, dT, fV, cP, eX, fN, cD, bL, dP, aW, dX, dR, cN, eN, eL, aY, dI, bA, dO, dW, dN, bH, cR, cM, dM, bR, cW, cV, fP, bV, eH, eJ, gF, dU, dQ, dL, dA, bG, bQ, bU, bT, aS, cX, aU, hd, hod.cell, hc, t1, t2, Rd (show 8 * i ≠ 32 by omega)]
  have hs : ((kept.drop (8 * i)).take 8).length = 8 := by rw [aoL, aoN]; omega
  have hbs : Bs (dr w') (.slice (some ⟨b, 4 + 8 * i, none⟩) (8 * i + 8 - 8 * i) (32 - 8 * i)) ((kept.drop (8 * i)).take 8) := by
   rw [show 8 * i + 8 - 8 * i = ((kept.drop (8 * i)).take 8).length from by omega]
   refine hod.bs (by omega) fun j hj => ?_
   rw [aqY, OQ (by rw [wJ]; exact h1) (8 * i + j) (by omega)]
   simp
  refine (Rh _ _ _ hbs (by omega)).mono ?_
  rintro r w1 ⟨rfl, rfl⟩
  simp (disch := omega) only [gD, jF, cJ, stepR_skip, hO, iB, iP, iN, iK, iO, jI, iV, gK, iC, iF, iD, iH, hJ, iM, hU, iE, iW, iS, iJ, gQ, iR, iQ, iG, kU, kV, lF, lC, lH, lE, lJ, lG, lD, gB, Result.ok.injEq, Next.value.injEq, true_and, and_true, gZ, hZ, iX, iT, iU, jG, anP, gW, gU, gX, gT, gM, gI, gN, gL, fZ, fT, if_true, if_false, anO, anS, anQ, anR, anU, anT, anN, anM, fM, fK, fB, fQ, cU, eQ, eE, dJ, bJ, fR, fE, aL, dD, aZ, bM, bP, aO, cQ, cF, eP, aF, gS, aP, cK, aR, bS, fS, cI, cC, aB, gC, fA, aI, aG, bN, gO, aN, eU, dZ, dV, gG, dH, fC, dC, eF, eZ, eY, cB, cY, gJ, eD, bZ, bF, bY, bX, fO, aD, aE, aM, aV, bE, cS, bK, aA, fF, aH, cO, fI, eT, gH, bO, eM, eK, bW, fW, eS, eI, cZ, cL, dF, aX, bD, aQ, gA, aJ, dB, dY, bB, cH, fJ, dK, gE, fL, fH, fG, dS, aK, cG, dG, fX, fY, fD, dE, aT, dT, fV, cP, eX, fN, cD, bL, dP, aW, dX, dR, cN, eN, eL, aY, dI, bA, dO, dW, dN, bH, cR, cM, dM, bR, cW, cV, fP, bV, eH, eJ, gF, dU, dQ, dL, dA, bG, bQ, bU, bT, aS, cX, aU, hod.cell, hc]
  refine (To _ _ _).mono ?_
  rintro r w1 ⟨rfl, rfl⟩
  refine V9 hod rfl (by rw [sL (by rw [wJ]; exact h1) h2]; omega) fun w2 o2 x2 s2 => ?_
  rw [Ur i _ (by rw [wJ]; omega), afD vs kept i (by omega)] at o2
  exact ⟨4 - (i + 1), by omega, i + 1, by omega, rfl, rfl, o2, (hx.seq (jM.dr _ _)).seq x2⟩
 .have : i = 4 := by omega
  subst this
  have hd : decide (((4 : Nat) : Int) < 4) = false := by simp
  simp (disch := omega) only [uE, gD, jF, cJ, stepR_skip, hO, iB, iP, iN, iK, iO, jI, iV, gK, iC, iF, iD, iH, hJ, iM, hU, iE, iW, iS, iJ, gQ, iR, iQ, iG, kU, kV, lF, lC, lH, lE, lJ, lG, lD, gB, Result.ok.injEq, Next.value.injEq, true_and, and_true, gZ, hZ, iX, iT, iU, jG, anP, gW, gU, gX, gT, gM, gI, gN, gL, fZ, fT, if_true, if_false, anO, anS, anQ, anR, anU, anT, anN, anM, fM, fK, fB, fQ, cU, eQ, eE, dJ, bJ, fR, fE, aL, dD, aZ, bM, bP, aO, cQ, cF, eP, aF, gS, aP, cK, aR, bS, fS, cI, cC, aB, gC, fA, aI, aG, bN, gO, aN, eU, dZ, dV, gG, dH, fC, dC, eF, eZ, eY, cB, cY, gJ, eD, bZ, bF, bY, bX, fO, aD, aE, aM, aV, bE, cS, bK, aA, fF, aH, cO, fI, eT, gH, bO, eM, eK, bW, fW, eS, eI, cZ, cL, dF, aX, bD, aQ, gA, aJ, dB, dY, bB, cH, fJ, dK, gE, fL, fH, fG, dS, aK, cG, dG, fX, fY, fD, dE, aT, dT, fV, cP, eX, fN, cD, bL, dP, aW, dX, dR, cN, eN, eL, aY, dI, bA, dO, dW, dN, bH, cR, cM, dM, bR, cW, cV, fP, bV, eH, eJ, gF, dU, dQ, dL, dA, bG, bQ, bU, bT, aS, cX, aU, hd]
  exact hR _ ho hx
theorem WO (w0 : asY) (b : Nat) (L l : List UInt8) (_hlen : L.length + l.length <= 1099511627776) (R : asY -> Prop)
 (hR : ∀ w', ZD w' b (L ++ l) (L.length + l.length) -> jM w0 w' (fun x => x = b) -> R w') (v : asZ) (w : asY)
 (h : ZD w b L (L.length + l.length)) (hv : Bs w v l) (hb : ¬ KZ v (fun x => x = b)) (hx : jM w0 w (fun x => x = b)) :
 xQ R (.pointer (some ⟨b, 0, none⟩)) v w := by
 unfold xQ
 refine kE.rule (fun n t w' => ∃ m : Nat, m <= l.length /\ n = l.length - m /\ Bs w' t (l.drop m) /\ ¬ KZ t (fun x => x = b) /\ ZD w' b (L ++ l.take m) (L.length + l.length) /\ jM w0 w' (fun x => x = b)) l.length
  ⟨0, by omega, rfl, hv, hb, by simpa using h, hx⟩ ?_
 rintro n t w' ⟨m, hm, rfl, hv, hb, ⟨kept, h2, hk, ho⟩, hx⟩
 have hv' := hv
 obtain ⟨a, n, c, rfl, hn, hc, hcell⟩ := hv'
 rw [anV, aoN] at hn
 by_cases hlt : m < l.length
 .obtain ⟨b', o', rfl, hcell'⟩ := hcell (by omega)
  have hd : decide ((0 : Int) < (n : Int)) = true := by simp; omega
  have hM : (L ++ l.take m).length = L.length + m := by simp; omega
  rw [hM] at hk ho
  obtain ⟨q, hq⟩ : ∃ q, q = (L.length + m) / 32 := ⟨_, rfl⟩
  obtain ⟨r, hr⟩ : ∃ r, r = (L.length + m) % 32 := ⟨_, rfl⟩
  rw [<- hq, <- hr] at hk ho
  have hqr : L.length + m = 32 * q + r /\ r < 32 := by omega
  have h1 : (Px q (L ++ l.take m)).length = 4 := Ap _ _
  have hod := Sg ho
  have t1 : (r : Int).toNat = r := by omega
  simp (disch := omega) only [qS, sV, sW, wT, sP, tN, tY, zZ, rL, gD, jF, cJ, stepR_skip, hO, iB, iP, iN, iK, iO, jI, iV, gK, iC, iF, iD, iH, hJ, iM, hU, iE, iW, iS, iJ, gQ, iR, iQ, iG, kU, kV, lF, lC, lH, lE, lJ, lG, lD, gB, Result.ok.injEq, Next.value.injEq, true_and, and_true, gZ, hZ, iX, iT, iU, jG, anP, gW, gU, gX, gT, gM, gI, gN, gL, fZ, fT, if_true, if_false, anO, anS, anQ, anR, anU, anT, anN, anM, fM, fK, fB, fQ, cU, eQ, eE, dJ, bJ, fR, fE, aL, dD, aZ, bM, bP, aO, cQ, cF, eP, aF, gS, aP, cK, aR, bS, fS, cI, cC, aB, gC, fA, aI, aG, bN, gO, aN, eU, dZ, dV, gG, dH, fC, dC, eF, eZ, eY, cB, cY, gJ, eD, bZ, bF, bY, bX, fO, aD, aE, aM, aV, bE, cS, bK, aA, fF, aH, cO, fI, eT, gH, bO, eM, eK, bW, fW, eS, eI, cZ, cL, dF, aX, bD, aQ, gA, aJ, dB, dY, bB, cH, fJ, dK, gE, fL, fH, fG, dS, aK, cG, dG, fX, fY, fD, dE, aT, dT, fV, cP, eX, fN, cD, bL, dP, aW, dX, dR, cN, eN, eL, aY, dI, bA, dO, dW, dN, bH, cR, cM, dM, bR, cW, cV, fP, bV, eH, eJ, gF, dU, dQ, dL, dA, bG, bQ, bU, bT, aS, cX, aU, hd, hod.cell, Jj h1 h2, Rd (show r ≠ 32 by omega)]
  have hvd : Bs (dr w') (.slice (some ⟨b', o', none⟩) n c) (l.drop m) := hv.ext (jM.dr w' mM) (by unfold KZ mM; split <;> simp)
  refine X6 hod (by rw [sL h1 h2]; omega) hvd (DE _) fun w1 o1 x1 s1 => ?_
  obtain ⟨u, hu⟩ : ∃ u, u = min n (32 - r) := ⟨_, rfl⟩
  have hlm : (List.map pB (l.drop m)).length = n := by rw [anV, aoN, hn]
  rw [hlm] at o1 ⊢
  rw [<- hu] at o1 ⊢
  have hu1 : u <= n /\ u <= 32 - r /\ (u = n ∨ u = 32 - r) := by omega
  have hul : ((l.drop m).take u).length = u := by rw [aoL, aoN]; omega
  rw [<- arY, U9 h1 _ _ _ (by omega)] at o1
  obtain ⟨kept1, hk1⟩ : ∃ x, x = Lm kept r ((l.drop m).take u) := ⟨_, rfl⟩
  rw [<- hk1] at o1
  have h21 : kept1.length = 32 := by rw [hk1, VL (by omega)]; exact h2
  simp (disch := omega) only [gD, jF, cJ, stepR_skip, hO, iB, iP, iN, iK, iO, jI, iV, gK, iC, iF, iD, iH, hJ, iM, hU, iE, iW, iS, iJ, gQ, iR, iQ, iG, kU, kV, lF, lC, lH, lE, lJ, lG, lD, gB, Result.ok.injEq, Next.value.injEq, true_and, and_true, gZ, hZ, iX, iT, iU, jG, anP, gW, gU, gX, gT, gM, gI, gN, gL, fZ, fT, if_true, if_false, anO, anS, anQ, anR, anU, anT, anN, anM, fM, fK, fB, fQ, cU, eQ, eE, dJ, bJ, fR, fE, aL, dD, aZ, bM, bP, aO, cQ, cF, eP, aF, gS, aP, cK, aR, bS, fS, cI, cC, aB, gC, fA, aI, aG, bN, gO, aN, eU, dZ, dV, gG, dH, fC, dC, eF, eZ, eY, cB, cY, gJ, eD, bZ, bF, bY, bX, fO, aD, aE, aM, aV, bE, cS, bK, aA, fF, aH, cO, fI, eT, gH, bO, eM, eK, bW, fW, eS, eI, cZ, cL, dF, aX, bD, aQ, gA, aJ, dB, dY, bB, cH, fJ, dK, gE, fL, fH, fG, dS, aK, cG, dG, fX, fY, fD, dE, aT, dT, fV, cP, eX, fN, cD, bL, dP, aW, dX, dR, cN, eN, eL, aY, dI, bA, dO, dW, dN, bH, cR, cM, dM, bR, cW, cV, fP, bV, eH, eJ, gF, dU, dQ, dL, dA, bG, bQ, bU, bT, aS, cX, aU, o1.cell, Jj h1 h21]
  refine Mn o1 rfl (by rw [sL h1 h21]; omega) fun w2 o2 x2 s2 => ?_
  rw [<- Int.natCast_add, MD h1 h21] at o2
  have hx2 : jM w' w2 (fun x => x = b) := ((jM.dr w' _).seq x1).seq x2
  have hv2 := hv.ext hx2 hb
  have hv3 := hv2.drop hu1.1
  have hb3 := aaO (k := u) hb (by omega) (n - u)
  rw [<- List.map_drop, arD] at hv3
  have hM2 : L ++ l.take (m + u) = (L ++ l.take m) ++ (l.drop m).take u := by rw [aoU, List.take_add]
  have hacc : Px q (L ++ l.take (m + u)) = Px q (L ++ l.take m) := by rw [hM2]; exact TU _ _ _ (by omega)
  have hlen2 : (L ++ l.take (m + u)).length = L.length + (m + u) := by simp; omega
  have hkeep : kept1.take (r + u) = (L ++ l.take (m + u)).drop (32 * q) := by
   rw [hk1, hM2, arK (by omega), <- hk]
   unfold Lm
   rw [aqE (by simp; omega), aoF (by simp; omega)]
  rw [<- hacc] at o2
  simp (disch := omega) only [gD, jF, cJ, stepR_skip, hO, iB, iP, iN, iK, iO, jI, iV, gK, iC, iF, iD, iH, hJ, iM, hU, iE, iW, iS, iJ, gQ, iR, iQ, iG, kU, kV, lF, lC, lH, lE, lJ, lG, lD, gB, Result.ok.injEq, Next.value.injEq, true_and, and_true, gZ, hZ, iX, iT, iU, jG, anP, gW, gU, gX, gT, gM, gI, gN, gL, fZ, fT, if_true, if_false, anO, anS, anQ, anR, anU, anT, anN, anM, fM, fK, fB, fQ, cU, eQ, eE, dJ, bJ, fR, fE, aL, dD, aZ, bM, bP, aO, cQ, cF, eP, aF, gS, aP, cK, aR, bS, fS, cI, cC, aB, gC, fA, aI, aG, bN, gO, aN, eU, dZ, dV, gG, dH, fC, dC, eF, eZ, eY, cB, cY, gJ, eD, bZ, bF, bY, bX, fO, aD, aE, aM, aV, bE, cS, bK, aA, fF, aH, cO, fI, eT, gH, bO, eM, eK, bW, fW, eS, eI, cZ, cL, dF, aX, bD, aQ, gA, aJ, dB, dY, bB, cH, fJ, dK, gE, fL, fH, fG, dS, aK, cG, dG, fX, fY, fD, dE, aT, dT, fV, cP, eX, fN, cD, bL, dP, aW, dX, dR, cN, eN, eL, aY, dI, bA, dO, dW, dN, bH, cR, cM, dM, bR, cW, cV, fP, bV, eH, eJ, gF, dU, dQ, dL, dA, bG, bQ, bU, bT, aS, cX, aU, o2.cell, Jj (Ap _ _) h21]
  by_cases hfull : r + u = 32
  .have he : (((r + u : Nat) : Int) == 32) = true := by rw [hfull] <;> rfl
   rw [he]
   simp (disch := omega) only [gD, jF, cJ, stepR_skip, hO, iB, iP, iN, iK, iO, jI, iV, gK, iC, iF, iD, iH, hJ, iM, hU, iE, iW, iS, iJ, gQ, iR, iQ, iG, kU, kV, lF, lC, lH, lE, lJ, lG, lD, gB, Result.ok.injEq, Next.value.injEq, true_and, and_true, gZ, hZ, iX, iT, iU, jG, anP, gW, gU, gX, gT, gM, gI, gN, gL, fZ, fT, if_true, if_false, anO, anS, anQ, anR, anU, anT, anN, anM, fM, fK, fB, fQ, cU, eQ, eE, dJ, bJ, fR, fE, aL, dD, aZ, bM, bP, aO, cQ, cF, eP, aF, gS, aP, cK, aR, bS, fS, cI, cC, aB, gC, fA, aI, aG, bN, gO, aN, eU, dZ, dV, gG, dH, fC, dC, eF, eZ, eY, cB, cY, gJ, eD, bZ, bF, bY, bX, fO, aD, aE, aM, aV, bE, cS, bK, aA, fF, aH, cO, fI, eT, gH, bO, eM, eK, bW, fW, eS, eI, cZ, cL, dF, aX, bD, aQ, gA, aJ, dB, dY, bB, cH, fJ, dK, gE, fL, fH, fG, dS, aK, cG, dG, fX, fY, fD, dE, aT, dT, fV, cP, eX, fN, cD, bL, dP, aW, dX, dR, cN, eN, eL, aY, dI, bA, dO, dW, dN, bH, cR, cM, dM, bR, cW, cV, fP, bV, eH, eJ, gF, dU, dQ, dL, dA, bG, bQ, bU, bT, aS, cX, aU]
   rw [hfull] at o2 hkeep
   have h11 := Ap q (L ++ l.take (m + u))
   refine WD w2 b _ kept1 _ h11 h21 _ _ (fun w3 o3 x3 => ?_) w2 o2 (jM.refl _ _)
   have h13 : (NU (Px q (L ++ l.take (m + u))) kept1 4).length = 4 := by rw [wJ]; exact h11
   simp (disch := omega) only [qS, sV, sW, wT, sP, tN, tY, zZ, rL, gD, jF, cJ, stepR_skip, hO, iB, iP, iN, iK, iO, jI, iV, gK, iC, iF, iD, iH, hJ, iM, hU, iE, iW, iS, iJ, gQ, iR, iQ, iG, kU, kV, lF, lC, lH, lE, lJ, lG, lD, gB, Result.ok.injEq, Next.value.injEq, true_and, and_true, gZ, hZ, iX, iT, iU, jG, anP, gW, gU, gX, gT, gM, gI, gN, gL, fZ, fT, if_true, if_false, anO, anS, anQ, anR, anU, anT, anN, anM, fM, fK, fB, fQ, cU, eQ, eE, dJ, bJ, fR, fE, aL, dD, aZ, bM, bP, aO, cQ, cF, eP, aF, gS, aP, cK, aR, bS, fS, cI, cC, aB, gC, fA, aI, aG, bN, gO, aN, eU, dZ, dV, gG, dH, fC, dC, eF, eZ, eY, cB, cY, gJ, eD, bZ, bF, bY, bX, fO, aD, aE, aM, aV, bE, cS, bK, aA, fF, aH, cO, fI, eT, gH, bO, eM, eK, bW, fW, eS, eI, cZ, cL, dF, aX, bD, aQ, gA, aJ, dB, dY, bB, cH, fJ, dK, gE, fL, fH, fG, dS, aK, cG, dG, fX, fY, fD, dE, aT, dT, fV, cP, eX, fN, cD, bL, dP, aW, dX, dR, cN, eN, eL, aY, dI, bA, dO, dW, dN, bH, cR, cM, dM, bR, cW, cV, fP, bV, eH, eJ, gF, dU, dQ, dL, dA, bG, bQ, bU, bT, aS, cX, aU]
   refine Mn o3 rfl (by rw [sL h13 h21]; omega) fun w4 o4 x4 s4 => ?_
   have o4 : mP w4 b ((lB (NU (Px q (L ++ l.take (m + u))) kept1 4) kept1 32 (L.length + l.length)).set 36 (.int .i64 ((0 : Nat) : Int))) := o4
   rw [MD h13 h21] at o4
   have hx4 := x3.seq x4
   have hkk : kept1 = (L ++ l.take (m + u)).drop (32 * q) := by rw [<- hkeep, aoF (by omega)]
   refine ⟨l.length - (m + u), by omega, m + u, by omega, rfl, hv3.ext hx4 hb3, hb3, ⟨kept1, h21, ?_, ?_⟩, (hx.seq hx2).seq hx4⟩
   .have z : (L ++ l.take (m + u)).drop (32 * ((L.length + (m + u)) / 32)) = [] := arJ (by rw [hlen2]; omega)
    have z1 : (L.length + (m + u)) % 32 = 0 := by omega
    rw [hlen2, z, z1] <;> rfl
   .have z1 : (L.length + (m + u)) % 32 = 0 := by omega
    have z2 : (L.length + (m + u)) / 32 = q + 1 := by omega
    have z3 : kept1.take 32 = kept1 := aoF (by omega)
    rw [hlen2, z1, z2, Px, <- hkk, z3]
    exact o4
  .have he : (((r + u : Nat) : Int) == 32) = false := by rw [beq_eq_false_iff_ne]; omega
   rw [he]
   simp (disch := omega) only [gD, jF, cJ, stepR_skip, hO, iB, iP, iN, iK, iO, jI, iV, gK, iC, iF, iD, iH, hJ, iM, hU, iE, iW, iS, iJ, gQ, iR, iQ, iG, kU, kV, lF, lC, lH, lE, lJ, lG, lD, gB, Result.ok.injEq, Next.value.injEq, true_and, and_true, gZ, hZ, iX, iT, iU, jG, anP, gW, gU, gX, gT, gM, gI, gN, gL, fZ, fT, if_true, if_false, anO, anS, anQ, anR, anU, anT, anN, anM, fM, fK, fB, fQ, cU, eQ, eE, dJ, bJ, fR, fE, aL, dD, aZ, bM, bP, aO, cQ, cF, eP, aF, gS, aP, cK, aR, bS, fS, cI, cC, aB, gC, fA, aI, aG, bN, gO, aN, eU, dZ, dV, gG, dH, fC, dC, eF, eZ, eY, cB, cY, gJ, eD, bZ, bF, bY, bX, fO, aD, aE, aM, aV, bE, cS, bK, aA, fF, aH, cO, fI, eT, gH, bO, eM, eK, bW, fW, eS, eI, cZ, cL, dF, aX, bD, aQ, gA, aJ, dB, dY, bB, cH, fJ, dK, gE, fL, fH, fG, dS, aK, cG, dG, fX, fY, fD, dE, aT, dT, fV, cP, eX, fN, cD, bL, dP, aW, dX, dR, cN, eN, eL, aY, dI, bA, dO, dW, dN, bH, cR, cM, dM, bR, cW, cV, fP, bV, eH, eJ, gF, dU, dQ, dL, dA, bG, bQ, bU, bT, aS, cX, aU]
   refine ⟨l.length - (m + u), by omega, m + u, by omega, rfl, hv3, hb3, ⟨kept1, h21, ?_, ?_⟩, hx.seq hx2⟩
   .rw [hlen2, show (L.length + (m + u)) % 32 = r + u from by omega, show (L.length + (m + u)) / 32 = q from by omega]; exact hkeep
   .rw [hlen2, show (L.length + (m + u)) % 32 = r + u from by omega, show (L.length + (m + u)) / 32 = q from by omega]; exact o2
 .have hd : decide ((0 : Int) < (n : Int)) = false := by simp; omega
  simp (disch := omega) only [qS, sV, sW, wT, sP, tN, tY, zZ, rL, gD, jF, cJ, stepR_skip, hO, iB, iP, iN, iK, iO, jI, iV, gK, iC, iF, iD, iH, hJ, iM, hU, iE, iW, iS, iJ, gQ, iR, iQ, iG, kU, kV, lF, lC, lH, lE, lJ, lG, lD, gB, Result.ok.injEq, Next.value.injEq, true_and, and_true, gZ, hZ, iX, iT, iU, jG, anP, gW, gU, gX, gT, gM, gI, gN, gL, fZ, fT, if_true, if_false, anO, anS, anQ, anR, anU, anT, anN, anM, fM, fK, fB, fQ, cU, eQ, eE, dJ, bJ, fR, fE, aL, dD, aZ, bM, bP, aO, cQ, cF, eP, aF, gS, aP, cK, aR, bS, fS, cI, cC, aB, gC, fA, aI, aG, bN, gO, aN, eU, dZ, dV, gG, dH, fC, dC, eF, eZ, eY, cB, cY, gJ, eD, bZ, bF, bY, bX, fO, aD, aE, aM, aV, bE, cS, bK, aA, fF, aH, cO, fI, eT, gH, bO, eM, eK, bW, fW, eS, eI, cZ, cL, dF, aX, bD, aQ, gA, aJ, dB, dY, bB, cH, fJ, dK, gE, fL, fH, fG, dS, aK, cG, dG, fX, fY, fD, dE, aT, dT, fV, cP, eX, fN, cD, bL, dP, aW, dX, dR, cN, eN, eL, aY, dI, bA, dO, dW, dN, bH, cR, cM, dM, bR, cW, cV, fP, bV, eH, eJ, gF, dU, dQ, dL, dA, bG, bQ, bU, bT, aS, cX, aU, hd]
  refine hR _ ⟨kept, h2, ?_, ?_⟩ hx
  .have e : l.take m = l := aoF (by omega)
   rw [e] at hk; exact hk
  .have e : l.take m = l := aoF (by omega)
   rw [e] at ho; exact ho
theorem abV (b : Nat) (L l : List UInt8) (hlen : L.length + l.length <= 1099511627776) (v : asZ) (w : asY) (h : TA w b L) (hv : Bs w v l) (hb : ¬ KZ v (fun x => x = b)) :
 jD pg A6 #[.pointer (some ⟨b, 0, none⟩), v] w (fun r w' => r = .tuple #[] /\ TA w' b (L ++ l) /\ jM w w' (fun x => x = b)) := by
 refine PL ?_
 obtain ⟨kept, h2, hk, ho⟩ := h
 have h1 := Ap (L.length / 32) L
 have hv' := hv
 obtain ⟨a, n, c, rfl, hn, hc, hcell⟩ := hv'
 rw [anV] at hn
 simp (disch := omega) only [OB, CO, CM, CU, gD, jF, cJ, stepR_skip, hO, iB, iP, iN, iK, iO, jI, iV, gK, iC, iF, iD, iH, hJ, iM, hU, iE, iW, iS, iJ, gQ, iR, iQ, iG, kU, kV, lF, lC, lH, lE, lJ, lG, lD, gB, Result.ok.injEq, Next.value.injEq, true_and, and_true, gZ, hZ, iX, iT, iU, jG, anP, gW, gU, gX, gT, gM, gI, gN, gL, fZ, fT, if_true, if_false, anO, anS, anQ, anR, anU, anT, anN, anM, fM, fK, fB, fQ, cU, eQ, eE, dJ, bJ, fR, fE, aL, dD, aZ, bM, bP, aO, cQ, cF, eP, aF, gS, aP, cK, aR, bS, fS, cI, cC, aB, gC, fA, aI, aG, bN, gO, aN, eU, dZ, dV, gG, dH, fC, dC, eF, eZ, eY, cB, cY, gJ, eD, bZ, bF, bY, bX, fO, aD, aE, aM, aV, bE, cS, bK, aA, fF, aH, cO, fI, eT, gH, bO, eM, eK, bW, fW, eS, eI, cZ, cL, dF, aX, bD, aQ, gA, aJ, dB, dY, bB, cH, fJ, dK, gE, fL, fH, fG, dS, aK, cG, dG, fX, fY, fD, dE, aT, dT, fV, cP, eX, fN, cD, bL, dP, aW, dX, dR, cN, eN, eL, aY, dI, bA, dO, dW, dN, bH, cR, cM, dM, bR, cW, cV, fP, bV, eH, eJ, gF, dU, dQ, dL, dA, bG, bQ, bU, bT, aS, cX, aU, ho.cell, F7 h1 h2]
 refine V9 ho rfl (by rw [sL h1 h2]; omega) fun w1 o1 x1 s1 => ?_
 rw [<- Int.natCast_add, hn, SN h1 h2] at o1
 refine WO w b L l hlen _ (fun w' hh hx => ⟨?_, hx⟩) _ w1 ⟨kept, h2, hk, o1⟩ (hv.ext x1 hb) hb x1
 unfold TA; rw [anW]; exact hh
def jA (vs : List Int) : Nat -> Int
 | 0 => 0
 | i + 1 => IntKind.u64.wrap (jA vs i + Zb (vs.getD i 0) ([1, 7, 12, 18].getD i 0))
def jB (vs : List Int) : Nat -> Int
 | 0 => jA vs 4
 | i + 1 => IntKind.u64.wrap (IntKind.u64.wrap (Rg .u64 (jB vs i) (acC 0 (vs.getD i 0)) * 11400714785074694791) + 9650029242287828579)
def XS (L : List UInt8) : Int := if L.length < 32 then 2870177450012600261 else jB (Px (L.length / 32) L) 4
def adX (x : Int) : Int :=
 let y1 := IntKind.u64.wrap (Rg .u64 x (x.fdiv (2 ^ min (33 : Int).toNat IntKind.u64.bits)) * 14029467366897019727)
 let y2 := IntKind.u64.wrap (Rg .u64 y1 (y1.fdiv (2 ^ min (29 : Int).toNat IntKind.u64.bits)) * 1609587929392839161)
 Rg .u64 y2 (y2.fdiv (2 ^ min (32 : Int).toNat IntKind.u64.bits))
def Zv (x m : Int) : Int := IntKind.u64.wrap (IntKind.u64.wrap (Zb (Rg .u64 x (acC 0 m)) 27 * 11400714785074694791) + 9650029242287828579)
def ahW (x m : Int) : Int := IntKind.u64.wrap (IntKind.u64.wrap (Zb (Rg .u64 x (IntKind.u64.wrap (m * 11400714785074694791))) 23 * 14029467366897019727) + 1609587929392839161)
def alF (x : Int) (c : UInt8) : Int := IntKind.u64.wrap (Zb (Rg .u64 x (IntKind.u64.wrap ((c.toNat : Int) * 2870177450012600261))) 11 * 11400714785074694791)
def e8 (x : Int) (B : List UInt8) : Nat -> Int
 | 0 => x
 | j + 1 => Zv (e8 x B j) (EI ((B.drop (8 * j)).take 8))
def e1 (x : Int) (B : List UInt8) : Nat -> Int
 | 0 => x
 | j + 1 => alF (e1 x B j) (B.getD j 0)
def SZ (x : Int) (C : List UInt8) : Int × List UInt8 := if 4 <= C.length then (ahW x (EI (C.take 4)), C.drop 4) else (x, C)
def adY (x : Int) (B : List UInt8) : Int :=
 let r := SZ (e8 x B (B.length / 8)) (B.drop (8 * (B.length / 8)))
 e1 r.1 r.2 r.2.length
def XXH (L : List UInt8) : Int := adX (adY (IntKind.u64.wrap (XS L + (L.length : Int))) (L.drop (32 * (L.length / 32))))
theorem Zc (b : Nat) (L : List UInt8) (hlen : L.length <= 1099511627776) (w : asY) (h : TA w b L) :
 jD pg zI #[.pointer (some ⟨b, 0, none⟩)] w (fun r w' => r = .int .u64 (XS L) /\ w' = w) := by
 refine Ou ?_
 obtain ⟨kept, h2, hk, ho⟩ := h
 have h1 := Ap (L.length / 32) L
 by_cases hs : L.length < 32
 .have hd : decide ((L.length : Int) < 32) = true := by simp; omega
  simp (disch := omega) only [GB, vH, uV, gD, jF, cJ, stepR_skip, hO, iB, iP, iN, iK, iO, jI, iV, gK, iC, iF, iD, iH, hJ, iM, hU, iE, iW, iS, iJ, gQ, iR, iQ, iG, kU, kV, lF, lC, lH, lE, lJ, lG, lD, gB, Result.ok.injEq, Next.value.injEq, true_and, and_true, gZ, hZ, iX, iT, iU, jG, anP, gW, gU, gX, gT, gM, gI, gN, gL, fZ, fT, if_true, if_false, anO, anS, anQ, anR, anU, anT, anN, anM, fM, fK, fB, fQ, cU, eQ, eE, dJ, bJ, fR, fE, aL, dD, aZ, bM, bP, aO, cQ, cF, eP, aF, gS, aP, cK, aR, bS, fS, cI, cC, aB, gC, fA, aI, aG, bN, gO, aN, eU, dZ, dV, gG, dH, fC, dC, eF, eZ, eY, cB, cY, gJ, eD, bZ, bF, bY, bX, fO, aD, aE, aM, aV, bE, cS, bK, aA, fF, aH, cO, fI, eT, gH, bO, eM, eK, bW, fW, eS, eI, cZ, cL, dF, aX, bD, aQ, gA, aJ, dB, dY, bB, cH, fJ, dK, gE, fL, fH, fG, dS, aK, cG, dG, fX, fY, fD, dE, aT, dT, fV, cP, eX, fN, cD, bL, dP, aW, dX, dR, cN, eN, eL, aY, dI, bA, dO, dW, dN, bH, cR, cM, dM, bR, cW, cV, fP, bV, eH, eJ, gF, dU, dQ, dL, dA, bG, bQ, bU, bT, aS, cX, aU, ho.cell, F7 h1 h2, hd, XS, hs]
 .have hd : decide ((L.length : Int) < 32) = false := by simp; omega
  obtain ⟨vs, hvs⟩ : ∃ vs, vs = Px (L.length / 32) L := ⟨_, rfl⟩
  have hH : XS L = jB vs 4 := by rw [hvs]; unfold XS; rw [if_neg hs]
  rw [hH]
  rw [<- hvs] at ho h1
  clear hvs hH
  simp (disch := omega) only [GB, xG, CR, Cz, Ct, C4, CG, C3, By, Bx, Bz, BO, uV, vH, gD, jF, cJ, stepR_skip, hO, iB, iP, iN, iK, iO, jI, iV, gK, iC, iF, iD, iH, hJ, iM, hU, iE, iW, iS, iJ, gQ, iR, iQ, iG, kU, kV, lF, lC, lH, lE, lJ, lG, lD, gB, Result.ok.injEq, Next.value.injEq, true_and, and_true, gZ, hZ, iX, iT, iU, jG, anP, gW, gU, gX, gT, gM, gI, gN, gL, fZ, fT, if_true, if_false, anO, anS, anQ, anR, anU, anT, anN, anM, fM, fK, fB, fQ, cU, eQ, eE, dJ, bJ, fR, fE, aL, dD, aZ, bM, bP, aO, cQ, cF, eP, aF, gS, aP, cK, aR, bS, fS, cI, cC, aB, gC, fA, aI, aG, bN, gO, aN, eU, dZ, dV, gG, dH, fC, dC, eF, eZ, eY, cB, cY, gJ, eD, bZ, bF, bY, bX, fO, aD, aE, aM, aV, bE, cS, bK, aA, fF, aH, cO, fI, eT, gH, bO, eM, eK, bW, fW, eS, eI, cZ, cL, dF, aX, bD, aQ, gA, aJ, dB, dY, bB, cH, fJ, dK, gE, fL, fH, fG, dS, aK, cG, dG, fX, fY, fD, dE, aT, dT, fV, cP, eX, fN, cD, bL, dP, aW, dX, dR, cN, eN, eL, aY, dI, bA, dO, dW, dN, bH, cR, cM, dM, bR, cW, cV, fP, bV, eH, eJ, gF, dU, dQ, dL, dA, bG, bQ, bU, bT, aS, cX, aU, ho.cell, F7 h1 h2, hd]
  refine kE.rule (fun n t w' => ∃ i : Nat, i <= 4 /\ n = 4 - i /\ t = (.int .u64 (jA vs i), .int .i64 (i : Int)) /\ w' = w) 4 ⟨0, by omega, rfl, rfl, rfl⟩ ?_
  rintro n t w' ⟨i, hi, rfl, rfl, rfl⟩
  by_cases hlt : i < 4
  .have hd : decide ((i : Int) < 4) = true := by simp; omega
   have hv := Ud (vs := vs) (kept := kept) (n := L.length % 32) (all := L.length) i (by omega)
   have hg : (#[Value.int .i64 1, .int .i64 7, .int .i64 12, .int .i64 18] : Array asZ)[i]? = some (.int .i64 (([1, 7, 12, 18].getD i 0 : Nat) : Int)) := by
    have : i = 0 ∨ i = 1 ∨ i = 2 ∨ i = 3 := by omega
    rcases this with rfl | rfl | rfl | rfl <;> rfl
   have ht : [1, 7, 12, 18].getD i 0 < 64 := by
    have : i = 0 ∨ i = 1 ∨ i = 2 ∨ i = 3 := by omega
    rcases this with rfl | rfl | rfl | rfl <;> decide
   simp (disch := omega) only [sO, gD, jF, cJ, stepR_skip, hO, iB, iP, iN, iK, iO, jI, iV, gK, iC, iF, iD, iH, hJ, iM, hU, iE, iW, iS, iJ, gQ, iR, iQ, iG, kU, kV, lF, lC, lH, lE, lJ, lG, lD, gB, Result.ok.injEq, Next.value.injEq, true_and, and_true, gZ, hZ, iX, iT, iU, jG, anP, gW, gU, gX, gT, gM, gI, gN, gL, fZ, fT, if_true, if_false, anO, anS, anQ, anR, anU, anT, anN, anM, fM, fK, fB, fQ, cU, eQ, eE, dJ, bJ, fR, fE, aL, dD, aZ, bM, bP, aO, cQ, cF, eP, aF, gS, aP, cK, aR, bS, fS, cI, cC, aB, gC, fA, aI, aG, bN, gO, aN, eU, dZ, dV, gG, dH, fC, dC, eF, eZ, eY, cB, cY, gJ, eD, bZ, bF, bY, bX, fO, aD, aE, aM, aV, bE, cS, bK, aA, fF, aH, cO, fI, eT, gH, bO, eM, eK, bW, fW, eS, eI, cZ, cL, dF, aX, bD, aQ, gA, aJ, dB, dY, bB, cH, fJ, dK, gE, fL, fH, fG, dS, aK, cG, dG, fX, fY, fD, dE, aT, dT, fV, cP, eX, fN, cD, bL, dP, aW, dX, dR, cN, eN, eL, aY, dI, bA, dO, dW, dN, bH, cR, cM, dM, bR, cW, cV, fP, bV, eH, eJ, gF, dU, dQ, dL, dA, bG, bQ, bU, bT, aS, cX, aU, hd, hg, ho.cell, hv]
   refine (SR _ _ ht _).mono ?_
   rintro r w1 ⟨rfl, rfl⟩
   simp (disch := omega) only [gD, jF, cJ, stepR_skip, hO, iB, iP, iN, iK, iO, jI, iV, gK, iC, iF, iD, iH, hJ, iM, hU, iE, iW, iS, iJ, gQ, iR, iQ, iG, kU, kV, lF, lC, lH, lE, lJ, lG, lD, gB, Result.ok.injEq, Next.value.injEq, true_and, and_true, gZ, hZ, iX, iT, iU, jG, anP, gW, gU, gX, gT, gM, gI, gN, gL, fZ, fT, if_true, if_false, anO, anS, anQ, anR, anU, anT, anN, anM, fM, fK, fB, fQ, cU, eQ, eE, dJ, bJ, fR, fE, aL, dD, aZ, bM, bP, aO, cQ, cF, eP, aF, gS, aP, cK, aR, bS, fS, cI, cC, aB, gC, fA, aI, aG, bN, gO, aN, eU, dZ, dV, gG, dH, fC, dC, eF, eZ, eY, cB, cY, gJ, eD, bZ, bF, bY, bX, fO, aD, aE, aM, aV, bE, cS, bK, aA, fF, aH, cO, fI, eT, gH, bO, eM, eK, bW, fW, eS, eI, cZ, cL, dF, aX, bD, aQ, gA, aJ, dB, dY, bB, cH, fJ, dK, gE, fL, fH, fG, dS, aK, cG, dG, fX, fY, fD, dE, aT, dT, fV, cP, eX, fN, cD, bL, dP, aW, dX, dR, cN, eN, eL, aY, dI, bA, dO, dW, dN, bH, cR, cM, dM, bR, cW, cV, fP, bV, eH, eJ, gF, dU, dQ, dL, dA, bG, bQ, bU, bT, aS, cX, aU]
   refine ⟨4 - (i + 1), by omega, i + 1, by omega, rfl, ?_⟩
   have hvd : vs.getD i 0 = vs[i]'(by omega) := by rw [anY, anX (by omega)] <;> rfl
   rw [jA, hvd]
   rfl
  .have : i = 4 := by omega
   subst this
   have hd : decide (((4 : Nat) : Int) < 4) = false := by simp
   have ha := Vo (off := 0) ho (by rw [sL h1 h2]; omega)
   have hb : ((lB vs kept (L.length % 32) L.length).drop 0).take 4 = vs.map (Value.int .u64) := by
    rw [aqQ]; unfold lB; rw [aqE (by simp; omega), aoF (by simp; omega)]
   rw [hb] at ha
   simp (disch := omega) only [sO, gD, jF, cJ, stepR_skip, hO, iB, iP, iN, iK, iO, jI, iV, gK, iC, iF, iD, iH, hJ, iM, hU, iE, iW, iS, iJ, gQ, iR, iQ, iG, kU, kV, lF, lC, lH, lE, lJ, lG, lD, gB, Result.ok.injEq, Next.value.injEq, true_and, and_true, gZ, hZ, iX, iT, iU, jG, anP, gW, gU, gX, gT, gM, gI, gN, gL, fZ, fT, if_true, if_false, anO, anS, anQ, anR, anU, anT, anN, anM, fM, fK, fB, fQ, cU, eQ, eE, dJ, bJ, fR, fE, aL, dD, aZ, bM, bP, aO, cQ, cF, eP, aF, gS, aP, cK, aR, bS, fS, cI, cC, aB, gC, fA, aI, aG, bN, gO, aN, eU, dZ, dV, gG, dH, fC, dC, eF, eZ, eY, cB, cY, gJ, eD, bZ, bF, bY, bX, fO, aD, aE, aM, aV, bE, cS, bK, aA, fF, aH, cO, fI, eT, gH, bO, eM, eK, bW, fW, eS, eI, cZ, cL, dF, aX, bD, aQ, gA, aJ, dB, dY, bB, cH, fJ, dK, gE, fL, fH, fG, dS, aK, cG, dG, fX, fY, fD, dE, aT, dT, fV, cP, eX, fN, cD, bL, dP, aW, dX, dR, cN, eN, eL, aY, dI, bA, dO, dW, dN, bH, cR, cM, dM, bR, cW, cV, fP, bV, eH, eJ, gF, dU, dQ, dL, dA, bG, bQ, bU, bT, aS, cX, aU, hd, ha]
   refine kE.rule (fun n t w2 => ∃ i : Nat, i <= 4 /\ n = 4 - i /\ t = (.int .u64 (jB vs i), .int .i64 (i : Int)) /\ w2 = w') 4 ⟨0, by omega, rfl, rfl, rfl⟩ ?_
   rintro n t w2 ⟨i, hi, rfl, rfl, rfl⟩
   by_cases hlt : i < 4
   .have hd : decide ((i : Int) < 4) = true := by simp; omega
    have hg : ((vs.map (Value.int .u64)).toArray)[i]? = some (.int .u64 (vs[i]'(by omega))) := by simp [show i < vs.length by omega]
    simp (disch := omega) only [sU, gD, jF, cJ, stepR_skip, hO, iB, iP, iN, iK, iO, jI, iV, gK, iC, iF, iD, iH, hJ, iM, hU, iE, iW, iS, iJ, gQ, iR, iQ, iG, kU, kV, lF, lC, lH, lE, lJ, lG, lD, gB, Result.ok.injEq, Next.value.injEq, true_and, and_true, gZ, hZ, iX, iT, iU, jG, anP, gW, gU, gX, gT, gM, gI, gN, gL, fZ, fT, if_true, if_false, anO, anS, anQ, anR, anU, anT, anN, anM, fM, fK, fB, fQ, cU, eQ, eE, dJ, bJ, fR, fE, aL, dD, aZ, bM, bP, aO, cQ, cF, eP, aF, gS, aP, cK, aR, bS, fS, cI, cC, aB, gC, fA, aI, aG, bN, gO, aN, eU, dZ, dV, gG, dH, fC, dC, eF, eZ, eY, cB, cY, gJ, eD, bZ, bF, bY, bX, fO, aD, aE, aM, aV, bE, cS, bK, aA, fF, aH, cO, fI, eT, gH, bO, eM, eK, bW, fW, eS, eI, cZ, cL, dF, aX, bD, aQ, gA, aJ, dB, dY, bB, cH, fJ, dK, gE, fL, fH, fG, dS, aK, cG, dG, fX, fY, fD, dE, aT, dT, fV, cP, eX, fN, cD, bL, dP, aW, dX, dR, cN, eN, eL, aY, dI, bA, dO, dW, dN, bH, cR, cM, dM, bR, cW, cV, fP, bV, eH, eJ, gF, dU, dQ, dL, dA, bG, bQ, bU, bT, aS, cX, aU, hd, hg]
    refine (To _ _ _).mono ?_
    rintro r w1 ⟨rfl, rfl⟩
    simp (disch := omega) only [gD, jF, cJ, stepR_skip, hO, iB, iP, iN, iK, iO, jI, iV, gK, iC, iF, iD, iH, hJ, iM, hU, iE, iW, iS, iJ, gQ, iR, iQ, iG, kU, kV, lF, lC, lH, lE, lJ, lG, lD, gB, Result.ok.injEq, Next.value.injEq, true_and, and_true, gZ, hZ, iX, iT, iU, jG, anP, gW, gU, gX, gT, gM, gI, gN, gL, fZ, fT, if_true, if_false, anO, anS, anQ, anR, anU, anT, anN, anM, fM, fK, fB, fQ, cU, eQ, eE, dJ, bJ, fR, fE, aL, dD, aZ, bM, bP, aO, cQ, cF, eP, aF, gS, aP, cK, aR, bS, fS, cI, cC, aB, gC, fA, aI, aG, bN, gO, aN, eU, dZ, dV, gG, dH, fC, dC, eF, eZ, eY, cB, cY, gJ, eD, bZ, bF, bY, bX, fO, aD, aE, aM, aV, bE, cS, bK, aA, fF, aH, cO, fI, eT, gH, bO, eM, eK, bW, fW, eS, eI, cZ, cL, dF, aX, bD, aQ, gA, aJ, dB, dY, bB, cH, fJ, dK, gE, fL, fH, fG, dS, aK, cG, dG, fX, fY, fD, dE, aT, dT, fV, cP, eX, fN, cD, bL, dP, aW, dX, dR, cN, eN, eL, aY, dI, bA, dO, dW, dN, bH, cR, cM, dM, bR, cW, cV, fP, bV, eH, eJ, gF, dU, dQ, dL, dA, bG, bQ, bU, bT, aS, cX, aU]
    refine ⟨4 - (i + 1), by omega, i + 1, by omega, rfl, ?_⟩
    have hvd : vs.getD i 0 = vs[i]'(by omega) := by rw [anY, anX (by omega)] <;> rfl
    rw [jB, hvd]
    rfl
   .have : i = 4 := by omega
    subst this
    have hd : decide (((4 : Nat) : Int) < 4) = false := by simp
    simp (disch := omega) only [sU, gD, jF, cJ, stepR_skip, hO, iB, iP, iN, iK, iO, jI, iV, gK, iC, iF, iD, iH, hJ, iM, hU, iE, iW, iS, iJ, gQ, iR, iQ, iG, kU, kV, lF, lC, lH, lE, lJ, lG, lD, gB, Result.ok.injEq, Next.value.injEq, true_and, and_true, gZ, hZ, iX, iT, iU, jG, anP, gW, gU, gX, gT, gM, gI, gN, gL, fZ, fT, if_true, if_false, anO, anS, anQ, anR, anU, anT, anN, anM, fM, fK, fB, fQ, cU, eQ, eE, dJ, bJ, fR, fE, aL, dD, aZ, bM, bP, aO, cQ, cF, eP, aF, gS, aP, cK, aR, bS, fS, cI, cC, aB, gC, fA, aI, aG, bN, gO, aN, eU, dZ, dV, gG, dH, fC, dC, eF, eZ, eY, cB, cY, gJ, eD, bZ, bF, bY, bX, fO, aD, aE, aM, aV, bE, cS, bK, aA, fF, aH, cO, fI, eT, gH, bO, eM, eK, bW, fW, eS, eI, cZ, cL, dF, aX, bD, aQ, gA, aJ, dB, dY, bB, cH, fJ, dK, gE, fL, fH, fG, dS, aK, cG, dG, fX, fY, fD, dE, aT, dT, fV, cP, eX, fN, cD, bL, dP, aW, dX, dR, cN, eN, eL, aY, dI, bA, dO, dW, dN, bH, cR, cM, dM, bR, cW, cV, fP, bV, eH, eJ, gF, dU, dQ, dL, dA, bG, bQ, bU, bT, aS, cX, aU, hd]
theorem X9 (w : asY) (R : asZ -> asY -> Prop) (y : Int) (D : List UInt8) (v : asZ) (hv : Bs w v D) (hD : D.length < 32) (hR : R (.int .u64 (adX (e1 y D D.length))) w) :
 Ch R (.int .u64 y) v w := by
 have hv' := hv
 obtain ⟨a, n, c, rfl, hn, hc, hcell⟩ := hv'
 rw [anV] at hn
 simp (disch := omega) only [Ch, GJ, GL, GF, GA, gD, jF, cJ, stepR_skip, hO, iB, iP, iN, iK, iO, jI, iV, gK, iC, iF, iD, iH, hJ, iM, hU, iE, iW, iS, iJ, gQ, iR, iQ, iG, kU, kV, lF, lC, lH, lE, lJ, lG, lD, gB, Result.ok.injEq, Next.value.injEq, true_and, and_true, gZ, hZ, iX, iT, iU, jG, anP, gW, gU, gX, gT, gM, gI, gN, gL, fZ, fT, if_true, if_false, anO, anS, anQ, anR, anU, anT, anN, anM, fM, fK, fB, fQ, cU, eQ, eE, dJ, bJ, fR, fE, aL, dD, aZ, bM, bP, aO, cQ, cF, eP, aF, gS, aP, cK, aR, bS, fS, cI, cC, aB, gC, fA, aI, aG, bN, gO, aN, eU, dZ, dV, gG, dH, fC, dC, eF, eZ, eY, cB, cY, gJ, eD, bZ, bF, bY, bX, fO, aD, aE, aM, aV, bE, cS, bK, aA, fF, aH, cO, fI, eT, gH, bO, eM, eK, bW, fW, eS, eI, cZ, cL, dF, aX, bD, aQ, gA, aJ, dB, dY, bB, cH, fJ, dK, gE, fL, fH, fG, dS, aK, cG, dG, fX, fY, fD, dE, aT, dT, fV, cP, eX, fN, cD, bL, dP, aW, dX, dR, cN, eN, eL, aY, dI, bA, dO, dW, dN, bH, cR, cM, dM, bR, cW, cV, fP, bV, eH, eJ, gF, dU, dQ, dL, dA, bG, bQ, bU, bT, aS, cX, aU]
 refine kE.rule (fun m t w' => ∃ j : Nat, j <= n /\ m = n - j /\ t = (.int .u64 (e1 y D j), .int .i64 (j : Int)) /\ w' = w) n ⟨0, by omega, rfl, rfl, rfl⟩ ?_
 rintro m t w' ⟨j, hj, rfl, rfl, rfl⟩
 by_cases hlt : j < n
 .obtain ⟨b, off, rfl, hcell'⟩ := hcell (by omega)
  have hcl := hcell' j hlt
  rw [aoJ, anX (by omega), aoW] at hcl
  have hb : (D[j]'(by omega)).toNat < 256 := aqG _
  have hd : decide ((j : Int) < (n : Int)) = true := by simpa using hlt
  simp (disch := omega) only [yI, gD, jF, cJ, stepR_skip, hO, iB, iP, iN, iK, iO, jI, iV, gK, iC, iF, iD, iH, hJ, iM, hU, iE, iW, iS, iJ, gQ, iR, iQ, iG, kU, kV, lF, lC, lH, lE, lJ, lG, lD, gB, Result.ok.injEq, Next.value.injEq, true_and, and_true, gZ, hZ, iX, iT, iU, jG, anP, gW, gU, gX, gT, gM, gI, gN, gL, fZ, fT, if_true, if_false, anO, anS, anQ, anR, anU, anT, anN, anM, fM, fK, fB, fQ, cU, eQ, eE, dJ, bJ, fR, fE, aL, dD, aZ, bM, bP, aO, cQ, cF, eP, aF, gS, aP, cK, aR, bS, fS, cI, cC, aB, gC, fA, aI, aG, bN, gO, aN, eU, dZ, dV, gG, dH, fC, dC, eF, eZ, eY, cB, cY, gJ, eD, bZ, bF, bY, bX, fO, aD, aE, aM, aV, bE, cS, bK, aA, fF, aH, cO, fI, eT, gH, bO, eM, eK, bW, fW, eS, eI, cZ, cL, dF, aX, bD, aQ, gA, aJ, dB, dY, bB, cH, fJ, dK, gE, fL, fH, fG, dS, aK, cG, dG, fX, fY, fD, dE, aT, dT, fV, cP, eX, fN, cD, bL, dP, aW, dX, dR, cN, eN, eL, aY, dI, bA, dO, dW, dN, bH, cR, cM, dM, bR, cW, cV, fP, bV, eH, eJ, gF, dU, dQ, dL, dA, bG, bQ, bU, bT, aS, cX, aU, hd, hcl, pB]
  refine (SR _ 11 (by omega) _).mono ?_
  rintro r w1 ⟨rfl, rfl⟩
  simp (disch := omega) only [gD, jF, cJ, stepR_skip, hO, iB, iP, iN, iK, iO, jI, iV, gK, iC, iF, iD, iH, hJ, iM, hU, iE, iW, iS, iJ, gQ, iR, iQ, iG, kU, kV, lF, lC, lH, lE, lJ, lG, lD, gB, Result.ok.injEq, Next.value.injEq, true_and, and_true, gZ, hZ, iX, iT, iU, jG, anP, gW, gU, gX, gT, gM, gI, gN, gL, fZ, fT, if_true, if_false, anO, anS, anQ, anR, anU, anT, anN, anM, fM, fK, fB, fQ, cU, eQ, eE, dJ, bJ, fR, fE, aL, dD, aZ, bM, bP, aO, cQ, cF, eP, aF, gS, aP, cK, aR, bS, fS, cI, cC, aB, gC, fA, aI, aG, bN, gO, aN, eU, dZ, dV, gG, dH, fC, dC, eF, eZ, eY, cB, cY, gJ, eD, bZ, bF, bY, bX, fO, aD, aE, aM, aV, bE, cS, bK, aA, fF, aH, cO, fI, eT, gH, bO, eM, eK, bW, fW, eS, eI, cZ, cL, dF, aX, bD, aQ, gA, aJ, dB, dY, bB, cH, fJ, dK, gE, fL, fH, fG, dS, aK, cG, dG, fX, fY, fD, dE, aT, dT, fV, cP, eX, fN, cD, bL, dP, aW, dX, dR, cN, eN, eL, aY, dI, bA, dO, dW, dN, bH, cR, cM, dM, bR, cW, cV, fP, bV, eH, eJ, gF, dU, dQ, dL, dA, bG, bQ, bU, bT, aS, cX, aU]
  refine ⟨n - (j + 1), by omega, j + 1, by omega, rfl, ?_⟩
  have hg : D.getD j 0 = D[j]'(by omega) := by rw [anY, anX (by omega)] <;> rfl
  rw [e1, hg]
  rfl
 .have hd : decide ((j : Int) < (n : Int)) = false := by simpa using hlt
  have : j = D.length := by omega
  subst this
  simp (disch := omega) only [yI, Cp, gD, jF, cJ, stepR_skip, hO, iB, iP, iN, iK, iO, jI, iV, gK, iC, iF, iD, iH, hJ, iM, hU, iE, iW, iS, iJ, gQ, iR, iQ, iG, kU, kV, lF, lC, lH, lE, lJ, lG, lD, gB, Result.ok.injEq, Next.value.injEq, true_and, and_true, gZ, hZ, iX, iT, iU, jG, anP, gW, gU, gX, gT, gM, gI, gN, gL, fZ, fT, if_true, if_false, anO, anS, anQ, anR, anU, anT, anN, anM, fM, fK, fB, fQ, cU, eQ, eE, dJ, bJ, fR, fE, aL, dD, aZ, bM, bP, aO, cQ, cF, eP, aF, gS, aP, cK, aR, bS, fS, cI, cC, aB, gC, fA, aI, aG, bN, gO, aN, eU, dZ, dV, gG, dH, fC, dC, eF, eZ, eY, cB, cY, gJ, eD, bZ, bF, bY, bX, fO, aD, aE, aM, aV, bE, cS, bK, aA, fF, aH, cO, fI, eT, gH, bO, eM, eK, bW, fW, eS, eI, cZ, cL, dF, aX, bD, aQ, gA, aJ, dB, dY, bB, cH, fJ, dK, gE, fL, fH, fG, dS, aK, cG, dG, fX, fY, fD, dE, aT, dT, fV, cP, eX, fN, cD, bL, dP, aW, dX, dR, cN, eN, eL, aY, dI, bA, dO, dW, dN, bH, cR, cM, dM, bR, cW, cV, fP, bV, eH, eJ, gF, dU, dQ, dL, dA, bG, bQ, bU, bT, aS, cX, aU, hd]
  exact hR
theorem afB (w : asY) (R : asZ -> asY -> Prop) (x : Int) (B : List UInt8) (v : asZ) (hv : Bs w v B) (hB : B.length < 32) (hR : R (.int .u64 (adX (adY x B))) w) :
 AS R (.int .u64 x) v w := by
 unfold AS EY ES
 refine kE.rule (fun n t w' => ∃ (j : Nat) (u : asZ), 8 * j <= B.length /\ n = B.length - j /\ t = (.int .u64 (e8 x B j), u) /\ Bs w u (B.drop (8 * j)) /\ w' = w) B.length ⟨0, v, by omega, rfl, rfl, hv, rfl⟩ ?_
 rintro n t w' ⟨j, u, hj, rfl, rfl, hu, rfl⟩
 have hu' := hu
 obtain ⟨a, n, c, rfl, hn, hc, hcell⟩ := hu'
 rw [anV, aoN] at hn
 by_cases h8 : 8 <= n
 .obtain ⟨b', o', rfl, _⟩ := hcell (by omega)
  have hd : decide ((8 : Int) <= (n : Int)) = true := by simp; omega
  have t8 : (8 : Int).toNat = 8 := rfl
  simp (disch := omega) only [vX, gD, jF, cJ, stepR_skip, hO, iB, iP, iN, iK, iO, jI, iV, gK, iC, iF, iD, iH, hJ, iM, hU, iE, iW, iS, iJ, gQ, iR, iQ, iG, kU, kV, lF, lC, lH, lE, lJ, lG, lD, gB, Result.ok.injEq, Next.value.injEq, true_and, and_true, gZ, hZ, iX, iT, iU, jG, anP, gW, gU, gX, gT, gM, gI, gN, gL, fZ, fT, if_true, if_false, anO, anS, anQ, anR, anU, anT, anN, anM, fM, fK, fB, fQ, cU, eQ, eE, dJ, bJ, fR, fE, aL, dD, aZ, bM, bP, aO, cQ, cF, eP, aF, gS, aP, cK, aR, bS, fS, cI, cC, aB, gC, fA, aI, aG, bN, gO, aN, eU, dZ, dV, gG, dH, fC, dC, eF, eZ, eY, cB, cY, gJ, eD, bZ, bF, bY, bX, fO, aD, aE, aM, aV, bE, cS, bK, aA, fF, aH, cO, fI, eT, gH, bO, eM, eK, bW, fW, eS, eI, cZ, cL, dF, aX, bD, aQ, gA, aJ, dB, dY, bB, cH, fJ, dK, gE, fL, fH, fG, dS, aK, cG, dG, fX, fY, fD, dE, aT, dT, fV, cP, eX, fN, cD, bL, dP, aW, dX, dR, cN, eN, eL, aY, dI, bA, dO, dW, dN, bH, cR, cM, dM, bR, cW, cV, fP, bV, eH, eJ, gF, dU, dQ, dL, dA, bG, bQ, bU, bT, aS, cX, aU, hd, t8]
  have hs := hu.take h8
  rw [<- arY] at hs
  refine (Rh _ _ _ hs (by rw [aoL]; omega)).mono ?_
  rintro r w1 ⟨rfl, rfl⟩
  refine (To _ _ _).mono ?_
  rintro r w1 ⟨rfl, rfl⟩
  simp (disch := omega) only [gD, jF, cJ, stepR_skip, hO, iB, iP, iN, iK, iO, jI, iV, gK, iC, iF, iD, iH, hJ, iM, hU, iE, iW, iS, iJ, gQ, iR, iQ, iG, kU, kV, lF, lC, lH, lE, lJ, lG, lD, gB, Result.ok.injEq, Next.value.injEq, true_and, and_true, gZ, hZ, iX, iT, iU, jG, anP, gW, gU, gX, gT, gM, gI, gN, gL, fZ, fT, if_true, if_false, anO, anS, anQ, anR, anU, anT, anN, anM, fM, fK, fB, fQ, cU, eQ, eE, dJ, bJ, fR, fE, aL, dD, aZ, bM, bP, aO, cQ, cF, eP, aF, gS, aP, cK, aR, bS, fS, cI, cC, aB, gC, fA, aI, aG, bN, gO, aN, eU, dZ, dV, gG, dH, fC, dC, eF, eZ, eY, cB, cY, gJ, eD, bZ, bF, bY, bX, fO, aD, aE, aM, aV, bE, cS, bK, aA, fF, aH, cO, fI, eT, gH, bO, eM, eK, bW, fW, eS, eI, cZ, cL, dF, aX, bD, aQ, gA, aJ, dB, dY, bB, cH, fJ, dK, gE, fL, fH, fG, dS, aK, cG, dG, fX, fY, fD, dE, aT, dT, fV, cP, eX, fN, cD, bL, dP, aW, dX, dR, cN, eN, eL, aY, dI, bA, dO, dW, dN, bH, cR, cM, dM, bR, cW, cV, fP, bV, eH, eJ, gF, dU, dQ, dL, dA, bG, bQ, bU, bT, aS, cX, aU]
  refine (SR _ 27 (by omega) _).mono ?_
  rintro r w1 ⟨rfl, rfl⟩
  simp (disch := omega) only [gD, jF, cJ, stepR_skip, hO, iB, iP, iN, iK, iO, jI, iV, gK, iC, iF, iD, iH, hJ, iM, hU, iE, iW, iS, iJ, gQ, iR, iQ, iG, kU, kV, lF, lC, lH, lE, lJ, lG, lD, gB, Result.ok.injEq, Next.value.injEq, true_and, and_true, gZ, hZ, iX, iT, iU, jG, anP, gW, gU, gX, gT, gM, gI, gN, gL, fZ, fT, if_true, if_false, anO, anS, anQ, anR, anU, anT, anN, anM, fM, fK, fB, fQ, cU, eQ, eE, dJ, bJ, fR, fE, aL, dD, aZ, bM, bP, aO, cQ, cF, eP, aF, gS, aP, cK, aR, bS, fS, cI, cC, aB, gC, fA, aI, aG, bN, gO, aN, eU, dZ, dV, gG, dH, fC, dC, eF, eZ, eY, cB, cY, gJ, eD, bZ, bF, bY, bX, fO, aD, aE, aM, aV, bE, cS, bK, aA, fF, aH, cO, fI, eT, gH, bO, eM, eK, bW, fW, eS, eI, cZ, cL, dF, aX, bD, aQ, gA, aJ, dB, dY, bB, cH, fJ, dK, gE, fL, fH, fG, dS, aK, cG, dG, fX, fY, fD, dE, aT, dT, fV, cP, eX, fN, cD, bL, dP, aW, dX, dR, cN, eN, eL, aY, dI, bA, dO, dW, dN, bH, cR, cM, dM, bR, cW, cV, fP, bV, eH, eJ, gF, dU, dQ, dL, dA, bG, bQ, bU, bT, aS, cX, aU, t8]
  have hs2 := hu.drop h8
  rw [<- List.map_drop, arD] at hs2
  exact ⟨B.length - (j + 1), by omega, j + 1, _, by omega, rfl, rfl, by rw [arC]; exact hs2⟩
 .have hd : decide ((8 : Int) <= (n : Int)) = false := by simp; omega
  have hj8 : j = B.length / 8 := by omega
  obtain ⟨C, hC⟩ : ∃ C, C = B.drop (8 * j) := ⟨_, rfl⟩
  have hCl : C.length = n := by rw [hC, aoN, hn]
  have htail : adY x B = (let r := SZ (e8 x B j) C; e1 r.1 r.2 r.2.length) := by rw [hC, hj8] <;> rfl
  rw [htail] at hR
  rw [<- hC] at hu
  simp (disch := omega) only [vX, gD, jF, cJ, stepR_skip, hO, iB, iP, iN, iK, iO, jI, iV, gK, iC, iF, iD, iH, hJ, iM, hU, iE, iW, iS, iJ, gQ, iR, iQ, iG, kU, kV, lF, lC, lH, lE, lJ, lG, lD, gB, Result.ok.injEq, Next.value.injEq, true_and, and_true, gZ, hZ, iX, iT, iU, jG, anP, gW, gU, gX, gT, gM, gI, gN, gL, fZ, fT, if_true, if_false, anO, anS, anQ, anR, anU, anT, anN, anM, fM, fK, fB, fQ, cU, eQ, eE, dJ, bJ, fR, fE, aL, dD, aZ, bM, bP, aO, cQ, cF, eP, aF, gS, aP, cK, aR, bS, fS, cI, cC, aB, gC, fA, aI, aG, bN, gO, aN, eU, dZ, dV, gG, dH, fC, dC, eF, eZ, eY, cB, cY, gJ, eD, bZ, bF, bY, bX, fO, aD, aE, aM, aV, bE, cS, bK, aA, fF, aH, cO, fI, eT, gH, bO, eM, eK, bW, fW, eS, eI, cZ, cL, dF, aX, bD, aQ, gA, aJ, dB, dY, bB, cH, fJ, dK, gE, fL, fH, fG, dS, aK, cG, dG, fX, fY, fD, dE, aT, dT, fV, cP, eX, fN, cD, bL, dP, aW, dX, dR, cN, eN, eL, aY, dI, bA, dO, dW, dN, bH, cR, cM, dM, bR, cW, cV, fP, bV, eH, eJ, gF, dU, dQ, dL, dA, bG, bQ, bU, bT, aS, cX, aU, hd]
  by_cases h4 : 4 <= n
  .obtain ⟨b', o', rfl, _⟩ := hcell (by omega)
   have hd : decide ((4 : Int) <= (n : Int)) = true := by simp; omega
   have t4 : (4 : Int).toNat = 4 := rfl
   have ha : SZ (e8 x B j) C = (ahW (e8 x B j) (EI (C.take 4)), C.drop 4) := by unfold SZ; rw [if_pos (by omega)]
   rw [ha] at hR
   simp (disch := omega) only [Ck, Co, gD, jF, cJ, stepR_skip, hO, iB, iP, iN, iK, iO, jI, iV, gK, iC, iF, iD, iH, hJ, iM, hU, iE, iW, iS, iJ, gQ, iR, iQ, iG, kU, kV, lF, lC, lH, lE, lJ, lG, lD, gB, Result.ok.injEq, Next.value.injEq, true_and, and_true, gZ, hZ, iX, iT, iU, jG, anP, gW, gU, gX, gT, gM, gI, gN, gL, fZ, fT, if_true, if_false, anO, anS, anQ, anR, anU, anT, anN, anM, fM, fK, fB, fQ, cU, eQ, eE, dJ, bJ, fR, fE, aL, dD, aZ, bM, bP, aO, cQ, cF, eP, aF, gS, aP, cK, aR, bS, fS, cI, cC, aB, gC, fA, aI, aG, bN, gO, aN, eU, dZ, dV, gG, dH, fC, dC, eF, eZ, eY, cB, cY, gJ, eD, bZ, bF, bY, bX, fO, aD, aE, aM, aV, bE, cS, bK, aA, fF, aH, cO, fI, eT, gH, bO, eM, eK, bW, fW, eS, eI, cZ, cL, dF, aX, bD, aQ, gA, aJ, dB, dY, bB, cH, fJ, dK, gE, fL, fH, fG, dS, aK, cG, dG, fX, fY, fD, dE, aT, dT, fV, cP, eX, fN, cD, bL, dP, aW, dX, dR, cN, eN, eL, aY, dI, bA, dO, dW, dN, bH, cR, cM, dM, bR, cW, cV, fP, bV, eH, eJ, gF, dU, dQ, dL, dA, bG, bQ, bU, bT, aS, cX, aU, hd, t4]
   have hs := hu.take h4
   rw [<- arY] at hs
   refine (Rh _ _ _ hs (by rw [aoL]; omega)).mono ?_
   rintro r w1 ⟨rfl, rfl⟩
   simp (disch := omega) only [gD, jF, cJ, stepR_skip, hO, iB, iP, iN, iK, iO, jI, iV, gK, iC, iF, iD, iH, hJ, iM, hU, iE, iW, iS, iJ, gQ, iR, iQ, iG, kU, kV, lF, lC, lH, lE, lJ, lG, lD, gB, Result.ok.injEq, Next.value.injEq, true_and, and_true, gZ, hZ, iX, iT, iU, jG, anP, gW, gU, gX, gT, gM, gI, gN, gL, fZ, fT, if_true, if_false, anO, anS, anQ, anR, anU, anT, anN, anM, fM, fK, fB, fQ, cU, eQ, eE, dJ, bJ, fR, fE, aL, dD, aZ, bM, bP, aO, cQ, cF, eP, aF, gS, aP, cK, aR, bS, fS, cI, cC, aB, gC, fA, aI, aG, bN, gO, aN, eU, dZ, dV, gG, dH, fC, dC, eF, eZ, eY, cB, cY, gJ, eD, bZ, bF, bY, bX, fO, aD, aE, aM, aV, bE, cS, bK, aA, fF, aH, cO, fI, eT, gH, bO, eM, eK, bW, fW, eS, eI, cZ, cL, dF, aX, bD, aQ, gA, aJ, dB, dY, bB, cH, fJ, dK, gE, fL, fH, fG, dS, aK, cG, dG, fX, fY, fD, dE, aT, dT, fV, cP, eX, fN, cD, bL, dP, aW, dX, dR, cN, eN, eL, aY, dI, bA, dO, dW, dN, bH, cR, cM, dM, bR, cW, cV, fP, bV, eH, eJ, gF, dU, dQ, dL, dA, bG, bQ, bU, bT, aS, cX, aU]
   refine (SR _ 23 (by omega) _).mono ?_
   rintro r w1 ⟨rfl, rfl⟩
   simp (disch := omega) only [gD, jF, cJ, stepR_skip, hO, iB, iP, iN, iK, iO, jI, iV, gK, iC, iF, iD, iH, hJ, iM, hU, iE, iW, iS, iJ, gQ, iR, iQ, iG, kU, kV, lF, lC, lH, lE, lJ, lG, lD, gB, Result.ok.injEq, Next.value.injEq, true_and, and_true, gZ, hZ, iX, iT, iU, jG, anP, gW, gU, gX, gT, gM, gI, gN, gL, fZ, fT, if_true, if_false, anO, anS, anQ, anR, anU, anT, anN, anM, fM, fK, fB, fQ, cU, eQ, eE, dJ, bJ, fR, fE, aL, dD, aZ, bM, bP, aO, cQ, cF, eP, aF, gS, aP, cK, aR, bS, fS, cI, cC, aB, gC, fA, aI, aG, bN, gO, aN, eU, dZ, dV, gG, dH, fC, dC, eF, eZ, eY, cB, cY, gJ, eD, bZ, bF, bY, bX, fO, aD, aE, aM, aV, bE, cS, bK, aA, fF, aH, cO, fI, eT, gH, bO, eM, eK, bW, fW, eS, eI, cZ, cL, dF, aX, bD, aQ, gA, aJ, dB, dY, bB, cH, fJ, dK, gE, fL, fH, fG, dS, aK, cG, dG, fX, fY, fD, dE, aT, dT, fV, cP, eX, fN, cD, bL, dP, aW, dX, dR, cN, eN, eL, aY, dI, bA, dO, dW, dN, bH, cR, cM, dM, bR, cW, cV, fP, bV, eH, eJ, gF, dU, dQ, dL, dA, bG, bQ, bU, bT, aS, cX, aU, t4]
   have hs2 := hu.drop h4
   rw [<- List.map_drop] at hs2
   exact X9 _ _ _ _ _ hs2 (by rw [aoN]; omega) hR
  .have hd : decide ((4 : Int) <= (n : Int)) = false := by simp; omega
   have ha : SZ (e8 x B j) C = (e8 x B j, C) := by unfold SZ; rw [if_neg (by omega)]
   rw [ha] at hR
   simp (disch := omega) only [Ck, Co, gD, jF, cJ, stepR_skip, hO, iB, iP, iN, iK, iO, jI, iV, gK, iC, iF, iD, iH, hJ, iM, hU, iE, iW, iS, iJ, gQ, iR, iQ, iG, kU, kV, lF, lC, lH, lE, lJ, lG, lD, gB, Result.ok.injEq, Next.value.injEq, true_and, and_true, gZ, hZ, iX, iT, iU, jG, anP, gW, gU, gX, gT, gM, gI, gN, gL, fZ, fT, if_true, if_false, anO, anS, anQ, anR, anU, anT, anN, anM, fM, fK, fB, fQ, cU, eQ, eE, dJ, bJ, fR, fE, aL, dD, aZ, bM, bP, aO, cQ, cF, eP, aF, gS, aP, cK, aR, bS, fS, cI, cC, aB, gC, fA, aI, aG, bN, gO, aN, eU, dZ, dV, gG, dH, fC, dC, eF, eZ, eY, cB, cY, gJ, eD, bZ, bF, bY, bX, fO, aD, aE, aM, aV, bE, cS, bK, aA, fF, aH, cO, fI, eT, gH, bO, eM, eK, bW, fW, eS, eI, cZ, cL, dF, aX, bD, aQ, gA, aJ, dB, dY, bB, cH, fJ, dK, gE, fL, fH, fG, dS, aK, cG, dG, fX, fY, fD, dE, aT, dT, fV, cP, eX, fN, cD, bL, dP, aW, dX, dR, cN, eN, eL, aY, dI, bA, dO, dW, dN, bH, cR, cM, dM, bR, cW, cV, fP, bV, eH, eJ, gF, dU, dQ, dL, dA, bG, bQ, bU, bT, aS, cX, aU, hd]
   exact X9 _ _ _ _ _ hu (by omega) hR
theorem agM (b : Nat) (L : List UInt8) (hlen : L.length <= 1099511627776) (w : asY) (h : TA w b L) :
 jD pg D9 #[.pointer (some ⟨b, 0, none⟩)] w (fun r w' => r = .int .u64 (XXH L) /\ jM w w' mM) := by
 refine Rw ?_
 have h' := h
 obtain ⟨kept, h2, hk, ho⟩ := h'
 have h1 := Ap (L.length / 32) L
 have hod := Sg ho
 simp (disch := omega) only [RC, FF, EJ, gD, jF, cJ, stepR_skip, hO, iB, iP, iN, iK, iO, jI, iV, gK, iC, iF, iD, iH, hJ, iM, hU, iE, iW, iS, iJ, gQ, iR, iQ, iG, kU, kV, lF, lC, lH, lE, lJ, lG, lD, gB, Result.ok.injEq, Next.value.injEq, true_and, and_true, gZ, hZ, iX, iT, iU, jG, anP, gW, gU, gX, gT, gM, gI, gN, gL, fZ, fT, if_true, if_false, anO, anS, anQ, anR, anU, anT, anN, anM, fM, fK, fB, fQ, cU, eQ, eE, dJ, bJ, fR, fE, aL, dD, aZ, bM, bP, aO, cQ, cF, eP, aF, gS, aP, cK, aR, bS, fS, cI, cC, aB, gC, fA, aI, aG, bN, gO, aN, eU, dZ, dV, gG, dH, fC, dC, eF, eZ, eY, cB, cY, gJ, eD, bZ, bF, bY, bX, fO, aD, aE, aM, aV, bE, cS, bK, aA, fF, aH, cO, fI, eT, gH, bO, eM, eK, bW, fW, eS, eI, cZ, cL, dF, aX, bD, aQ, gA, aJ, dB, dY, bB, cH, fJ, dK, gE, fL, fH, fG, dS, aK, cG, dG, fX, fY, fD, dE, aT, dT, fV, cP, eX, fN, cD, bL, dP, aW, dX, dR, cN, eN, eL, aY, dI, bA, dO, dW, dN, bH, cR, cM, dM, bR, cW, cV, fP, bV, eH, eJ, gF, dU, dQ, dL, dA, bG, bQ, bU, bT, aS, cX, aU]
 refine (Zc b L hlen (dr w) ⟨kept, h2, hk, hod⟩).mono ?_
 rintro r w1 ⟨rfl, rfl⟩
 have hod2 := Sg hod
 have hr : L.length % 32 < 32 := by omega
 have hbs : Bs (dr (dr w)) (.slice (some ⟨b, 4, none⟩) (L.length % 32 - 0) (32 - 0)) (L.drop (32 * (L.length / 32))) := by
  rw [<- hk]
  have e : (kept.take (L.length % 32)).length = L.length % 32 := by rw [aoL]; omega
  rw [show L.length % 32 - 0 = (kept.take (L.length % 32)).length from by omega]
  refine hod2.bs (by omega) fun j hj => ?_
  rw [OQ h1 j (by omega)]
  simp
 have t0 : sT ⟨b, 4, none⟩ 32 0 1 = ⟨b, 4, none⟩ := by rw [Rd (by omega)]
 simp (disch := omega) only [gD, jF, cJ, stepR_skip, hO, iB, iP, iN, iK, iO, jI, iV, gK, iC, iF, iD, iH, hJ, iM, hU, iE, iW, iS, iJ, gQ, iR, iQ, iG, kU, kV, lF, lC, lH, lE, lJ, lG, lD, gB, Result.ok.injEq, Next.value.injEq, true_and, and_true, gZ, hZ, iX, iT, iU, jG, anP, gW, gU, gX, gT, gM, gI, gN, gL, fZ, fT, if_true, if_false, anO, anS, anQ, anR, anU, anT, anN, anM, fM, fK, fB, fQ, cU, eQ, eE, dJ, bJ, fR, fE, aL, dD, aZ, bM, bP, aO, cQ, cF, eP, aF, gS, aP, cK, aR, bS, fS, cI, cC, aB, gC, fA, aI, aG, bN, gO, aN, eU, dZ, dV, gG, dH, fC, dC, eF, eZ, eY, cB, cY, gJ, eD, bZ, bF, bY, bX, fO, aD, aE, aM, aV, bE, cS, bK, aA, fF, aH, cO, fI, eT, gH, bO, eM, eK, bW, fW, eS, eI, cZ, cL, dF, aX, bD, aQ, gA, aJ, dB, dY, bB, cH, fJ, dK, gE, fL, fH, fG, dS, aK, cG, dG, fX, fY, fD, dE, aT, dT, fV, cP, eX, fN, cD, bL, dP, aW, dX, dR, cN, eN, eL, aY, dI, bA, dO, dW, dN, bH, cR, cM, dM, bR, cW, cV, fP, bV, eH, eJ, gF, dU, dQ, dL, dA, bG, bQ, bU, bT, aS, cX, aU, hod.cell, hod2.cell, F7 h1 h2, Jj h1 h2, t0]
 refine afB _ _ _ _ _ hbs (by rw [aoN]; omega) ⟨rfl, (jM.dr w _).seq (jM.dr _ _)⟩
theorem aiT (L : List UInt8) (hlen : L.length <= 1099511627776) (v : asZ) (w : asY) (hv : Bs w v L) :
 jD pg OR #[v] w (fun r w' => r = .int .u64 (XXH L) /\ jM w w' mM) := by
 refine Xl ?_
 simp (disch := omega) only [adS, TT, gD, jF, cJ, stepR_skip, hO, iB, iP, iN, iK, iO, jI, iV, gK, iC, iF, iD, iH, hJ, iM, hU, iE, iW, iS, iJ, gQ, iR, iQ, iG, kU, kV, lF, lC, lH, lE, lJ, lG, lD, gB, Result.ok.injEq, Next.value.injEq, true_and, and_true, gZ, hZ, iX, iT, iU, jG, anP, gW, gU, gX, gT, gM, gI, gN, gL, fZ, fT, if_true, if_false, anO, anS, anQ, anR, anU, anT, anN, anM, fM, fK, fB, fQ, cU, eQ, eE, dJ, bJ, fR, fE, aL, dD, aZ, bM, bP, aO, cQ, cF, eP, aF, gS, aP, cK, aR, bS, fS, cI, cC, aB, gC, fA, aI, aG, bN, gO, aN, eU, dZ, dV, gG, dH, fC, dC, eF, eZ, eY, cB, cY, gJ, eD, bZ, bF, bY, bX, fO, aD, aE, aM, aV, bE, cS, bK, aA, fF, aH, cO, fI, eT, gH, bO, eM, eK, bW, fW, eS, eI, cZ, cL, dF, aX, bD, aQ, gA, aJ, dB, dY, bB, cH, fJ, dK, gE, fL, fH, fG, dS, aK, cG, dG, fX, fY, fD, dE, aT, dT, fV, cP, eX, fN, cD, bL, dP, aW, dX, dR, cN, eN, eL, aY, dI, bA, dO, dW, dN, bH, cR, cM, dM, bR, cW, cV, fP, bV, eH, eJ, gF, dU, dQ, dL, dA, bG, bQ, bU, bT, aS, cX, aU]
 refine (agY w).mono ?_
 rintro r w1 ⟨rfl, h1, x1⟩
 have hnb : ¬ KZ v (fun x => x = w.heap.size) := by
  intro hb
  refine hv.old ?_
  unfold KZ at *
  split at hb
  .omega
  .exact hb
 have hv1 := hv.ext x1 (by unfold KZ mM; split <;> simp)
 refine (abV _ [] L (by simpa using hlen) v w1 h1 hv1 hnb).mono ?_
 rintro r w2 ⟨rfl, h2, x2⟩
 refine (agM _ L hlen w2 h2).mono ?_
 rintro r w3 ⟨rfl, x3⟩
 exact ⟨rfl, (x1.new x2 (aoA _)).seq x3⟩
end Go.Proofs.YtoecppploooloaaGreatDoor
namespace Go.Proofs.YtoecppploooloaaGreatDoor
open Go Go.En Go.Pu
set_option maxRecDepth 4000
def XN (L : List UInt8) : Nat := (XXH L).toNat
theorem Tk (a b : Int) : 0 <= Rg .u64 a b /\ Rg .u64 a b < 2 ^ 64 := by
 unfold Rg
 have h : (BitVec.ofInt IntKind.u64.bits a ^^^ BitVec.ofInt IntKind.u64.bits b).toNat < 2 ^ 64 := BitVec.isLt _
 rw [hZ (by omega) (by omega)]
 omega
theorem alB (L : List UInt8) : XN L < 2 ^ 64 := by
 have := Tk
 unfold XN XXH adX
 simp only []
 generalize IntKind.u64.wrap (Rg .u64 (IntKind.u64.wrap _) _ * 1609587929392839161) = y
 have := Tk y (y.fdiv (2 ^ min (32 : Int).toNat IntKind.u64.bits))
 omega
theorem akT (L : List UInt8) : XXH L = (XN L : Int) := by
 have : 0 <= XXH L := by
  unfold XXH adX
  exact (Tk _ _).1
 unfold XN
 omega
theorem agI {w : asY} : jD pg Cg #[] w (fun r w' => r = .agg #[.int .u32 1, .int .u32 4, .int .u32 8] /\ jM w w' mM) := by
 refine Rb ?_
 unfold Qs EU
 refine rM fun w1 o1 x1 s1 => ?_
 try simp (disch := omega) only [gD, jF, cJ, stepR_skip, hO, iB, iP, iN, iK, iO, jI, iV, gK, iC, iF, iD, iH, hJ, iM, hU, iE, iW, iS, iJ, gQ, iR, iQ, iG, kU, kV, lF, lC, lH, lE, lJ, lG, lD, gB, Result.ok.injEq, Next.value.injEq, true_and, and_true, gZ, hZ, iX, iT, iU, jG, anP, gW, gU, gX, gT, gM, gI, gN, gL, fZ, fT, if_true, if_false, anO, anS, anQ, anR, anU, anT, anN, anM, fM, fK, fB, fQ, cU, eQ, eE, dJ, bJ, fR, fE, aL, dD, aZ, bM, bP, aO, cQ, cF, eP, aF, gS, aP, cK, aR, bS, fS, cI, cC, aB, gC, fA, aI, aG, bN, gO, aN, eU, dZ, dV, gG, dH, fC, dC, eF, eZ, eY, cB, cY, gJ, eD, bZ, bF, bY, bX, fO, aD, aE, aM, aV, bE, cS, bK, aA, fF, aH, cO, fI, eT, gH, bO, eM, eK, bW, fW, eS, eI, cZ, cL, dF, aX, bD, aQ, gA, aJ, dB, dY, bB, cH, fJ, dK, gE, fL, fH, fG, dS, aK, cG, dG, fX, fY, fD, dE, aT, dT, fV, cP, eX, fN, cD, bL, dP, aW, dX, dR, cN, eN, eL, aY, dI, bA, dO, dW, dN, bH, cR, cM, dM, bR, cW, cV, fP, bV, eH, eJ, gF, dU, dQ, dL, dA, bG, bQ, bU, bT, aS, cX, aU]
 refine pV o1 rfl (by simp [one]) (by simp) fun w2 o2 x2 s2 => ?_
 refine Fe o2 (by simp [qM]) ?_
 exact ⟨rfl, x1.new x2 (by omega)⟩
def skF (k : UInt8) (b : List UInt8) : List UInt8 := UInt8.ofNat (80 + k.toNat % 16) :: 42 :: 77 :: 24 :: UInt8.ofNat b.length :: 0 :: 0 :: 0 :: b
def adA : List (UInt8 × List UInt8) -> List UInt8
 | [] => []
 | (k, b) :: L => skF k b ++ adA L
def Y6 : Nat -> List (UInt8 × List UInt8) -> List Nat
 | _, [] => []
 | n, (k, b) :: L => (n + (8 + b.length)) :: Y6 (n + (8 + b.length)) L
def RwS (w : asY) (v : asZ) (ls : List (List UInt8)) : Prop := ∃ vs : List asZ, Sl w v vs /\ vs.length = ls.length /\ ∀ i (h : i < ls.length) (h' : i < vs.length), Bs w vs[i] ls[i]
theorem RwS.ext {w w' : asY} {v : asZ} {ls : List (List UInt8)} (h : RwS w v ls) (x : jM w w' mM) : RwS w' v ls := by
 obtain ⟨vs, h1, h2, h3⟩ := h
 exact ⟨vs, h1.ext x (kJ _), h2, fun i a b => (h3 i a b).ext x (kJ _)⟩
theorem RwS.len {w : asY} {v : asZ} {ls : List (List UInt8)} (h : RwS w v ls) : ∃ a c, v = .slice a ls.length c := by
 obtain ⟨vs, ⟨a, n, c, rfl, hn, hc, _⟩, h2, h3⟩ := h
 exact ⟨a, c, by rw [<- h2, hn]⟩
theorem RwS.at {w : asY} {v : asZ} {ls : List (List UInt8)} (h : RwS w v ls) {i : Nat} (hi : i < ls.length) : ∃ b o c u, v = .slice (some ⟨b, o, none⟩) ls.length c /\ w.cell? ⟨b, o + i, none⟩ = some u /\ Bs w u (ls[i]'hi) := by
 obtain ⟨vs, ⟨a, n, c, rfl, hn, hc, hh⟩, h2, h3⟩ := h
 obtain ⟨b, o, rfl, h4⟩ := hh (by omega)
 have h5 := h4 i (by omega)
 rw [anX (by omega)] at h5
 exact ⟨b, o, c, _, by rw [<- h2, hn], h5, h3 i hi (by omega)⟩
theorem akC {w : asY} {b : Nat} {l : List UInt8} (h : mP w b (l.map pB)) : Bs w (.slice (some ⟨b, 0, none⟩) l.length l.length) l :=
 h.bs (off := 0) (c := l.length) (aoA _) (fun i hi => by rw [anS, aoJ, anX hi] <;> rfl)
def iv (n : Nat) : asZ := .int .i64 (n : Nat)
def aiN (base : Nat) (w : asY) (va ve : asZ) (L : List (UInt8 × List UInt8)) : Prop :=
 ∃ S T : Nat -> Prop, LI w S 1 va (adA L).length ((adA L).map pB) /\ LI w T 1 ve (Y6 0 L).length ((Y6 0 L).map iv) /\ (∀ b, S b -> base <= b /\ ¬ T b) /\ (∀ b, T b -> base <= b)
theorem aiN.ext {base : Nat} {w w' : asY} {va ve : asZ} {L : List (UInt8 × List UInt8)} (h : aiN base w va ve L) (x : jM w w' mM) : aiN base w' va ve L := by
 obtain ⟨S, T, h1, h2, h3, h4⟩ := h
 exact ⟨S, T, h1.ext x (fun _ _ h => h), h2.ext x (fun _ _ h => h), h3, h4⟩
theorem ofN {n : Nat} (h : n < 256) : (UInt8.ofNat n).toNat = n := by rw [UInt8.toNat_ofNat']; omega
def b3 (x : Nat) : List UInt8 := [UInt8.ofNat (x % 256), UInt8.ofNat (x / 256 % 256), UInt8.ofNat (x / 65536 % 256)]
def smX (n : Nat) (b : Bool) : Nat := 8 * n + 2 + (if b then 1 else 0)
def ahO (n : Nat) (c : UInt8) (b : Bool) : List UInt8 := b3 (smX n b) ++ [c]
def Mh (n : Nat) (s : Bool) : List UInt8 := if n < 256 then [40, 181, 47, 253] ++ pD (32 + (if s then 4 else 0)) 1 ++ pD n 1 else [40, 181, 47, 253] ++ pD (32 + (if s then 4 else 0) + 64) 1 ++ pD (n - 256) 2
theorem XU (n : Nat) (s : Bool) : (Mh n s).length <= 7 := by
 unfold Mh
 split
 .rw [anW, anW, mE, mE]; simp
 .rw [anW, anW, mE, mE]; simp
def enT (b : List UInt8) (s : Bool) : List UInt8 := if s then pD (XN b) 4 else []
def Zw (b blk : List UInt8) (s : Bool) : List UInt8 := Mh b.length s ++ (blk ++ enT b s)
def ajJ (b : List UInt8) : List UInt8 := b3 (8 * b.length + 1) ++ b
theorem LL {a b : Nat} (k : Nat) (h : b < 2 ^ k) : a * 2 ^ k ||| b = a * 2 ^ k + b := by
 rw [<- Nat.shiftLeft_eq, Nat.shiftLeft_add_eq_or_of_lt h]
def uJ (k n : Nat) : List UInt8 := if n < 32 then pD (n * 8 + k) 1 else if n < 4096 then pD (n * 16 + 4 + k) 2 else pD (n * 16 + 12 + k) 3
theorem Mg (k n : Nat) : (uJ k n).length <= 3 := by
 unfold uJ; split
 .simp [mE]
 .split <;> simp [mE]
end Go.Proofs.YtoecppploooloaaGreatDoor
namespace Go.Pu
def PT (w : Nat) : Nat := if w = 0 then 0 else 2 ^ (w - 1)
def mJ (l : List Nat) : Nat := (l.map PT).sum
def AA (d : Nat) (l : List Nat) : Bool := l.all fun w => decide (w <= d)
def oC (l : List Nat) : Nat :=
 if AA 11 l = true /\ 2 <= l.length /\ l.length <= 256 /\ l.getLast? ≠ some 0 /\ 2 ^ (mJ l).log2 = mJ l /\ (mJ l).log2 <= 11 /\ AA (mJ l).log2 l = true then (mJ l).log2 else 0
theorem VM (a b : List Nat) : mJ (a ++ b) = mJ a + mJ b := by simp [mJ]
theorem qJ (w : Nat) (l : List Nat) : mJ (w :: l) = PT w + mJ l := by simp [mJ]
theorem ZA {w : Nat} (h : w <= 11) : PT w <= 1024 := by
 unfold PT
 split
 .omega
 .have : 2 ^ (w - 1) <= 2 ^ 10 := aoO (by omega) (by omega)
  omega
theorem S3 : ∀ {l : List Nat}, (∀ w ∈ l, w <= 11) -> mJ l <= 1024 * l.length
 | [], _ => by simp [mJ]
 | w :: l, h => by
   have h1 := ZA (h w (aoV ..))
   have h2 := S3 fun x hx => h x (aoC _ hx)
   rw [qJ, aoG]; omega
theorem X1 {w : Nat} : ∀ {l : List Nat}, w ∈ l -> PT w <= mJ l
 | [], h => by cases h
 | x :: l, h => by
   rw [qJ]
   rcases apK.1 h with rfl | h
   .omega
   .have := X1 h; omega
theorem AG {d : Nat} {l : List Nat} : AA d l = true ↔ ∀ w ∈ l, w <= d := by simp [AA]
theorem acZ : ∀ (s : Nat), 0 < s -> ((s &&& (s - 1) = 0) ↔ 2 ^ s.log2 = s) := by
 intro s
 induction s using Nat.strongRecOn with
 | ind s ih =>
   intro h
   by_cases h1 : s = 1
   .subst h1; decide
   .have hl : s.log2 = (s / 2).log2 + 1 := by
     rw [Nat.log2_def, if_pos (by omega)]
    have hd : (s &&& (s - 1)) / 2 = s / 2 &&& (s - 1) / 2 := Nat.and_div_two
    have hm : (s &&& (s - 1)) % 2 = 0 := by
     rcases Nat.mod_two_eq_zero_or_one (s &&& (s - 1)) with h' | h'
     .exact h'
     .rw [Nat.and_mod_two_eq_one] at h'; omega
    rw [hl, arS]
    rcases Nat.mod_two_eq_zero_or_one s with h2 | h2
    .have he : (s - 1) / 2 = s / 2 - 1 := by omega
     rw [he] at hd
     have := ih (s / 2) (by omega) (by omega)
     constructor
     .intro h0
      rw [h0] at hd
      have := this.1 (by omega)
      omega
     .intro h0
      have := this.2 (by omega)
      omega
    .have he : (s - 1) / 2 = s / 2 := by omega
     rw [he, Nat.and_self] at hd
     constructor
     .intro h0; omega
     .intro h0; omega
theorem Kl {l : List Nat} {d : Nat} (h : oC l = d) (hd : d ≠ 0) : (∀ w ∈ l, w <= d) /\ d <= 11 /\ 2 <= l.length /\ l.length <= 256 /\ l.getLast? ≠ some 0 /\ mJ l = 2 ^ d := by
 unfold oC at h
 split at h
 .rename_i hh
  obtain ⟨h1, h2, h3, h4, h5, h6, h7⟩ := hh
  subst h
  exact ⟨AG.1 h7, h6, h2, h3, h4, h5.symm⟩
 .exact absurd h.symm hd
theorem aaP {l : List Nat} {d : Nat} (h1 : ∀ w ∈ l, w <= d) (h2 : d <= 11) (h3 : 2 <= l.length) (h4 : l.length <= 256) (h5 : l.getLast? ≠ some 0) (h6 : mJ l = 2 ^ d) : oC l = d := by
 unfold oC
 have hl : (mJ l).log2 = d := by rw [h6, Nat.log2_two_pow]
 rw [hl, if_pos ⟨AG.2 fun w hw => apN (h1 w hw) h2, h3, h4, h5, h6.symm, h2, AG.2 h1⟩]
def vQ (l : List Nat) (w : Nat) : Nat := mJ (l.filter fun x => decide (x < w))
def IQ (l : List Nat) (s : Nat) : Nat := vQ l (l.getD s 0) + (l.take s).count (l.getD s 0) * 2 ^ (l.getD s 0 - 1)
def Fz (l : List Nat) (d s : Nat) : Nat × Nat := if l.getD s 0 = 0 then (0, 0) else (d + 1 - l.getD s 0, IQ l s / 2 ^ (l.getD s 0 - 1))
theorem I1 (l : List Nat) (w : Nat) (hw : 1 <= w) : vQ l (w + 1) = vQ l w + l.count w * 2 ^ (w - 1) := by
 unfold vQ
 induction l with
 | nil => simp [mJ]
 | cons x l ih =>
   rw [List.count_cons, arW, arW]
   by_cases h1 : x < w
   .rw [if_pos (by simp; omega), if_pos (by simp; omega), qJ, qJ, ih]
    have : (x == w) = false := by simp; omega
    rw [this]; simp; omega
   .by_cases h2 : x = w
    .subst h2
     rw [if_pos (by simp), if_neg (by simp), qJ, ih]
     have : PT x = 2 ^ (x - 1) := by unfold PT; rw [if_neg (by omega)]
     rw [this]; simp [apG]; omega
    .rw [if_neg (by simp; omega), if_neg (by simp; omega), ih]
     have : (x == w) = false := by simpa using h2
     rw [this]; simp
theorem Vv (l : List Nat) : vQ l 1 = 0 := by
 unfold vQ
 induction l with
 | nil => rfl
 | cons x l ih =>
   rw [arW]
   split
   .rename_i h
    have : x = 0 := by simp at h; omega
    subst this
    rw [qJ, ih] <;> rfl
   .exact ih
theorem QV {l : List Nat} {d : Nat} (h : ∀ w ∈ l, w <= d) : vQ l (d + 1) = mJ l := by
 unfold vQ
 rw [List.filter_eq_self.2 fun a ha => by have := h a ha; simp; omega]
theorem U4 {l : List Nat} {d w : Nat} (hs : mJ l = 2 ^ d) (hw : w <= d + 1) (h1 : 1 <= w) : 2 ^ (w - 1) ∣ vQ l w := by
 have hsplit : ∀ l : List Nat, mJ l = vQ l w + mJ (l.filter fun x => decide (w <= x)) := by
  intro l
  unfold vQ
  induction l with
  | nil => rfl
  | cons x l ih =>
    rw [arW, arW, qJ, ih]
    by_cases h : x < w
    .rw [if_pos (by simpa using h), if_neg (by simp; omega), qJ]; omega
    .rw [if_neg (by simpa using h), if_pos (by simp; omega), qJ]; omega
 have hhigh : 2 ^ (w - 1) ∣ mJ (l.filter fun x => decide (w <= x)) := by
  generalize hL : l.filter (fun x => decide (w <= x)) = L
  have hge : ∀ x ∈ L, w <= x := fun x hx => by rw [<- hL] at hx; simpa using (asT.1 hx).2
  clear hL
  induction L with
  | nil => exact Nat.dvd_zero _
  | cons x L ih =>
    rw [qJ]
    refine Nat.dvd_add ?_ (ih fun y hy => hge y (aoC _ hy))
    have := hge x (aoV ..)
    unfold PT
    rw [if_neg (by omega)]
    exact asW 2 (by omega)
 have htot : 2 ^ (w - 1) ∣ mJ l := by rw [hs]; exact asW 2 (by omega)
 rw [hsplit l] at htot
 exact (Nat.dvd_add_left hhigh).1 htot
theorem D1 {l : List Nat} {s : Nat} (h : s < l.length) : l.getD s 0 ∈ l := by
 rw [anY, anX h]; exact apP h
theorem afZ {l : List Nat} {s : Nat} (h : s < l.length) : (l.take s).count (l.getD s 0) + 1 <= l.count (l.getD s 0) := by
 have hg : l.getD s 0 = l[s] := by rw [anY, anX h] <;> rfl
 have e : l = l.take s ++ l[s] :: l.drop (s + 1) := by rw [<- aqA h, aqX]
 rw [hg]
 have : l.count l[s] = (l.take s ++ l[s] :: l.drop (s + 1)).count l[s] := by rw [<- e]
 rw [this, List.count_append, List.count_cons]; simp
theorem OV {l : List Nat} {a b : Nat} (h1 : 1 <= a) (h : a <= b) : vQ l a <= vQ l b := by
 obtain ⟨c, rfl⟩ := Nat.exists_eq_add_of_le h
 induction c with
 | zero => exact aoA _
 | succ c ih =>
   have := I1 l (a + c) (by omega)
   rw [<- aqY]
   have := ih (by omega)
   omega
theorem adJ {l : List Nat} {s : Nat} (h : s < l.length) (h0 : l.getD s 0 ≠ 0) : IQ l s + 2 ^ (l.getD s 0 - 1) <= vQ l (l.getD s 0 + 1) := by
 have h1 := afZ h
 rw [I1 l _ (by omega)]
 unfold IQ
 have := aoQ (2 ^ (l.getD s 0 - 1)) h1
 rw [apG] at this
 omega
theorem adU {l : List Nat} {s d : Nat} (h : s < l.length) (h0 : l.getD s 0 ≠ 0) (hs : mJ l = 2 ^ d) (hd : l.getD s 0 <= d) : 2 ^ (l.getD s 0 - 1) ∣ IQ l s :=
 Nat.dvd_add (U4 hs (by omega) (by omega)) (Nat.dvd_mul_left _ _)
theorem aaL {l : List Nat} {s d : Nat} (h : s < l.length) (h0 : l.getD s 0 ≠ 0) (hs : mJ l = 2 ^ d) (hall : ∀ w ∈ l, w <= d) : IQ l s / 2 ^ (l.getD s 0 - 1) < 2 ^ (d + 1 - l.getD s 0) := by
 have hd := hall _ (D1 h)
 have h1 := adJ h h0
 have h2 := OV (l := l) (a := l.getD s 0 + 1) (b := d + 1) (by omega) (by omega)
 rw [QV hall, hs] at h2
 rw [arR (apC _), <- apY, show d + 1 - l.getD s 0 + (l.getD s 0 - 1) = d from by omega]
 have := apC (l.getD s 0 - 1)
 omega
theorem V8 {l : List Nat} {s t d : Nat} (hsl : s < l.length) (htl : t < l.length) (hst : s ≠ t) (hs0 : l.getD s 0 ≠ 0) (ht0 : l.getD t 0 ≠ 0) (hw : l.getD t 0 <= l.getD s 0) (hs : mJ l = 2 ^ d) (hall : ∀ w ∈ l, w <= d) :
 IQ l t / 2 ^ (l.getD t 0 - 1) / 2 ^ (l.getD s 0 - l.getD t 0) ≠ IQ l s / 2 ^ (l.getD s 0 - 1) := by
 rw [aqJ, <- apY, show l.getD t 0 - 1 + (l.getD s 0 - l.getD t 0) = l.getD s 0 - 1 from by omega]
 have hp := apC (l.getD s 0 - 1)
 obtain ⟨q, hq⟩ := adU hsl hs0 hs (hall _ (D1 hsl))
 rw [hq, asK _ hp]
 rcases aoE (l.getD t 0) (l.getD s 0) with hlt | hge
 .have h1 := adJ htl ht0
  have h2 := OV (l := l) (a := l.getD t 0 + 1) (b := l.getD s 0) (by omega) (by omega)
  have h3 : vQ l (l.getD s 0) <= IQ l s := Nat.le_add_right _ _
  have hp2 := apC (l.getD t 0 - 1)
  have : IQ l t / 2 ^ (l.getD s 0 - 1) < q := by
   rw [arR hp, apJ]
   omega
  omega
 .have he : l.getD t 0 = l.getD s 0 := by omega
  have hne : (l.take t).count (l.getD t 0) ≠ (l.take s).count (l.getD s 0) := by
   have key : ∀ {a b : Nat}, a < b -> b < l.length -> l.getD a 0 = l.getD b 0 -> (l.take a).count (l.getD a 0) < (l.take b).count (l.getD b 0) := by
    intro a b hab hb hab2
    have h1 := afZ (l := l.take b) (s := a) (by rw [aoL]; omega)
    have h2 : (l.take b).getD a 0 = l.getD a 0 := by
     rw [anY, anY, apO hab]
    rw [h2, List.take_take, aqD (by omega)] at h1
    rw [<- hab2]; omega
   rcases Nat.lt_or_gt_of_ne hst with h | h
   .have := key h htl he.symm; omega
   .have := key h hsl he; omega
  intro h
  apply hne
  unfold IQ at hq h
  rw [he] at h ⊢
  obtain ⟨r, hr⟩ := U4 hs (by have := hall _ (D1 hsl); omega) (by omega : 1 <= l.getD s 0)
  rw [hr] at hq h
  generalize 2 ^ (l.getD s 0 - 1) = p at *
  generalize (l.take t).count (l.getD s 0) = x at *
  generalize (l.take s).count (l.getD s 0) = y at *
  rw [apJ x p, <- arC, asK _ hp] at h
  rw [apJ y p, <- arC] at hq
  have := Nat.eq_of_mul_eq_mul_left hp hq
  omega
def tP (o : Nat) : Nat := if o = 0 then 0 else 2 ^ (11 - o)
def mQ (out : List Nat) : Nat := (out.map tP).sum
theorem sN (o : Nat) (l : List Nat) : mQ (o :: l) = tP o + mQ l := by simp [mQ]
theorem Pc : ∀ {l : List Nat} {i : Nat} (o : Nat) (h : i < l.length), mQ (l.set i o) + tP l[i] = mQ l + tP o
 | [], i, o, h => by simp at h
 | x :: l, 0, o, h => by rw [aoK, sN, sN, asO]; omega
 | x :: l, i + 1, o, h => by
   rw [aoM, sN, sN, aqK]
   have := Pc (l := l) (i := i) o (by simpa using h)
   omega
theorem RJ : ∀ {l : List Nat}, (∀ o ∈ l, o = 0 ∨ o = 11) -> mQ l <= l.length
 | [], _ => by simp [mQ]
 | x :: l, h => by
   have h1 := h x (aoV ..)
   have h2 := RJ fun y hy => h y (aoC _ hy)
   rw [sN, aoG]
   have : tP x <= 1 := by
    rcases h1 with rfl | rfl <;> decide
   omega
theorem Wi {M : Nat} (hM : M <= 11) : ∀ {l : List Nat}, (∀ o ∈ l, o <= M) -> 2 ^ (11 - M) ∣ mQ l
 | [], _ => Nat.dvd_zero _
 | x :: l, h => by
   rw [sN]
   refine Nat.dvd_add ?_ (Wi hM fun y hy => h y (aoC _ hy))
   have := h x (aoV ..)
   unfold tP
   split
   .exact Nat.dvd_zero _
   .exact asW 2 (by omega)
theorem V4 {o : Nat} : ∀ {l : List Nat}, o ∈ l -> tP o <= mQ l
 | [], h => by cases h
 | x :: l, h => by
   rw [sN]
   rcases apK.1 h with rfl | h
   .omega
   .have := V4 h; omega
theorem aaN {o : Nat} (h : o ≠ 0) : 1 <= tP o := by
 unfold tP; rw [if_neg h]; exact Nat.one_le_two_pow
theorem S6 : ∀ {l : List Nat} {i j : Nat} (hi : i < l.length) (hj : j < l.length), i < j -> tP l[i] + tP l[j] <= mQ l
 | [], i, j, hi, hj, h => by simp at hi
 | x :: l, 0, j + 1, hi, hj, h => by
   have := V4 (l := l) (apP (show j < l.length by simpa using hj))
   rw [sN, asO, aqK]; omega
 | x :: l, i + 1, j + 1, hi, hj, h => by
   have := S6 (l := l) (i := i) (j := j) (by simpa using hi) (by simpa using hj) (by omega)
   rw [sN, aqK, aqK]; omega
def Zd (d o : Nat) : Nat := if o = 0 then 0 else d + 1 - o
theorem T3 {d : Nat} (hd : d <= 11) : ∀ {l : List Nat}, (∀ o ∈ l, o <= d) -> mJ (l.map (Zd d)) * 2 ^ (11 - d) = mQ l
 | [], _ => by simp [mJ, mQ]
 | x :: l, h => by
   have h1 := h x (aoV ..)
   rw [aoT, qJ, sN, apG, T3 hd fun y hy => h y (aoC _ hy)]
   congr 1
   unfold PT Zd tP
   by_cases h0 : x = 0
   .subst h0; simp
   .rw [if_neg h0, if_neg h0, if_neg (by omega), <- apY]
    congr 1; omega
theorem acT {d : Nat} {l : List Nat} (hd : d <= 11) (h : ∀ o ∈ l, o <= d) (hk : mQ l = 2048) : mJ (l.map (Zd d)) = 2 ^ d := by
 have := T3 hd h
 rw [hk, show (2048 : Nat) = 2 ^ d * 2 ^ (11 - d) from by rw [<- apY, show d + (11 - d) = 11 from by omega]] at this
 exact Nat.eq_of_mul_eq_mul_right (apC _) this
end Go.Pu
namespace Go.Proofs.YtoecppploooloaaGreatDoor
open Go Go.En Go.Pu
set_option maxRecDepth 4000
abbrev kA (l : List UInt8) : List Nat := l.map (·.toNat)
theorem mX (l : List UInt8) : (kA l).length = l.length := by simp
theorem Xo {l : List UInt8} {i : Nat} (h : i < l.length) : (kA l)[i]? = some (l[i].toNat) := by rw [aoJ, anX h] <;> rfl
theorem O9 {l : List UInt8} {i : Nat} (h : i < l.length) : kA (l.take (i + 1)) = kA (l.take i) ++ [l[i].toNat] := by
 unfold kA
 rw [arL, anX h, aoX] <;> rfl
theorem Z4 {l : List UInt8} (h : 0 < l.length) : (kA l).getLast? = some 0 ↔ l[l.length - 1].toNat = 0 := by
 rw [asD, mX, Xo (by omega)]
 simp
theorem agJ (l : List UInt8) : ∀ w ∈ kA l, w < 256 := fun w hw => by
 obtain ⟨x, _, rfl⟩ := apM.1 hw
 exact aqG x
theorem Ze {d : Nat} {l : List Nat} {x : Nat} : AA d (l ++ [x]) = (AA d l && decide (x <= d)) := by
 unfold AA; rw [List.all_append]; simp
theorem Zh {d : Nat} {l : List Nat} {i : Nat} (h : AA d (l.take i) = false) : AA d l = false := by
 cases hq : AA d l with
 | false => rfl
 | true =>
   rw [AG] at hq
   have : AA d (l.take i) = true := AG.2 fun w hw => hq w (apX hw)
   rw [this] at h; cases h
theorem agU {v : asZ} {l : List UInt8} {w : asY} (h : Bs w v l) (hl : l.length <= 100000) :
 jD pg Cn #[v] w (fun r w' => r = .tuple #[.int .i64 (if AA 11 (kA l) = true then mJ (kA l) else 0 : Nat), .bool (AA 11 (kA l))] /\ w' = w) := by
 refine QK ?_
 obtain ⟨a, n, c, rfl, hn, hc, hh⟩ := id h
 rw [anV] at hn
 subst hn
 unfold Qh Dm DB FT EL ER
 simp (disch := omega) only [gD, fM, cJ]
 unfold FR Fq
 refine kE.rule (fun m (t : asZ × asZ) w' => ∃ i : Nat, m = l.length - i /\ t = (.int .i64 (mJ (kA (l.take i)) : Nat), .int .i64 i) /\ i <= l.length /\ AA 11 (kA (l.take i)) = true /\ w' = w) l.length
  ⟨0, rfl, by simp [mJ], by omega, by simp [AA], rfl⟩ ?_
 rintro m t w1 ⟨i, rfl, rfl, hi, hle, rfl⟩
 unfold A4 Ft
 by_cases hlt : i < l.length
 .have d1 : decide ((i : Int) < (l.length : Int)) = true := by simp; omega
  obtain ⟨b, off, rfl, hcell⟩ := slA h (by omega)
  have g1 := hcell i hlt
  rw [aoJ, anX hlt] at g1
  simp only [aoW, pB] at g1
  have ht := O9 hlt
  have hx : (l[i]).toNat < 256 := aqG _
  have hwl := S3 (AG.1 hle)
  rw [mX, aoL] at hwl
  have hsn : AA 11 (kA (l.take (i + 1))) = (AA 11 (kA (l.take i)) && decide ((l[i]).toNat <= 11)) := by rw [ht, Ze]
  have hwn : mJ (kA (l.take (i + 1))) = mJ (kA (l.take i)) + PT (l[i]).toNat := by rw [ht, VM, qJ] <;> rfl
  have hbad : AA 11 (kA (l.take (i + 1))) = false -> AA 11 (kA l) = false := fun h => Zh (i := i + 1) (by rw [<- arY]; exact h)
  generalize (l[i]).toNat = x at *
  unfold A7
  by_cases h11 : 11 < x
  .have d2 : decide ((11 : Int) < (x : Int)) = true := by simp; omega
   have hf := hbad (by rw [hsn, hle, decide_eq_false (by omega)] <;> rfl)
   simp (disch := omega) only [gD, hJ, d1, fQ, anP, hO, gZ, cJ, gJ, g1, gB, hU, d2, iB, jG, iC, and_true, fZ]
   rw [hf]; simp
  .have d2 : decide ((11 : Int) < (x : Int)) = false := by simp; omega
   have hle1 : AA 11 (kA (l.take (i + 1))) = true := by rw [hsn, hle, decide_eq_true (by omega)] <;> rfl
   have hwp := ZA (w := x) (by omega)
   by_cases h0 : 0 < x
   .have d3 : decide ((0 : Int) < (x : Int)) = true := by simp; omega
    have e1 : (x : Int) - 1 = ((x - 1 : Nat) : Int) := by omega
    have hsh := aaM (n := x - 1) (by omega)
    have hpw : PT x = 2 ^ (x - 1) := by unfold PT; rw [if_neg (by omega)]
    have e2 : ((mJ (kA (l.take i)) : Nat) : Int) + ((2 ^ (x - 1) : Nat) : Int) = ((mJ (kA (l.take i)) + 2 ^ (x - 1) : Nat) : Int) := by omega
    rw [hpw] at hwp hwn
    simp (disch := omega) only [gD, hJ, d1, fQ, anP, hO, gZ, cJ, gJ, g1, gB, hU, d2, d3, iB, e1, jG, iC, hsh, e2, fZ, and_true, fT]
    exact ⟨l.length - (i + 1), by omega, i + 1, rfl, by rw [hwn] <;> rfl, by omega, hle1⟩
   .have d3 : decide ((0 : Int) < (x : Int)) = false := by simp; omega
    have hpw : PT x = 0 := by unfold PT; rw [if_pos (by omega)]
    simp (disch := omega) only [gD, hJ, d1, fQ, anP, hO, gZ, cJ, gJ, g1, gB, hU, d2, d3, iB, fT, and_true, fZ]
    exact ⟨l.length - (i + 1), by omega, i + 1, rfl, by rw [hwn, hpw] <;> rfl, by omega, hle1⟩
 .have d1 : decide ((i : Int) < (l.length : Int)) = false := by simp; omega
  obtain rfl : i = l.length := by omega
  rw [arV] at *
  unfold AM
  simp (disch := omega) only [gD, hJ, d1, cJ, and_true, fT]
  rw [hle]; simp
theorem aiX {a b : Nat} (ha : a < 2 ^ 63) (hb : b < 2 ^ 63) : YG .i64 (a : Int) (b : Int) = ((a &&& b : Nat) : Int) := by
 unfold YG
 have e : IntKind.i64.bits = 64 := rfl
 have h := Nat.and_lt_two_pow (n := 63) a hb
 rw [e, BitVec.ofInt_natCast, BitVec.ofInt_natCast, BitVec.toNat_and, BitVec.toNat_ofNat, BitVec.toNat_ofNat, apH (by omega), apH (by omega)]
 exact gZ (by omega) (by omega)
theorem akF {v : asZ} {l : List UInt8} {w : asY} (h : Bs w v l) (h0 : 0 < l.length) (hl : l.length <= 100000) :
 jD pg tA #[v] w (fun r w' => (∃ m : Nat, r = .int .u8 m /\ (∀ x ∈ kA l, x <= m) /\ m ∈ kA l) /\ w' = w) := by
 refine J1 ?_
 obtain ⟨b, off, c, rfl, hc, hcell⟩ := Vp h h0
 unfold GV vJ wG
 have d0 : decide ((l.length : Int) < 1) = false := by simp; omega
 have g0 := hcell 0 h0
 have t0 : (0 : Int).toNat = 0 := rfl
 simp (disch := omega) only [gD, fM, cJ, hJ, d0, fT]
 unfold xZ wX
 simp (disch := omega) only [gD, fQ, t0, cJ, gJ, g0, gB]
 unfold xM wR wL wQ xU
 refine kE.rule (fun m (t : asZ × asZ) w' => ∃ i q : Nat, m = l.length - i /\ t = (.int .u8 q, .int .i64 i) /\ 1 <= i /\ i <= l.length /\ (∀ x ∈ kA (l.take i), x <= q) /\ q ∈ kA (l.take i) /\ w' = w) (l.length - 1)
  ⟨1, l[0].toNat, by omega, rfl, by omega, by omega, ?_, ?_, rfl⟩ ?_
 .intro x hx
  rw [O9 (i := 0) h0] at hx
  simp at hx; omega
 .rw [O9 (i := 0) h0]; simp
 rintro m t w1 ⟨i, q, rfl, rfl, hi1, hi, hle, hmem, rfl⟩
 unfold rX
 by_cases hlt : i < l.length
 .have d1 : decide ((i : Int) < (l.length : Int)) = true := by simp; omega
  have g1 := hcell i hlt
  have ht := O9 hlt
  generalize (l[i]).toNat = x at *
  have hmx : (if (q : Int) <= (x : Int) then (x : Int) else (q : Int)) = ((max q x : Nat) : Int) := by split <;> omega
  have hmx2 : (if (x : Int) > (q : Int) then (x : Int) else (q : Int)) = ((max q x : Nat) : Int) := by split <;> omega
  have hmx3 : (if (q : Int) < (x : Int) then (x : Int) else (q : Int)) = ((max q x : Nat) : Int) := by split <;> omega
  simp (disch := omega) only [gD, fM, fQ, anP, hO, gZ, cJ, gJ, hJ, d1, g1, gB, iQ, hmx2, and_true, fZ]
  refine ⟨l.length - (i + 1), by omega, i + 1, max q x, rfl, rfl, by omega, by omega, ?_, ?_⟩
  .intro y hy
   rw [ht] at hy
   rcases apV.1 hy with hy | hy
   .have := hle y hy; omega
   .rw [asH.1 hy]; omega
  .rw [ht, apV]
   rcases asS q x with h | h
   .rw [Nat.max_eq_right h]; exact .inr (asH.2 rfl)
   .rw [Nat.max_eq_left h]; exact .inl hmem
 .have d1 : decide ((i : Int) < (l.length : Int)) = false := by simp; omega
  obtain rfl : i = l.length := by omega
  rw [arV] at *
  unfold rZ
  simp (disch := omega) only [gD, fM, hO, gZ, cJ, hJ, d1, and_true, fT]
  exact ⟨q, rfl, hle, hmem⟩
theorem UL {v : asZ} {l : List UInt8} {w : asY} (h : Bs w v l) (hl : l.length <= 100000) :
 jD pg yF #[v] w (fun r w' => r = .int .i64 (oC (kA l) : Nat) /\ w' = w) := by
 refine QY ?_
 obtain ⟨a, n, c, rfl, hn, hc, hh⟩ := id h
 rw [anV] at hn
 subst hn
 have no : ¬ (AA 11 (kA l) = true /\ 2 <= (kA l).length /\ (kA l).length <= 256 /\ (kA l).getLast? ≠ some 0 /\ 2 ^ (mJ (kA l)).log2 = mJ (kA l) /\ (mJ (kA l)).log2 <= 11 /\ AA (mJ (kA l)).log2 (kA l) = true) -> oC (kA l) = 0 := fun h => by
  unfold oC; rw [if_neg h]
 have hnl := mX l
 unfold Qo FO
 refine (agU h hl).mono ?_
 rintro r w1 ⟨rfl, rfl⟩
 cases hok : AA 11 (kA l) with
 | false =>
   have := no (by rw [hok]; simp)
   simp (disch := omega) only [gD, anO, if_false, kU, kV, cJ, iJ, anT, gU, gQ, if_true, fZ, gI, and_true]
   rw [this] <;> rfl
 | true =>
   have hw := S3 (AG.1 hok)
   rw [hnl] at hw
   by_cases h2 : l.length < 2
   .have d2 : decide ((l.length : Int) < 2) = true := by simp; omega
    have := no (by omega)
    simp (disch := omega) only [gD, if_true, kU, kV, cJ, iJ, anU, gT, gQ, anO, if_false, gM, fM, hJ, d2, gU, fZ, gI, and_true]
    rw [this] <;> rfl
   have d2 : decide ((l.length : Int) < 2) = false := by simp; omega
   by_cases h3 : 256 < l.length
   .have d3 : decide ((256 : Int) < (l.length : Int)) = true := by simp; omega
    have := no (by omega)
    simp (disch := omega) only [gD, if_true, kU, kV, cJ, iJ, anU, gT, gQ, anO, if_false, gM, fM, hJ, d2, hU, d3, gU, fZ, gI, and_true]
    rw [this] <;> rfl
   have d3 : decide ((256 : Int) < (l.length : Int)) = false := by simp; omega
   obtain ⟨b, off, rfl, hcell⟩ := slA h (by omega)
   have e1 : (l.length : Int) - 1 = ((l.length - 1 : Nat) : Int) := by omega
   have g1 := hcell (l.length - 1) (by omega)
   rw [aoJ, anX (by omega)] at g1
   simp only [aoW, pB] at g1
   have hla := Z4 (l := l) (by omega)
   have hmem : (l[l.length - 1]'(by omega)).toNat ∈ kA l := apM.2 ⟨_, apP _, rfl⟩
   generalize (l[l.length - 1]'(by omega)).toNat = x at *
   by_cases h4 : x = 0
   .have d4 : ((x : Int) == 0) = true := by rw [h4] <;> rfl
    have := no (fun h => h.2.2.2.1 (hla.2 h4))
    simp (disch := omega) only [gD, if_true, kU, kV, cJ, iJ, anU, gT, gQ, anO, if_false, gM, fM, hJ, d2, hU, d3, iB, e1, gZ, fQ, anP, gJ, g1, gB, fS, hZ, iD, d4, gU, fZ, gI, and_true]
    rw [this] <;> rfl
   have d4 : ((x : Int) == 0) = false := beq_eq_false_iff_ne.2 (by omega)
   have hwp := X1 hmem
   have hwx : 1 <= PT x := by unfold PT; rw [if_neg h4]; exact Nat.one_le_two_pow
   obtain ⟨s, hs⟩ : ∃ s, mJ (kA l) = s := ⟨_, rfl⟩
   rw [hs] at no hw hwp ⊢
   have e2 : (s : Int) - 1 = ((s - 1 : Nat) : Int) := by omega
   have e3 := aiX (a := s) (b := s - 1) (by omega) (by omega)
   have hpw := acZ s (by omega)
   have hlast : (kA l).getLast? ≠ some 0 := fun h => h4 (hla.1 h)
   simp only [if_true]
   by_cases h5 : s &&& (s - 1) = 0
   .have d5 : (((s &&& (s - 1) : Nat) : Int) != 0) = false := by rw [h5] <;> rfl
    have hlog := hpw.1 h5
    have hbl : bl s = s.log2 + 1 := by unfold bl; rw [if_neg (by omega)]
    have e4 : ((s.log2 + 1 : Nat) : Int) - 1 = (s.log2 : Int) := by omega
    have hb20 : bl s <= 20 := O1 (by omega)
    simp (disch := omega) only [gD, kU, kV, cJ, iJ, anU, gT, gQ, anO, if_false, gM, fM, hJ, d2, hU, d3, iB, e1, gZ, fQ, anP, gJ, g1, gB, fS, hZ, iD, d4, e2, iO, e3, iH, d5, and_true, fT]
    refine (akN s (by omega) w1).mono ?_
    rintro r w2 ⟨rfl, rfl⟩
    rw [hbl]
    by_cases h6 : 11 < s.log2
    .have d6 : decide ((11 : Int) < (s.log2 : Int)) = true := by simp; omega
     have := no (by omega)
     simp (disch := omega) only [iB, e4, gZ, cJ, hU, d6, gU, gQ, if_true, fZ, gI, and_true]
     rw [this] <;> rfl
    have d6 : decide ((11 : Int) < (s.log2 : Int)) = false := by simp; omega
    simp (disch := omega) only [iB, e4, gZ, cJ, hU, d6, gT, gQ, anO, if_false, gM]
    refine (akF h (by omega) hl).mono ?_
    rintro r w3 ⟨⟨q, rfl, hq1, hq2⟩, rfl⟩
    have hq := agJ l q hq2
    by_cases h7 : s.log2 < q
    .have d7 : decide ((s.log2 : Int) < (q : Int)) = true := by simp; omega
     have := no (fun h => by have := AG.1 h.2.2.2.2.2.2 q hq2; omega)
     simp (disch := omega) only [fK, gZ, cJ, hU, d7, and_true, fZ]
     rw [this] <;> rfl
    .have d7 : decide ((s.log2 : Int) < (q : Int)) = false := by simp; omega
     have hyes : oC (kA l) = s.log2 := by
      unfold oC
      rw [hs, if_pos ⟨hok, by omega, by omega, hlast, hlog, by omega, AG.2 fun y hy => by have := hq1 y hy; omega⟩]
     simp (disch := omega) only [fK, gZ, cJ, hU, d7, and_true, fT]
     rw [hyes]
   .have d5 : (((s &&& (s - 1) : Nat) : Int) != 0) = true := by simpa using h5
    have := no (fun h => h5 (hpw.2 h.2.2.2.2.1))
    simp (disch := omega) only [gD, kU, kV, cJ, iJ, anU, gT, gQ, anO, if_false, gM, fM, hJ, d2, hU, d3, iB, e1, gZ, fQ, anP, gJ, g1, gB, fS, hZ, iD, d4, e2, iO, e3, iH, d5, and_true, fZ]
    rw [this] <;> rfl
end Go.Proofs.YtoecppploooloaaGreatDoor
namespace Go.Pu
open Go Go.En
def cc : List (Nat × Nat) -> List asZ
 | [] => []
 | e :: r => .int .i64 (e.1 : Nat) :: .int .i64 (e.2 : Nat) :: cc r
theorem Wm : ∀ L : List (Nat × Nat), (cc L).length = 2 * L.length
 | [] => rfl
 | e :: r => by rw [cc, aoG, aoG, Wm r, aoG]; omega
theorem ZC : ∀ n : Nat, Kf n [Value.int .i64 0, Value.int .i64 0] = cc (List.replicate n (0, 0))
 | 0 => rfl
 | n + 1 => by
   have := ZC n
   unfold Kf at *
   rw [arZ, asM, this, arZ, cc] <;> rfl
theorem ZN : ∀ {L : List (Nat × Nat)} {i : Nat} (h : i < L.length), ((cc L).drop (i * 2)).take 2 = [.int .i64 (L[i].1 : Nat), .int .i64 (L[i].2 : Nat)]
 | [], i, h => by simp at h
 | e :: r, 0, h => rfl
 | e :: r, i + 1, h => by
   have := ZN (L := r) (i := i) (by simpa using h)
   rw [cc, show (i + 1) * 2 = i * 2 + 1 + 1 from by omega, List.drop_succ_cons, List.drop_succ_cons, aqK]
   exact this
theorem adN : ∀ {L : List (Nat × Nat)} {i : Nat} (e : Nat × Nat), i < L.length -> ((cc L).set (i * 2) (.int .i64 (e.1 : Nat))).set (i * 2 + 1) (.int .i64 (e.2 : Nat)) = cc (L.set i e)
 | [], i, e, h => by simp at h
 | x :: r, 0, e, h => rfl
 | x :: r, i + 1, e, h => by
   have := adN (L := r) (i := i) e (by simpa using h)
   rw [cc, show (i + 1) * 2 = i * 2 + 1 + 1 from by omega, aoM, aoM, aoM, aoM, this, aoM, cc]
def wP (l : List Nat) (d w i : Nat) : List (Nat × Nat) := (List.range l.length).map fun s => if l.getD s 0 < w ∨ (l.getD s 0 = w /\ s < i) then Fz l d s else (0, 0)
def pZ (l : List Nat) (d : Nat) : List (Nat × Nat) := (List.range l.length).map (Fz l d)
theorem oY (l : List Nat) (d w i : Nat) : (wP l d w i).length = l.length := by simp [wP]
theorem B6 (l : List Nat) (d : Nat) : (pZ l d).length = l.length := by simp [pZ]
theorem Q2 {l : List Nat} {d s : Nat} (h : s < l.length) : (pZ l d)[s]? = some (Fz l d s) := by
 unfold pZ; rw [aoJ, asA h] <;> rfl
theorem tU {l : List Nat} {d w i s : Nat} (h : s < l.length) : (wP l d w i)[s]? = some (if l.getD s 0 < w ∨ (l.getD s 0 = w /\ s < i) then Fz l d s else (0, 0)) := by
 unfold wP; rw [aoJ, asA h] <;> rfl
theorem VW (l : List Nat) (d : Nat) : wP l d 1 0 = List.replicate l.length (0, 0) := by
 apply aqI
 intro s
 rcases aoE s l.length with h | h
 .rw [tU h, arE, if_pos h]
  congr 1
  split
  .rename_i hh
   unfold Fz
   rw [if_pos (by omega)]
  .rfl
 .rw [aoD (by rw [oY]; exact h), aoD (by simpa using h)]
theorem WU {l : List Nat} {d w : Nat} : wP l d w l.length = wP l d (w + 1) 0 := by
 apply aqI
 intro s
 rcases aoE s l.length with h | h
 .rw [tU h, tU h]
  congr 1
  by_cases hh : l.getD s 0 < w + 1
  .rw [if_pos (by omega), if_pos (by omega)]
  .rw [if_neg (by omega), if_neg (by omega)]
 .rw [aoD (by rw [oY]; exact h), aoD (by rw [oY]; exact h)]
theorem Xs {l : List Nat} {d w : Nat} (hall : ∀ x ∈ l, x <= d) (hw : d < w) : wP l d w 0 = pZ l d := by
 apply aqI
 intro s
 rcases aoE s l.length with h | h
 .rw [tU h, Q2 h, if_pos]
  have := hall _ (D1 h)
  omega
 .rw [aoD (by rw [oY]; exact h), aoD (by rw [B6]; exact h)]
theorem WQ {l : List Nat} {d w i : Nat} (h : i < l.length) (hw : l.getD i 0 ≠ w) : wP l d w (i + 1) = wP l d w i := by
 apply aqI
 intro s
 rcases aoE s l.length with hs | hs
 .rw [tU hs, tU hs]
  congr 1
  by_cases hsi : s = i
  .subst hsi
   by_cases h1 : l.getD s 0 < w
   .rw [if_pos (by omega), if_pos (by omega)]
   .rw [if_neg (by omega), if_neg (by omega)]
  .by_cases h1 : l.getD s 0 < w ∨ (l.getD s 0 = w /\ s < i)
   .rw [if_pos (by omega), if_pos h1]
   .rw [if_neg (by omega), if_neg h1]
 .rw [aoD (by rw [oY]; exact hs), aoD (by rw [oY]; exact hs)]
theorem Xq {l : List Nat} {d w i : Nat} (h : i < l.length) (hw : l.getD i 0 = w) : (wP l d w i).set i (Fz l d i) = wP l d w (i + 1) := by
 apply aqI
 intro s
 rw [List.getElem?_set]
 rcases aoE s l.length with hs | hs
 .by_cases hsi : i = s
  .subst hsi
   rw [if_pos rfl, if_pos (by rw [oY]; exact h), tU (i := i + 1) hs, if_pos (by omega)]
  .rw [if_neg hsi, tU (i := i) hs, tU (i := i + 1) hs]
   congr 1
   by_cases h1 : l.getD s 0 < w ∨ (l.getD s 0 = w /\ s < i)
   .rw [if_pos h1, if_pos (by omega)]
   .rw [if_neg h1, if_neg (by omega)]
 .rw [if_neg (by omega), aoD (by rw [oY]; exact hs), aoD (by rw [oY]; exact hs)]
def Ge (l : List Nat) (w i : Nat) : Nat := vQ l w + (l.take i).count w * 2 ^ (w - 1)
theorem Y0 (l : List Nat) : Ge l 1 0 = 0 := by unfold Ge; rw [Vv]; simp
theorem Wf {l : List Nat} {w : Nat} (h : 1 <= w) : Ge l w l.length = Ge l (w + 1) 0 := by
 unfold Ge
 rw [arV, I1 l w h]; simp
theorem WB {l : List Nat} {w i : Nat} (h : i < l.length) : Ge l w (i + 1) = Ge l w i + (if l.getD i 0 = w then 2 ^ (w - 1) else 0) := by
 have hg : l.getD i 0 = l[i] := by rw [anY, anX h] <;> rfl
 unfold Ge
 rw [arL, anX h, List.count_append, hg]
 simp only [Option.toList, List.count_singleton]
 by_cases hw : l[i] = w
 .subst hw; simp [apG]; omega
 .rw [if_neg hw]
  have : (l[i] == w) = false := by simpa using hw
  rw [this]; simp
theorem ZF {l : List Nat} {w i : Nat} (h : l.getD i 0 = w) : Ge l w i = IQ l i := by unfold Ge IQ; rw [h]
theorem agT {l : List Nat} {d w i : Nat} (hs : mJ l = 2 ^ d) (hall : ∀ x ∈ l, x <= d) (h1 : 1 <= w) (hw : w <= d) : Ge l w i <= 2 ^ d := by
 have h2 : Ge l w i <= vQ l (w + 1) := by
  rw [I1 l w h1]
  unfold Ge
  have hc : (l.take i).count w <= l.count w := (List.take_sublist _ _).count_le _
  have := aoQ (2 ^ (w - 1)) hc
  omega
 have h3 := OV (l := l) (a := w + 1) (b := d + 1) (by omega) (by omega)
 rw [QV hall, hs] at h3
 omega
end Go.Pu
namespace Go.Proofs.YtoecppploooloaaGreatDoor
open Go Go.En Go.Pu
set_option maxRecDepth 4000
theorem acY {l : List UInt8} {i : Nat} (h : i < l.length) : (kA l).getD i 0 = l[i].toNat := by rw [anY, Xo h] <;> rfl
theorem ZI {v : asZ} {l : List UInt8} {d : Nat} {w : asY} (h : Bs w v l) (hd : oC (kA l) = d) (hd0 : d ≠ 0) :
 jD pg tK #[v] w (fun r w' => ∃ b, r = .tuple #[.slice (some ⟨b, 0, none⟩) l.length l.length, .int .i64 0] /\ w.heap.size <= b /\ mP w' b (cc (pZ (kA l) d)) /\ jM w w' mM) := by
 refine Hr ?_
 obtain ⟨hall, hd11, hl2, hl256, hlast, hsum⟩ := Kl hd hd0
 have hnl := mX l
 obtain ⟨b, off, c, rfl, hc, hcell⟩ := Vp h (by omega)
 unfold Jq zP Aa
 refine (UL h (by omega)).mono ?_
 rintro r w1 ⟨rfl, rfl⟩
 rw [hd]
 have n1 : ((d : Int) == 0) = false := beq_eq_false_iff_ne.2 (by omega)
 simp (disch := omega) only [gD, iD, n1, fM, cJ, fT]
 refine P0 (by omega) (by omega) fun w2 o2 x2 s2 => ?_
 rw [anP] at o2 ⊢
 rw [ZC, <- hnl, <- VW _ d] at o2
 generalize hpb : w1.heap.size = pb at *
 have hp2 : 2 ^ d <= 2 ^ 11 := aoO (by omega) hd11
 unfold Ek Dx DV DX DZ
 refine kE.rule (fun m (t : asZ × asZ) w' => ∃ q : Nat, m = d + 1 - q /\ t = (.int .i64 (Ge (kA l) q 0 : Nat), .int .i64 q) /\ 1 <= q /\ q <= d + 1 /\ mP w' pb (cc (wP (kA l) d q 0)) /\ jM w2 w' (fun y => y = pb)) d
  ⟨1, by omega, by rw [Y0] <;> rfl, by omega, by omega, o2, jM.refl _ _⟩ ?_
 rintro m t w3 ⟨q, rfl, rfl, hq1, hqd, o3, x3⟩
 unfold zO DW
 by_cases hq : q <= d
 .have d1 : decide ((q : Int) <= (d : Int)) = true := by simp; omega
  simp (disch := omega) only [gD, iM, d1, cJ, fZ]
  unfold Dp Em KL EM
  simp (disch := omega) only [gD, fM, cJ]
  unfold Fx Fl
  refine kE.rule (fun m (t : asZ × asZ) w' => ∃ i : Nat, m = l.length - i /\ t = (.int .i64 (Ge (kA l) q i : Nat), .int .i64 i) /\ i <= l.length /\ mP w' pb (cc (wP (kA l) d q i)) /\ jM w2 w' (fun y => y = pb)) l.length
   ⟨0, rfl, rfl, by omega, o3, x3⟩ ?_
  rintro m t w4 ⟨i, rfl, rfl, hi, o4, x4⟩
  unfold AN Fv
  by_cases hlt : i < l.length
  .have d2 : decide ((i : Int) < (l.length : Int)) = true := by simp; omega
   have h4 : Bs w4 _ l := (h.ext x2 (kJ _)).ext x4 (fun hb => (h.old) (B2 hb fun y hy => by omega))
   obtain ⟨_, _, _, he, _, hcell4⟩ := Vp h4 (by omega)
   cases he
   have g1 := hcell4 i hlt
   have hgd := acY hlt
   have hstep := WB (l := kA l) (w := q) (i := i) (by omega)
   have hskip := WQ (l := kA l) (d := d) (w := q) (i := i) (by omega)
   have hset := Xq (l := kA l) (d := d) (w := q) (i := i) (by omega)
   have hof := ZF (l := kA l) (w := q) (i := i)
   have hle := agT (l := kA l) (d := d) (w := q) (i := i) hsum hall hq1 hq
   have hco : Fz (kA l) d i = if (kA l).getD i 0 = 0 then (0, 0) else (d + 1 - (kA l).getD i 0, IQ (kA l) i / 2 ^ ((kA l).getD i 0 - 1)) := rfl
   rw [hgd] at hskip hset hstep hof hco
   have hx : (l[i]).toNat < 256 := aqG _
   generalize (l[i]).toNat = x at *
   unfold A9
   by_cases hxq : x = q
   .subst hxq
    have n2 : ((x : Int) != (x : Int)) = false := by simp
    have e1 : (d : Int) + 1 - (x : Int) = ((d + 1 - x : Nat) : Int) := by omega
    have e2 : (x : Int) - 1 = ((x - 1 : Nat) : Int) := by omega
    rw [if_neg (by omega), <- hof rfl] at hco
    rw [if_pos rfl] at hstep
    have hset := hset rfl
    rw [hco] at hset
    have e3 : ((Ge (kA l) x i : Nat) : Int).fdiv (2 ^ (min (x - 1) IntKind.i64.bits)) = ((Ge (kA l) x i / 2 ^ (x - 1) : Nat) : Int) := by
     rw [show min (x - 1) IntKind.i64.bits = x - 1 from aqD (by have : IntKind.i64.bits = 64 := rfl
                                                                omega), aqL _ (Int.pow_nonneg (by omega))]
     simp
    have hdl := asF (Ge (kA l) x i) (2 ^ (x - 1))
    have hsh := aaM (n := x - 1) (by omega)
    have hpx : 2 ^ (x - 1) <= 2 ^ 11 := aoO (by omega) (by omega)
    have e4 : ((Ge (kA l) x i : Nat) : Int) + ((2 ^ (x - 1) : Nat) : Int) = ((Ge (kA l) x (i + 1) : Nat) : Int) := by omega
    generalize Ge (kA l) x i = at' at *
    generalize at' / 2 ^ (x - 1) = cd at *
    simp (disch := omega) only [gD, hJ, d2, fQ, anP, hO, gZ, cJ, iB, e2, bQ, anS, iC, iF, e3, e1, bG, gJ, g1, gB, fK, iH, n2, fT, fZ]
    refine TP o4 rfl (by simp [one]) (by rw [Wm, oY]; simp; omega) fun w5 o5 x5 s5 => ?_
    simp only [qM] at o5
    have hcs := adN (L := wP (kA l) d x i) (i := i) (d + 1 - x, cd) (by rw [oY]; omega)
    simp only at hcs
    rw [hcs, hset] at o5
    simp (disch := omega) only [hsh, e4]
    exact ⟨l.length - (i + 1), by omega, i + 1, rfl, rfl, by omega, o5, x4.trans x5 fun _ _ h => h⟩
   .have n2 : ((x : Int) != (q : Int)) = true := by simp; omega
    rw [if_neg hxq, apI] at hstep
    have hskip := hskip hxq
    simp (disch := omega) only [gD, hJ, d2, fQ, anP, hO, gZ, cJ, iB, bQ, anS, iC, iF, bG, gJ, g1, gB, fK, iH, n2, fZ]
    exact ⟨l.length - (i + 1), by omega, i + 1, rfl, by rw [hstep] <;> rfl, by omega, by rw [hskip]; exact o4, x4⟩
  .have d2 : decide ((i : Int) < (l.length : Int)) = false := by simp; omega
   obtain rfl : i = l.length := by omega
   have e1 := Wf (l := kA l) (w := q) hq1
   rw [hnl] at e1
   have e2 := WU (l := kA l) (d := d) (w := q)
   rw [hnl] at e2
   rw [e2] at o4
   unfold AL
   simp (disch := omega) only [gD, hJ, d2, hO, gZ, iB, cJ, iC, iF, bG, fT]
   exact ⟨d + 1 - (q + 1), by omega, q + 1, rfl, by rw [e1] <;> rfl, by omega, by omega, o4, x4⟩
 .have d1 : decide ((q : Int) <= (d : Int)) = false := by simp; omega
  rw [Xs hall (by omega)] at o3
  unfold AX
  simp (disch := omega) only [gD, iM, d1, cJ, fT]
  exact ⟨pb, rfl, by omega, o3, x2.trans x3 fun _ hb h => by omega⟩
theorem We {v : asZ} {l : List UInt8} {w : asY} (h : Bs w v l) (hl : l.length <= 100000) (hd : oC (kA l) = 0) :
 jD pg tK #[v] w (fun r w' => r = .tuple #[.slice none 0 0, .int .i64 1] /\ w' = w) := by
 refine Hr ?_
 unfold Jq zP Aa
 refine (UL h hl).mono ?_
 rintro r w1 ⟨rfl, rfl⟩
 rw [hd]
 have n1 : (((0 : Nat) : Int) == 0) = true := rfl
 simp (disch := omega) only [gD, iD, n1, true_and, cJ, fZ]
end Go.Proofs.YtoecppploooloaaGreatDoor
namespace Go.Pu
open Go Go.En
def Ov (k : Nat) : List Nat := if k = 0 then [0, 1, 2, 3, 4, 5, 6, 7, 8, 9, 10, 11, 12, 13, 14, 15, 16, 18, 20, 22, 24, 28, 32, 40, 48, 64, 128, 256, 512, 1024, 2048, 4096, 8192, 16384, 32768, 65536]
 else if k = 1 then [1, 2, 4, 8, 16, 32, 64, 128, 256, 512, 1024, 2048, 4096, 8192, 16384, 32768, 65536, 131072, 262144, 524288, 1048576, 2097152, 4194304, 8388608, 16777216, 33554432, 67108864, 134217728, 268435456, 536870912, 1073741824, 2147483648]
 else [3, 4, 5, 6, 7, 8, 9, 10, 11, 12, 13, 14, 15, 16, 17, 18, 19, 20, 21, 22, 23, 24, 25, 26, 27, 28, 29, 30, 31, 32, 33, 34, 35, 37, 39, 41, 43, 47, 51, 59, 67, 83, 99, 131, 259, 515, 1027, 2051, 4099, 8195, 16387, 32771, 65539]
def VB (k : Nat) : List Nat := if k = 0 then [0, 0, 0, 0, 0, 0, 0, 0, 0, 0, 0, 0, 0, 0, 0, 0, 1, 1, 1, 1, 2, 2, 3, 3, 4, 6, 7, 8, 9, 10, 11, 12, 13, 14, 15, 16]
 else if k = 1 then List.range 32
 else [0, 0, 0, 0, 0, 0, 0, 0, 0, 0, 0, 0, 0, 0, 0, 0, 0, 0, 0, 0, 0, 0, 0, 0, 0, 0, 0, 0, 0, 0, 0, 0, 1, 1, 1, 1, 2, 2, 3, 3, 4, 4, 5, 7, 8, 9, 10, 11, 12, 13, 14, 15, 16]
abbrev Uy (k : Nat) : Nat := (Ov k).length
theorem acA {k : Nat} (h : k < 3) (c : Nat) (hc : c + 1 < Uy k) : (Ov k).getD (c + 1) 0 = (Ov k).getD c 0 + 2 ^ (VB k).getD c 0 := by
 have h0 : ∀ c, c < 53 -> c + 1 < Uy 0 -> (Ov 0).getD (c + 1) 0 = (Ov 0).getD c 0 + 2 ^ (VB 0).getD c 0 := by decide +kernel
 have h1 : ∀ c, c < 53 -> c + 1 < Uy 1 -> (Ov 1).getD (c + 1) 0 = (Ov 1).getD c 0 + 2 ^ (VB 1).getD c 0 := by decide +kernel
 have h2 : ∀ c, c < 53 -> c + 1 < Uy 2 -> (Ov 2).getD (c + 1) 0 = (Ov 2).getD c 0 + 2 ^ (VB 2).getD c 0 := by decide +kernel
 have hl : Uy k <= 53 := by rcases (show k = 0 ∨ k = 1 ∨ k = 2 by omega) with rfl | rfl | rfl <;> decide
 rcases (show k = 0 ∨ k = 1 ∨ k = 2 by omega) with rfl | rfl | rfl
 .exact h0 c (by omega) hc
 .exact h1 c (by omega) hc
 .exact h2 c (by omega) hc
theorem amQ {k : Nat} (h : k < 3) (c : Nat) (hc : c < Uy k) : (Ov k).getD c 0 + 2 ^ (VB k).getD c 0 <= 4294967296 := by
 have h0 : ∀ c, c < 53 -> c < Uy 0 -> (Ov 0).getD c 0 + 2 ^ (VB 0).getD c 0 <= 4294967296 := by decide +kernel
 have h1 : ∀ c, c < 53 -> c < Uy 1 -> (Ov 1).getD c 0 + 2 ^ (VB 1).getD c 0 <= 4294967296 := by decide +kernel
 have h2 : ∀ c, c < 53 -> c < Uy 2 -> (Ov 2).getD c 0 + 2 ^ (VB 2).getD c 0 <= 4294967296 := by decide +kernel
 have hl : Uy k <= 53 := by rcases (show k = 0 ∨ k = 1 ∨ k = 2 by omega) with rfl | rfl | rfl <;> decide
 rcases (show k = 0 ∨ k = 1 ∨ k = 2 by omega) with rfl | rfl | rfl
 .exact h0 c (by omega) hc
 .exact h1 c (by omega) hc
 .exact h2 c (by omega) hc
def Yi (k v c : Nat) : Prop := c < Uy k /\ (Ov k).getD c 0 <= v /\ v < (Ov k).getD c 0 + 2 ^ (VB k).getD c 0
theorem TB {k : Nat} (h : k < 3) : ∀ {c d : Nat}, c < d -> d < Uy k -> (Ov k).getD c 0 + 2 ^ (VB k).getD c 0 <= (Ov k).getD d 0
 | c, d + 1, hcd, hd => by
   have e := acA h d (by omega)
   rcases aoE c d with h' | h'
   .have := TB h h' (by omega)
    have := apC ((VB k).getD d 0)
    omega
   .have : c = d := by omega
    subst this; omega
theorem Yi.one {k v c d : Nat} (hk : k < 3) (hc : Yi k v c) (hd : Yi k v d) : c = d := by
 rcases asL c d with h | h | h
 .have := TB hk h hd.1; have := hc.2.2; have := hd.2.1; omega
 .exact h
 .have := TB hk h hc.1; have := hd.2.2; have := hc.2.1; omega
theorem Yi.lt {k v c : Nat} (hk : k < 3) (hc : Yi k v c) : v < 4294967296 := by
 have := amQ hk c hc.1; have := hc.2.2; omega
structure Sq where
 ll : Nat
 ml : Nat
 of : Nat
deriving DecidableEq
def rdL (B : List Bool) (left : Int) (n : Nat) : Nat := V7 (B.take left.toNat) n
theorem ajI {T B X u : List Bool} {x n : Nat} (hT : T.take (X ++ u).length = X ++ u) (hu : u = zG x n) (hx : x < 2 ^ n) : rdL T ((X ++ u).length : Nat) n = x /\ (((X ++ u).length : Nat) : Int) - n = ((X.length : Nat) : Int) /\ T.take X.length = X := by
 subst hu
 have hl : (X ++ zG x n).length = X.length + n := by rw [anW, Dl]
 refine ⟨?_, by omega, ?_⟩
 .unfold rdL
  rw [anP, hT, Y3 hx]
 .have := congrArg (List.take X.length) hT
  rw [List.take_take, aqD (by omega), aqE (aoA _), aoF (aoA _)] at this
  exact this
def RU (C : List (Nat × Nat)) : Nat := C.foldl (fun m e => max m e.1) 0
theorem Ya : ∀ (C : List (Nat × Nat)) (m : Nat), m <= C.foldl (fun m e => max m e.1) m /\ ∀ e ∈ C, e.1 <= C.foldl (fun m e => max m e.1) m
 | [], m => ⟨aoA _, fun e h => by cases h⟩
 | x :: C, m => by
   obtain ⟨h1, h2⟩ := Ya C (max m x.1)
   rw [List.foldl_cons]
   refine ⟨by omega, fun e he => ?_⟩
   rcases apK.1 he with rfl | he
   .omega
   .exact h2 e he
theorem WN {C : List (Nat × Nat)} {e : Nat × Nat} (h : e ∈ C) : e.1 <= RU C := (Ya C 0).2 e h
theorem afX {d : Nat} : ∀ {C : List (Nat × Nat)} {m : Nat}, m <= d -> (∀ e ∈ C, e.1 <= d) -> C.foldl (fun m e => max m e.1) m <= d
 | [], m, hm, _ => hm
 | x :: C, m, hm, h => by
   rw [List.foldl_cons]
   exact afX (by have := h x (aoV ..); omega) fun e he => h e (aoC _ he)
def Uv (C : List (Nat × Nat)) (m x s : Nat) : Bool := match C[s]? with
 | some e => decide (0 < e.1) && decide (x / 2 ^ (m - e.1) = e.2)
 | none => false
theorem SL {C : List (Nat × Nat)} {m x s : Nat} : Uv C m x s = true ↔ ∃ b c, C[s]? = some (b, c) /\ 0 < b /\ x / 2 ^ (m - b) = c := by
 unfold Uv
 cases h : C[s]? with
 | none => simp
 | some e =>
   obtain ⟨b, c⟩ := e
   simp only [aoB, decide_eq_true_eq]
   constructor
   .rintro ⟨h1, h2⟩; exact ⟨b, c, rfl, h1, h2⟩
   .rintro ⟨b', c', h1, h2, h3⟩; cases h1; exact ⟨h2, h3⟩
structure agH (C : List (Nat × Nat)) (m : Nat) : Prop where
 le : ∀ (s b c : Nat), C[s]? = some (b, c) -> b <= m /\ (0 < b -> c < 2 ^ b)
 ex : ∀ x, x < 2 ^ m -> ∃ s, Uv C m x s = true
 un : ∀ x s t, x < 2 ^ m -> Uv C m x s = true -> Uv C m x t = true -> s = t
 pos : 0 < m
theorem ZS {l : List Nat} {w y : Nat} : ∀ i, i <= l.length -> vQ l w <= y -> y < Ge l w i -> ∃ s, s < l.length /\ l.getD s 0 = w /\ IQ l s <= y /\ y < IQ l s + 2 ^ (w - 1)
 | 0, _, h, hy => by unfold Ge at hy; simp at hy; omega
 | i + 1, hi, h, hy => by
   rcases aoE y (Ge l w i) with h1 | h1
   .exact ZS i (by omega) h h1
   .rw [WB (by omega)] at hy
    by_cases hw : l.getD i 0 = w
    .rw [if_pos hw] at hy
     rw [ZF hw] at hy h1
     exact ⟨i, by omega, hw, h1, hy⟩
    .rw [if_neg hw] at hy; omega
theorem akU {l : List Nat} {y : Nat} : ∀ w, y < vQ l (w + 1) -> ∃ s, s < l.length /\ l.getD s 0 ≠ 0 /\ IQ l s <= y /\ y < IQ l s + 2 ^ (l.getD s 0 - 1)
 | 0, hy => by rw [Vv] at hy; omega
 | w + 1, hy => by
   rcases aoE y (vQ l (w + 1)) with h1 | h1
   .exact akU w h1
   .have h2 : y < Ge l (w + 1) l.length := by rw [Wf (by omega)]; unfold Ge; simpa using hy
    obtain ⟨s, a, b, c, d⟩ := ZS l.length (aoA _) h1 h2
    exact ⟨s, a, by omega, c, by rw [b]; exact d⟩
theorem aiY {l : List Nat} {s d y : Nat} (h : s < l.length) (h0 : l.getD s 0 ≠ 0) (hs : mJ l = 2 ^ d) (hd : l.getD s 0 <= d) : (IQ l s <= y /\ y < IQ l s + 2 ^ (l.getD s 0 - 1)) ↔ y / 2 ^ (l.getD s 0 - 1) = IQ l s / 2 ^ (l.getD s 0 - 1) := by
 obtain ⟨q, hq⟩ := adU h h0 hs hd
 have hp := apC (l.getD s 0 - 1)
 rw [hq, asK _ hp]
 generalize 2 ^ (l.getD s 0 - 1) = p at *
 constructor
 .rintro ⟨h1, h2⟩
  rw [Nat.div_eq_iff hp, apJ]
  omega
 .intro h
  rw [Nat.div_eq_iff hp, apJ q] at h
  omega
theorem OU {l : List Nat} {d s b c : Nat} (h : (pZ l d)[s]? = some (b, c)) : s < l.length /\ Fz l d s = (b, c) := by
 have hs : s < l.length := by
  rcases aoE s l.length with h' | h'
  .exact h'
  .rw [aoD (by rw [B6]; exact h')] at h; cases h
 rw [Q2 hs] at h
 exact ⟨hs, aoZ h⟩
theorem YC {l : List Nat} {d : Nat} (hd : oC l = d) (hd0 : d ≠ 0) : agH (pZ l d) (RU (pZ l d)) /\ RU (pZ l d) <= d := by
 obtain ⟨hall, hd11, hl2, hl256, hlast, hsum⟩ := Kl hd hd0
 have hle : RU (pZ l d) <= d := afX (asN _) fun e he => by
  obtain ⟨s, hs⟩ := List.getElem?_of_mem he
  obtain ⟨hsl, hc⟩ := OU (b := e.1) (c := e.2) hs
  unfold Fz at hc
  split at hc
  .have := (Prod.mk.inj hc).1; omega
  .have := (Prod.mk.inj hc).1; omega
 have key : ∀ x s, Uv (pZ l d) (RU (pZ l d)) x s = true ↔ s < l.length /\ l.getD s 0 ≠ 0 /\ (x * 2 ^ (d - RU (pZ l d))) / 2 ^ (l.getD s 0 - 1) = IQ l s / 2 ^ (l.getD s 0 - 1) := by
  intro x s
  rw [SL]
  have hx : ∀ {b : Nat}, b <= RU (pZ l d) -> 0 < b -> b = d + 1 - l.getD s 0 -> l.getD s 0 <= d -> l.getD s 0 ≠ 0 -> (x * 2 ^ (d - RU (pZ l d))) / 2 ^ (l.getD s 0 - 1) = x / 2 ^ (RU (pZ l d) - b) := by
   intro b h1 h2 h3 h4 h5
   rw [show l.getD s 0 - 1 = (d - RU (pZ l d)) + (RU (pZ l d) - b) from by omega, apY, <- aqJ, Nat.mul_div_cancel _ (apC _)]
  constructor
  .rintro ⟨b, c, h1, h2, h3⟩
   have hm := WN (aqF h1)
   obtain ⟨hs, hc⟩ := OU h1
   unfold Fz at hc
   by_cases h0 : l.getD s 0 = 0
   .rw [if_pos h0] at hc; cases hc; omega
   .rw [if_neg h0] at hc
    obtain ⟨hb, hcc⟩ := Prod.mk.inj hc
    have hws := hall _ (D1 hs)
    exact ⟨hs, h0, by rw [hx hm h2 hb.symm hws h0, h3, hcc]⟩
  .rintro ⟨hs, h0, h⟩
   have hws := hall _ (D1 hs)
   have hg := Q2 (d := d) hs
   have hm := WN (aqF hg)
   have hc : Fz l d s = (d + 1 - l.getD s 0, IQ l s / 2 ^ (l.getD s 0 - 1)) := by unfold Fz; rw [if_neg h0]
   rw [hc] at hg hm
   exact ⟨_, _, hg, by omega, by rw [<- hx hm (by omega) rfl hws h0, h]⟩
 have hyx : ∀ x, x < 2 ^ RU (pZ l d) -> x * 2 ^ (d - RU (pZ l d)) < 2 ^ d := fun x hx => by
  have := Nat.mul_lt_mul_of_pos_right hx (apC (d - RU (pZ l d)))
  rwa [<- apY, show RU (pZ l d) + (d - RU (pZ l d)) = d from by omega] at this
 have ex : ∀ x, x < 2 ^ RU (pZ l d) -> ∃ s, Uv (pZ l d) (RU (pZ l d)) x s = true := fun x hx => by
  have h1 := hyx x hx
  rw [<- hsum, <- QV hall] at h1
  obtain ⟨s, a, b, c, e⟩ := akU d h1
  exact ⟨s, (key x s).2 ⟨a, b, (aiY a b hsum (hall _ (D1 a))).1 ⟨c, e⟩⟩⟩
 refine ⟨⟨fun s b c h => ?_, ex, fun x s t hx h1 h2 => ?_, ?_⟩, hle⟩
 .have hm := WN (aqF h)
  refine ⟨hm, fun hb => ?_⟩
  obtain ⟨hs, hc⟩ := OU h
  unfold Fz at hc
  by_cases h0 : l.getD s 0 = 0
  .rw [if_pos h0] at hc; cases hc; omega
  .rw [if_neg h0] at hc
   obtain ⟨hb', hcc⟩ := Prod.mk.inj hc
   rw [<- hb', <- hcc]
   exact aaL hs h0 hsum hall
 .obtain ⟨a1, b1, c1⟩ := (key x s).1 h1
  obtain ⟨a2, b2, c2⟩ := (key x t).1 h2
  have dv : ∀ {y p q : Nat}, p <= q -> y / 2 ^ q = y / 2 ^ p / 2 ^ (q - p) := fun {y p q} h => by
   rw [aqJ, <- apY, show p + (q - p) = q from by omega]
  refine Decidable.byContradiction fun hne => ?_
  rcases asS (l.getD t 0) (l.getD s 0) with hle' | hle'
  .refine V8 a1 a2 hne b1 b2 hle' hsum hall ?_
   rw [<- c2, <- c1, dv (y := x * 2 ^ (d - RU (pZ l d))) (p := l.getD t 0 - 1) (q := l.getD s 0 - 1) (by omega)]
   congr 2; omega
  .refine V8 a2 a1 (fun h => hne h.symm) b2 b1 hle' hsum hall ?_
   rw [<- c2, <- c1, dv (y := x * 2 ^ (d - RU (pZ l d))) (p := l.getD s 0 - 1) (q := l.getD t 0 - 1) (by omega)]
   congr 2; omega
 .obtain ⟨s, hs⟩ := ex 0 (apC _)
  obtain ⟨b, c, h1, h2, _⟩ := SL.1 hs
  have := WN (aqF h1)
  omega
def Zz (C : List (Nat × Nat)) (m x : Nat) : Nat := ((List.range C.length).find? (Uv C m x)).getD 0
def bitsOf (C : List (Nat × Nat)) (s : Nat) : Nat := (C.getD s (0, 0)).1
theorem agN {C : List (Nat × Nat)} {m x s : Nat} (h : Uv C m x s = true) : s < C.length := by
 obtain ⟨b, c, h1, _⟩ := SL.1 h
 exact (aqR.1 h1).1
theorem afY {C : List (Nat × Nat)} {m x s : Nat} (hF : agH C m) (hx : x < 2 ^ m) (h : Uv C m x s = true) : Zz C m x = s := by
 unfold Zz
 cases hf : (List.range C.length).find? (Uv C m x) with
 | none => exact absurd h (List.find?_eq_none.1 hf s (apF.2 (agN h)))
 | some t => exact hF.un x t s hx (List.find?_some hf) h
theorem aaB {C : List (Nat × Nat)} {s b c : Nat} (h : C[s]? = some (b, c)) : bitsOf C s = b := by
 unfold bitsOf; rw [anY, h] <;> rfl
def abS (C : List (Nat × Nat)) (m : Nat) (B : List Bool) : Nat -> Int -> List Nat × Int
 | 0, left => ([], left)
 | n + 1, left =>
   let s := Zz C m (rdL B left m)
   let r := abS C m B n (left - bitsOf C s)
   (s :: r.1, r.2)
theorem aeG (B : List Bool) (left : Int) (n : Nat) : rdL B left n < 2 ^ n := afH _ _
theorem ahA {B : List Bool} {left : Int} (a b : Nat) (h : left <= B.length) : rdL B left (a + b) = rdL B left a * 2 ^ b + rdL B (left - a) b := by
 unfold rdL
 obtain ⟨k, hk⟩ : ∃ k, left.toNat = k := ⟨_, rfl⟩
 have hkB : k <= B.length := by omega
 have e2 : (left - a).toNat = k - a := by omega
 rw [hk, e2]
 have l1 : (B.take k).length = k := by rw [aoL]; omega
 have l2 : (B.take (k - a)).length = k - a := by rw [aoL]; omega
 unfold V7
 rw [l1, l2]
 rcases aoE a k with h1 | h1
 .have hs : B.take k = B.take (k - a) ++ (B.drop (k - a)).take a := by
   rw [<- List.take_add]; congr 1; omega
  have m1 : min a k = a := by omega
  have hT : (B.take k).drop (k - a) = (B.drop (k - a)).take a := by
   rw [List.drop_take, show k - (k - a) = a from by omega]
  rw [m1, arO, Nat.pow_zero, apT, hT]
  obtain ⟨j, hj⟩ : ∃ j, j = min b (k - a) := ⟨_, rfl⟩
  have m2 : min (a + b) k = a + j := by omega
  rw [m2, <- hj]
  have hD : (B.take k).drop (k - (a + j)) = (B.take (k - a)).drop (k - a - j) ++ (B.drop (k - a)).take a := by
   rw [hs, arK (by rw [l2]; omega), show k - (a + j) = k - a - j from by omega]
  rw [hD, T0, aoN, l2, show k - a - (k - a - j) = j from by omega, show a + b - (a + j) = b - j from by omega, apG]
  rw [Nat.add_comm]
  congr 1
  rw [Nat.mul_assoc, apJ (OE _) (2 ^ (b - j)), <- Nat.mul_assoc, <- apY, apJ, show j + (b - j) = b from by omega]
 .have m1 : min a k = k := by omega
  have m2 : min (a + b) k = k := by omega
  have m3 : min b (k - a) = 0 := by omega
  rw [m1, m2, m3, arO, show k - a = 0 from by omega]
  simp only [List.take_zero, aqQ, arP, List.drop_nil, OE, arQ, apI]
  rw [Nat.mul_assoc, <- apY, show a - k + b = a + b - k from by omega]
theorem agS {B : List Bool} {left : Int} {a m : Nat} (h : left <= B.length) (ha : a <= m) : rdL B left m / 2 ^ (m - a) = rdL B left a /\ rdL B left m % 2 ^ (m - a) = rdL B (left - a) (m - a) := by
 obtain ⟨b, rfl⟩ := Nat.exists_eq_add_of_le ha
 rw [asJ, ahA a b h]
 have hlt := aeG B (left - a) b
 constructor
 .rw [apJ, Nat.mul_add_div (apC b), Nat.div_eq_of_lt hlt, apI]
 .rw [apJ, Nat.mul_add_mod, apH hlt]
def KH (C : List (Nat × Nat)) : List Nat -> List Bool
 | [] => []
 | s :: r => KH C r ++ zG (C.getD s (0, 0)).2 (C.getD s (0, 0)).1
theorem rA {C : List (Nat × Nat)} {m : Nat} (h : ∀ s, bitsOf C s <= m) : ∀ l : List Nat, (KH C l).length <= m * l.length
 | [] => by simp [KH]
 | s :: r => by
   rw [KH, anW, Dl, aoG, arC]
   have := h s
   have := rA h r
   unfold bitsOf at *
   omega
theorem ZR {C : List (Nat × Nat)} {m : Nat} {T : List Bool} (hF : agH C m) : ∀ {l : List Nat}, (∀ s ∈ l, 0 < bitsOf C s) -> T.take (KH C l).length = KH C l -> abS C m T l.length ((KH C l).length : Nat) = (l, 0)
 | [], _, _ => rfl
 | s :: r, hb, hT => by
   have h0 := hb s (aoV ..)
   have hg : C[s]? = some ((C.getD s (0, 0)).1, (C.getD s (0, 0)).2) := by
    rw [anY]
    cases h : C[s]? with
    | none => unfold bitsOf at h0; rw [anY, h] at h0; simp at h0
    | some e => rfl
   obtain ⟨hle, hfit⟩ := hF.le _ _ _ hg
   have hfit := hfit h0
   obtain ⟨r1, r2, r3⟩ := ajI (B := []) hT rfl hfit
   have hTl : ((KH C (s :: r)).length : Int) <= T.length := by
    have := congrArg List.length hT
    rw [aoL] at this
    omega
   have hd := (agS (a := (C.getD s (0, 0)).1) (m := m) hTl hle).1
   rw [aoG, abS]
   have hlen : (KH C (s :: r)).length = (KH C r ++ zG (C.getD s (0, 0)).2 (C.getD s (0, 0)).1).length := rfl
   rw [hlen] at hd ⊢
   rw [r1] at hd
   have hs : Zz C m (rdL T (((KH C r ++ zG (C.getD s (0, 0)).2 (C.getD s (0, 0)).1).length : Nat) : Int) m) = s :=
    afY hF (aeG _ _ _) (SL.2 ⟨_, _, hg, h0, hd⟩)
   simp only [hs, bitsOf, r2]
   rw [ZR hF (fun x hx => hb x (aoC _ hx)) r3]
def fc : List (Nat × Nat) -> List asZ
 | [] => []
 | e :: r => .int .u8 (e.1 : Nat) :: .int .i64 (e.2 : Nat) :: fc r
def amB (C : List (Nat × Nat)) (m s x : Nat) : Nat × Nat := match (List.range s).find? (Uv C m x) with
 | some t => (t, bitsOf C t)
 | none => (0, 0)
def amA (C : List (Nat × Nat)) (m s : Nat) : List (Nat × Nat) := (List.range (2 ^ m)).map (amB C m s)
end Go.Pu
namespace Go.Proofs.YtoecppploooloaaGreatDoor
open Go Go.En Go.Pu
set_option maxRecDepth 4000
theorem Wy {a n : Nat} (hn : n <= 62) (h : a * 2 ^ n < 2 ^ 62) : IntKind.i64.wrap ((a : Int) * 2 ^ (min n IntKind.i64.bits)) = ((a * 2 ^ n : Nat) : Int) := by
 have e : IntKind.i64.bits = 64 := rfl
 rw [e, aqD (by omega)]
 have : (a : Int) * 2 ^ n = ((a * 2 ^ n : Nat) : Int) := by push_cast; rfl
 rw [this]
 exact gZ (by omega) (by omega)
theorem aeQ {C : List (Nat × Nat)} {i : Nat} {e : Nat × Nat} (h : C[i]? = some e) : ((cc C).drop (i * 2)).take 2 = [.int .i64 (e.1 : Nat), .int .i64 (e.2 : Nat)] := by
 obtain ⟨hi, rfl⟩ := aqR.1 h
 exact ZN hi
def HtV (w : asY) (base : Nat) (C : List (Nat × Nat)) (v : asZ) : Prop := ∃ b, v = .agg #[.int .i64 (RU C : Nat), .slice (some ⟨b, 0, none⟩) (2 ^ RU C) (2 ^ RU C)] /\ base <= b /\ mP w b (fc (amA C (RU C) C.length))
def Bwd (w : asY) (lo hi : Nat) (l : List UInt8) (left : Int) : Prop := ∃ v, mP w hi [v, .int .i64 left] /\ Bs w v l /\ AtI v lo hi
theorem Bwd.ext {w w' : asY} {lo hi : Nat} {left : Int} {l : List UInt8} {M : Nat -> Prop} (h : Bwd w lo hi l left) (hx : jM w w' M) (hM : ∀ b, lo <= b -> b <= hi -> ¬ M b) (hlh : lo <= hi) : Bwd w' lo hi l left := by
 obtain ⟨v, h1, h2, h3⟩ := h
 exact ⟨v, h1.ext hx (hM _ hlh (aoA _)), h2.ext hx (h3 M fun b hb hh => hM b hb (by omega)), h3⟩
end Go.Proofs.YtoecppploooloaaGreatDoor
namespace Go.En
open Go Go.RowKit
section
variable {P : Program} {w : asY} {t e : TypeId} {k : IntKind}
end
end Go.En
namespace Go.Proofs.YtoecppploooloaaGreatDoor
open Go Go.En Go.Pu
set_option maxRecDepth 4000
theorem HtV.ext {w w' : asY} {base : Nat} {C : List (Nat × Nat)} {v : asZ} {M : Nat -> Prop} (h : HtV w base C v) (x : jM w w' M) (hM : ∀ b, base <= b -> ¬ M b) : HtV w' base C v := by
 obtain ⟨b, h1, h2, h3⟩ := h
 exact ⟨b, h1, h2, h3.ext x (hM b h2)⟩
def RM (C : List (Nat × Nat)) (l : List UInt8) (n : Nat) : Except Int (List Nat) := match YV l with
 | none => .error 11
 | some k =>
   if (abS C (RU C) (tH l) n (k : Int)).2 < 0 then .error 11
   else if 0 < (abS C (RU C) (tH l) n (k : Int)).2 then .error 15
   else .ok (abS C (RU C) (tH l) n (k : Int)).1
theorem SC {a b : Nat} (ha : a < 2 ^ 62) (hb : b < 2 ^ 62) : UI .i64 (a : Int) (b : Int) = ((a ||| b : Nat) : Int) := by
 have h := Nat.or_lt_two_pow ha hb
 unfold UI
 have e : IntKind.i64.bits = 64 := rfl
 rw [e, BitVec.ofInt_natCast, BitVec.ofInt_natCast, BitVec.toNat_or, BitVec.toNat_ofNat, BitVec.toNat_ofNat, apH (by omega), apH (by omega)]
 exact gZ (by omega) (by omega)
abbrev wC (wl : List UInt8) : List (Nat × Nat) := pZ (kA wl) (oC (kA wl))
structure WOk (wl : List UInt8) : Prop where
 d0 : oC (kA wl) ≠ 0
theorem WOk.full {wl : List UInt8} (h : oC (kA wl) ≠ 0) : agH (wC wl) (RU (wC wl)) /\ RU (wC wl) <= 11 /\ (wC wl).length <= 256 := by
 obtain ⟨h1, h2⟩ := YC rfl h
 have h3 := Kl rfl h
 exact ⟨h1, apN h2 h3.2.1, by rw [B6]; exact h3.2.2.2.1⟩
def ajB (wl s : List UInt8) (n : Nat) : Except Int (List Nat) := if oC (kA wl) = 0 then .error 1 else RM (wC wl) s n
theorem aeT {n q : Nat} (hn : n <= 131072) (hq : q = (n + 3) / 4) (w : asY) :
 jD pg GZ #[.int .i64 n] w (fun r w' => r = .tuple #[.agg #[.int .i64 (q : Nat), .int .i64 (q : Nat), .int .i64 (q : Nat), .int .i64 ((n : Int) - 3 * (q : Int))], .bool (decide (3 * (q : Int) <= (n : Int)))] /\ jM w w' mM) := by
 refine UB ?_
 unfold U7 JR
 have e1 : (n : Int) + 4 - 1 = ((n + 3 : Nat) : Int) := by omega
 have e2 : ((n + 3 : Nat) : Int).tdiv 4 = (q : Int) := by rw [aqZ (by omega)]; omega
 have e3 : IntKind.i64.wrap (q : Int) = (q : Int) := gZ (by omega) (by omega)
 generalize hK : (fun (t2 : asZ) (w : asY) => _) = K
 refine UM fun w1 o1 x1 s1 => ?_
 simp (disch := omega) only [hK.symm, gD, hO, gZ, cJ, iB, e1, iN, e2, e3, iP, iE, bW]
 refine TZ o1 rfl (by simp [one]) (by simp) fun w2 o2 x2 s2 => ?_
 refine XQ o2 (by simp [qM]) ?_
 simp only [qM, aoK, aoM, aqQ, List.take_succ_cons, List.take_zero]
 exact ⟨trivial, x1.new x2 (aoA _)⟩
def YW (C : List (Nat × Nat)) : List UInt8 -> List (Nat × Nat) -> Except Int (List Nat)
 | _, [] => .ok []
 | l, (k, n) :: r => match RM C (l.take k) n with
   | .error e => .error e
   | .ok m => (match YW C (l.drop k) r with
     | .error e => .error e
     | .ok m' => .ok (m ++ m'))
def nA (l : List UInt8) : Nat := Ye (l.take 2)
def nB (l : List UInt8) : Nat := Ye ((l.drop 2).take 2)
def nC (l : List UInt8) : Nat := Ye ((l.drop 4).take 2)
def agZ (wl l : List UInt8) (n : Nat) : Except Int (List Nat) :=
 if oC (kA wl) = 0 then .error 1
 else if n < 3 * ((n + 3) / 4) then .error 11
 else if l.length < 6 then .error 10
 else if (l.drop 6).length < nA l + nB l + nC l then .error 10
 else YW (wC wl) (l.drop 6) [(nA l, (n + 3) / 4), (nB l, (n + 3) / 4), (nC l, (n + 3) / 4), ((l.drop 6).length - (nA l + nB l + nC l), n - 3 * ((n + 3) / 4))]
def nx (l : List UInt8) : Nat -> List UInt8 × Int
 | 0 => (l, 0)
 | i + 1 => ((tkR (nx l i).1 (nx l i).2 2).2.1, (tkR (nx l i).1 (nx l i).2 2).2.2)
theorem Kp {w : asY} {base base' sz n : Nat} {v : asZ} {l : List asZ} (h : xH w base sz v n l) (hb : base' <= base) : xH w base' sz v n l := by
 rcases h.2 with h0 | ⟨b, c, rest, h1, h2, h3⟩
 .exact ⟨h.1, .inl h0⟩
 .exact ⟨h.1, .inr ⟨b, c, rest, h1, by omega, h3⟩⟩
theorem Vq {k n : Nat} {w : asY} (hk : k < 2) (hn : n <= 131072) :
 jD pg vY #[.int .i64 k, .int .i64 n] w (fun r w' => xH w' w.heap.size 1 r (uJ k n).length ((uJ k n).map pB) /\ jM w w' mM) := by
 refine Qb ?_
 obtain ⟨RR, hRR⟩ : ∃ RR : asZ -> asY -> Prop, RR = fun r w' => xH w' w.heap.size 1 r (uJ k n).length ((uJ k n).map pB) /\ jM w w' mM := ⟨_, rfl⟩
 rw [<- hRR]
 unfold OX DI DY
 refine (FH w).mono ?_
 rintro r w1 ⟨rfl, hlt, hc1, x1⟩
 have z1 := x1.size
 have fin : ∀ (X m : Nat) (w2 : asY), X < 2 ^ 40 -> 1 <= m -> m <= 8 -> pD X m = uJ k n -> w2 = w1 →
     jD pg jL #[.pointer (some ⟨w.heap.size, 0, none⟩), .int .u64 X, .int .i64 m] w2 fun _ w' => tV RR (.pointer (some ⟨w.heap.size, 0, none⟩)) w' := by
  intro X m w2 hX h1 h8 hp hw
  subst hw
  refine (Ar (n := m) hc1 (fun b hb => by omega) (Nat.lt_trans hX (by decide)) ⟨h1, h8⟩ (asN _)).mono ?_
  rintro r w3 ⟨rfl, hc3, x3⟩
  rw [apL, hp] at hc3
  have hpl : (uJ k n).length <= 8 := by rw [<- hp, mE]; exact h8
  unfold tV
  have hpl2 : (uJ k n).length <= 1000000000 := apN hpl (by decide)
  have hout := OZ hc3 hpl2
  refine hout.mono ?_
  rintro r w4 ⟨o4, x4⟩
  have x03 : jM w w3 mM := x1.trans x3 fun y hy h => by omega
  have z3 := x03.size
  have hfin : xH w4 w.heap.size 1 r (uJ k n).length ((uJ k n).map pB) /\ jM w w4 mM := ⟨Kp o4 z3, x03.seq x4⟩
  rw [hRR]
  exact hfin
 have t3 : (3 : Int).toNat = 3 := rfl
 have t4 : (4 : Int).toNat = 4 := rfl
 have p3 : (2 : Nat) ^ 3 = 8 := rfl
 have p4 : (2 : Nat) ^ 4 = 16 := rfl
 by_cases h1 : n < 32
 .have d1 : decide ((n : Int) < 32) = true := decide_eq_true (by omega)
  have e1 := Wy (a := n) (n := 3) (by omega) (by omega)
  have e2 : UI .i64 ((n * 2 ^ 3 : Nat) : Int) (k : Int) = ((n * 8 + k : Nat) : Int) := by
   rw [SC (by omega) (by omega), LL 3 (by omega)]
  have e3 : IntKind.u64.wrap ((n * 8 + k : Nat) : Int) = ((n * 8 + k : Nat) : Int) := hZ (by omega) (by omega)
  simp (disch := omega) only [gD, jF, cJ, stepR_skip, hO, iB, iP, iN, iK, iO, jI, iV, gK, iC, iF, iD, iH, hJ, iM, hU, iE, iW, iS, iJ, gQ, iR, iQ, iG, kU, kV, lF, lC, lH, lE, lJ, lG, lD, gB, Result.ok.injEq, Next.value.injEq, true_and, and_true, gZ, hZ, iX, iT, iU, jG, anP, gW, gU, gX, gT, gM, gI, gN, gL, fZ, fT, if_true, if_false, anO, anS, anQ, anR, anU, anT, anN, anM, fM, fK, fB, fQ, cU, eQ, eE, dJ, bJ, fR, fE, aL, dD, aZ, bM, bP, aO, cQ, cF, eP, aF, gS, aP, cK, aR, bS, fS, cI, cC, aB, gC, fA, aI, aG, bN, gO, aN, eU, dZ, dV, gG, dH, fC, dC, eF, eZ, eY, cB, cY, gJ, eD, bZ, bF, bY, bX, fO, aD, aE, aM, aV, bE, cS, bK, aA, fF, aH, cO, fI, eT, gH, bO, eM, eK, bW, fW, eS, eI, cZ, cL, dF, aX, bD, aQ, gA, aJ, dB, dY, bB, cH, fJ, dK, gE, fL, fH, fG, dS, aK, cG, dG, fX, fY, fD, dE, aT, dT, fV, cP, eX, fN, cD, bL, dP, aW, dX, dR, cN, eN, eL, aY, dI, bA, dO, dW, dN, bH, cR, cM, dM, bR, cW, cV, fP, bV, eH, eJ, gF, dU, dQ, dL, dA, bG, bQ, bU, bT, aS, cX, aU, d1, t3, e1, e2, e3]
  exact fin (n * 8 + k) 1 _ (by omega) (by omega) (by omega) (by unfold uJ; rw [if_pos h1]) rfl
 have d1 : decide ((n : Int) < 32) = false := decide_eq_false (by omega)
 have e1 := Wy (a := n) (n := 4) (by omega) (by omega)
 by_cases h2 : n < 4096
 .have d2 : decide ((n : Int) < 4096) = true := decide_eq_true (by omega)
  have e2 : UI .i64 ((n * 2 ^ 4 : Nat) : Int) 4 = ((n * 16 + 4 : Nat) : Int) := by
   have := SC (a := n * 2 ^ 4) (b := 4) (by omega) (by omega)
   rw [LL 4 (by omega)] at this
   exact this
  have e3 : UI .i64 ((n * 16 + 4 : Nat) : Int) (k : Int) = ((n * 16 + 4 + k : Nat) : Int) := by
   rw [SC (by omega) (by omega), show n * 16 + 4 = (n * 4 + 1) * 2 ^ 2 from by omega, LL 2 (by omega)]
  have e4 : IntKind.u64.wrap ((n * 16 + 4 + k : Nat) : Int) = ((n * 16 + 4 + k : Nat) : Int) := hZ (by omega) (by omega)
  simp (disch := omega) only [gD, jF, cJ, stepR_skip, hO, iB, iP, iN, iK, iO, jI, iV, gK, iC, iF, iD, iH, hJ, iM, hU, iE, iW, iS, iJ, gQ, iR, iQ, iG, kU, kV, lF, lC, lH, lE, lJ, lG, lD, gB, Result.ok.injEq, Next.value.injEq, true_and, and_true, gZ, hZ, iX, iT, iU, jG, anP, gW, gU, gX, gT, gM, gI, gN, gL, fZ, fT, if_true, if_false, anO, anS, anQ, anR, anU, anT, anN, anM, fM, fK, fB, fQ, cU, eQ, eE, dJ, bJ, fR, fE, aL, dD, aZ, bM, bP, aO, cQ, cF, eP, aF, gS, aP, cK, aR, bS, fS, cI, cC, aB, gC, fA, aI, aG, bN, gO, aN, eU, dZ, dV, gG, dH, fC, dC, eF, eZ, eY, cB, cY, gJ, eD, bZ, bF, bY, bX, fO, aD, aE, aM, aV, bE, cS, bK, aA, fF, aH, cO, fI, eT, gH, bO, eM, eK, bW, fW, eS, eI, cZ, cL, dF, aX, bD, aQ, gA, aJ, dB, dY, bB, cH, fJ, dK, gE, fL, fH, fG, dS, aK, cG, dG, fX, fY, fD, dE, aT, dT, fV, cP, eX, fN, cD, bL, dP, aW, dX, dR, cN, eN, eL, aY, dI, bA, dO, dW, dN, bH, cR, cM, dM, bR, cW, cV, fP, bV, eH, eJ, gF, dU, dQ, dL, dA, bG, bQ, bU, bT, aS, cX, aU, d1, d2, t4, e1, e2, e3, e4]
  exact fin (n * 16 + 4 + k) 2 _ (by omega) (by omega) (by omega) (by unfold uJ; rw [if_neg h1, if_pos h2]) rfl
 .have d2 : decide ((n : Int) < 4096) = false := decide_eq_false (by omega)
  have e2 : UI .i64 ((n * 2 ^ 4 : Nat) : Int) 12 = ((n * 16 + 12 : Nat) : Int) := by
   have := SC (a := n * 2 ^ 4) (b := 12) (by omega) (by omega)
   rw [LL 4 (by omega)] at this
   exact this
  have e3 : UI .i64 ((n * 16 + 12 : Nat) : Int) (k : Int) = ((n * 16 + 12 + k : Nat) : Int) := by
   rw [SC (by omega) (by omega), show n * 16 + 12 = (n * 4 + 3) * 2 ^ 2 from by omega, LL 2 (by omega)]
  have e4 : IntKind.u64.wrap ((n * 16 + 12 + k : Nat) : Int) = ((n * 16 + 12 + k : Nat) : Int) := hZ (by omega) (by omega)
  simp (disch := omega) only [gD, jF, cJ, stepR_skip, hO, iB, iP, iN, iK, iO, jI, iV, gK, iC, iF, iD, iH, hJ, iM, hU, iE, iW, iS, iJ, gQ, iR, iQ, iG, kU, kV, lF, lC, lH, lE, lJ, lG, lD, gB, Result.ok.injEq, Next.value.injEq, true_and, and_true, gZ, hZ, iX, iT, iU, jG, anP, gW, gU, gX, gT, gM, gI, gN, gL, fZ, fT, if_true, if_false, anO, anS, anQ, anR, anU, anT, anN, anM, fM, fK, fB, fQ, cU, eQ, eE, dJ, bJ, fR, fE, aL, dD, aZ, bM, bP, aO, cQ, cF, eP, aF, gS, aP, cK, aR, bS, fS, cI, cC, aB, gC, fA, aI, aG, bN, gO, aN, eU, dZ, dV, gG, dH, fC, dC, eF, eZ, eY, cB, cY, gJ, eD, bZ, bF, bY, bX, fO, aD, aE, aM, aV, bE, cS, bK, aA, fF, aH, cO, fI, eT, gH, bO, eM, eK, bW, fW, eS, eI, cZ, cL, dF, aX, bD, aQ, gA, aJ, dB, dY, bB, cH, fJ, dK, gE, fL, fH, fG, dS, aK, cG, dG, fX, fY, fD, dE, aT, dT, fV, cP, eX, fN, cD, bL, dP, aW, dX, dR, cN, eN, eL, aY, dI, bA, dO, dW, dN, bH, cR, cM, dM, bR, cW, cV, fP, bV, eH, eJ, gF, dU, dQ, dL, dA, bG, bQ, bU, bT, aS, cX, aU, d1, d2, t4, e1, e2, e3, e4]
  exact fin (n * 16 + 12 + k) 3 _ (by omega) (by omega) (by omega) (by unfold uJ; rw [if_neg h1, if_neg h2]) rfl
theorem acP {v : asZ} {l : List UInt8} {w : asY} (h : Bs w v l) (hl : l.length <= 131072) :
 jD pg Eh #[v] w (fun r w' => ∃ x, r = .tuple #[x, .int .i64 0] /\ xH w' w.heap.size 1 x (uJ 0 l.length ++ l).length ((uJ 0 l.length ++ l).map pB) /\ jM w w' mM) := by
 refine RK ?_
 unfold Se GG
 have hv := h
 obtain ⟨a, c, rfl, hc⟩ := h.len
 rw [anV] at *
 have d1 : decide ((l.length : Int) > 131072) = false := decide_eq_false (by omega)
 have d2 : decide ((131072 : Int) < (l.length : Int)) = false := decide_eq_false (by omega)
 simp (disch := omega) only [gD, jF, cJ, stepR_skip, hO, iB, iP, iN, iK, iO, jI, iV, gK, iC, iF, iD, iH, hJ, iM, hU, iE, iW, iS, iJ, gQ, iR, iQ, iG, kU, kV, lF, lC, lH, lE, lJ, lG, lD, gB, Result.ok.injEq, Next.value.injEq, true_and, and_true, gZ, hZ, iX, iT, iU, jG, anP, gW, gU, gX, gT, gM, gI, gN, gL, fZ, fT, if_true, if_false, anO, anS, anQ, anR, anU, anT, anN, anM, fM, fK, fB, fQ, cU, eQ, eE, dJ, bJ, fR, fE, aL, dD, aZ, bM, bP, aO, cQ, cF, eP, aF, gS, aP, cK, aR, bS, fS, cI, cC, aB, gC, fA, aI, aG, bN, gO, aN, eU, dZ, dV, gG, dH, fC, dC, eF, eZ, eY, cB, cY, gJ, eD, bZ, bF, bY, bX, fO, aD, aE, aM, aV, bE, cS, bK, aA, fF, aH, cO, fI, eT, gH, bO, eM, eK, bW, fW, eS, eI, cZ, cL, dF, aX, bD, aQ, gA, aJ, dB, dY, bB, cH, fJ, dK, gE, fL, fH, fG, dS, aK, cG, dG, fX, fY, fD, dE, aT, dT, fV, cP, eX, fN, cD, bL, dP, aW, dX, dR, cN, eN, eL, aY, dI, bA, dO, dW, dN, bH, cR, cM, dM, bR, cW, cV, fP, bV, eH, eJ, gF, dU, dQ, dL, dA, bG, bQ, bU, bT, aS, cX, aU, d1, d2]
 refine (Vq (k := 0) (n := l.length) (by omega) hl).mono ?_
 rintro r w1 ⟨o1, x1⟩
 have z1 := x1.size
 have hcl := (hv.ext x1 (kJ _)).cl
 rw [anV] at hcl
 have hp := Mg 0 l.length
 refine mC o1 hcl (DE _) z1 (by omega) fun v2 w2 o2 x2 => ?_
 refine ⟨v2, rfl, ?_, x1.trans x2 fun y hy h => by omega⟩
 rw [anW, aoX]
 exact o2
theorem aaZ {c : UInt8} {n : Nat} {w : asY} (hn : n <= 131072) :
 jD pg Cm #[pB c, .int .i64 n] w (fun r w' => ∃ x, r = .tuple #[x, .int .i64 0] /\ xH w' w.heap.size 1 x (uJ 1 n ++ [c]).length ((uJ 1 n ++ [c]).map pB) /\ jM w w' mM) := by
 refine QI ?_
 unfold Qx Fp
 have d0 : decide ((n : Int) < 0) = false := decide_eq_false (by omega)
 have d1 : decide ((n : Int) > 131072) = false := decide_eq_false (by omega)
 have d2 : decide ((131072 : Int) < (n : Int)) = false := decide_eq_false (by omega)
 simp (disch := omega) only [gD, jF, cJ, stepR_skip, hO, iB, iP, iN, iK, iO, jI, iV, gK, iC, iF, iD, iH, hJ, iM, hU, iE, iW, iS, iJ, gQ, iR, iQ, iG, kU, kV, lF, lC, lH, lE, lJ, lG, lD, gB, Result.ok.injEq, Next.value.injEq, true_and, and_true, gZ, hZ, iX, iT, iU, jG, anP, gW, gU, gX, gT, gM, gI, gN, gL, fZ, fT, if_true, if_false, anO, anS, anQ, anR, anU, anT, anN, anM, fM, fK, fB, fQ, cU, eQ, eE, dJ, bJ, fR, fE, aL, dD, aZ, bM, bP, aO, cQ, cF, eP, aF, gS, aP, cK, aR, bS, fS, cI, cC, aB, gC, fA, aI, aG, bN, gO, aN, eU, dZ, dV, gG, dH, fC, dC, eF, eZ, eY, cB, cY, gJ, eD, bZ, bF, bY, bX, fO, aD, aE, aM, aV, bE, cS, bK, aA, fF, aH, cO, fI, eT, gH, bO, eM, eK, bW, fW, eS, eI, cZ, cL, dF, aX, bD, aQ, gA, aJ, dB, dY, bB, cH, fJ, dK, gE, fL, fH, fG, dS, aK, cG, dG, fX, fY, fD, dE, aT, dT, fV, cP, eX, fN, cD, bL, dP, aW, dX, dR, cN, eN, eL, aY, dI, bA, dO, dW, dN, bH, cR, cM, dM, bR, cW, cV, fP, bV, eH, eJ, gF, dU, dQ, dL, dA, bG, bQ, bU, bT, aS, cX, aU, d0, d1, d2]
 refine (Vq (k := 1) (n := n) (by omega) hn).mono ?_
 rintro r w1 ⟨o1, x1⟩
 have z1 := x1.size
 have hp := Mg 1 n
 refine sK (cells := #[pB c]) (by decide) (by decide) (by kernel_rfl) fun w2 o2 x2 s2 => ?_
 have z2 := x2.size
 refine mC (m := 1) (news := [pB c]) (o1.ext x2 (fun _ _ h => h)) (o2.cl (off := 0) (l := [pB c]) (n := 1) rfl (fun i hi => by rw [anS])) (by simp [one, pB]) (by omega) (by omega) fun v2 w3 o3 x3 => ?_
 refine ⟨v2, rfl, ?_, (x1.seq x2).trans x3 fun y hy h => by omega⟩
 rw [anW, aoX]
 exact o3
end Go.Proofs.YtoecppploooloaaGreatDoor
namespace Go.En
open Go
section
variable {P : Program}
theorem U8 {a : Array asZ} {t x : Nat} {v : asZ} (h : t < a.size) : MZ (a.setIfInBounds t v) x = if x = t then v else MZ a x := by
 unfold MZ
 rw [anZ, anZ]
 by_cases hx : x = t
 .subst hx; rw [aoS h, if_pos rfl] <;> rfl
 .rw [apA (fun e => hx e.symm), if_neg hx]
theorem abM {N x : Nat} {g : Env} (h : x < N) : MZ (tmpsOf N g) x = g x := by
 unfold MZ tmpsOf
 rw [anZ, aoH (by simpa using h)]
 simp
theorem UG {f : FuncId} {fn : Func} (hf : P.funcs[f]? = some fn) (hb : fn.body.isSome = true) (hn : (fn.name == "runtime.NumGoroutine") = false) (cap : Array asZ) (args : List asZ) (w : asY) :
 (CZ (.func (.func f) #[] cap) args).run P w = .ok (.enter f (args.toArray ++ cap)) w := by
 unfold CZ Deferred.ofValue
 simp only [pure_bind, invoke, Array.empty_append]
 exact SH hf hb hn _ _
def UX (r : Loop) (args : List asZ) : Array asZ := (r.params.zip args.toArray).foldl (fun tmps (t, a) => tmps.setIfInBounds t a) r.tmps
theorem ahB {r : Loop} {a b : Tmp} {t : Array asZ} (hp : r.params = #[a, b]) (ht : r.tmps = t) (x y : asZ) : UX r [x, y] = (t.setIfInBounds a x).setIfInBounds b y := by
 unfold UX; rw [hp, ht]; simp
theorem ahR {l : Nat} {r : Loop} {args : List asZ} {w : asY} (h : w.heap[l]? = some (.loop r)) (hs : args.length = r.params.size) :
 (CZ (Is l) args).run P w = .ok (.round l r.fn (UX r args) r.assign r.body) w := by
 unfold CZ Is Deferred.ofValue
 simp only [pure_bind, invoke, Array.empty_append]
 exact run_yield h (by simpa using hs)
theorem aeI {f fi : FuncId} {fn : Func} {gf : Operand} {ps : Array Tmp} {anL bd : Code} {Q : Exit -> Env -> asY -> Prop} {g : Env} {w : asY} {cap : Array asZ}
 (hm : noMark (g DS) = true) (he : ev g gf = .func (.func fi) #[] cap) (hf : P.funcs[fi]? = some fn) (hb : fn.body.isSome = true) (hn : (fn.name == "runtime.NumGoroutine") = false)
 (h : jD P fi (#[Is (w.heap.size + 1)] ++ cap) (rfW f (Tb P f) ps anL bd g w) fun _ w3 => afV (w.heap.size + 1) Q (put g (some DS) (.pointer (some ⟨w.heap.size, 0, none⟩))) w3) :
 RF P f gf ps anL bd Q g w := by
 unfold RF
 rw [hm]
 simp only
 rw [he, UG hf hb hn]
 exact h
theorem jM.putObj (w : asY) (l : Nat) (o : Obj) : jM w (w.putObj l o) (fun y => y = l) :=
 ⟨rfl, rfl, rfl, by simp, fun b hb hM => World.putObj_heap_other hM⟩
theorem EW {w w' : asY} {l : Nat} {o : Obj} {M : Nat -> Prop} (h : w.heap[l]? = some o) (hx : jM w w' M) (hM : ¬ M l) : w'.heap[l]? = some o := by
 have : l < w.heap.size := by
  rcases aoE l w.heap.size with h' | h'
  .exact h'
  .rw [apU h'] at h; cases h
 rw [hx.keep l this hM]; exact h
theorem aiE {w : asY} {l : Nat} {o : Obj} (h : w.heap[l]? = some o) : l < w.heap.size := by
 rcases aoE l w.heap.size with h' | h'
 .exact h'
 .rw [apU h'] at h; cases h
theorem aaJ (f : FuncId) (N : Nat) (ps : Array Tmp) (anL bd : Code) (g : Env) (w : asY) :
 jM w (rfW f N ps anL bd g w) mM /\ (rfW f N ps anL bd g w).heap.size = w.heap.size + 2 /\ (rfW f N ps anL bd g w).heap[w.heap.size]? = some (.deferred (some [])) /\
  (rfW f N ps anL bd g w).heap[w.heap.size + 1]? = some (.loop { state := .ready, pending := none, fn := f, tmps := tmpsOf N g, params := ps, assign := anL, body := bd, defers := w.heap.size }) := by
 unfold rfW
 have x1 := jM.alloc w (.deferred (some [])) mM
 have h1 := World.alloc_heap_new w (.deferred (some []))
 have z1 : (w.alloc (.deferred (some []))).heap.size = w.heap.size + 1 := by simp
 generalize w.alloc (.deferred (some [])) = w1 at *
 refine ⟨x1.seq (jM.alloc w1 _ mM), by simp [z1], EW h1 (jM.alloc w1 _ mM) (fun h => h), ?_⟩
 have := World.alloc_heap_new w1 (.loop { state := .ready, pending := none, fn := f, tmps := tmpsOf N g, params := ps, assign := anL, body := bd, defers := w.heap.size })
 rw [z1] at this
 exact this
theorem Z8 {l : Nat} {r : Loop} {w : asY} {K : asY -> Prop} (h : w.heap[l]? = some (.loop r)) (hr : r.state = .ready)
 (hk : ∀ w', w'.heap[l]? = some (.loop { r with state := .busy }) -> jM w w' (fun y => y = l) -> w'.heap.size = w.heap.size -> K w') : Rdy l w K :=
 ⟨r, h, hr, hk _ (World.putObj_heap_same (aiE h)) (jM.putObj _ _ _) (by simp)⟩
theorem UR {l : Nat} {r : Loop} {j : Option Code} {w : asY} {R : asZ -> asY -> Prop} (h : w.heap[l]? = some (.loop r))
 (hk : ∀ w', w'.heap[l]? = some (.loop { r with state := jSt j, pending := j }) -> jM w w' (fun y => y = l) -> w'.heap.size = w.heap.size -> R (.bool j.isNone) w') : XL l j R w :=
 ⟨r, h, hk _ (World.putObj_heap_same (aiE h)) (jM.putObj _ _ _) (by simp)⟩
theorem T6 {l : Nat} {r : Loop} {w : asY} {Q : Exit -> Env -> asY -> Prop} {g : Env} (h : w.heap[l]? = some (.loop r)) (hb : r.state ≠ .busy)
 (hk : ∀ w', jM w w' (fun y => y = l) -> w'.heap.size = w.heap.size -> ajM Q g r.pending w') : afV l Q g w :=
 ⟨r, h, hb, hk _ (jM.putObj _ _ _) (by simp)⟩
theorem Vb {b : Nat} {w : asY} {K : asY -> Prop} (h : w.heap[b]? = some (.deferred (some []))) (hk : ∀ w', jM w w' (fun y => y = b) -> w'.heap.size = w.heap.size -> K w') :
 EE (.pointer (some ⟨b, 0, none⟩)) w K := ⟨h, hk _ (jM.putObj _ _ _) (by simp)⟩
theorem Zm {f : FuncId} (first captured : List asZ) (w : asY) : (VD (.func f) first captured).run P w = .ok (.value (.func (.func f) first.toArray captured.toArray)) w := by
 unfold VD V Instr.makeFunc
 simp [Sem.run_bind, Sem.run_pure]
end
end Go.En
namespace Go.Proofs.YtoecppploooloaaGreatDoor
open Go Go.En Go.Pu
set_option maxRecDepth 4000
theorem akB : pD 4247762216 4 = [40, 181, 47, 253] := by decide
theorem WC {n : Nat} {s : Bool} {w : asY} (hn : n < 65792) :
 jD pg FU #[.int .u64 (n : Nat), .bool s] w (fun r w' => xH w' w.heap.size 1 r (Mh n s).length ((Mh n s).map pB) /\ jM w w' mM) := by
 refine TK ?_
 obtain ⟨RR, hRR⟩ : ∃ RR : asZ -> asY -> Prop, RR = fun r w' => xH w' w.heap.size 1 r (Mh n s).length ((Mh n s).map pB) /\ jM w w' mM := ⟨_, rfl⟩
 rw [<- hRR]
 unfold T5 Hg H5 Il Ib
 have fin : ∀ (d m less : Nat), d < 256 -> 1 <= m /\ m <= 2 -> less <= n -> [40, 181, 47, 253] ++ pD d 1 ++ pD (n - less) m = Mh n s -> Ak RR (.int .u64 (n : Nat)) (.int .u64 (d : Nat)) (.int .i64 (m : Nat)) (.int .u64 (less : Nat)) w := by
  intro d m less hd hm hle he
  unfold Ak
  refine (FH w).mono ?_
  rintro r w1 ⟨rfl, hlt, h1, x1⟩
  have z1 := x1.size
  have e1 : (n : Int) - (less : Int) = ((n - less : Nat) : Int) := by omega
  refine (Ar (x := 4247762216) (n := 4) h1 (fun b hb => by omega) (by decide) ⟨by omega, by omega⟩ (by simp)).mono ?_
  rintro r w2 ⟨rfl, h2, x2⟩
  have z2 := x2.size
  rw [apL, akB] at h2
  refine (Ar (x := d) (n := 1) h2 (fun b hb => by omega) (by omega) ⟨by omega, by omega⟩ (by simp)).mono ?_
  rintro r w3 ⟨rfl, h3, x3⟩
  have z3 := x3.size
  simp (disch := omega) only [gD, jF, cJ, stepR_skip, hO, iB, iP, iN, iK, iO, jI, iV, gK, iC, iF, iD, iH, hJ, iM, hU, iE, iW, iS, iJ, gQ, iR, iQ, iG, kU, kV, lF, lC, lH, lE, lJ, lG, lD, gB, Result.ok.injEq, Next.value.injEq, true_and, and_true, gZ, hZ, iX, iT, iU, jG, anP, gW, gU, gX, gT, gM, gI, gN, gL, fZ, fT, if_true, if_false, anO, anS, anQ, anR, anU, anT, anN, anM, fM, fK, fB, fQ, cU, eQ, eE, dJ, bJ, fR, fE, aL, dD, aZ, bM, bP, aO, cQ, cF, eP, aF, gS, aP, cK, aR, bS, fS, cI, cC, aB, gC, fA, aI, aG, bN, gO, aN, eU, dZ, dV, gG, dH, fC, dC, eF, eZ, eY, cB, cY, gJ, eD, bZ, bF, bY, bX, fO, aD, aE, aM, aV, bE, cS, bK, aA, fF, aH, cO, fI, eT, gH, bO, eM, eK, bW, fW, eS, eI, cZ, cL, dF, aX, bD, aQ, gA, aJ, dB, dY, bB, cH, fJ, dK, gE, fL, fH, fG, dS, aK, cG, dG, fX, fY, fD, dE, aT, dT, fV, cP, eX, fN, cD, bL, dP, aW, dX, dR, cN, eN, eL, aY, dI, bA, dO, dW, dN, bH, cR, cM, dM, bR, cW, cV, fP, bV, eH, eJ, gF, dU, dQ, dL, dA, bG, bQ, bU, bT, aS, cX, aU, e1]
  refine (Ar (x := n - less) (n := m) h3 (fun b hb => by omega) (by omega) ⟨by omega, by omega⟩ (by simp [mE])).mono ?_
  rintro r w4 ⟨rfl, h4, x4⟩
  rw [he] at h4
  refine (OZ h4 (by have := XU n s; omega)).mono ?_
  rintro r w5 ⟨o5, x5⟩
  have x04 : jM w w4 mM := ((x1.trans x2 fun y hy h => by omega).trans x3 fun y hy h => by omega).trans x4 fun y hy h => by omega
  rw [hRR]
  exact ⟨Kp o5 x04.size, x04.seq x5⟩
 have o1 : UI .u64 32 64 = 96 := by decide
 have o2 : UI .u64 32 4 = 36 := by decide
 have o3 : UI .u64 96 4 = 100 := by decide
 by_cases h1 : n < 256
 .have d1 : decide ((n : Int) < 256) = true := decide_eq_true (by omega)
  cases s with
  | true =>
    simp (disch := omega) only [gD, jF, cJ, stepR_skip, hO, iB, iP, iN, iK, iO, jI, iV, gK, iC, iF, iD, iH, hJ, iM, hU, iE, iW, iS, iJ, gQ, iR, iQ, iG, kU, kV, lF, lC, lH, lE, lJ, lG, lD, gB, Result.ok.injEq, Next.value.injEq, true_and, and_true, gZ, hZ, iX, iT, iU, jG, anP, gW, gU, gX, gT, gM, gI, gN, gL, fZ, fT, if_true, if_false, anO, anS, anQ, anR, anU, anT, anN, anM, fM, fK, fB, fQ, cU, eQ, eE, dJ, bJ, fR, fE, aL, dD, aZ, bM, bP, aO, cQ, cF, eP, aF, gS, aP, cK, aR, bS, fS, cI, cC, aB, gC, fA, aI, aG, bN, gO, aN, eU, dZ, dV, gG, dH, fC, dC, eF, eZ, eY, cB, cY, gJ, eD, bZ, bF, bY, bX, fO, aD, aE, aM, aV, bE, cS, bK, aA, fF, aH, cO, fI, eT, gH, bO, eM, eK, bW, fW, eS, eI, cZ, cL, dF, aX, bD, aQ, gA, aJ, dB, dY, bB, cH, fJ, dK, gE, fL, fH, fG, dS, aK, cG, dG, fX, fY, fD, dE, aT, dT, fV, cP, eX, fN, cD, bL, dP, aW, dX, dR, cN, eN, eL, aY, dI, bA, dO, dW, dN, bH, cR, cM, dM, bR, cW, cV, fP, bV, eH, eJ, gF, dU, dQ, dL, dA, bG, bQ, bU, bT, aS, cX, aU, d1, o1, o2, o3]
    exact fin 36 1 0 (by omega) (by omega) (by omega) (by unfold Mh; rw [if_pos h1] <;> rfl)
  | false =>
    simp (disch := omega) only [gD, jF, cJ, stepR_skip, hO, iB, iP, iN, iK, iO, jI, iV, gK, iC, iF, iD, iH, hJ, iM, hU, iE, iW, iS, iJ, gQ, iR, iQ, iG, kU, kV, lF, lC, lH, lE, lJ, lG, lD, gB, Result.ok.injEq, Next.value.injEq, true_and, and_true, gZ, hZ, iX, iT, iU, jG, anP, gW, gU, gX, gT, gM, gI, gN, gL, fZ, fT, if_true, if_false, anO, anS, anQ, anR, anU, anT, anN, anM, fM, fK, fB, fQ, cU, eQ, eE, dJ, bJ, fR, fE, aL, dD, aZ, bM, bP, aO, cQ, cF, eP, aF, gS, aP, cK, aR, bS, fS, cI, cC, aB, gC, fA, aI, aG, bN, gO, aN, eU, dZ, dV, gG, dH, fC, dC, eF, eZ, eY, cB, cY, gJ, eD, bZ, bF, bY, bX, fO, aD, aE, aM, aV, bE, cS, bK, aA, fF, aH, cO, fI, eT, gH, bO, eM, eK, bW, fW, eS, eI, cZ, cL, dF, aX, bD, aQ, gA, aJ, dB, dY, bB, cH, fJ, dK, gE, fL, fH, fG, dS, aK, cG, dG, fX, fY, fD, dE, aT, dT, fV, cP, eX, fN, cD, bL, dP, aW, dX, dR, cN, eN, eL, aY, dI, bA, dO, dW, dN, bH, cR, cM, dM, bR, cW, cV, fP, bV, eH, eJ, gF, dU, dQ, dL, dA, bG, bQ, bU, bT, aS, cX, aU, d1, o1, o2, o3]
    exact fin 32 1 0 (by omega) (by omega) (by omega) (by unfold Mh; rw [if_pos h1] <;> rfl)
 .have d1 : decide ((n : Int) < 256) = false := decide_eq_false (by omega)
  have d2 : decide ((n : Int) < 65792) = true := decide_eq_true (by omega)
  cases s with
  | true =>
    simp (disch := omega) only [gD, jF, cJ, stepR_skip, hO, iB, iP, iN, iK, iO, jI, iV, gK, iC, iF, iD, iH, hJ, iM, hU, iE, iW, iS, iJ, gQ, iR, iQ, iG, kU, kV, lF, lC, lH, lE, lJ, lG, lD, gB, Result.ok.injEq, Next.value.injEq, true_and, and_true, gZ, hZ, iX, iT, iU, jG, anP, gW, gU, gX, gT, gM, gI, gN, gL, fZ, fT, if_true, if_false, anO, anS, anQ, anR, anU, anT, anN, anM, fM, fK, fB, fQ, cU, eQ, eE, dJ, bJ, fR, fE, aL, dD, aZ, bM, bP, aO, cQ, cF, eP, aF, gS, aP, cK, aR, bS, fS, cI, cC, aB, gC, fA, aI, aG, bN, gO, aN, eU, dZ, dV, gG, dH, fC, dC, eF, eZ, eY, cB, cY, gJ, eD, bZ, bF, bY, bX, fO, aD, aE, aM, aV, bE, cS, bK, aA, fF, aH, cO, fI, eT, gH, bO, eM, eK, bW, fW, eS, eI, cZ, cL, dF, aX, bD, aQ, gA, aJ, dB, dY, bB, cH, fJ, dK, gE, fL, fH, fG, dS, aK, cG, dG, fX, fY, fD, dE, aT, dT, fV, cP, eX, fN, cD, bL, dP, aW, dX, dR, cN, eN, eL, aY, dI, bA, dO, dW, dN, bH, cR, cM, dM, bR, cW, cV, fP, bV, eH, eJ, gF, dU, dQ, dL, dA, bG, bQ, bU, bT, aS, cX, aU, d1, d2, o1, o2, o3]
    exact fin 100 2 256 (by omega) (by omega) (by omega) (by unfold Mh; rw [if_neg h1] <;> rfl)
  | false =>
    simp (disch := omega) only [gD, jF, cJ, stepR_skip, hO, iB, iP, iN, iK, iO, jI, iV, gK, iC, iF, iD, iH, hJ, iM, hU, iE, iW, iS, iJ, gQ, iR, iQ, iG, kU, kV, lF, lC, lH, lE, lJ, lG, lD, gB, Result.ok.injEq, Next.value.injEq, true_and, and_true, gZ, hZ, iX, iT, iU, jG, anP, gW, gU, gX, gT, gM, gI, gN, gL, fZ, fT, if_true, if_false, anO, anS, anQ, anR, anU, anT, anN, anM, fM, fK, fB, fQ, cU, eQ, eE, dJ, bJ, fR, fE, aL, dD, aZ, bM, bP, aO, cQ, cF, eP, aF, gS, aP, cK, aR, bS, fS, cI, cC, aB, gC, fA, aI, aG, bN, gO, aN, eU, dZ, dV, gG, dH, fC, dC, eF, eZ, eY, cB, cY, gJ, eD, bZ, bF, bY, bX, fO, aD, aE, aM, aV, bE, cS, bK, aA, fF, aH, cO, fI, eT, gH, bO, eM, eK, bW, fW, eS, eI, cZ, cL, dF, aX, bD, aQ, gA, aJ, dB, dY, bB, cH, fJ, dK, gE, fL, fH, fG, dS, aK, cG, dG, fX, fY, fD, dE, aT, dT, fV, cP, eX, fN, cD, bL, dP, aW, dX, dR, cN, eN, eL, aY, dI, bA, dO, dW, dN, bH, cR, cM, dM, bR, cW, cV, fP, bV, eH, eJ, gF, dU, dQ, dL, dA, bG, bQ, bU, bT, aS, cX, aU, d1, d2, o1, o2, o3]
    exact fin 96 2 256 (by omega) (by omega) (by omega) (by unfold Mh; rw [if_neg h1] <;> rfl)
theorem agV (x : Nat) : pD x 3 = b3 x := by
 unfold b3
 simp only [pD]
 rw [show x / 256 / 256 = x / 65536 from by omega]
theorem WK {k z : Nat} {t : Bool} {w : asY} (hk : k <= 2) (hz : z < 2097152) :
 jD pg xY #[.agg #[.bool t, .int .i64 (k : Nat), .int .i64 (z : Nat)]] w (fun r w' => ∃ v, r = .tuple #[v, .int .i64 0] /\ xH w' w.heap.size 1 v 3 ((b3 (8 * z + 2 * k + if t then 1 else 0)).map pB) /\ jM w w' mM) := by
 refine MY ?_
 obtain ⟨RR, hRR⟩ : ∃ RR : asZ -> asY -> Prop, RR = fun r w' => ∃ v, r = .tuple #[v, .int .i64 0] /\ xH w' w.heap.size 1 v 3 ((b3 (8 * z + 2 * k + if t then 1 else 0)).map pB) /\ jM w w' mM := ⟨_, rfl⟩
 rw [<- hRR]
 unfold KJ BP BE
 refine Ce fun w1 o1 x1 s1 => ?_
 have o1 : mP w1 w.heap.size [.bool t, .int .i64 (k : Nat), .int .i64 (z : Nat)] := o1
 obtain ⟨p, hp⟩ : ∃ p, p = w.heap.size := ⟨_, rfl⟩
 rw [<- hp] at o1 ⊢
 have c0 : w1.cell? ⟨p, 0, none⟩ = some (.bool t) := o1.cell (off := 0)
 have c1 : w1.cell? ⟨p, 1, none⟩ = some (.int .i64 (k : Nat)) := o1.cell (off := 1)
 have c2 : w1.cell? ⟨p, 2, none⟩ = some (.int .i64 (z : Nat)) := o1.cell (off := 2)
 have fin : ∀ X : Nat, X = 8 * z + 2 * k + (if t then 1 else 0) -> rQ RR (.int .i64 (X : Nat)) w1 := by
  intro X hX
  unfold rQ
  refine (FH w1).mono ?_
  rintro r w2 ⟨rfl, hlt, h1, x2⟩
  have z2 := x2.size
  have hXb : X < 2 ^ 25 := by rw [hX]; split <;> omega
  have e1 : IntKind.u64.wrap (X : Int) = (X : Int) := hZ (by omega) (by omega)
  simp (disch := omega) only [gD, jF, cJ, stepR_skip, hO, iB, iP, iN, iK, iO, jI, iV, gK, iC, iF, iD, iH, hJ, iM, hU, iE, iW, iS, iJ, gQ, iR, iQ, iG, kU, kV, lF, lC, lH, lE, lJ, lG, lD, gB, Result.ok.injEq, Next.value.injEq, true_and, and_true, gZ, hZ, iX, iT, iU, jG, anP, gW, gU, gX, gT, gM, gI, gN, gL, fZ, fT, if_true, if_false, anO, anS, anQ, anR, anU, anT, anN, anM, fM, fK, fB, fQ, cU, eQ, eE, dJ, bJ, fR, fE, aL, dD, aZ, bM, bP, aO, cQ, cF, eP, aF, gS, aP, cK, aR, bS, fS, cI, cC, aB, gC, fA, aI, aG, bN, gO, aN, eU, dZ, dV, gG, dH, fC, dC, eF, eZ, eY, cB, cY, gJ, eD, bZ, bF, bY, bX, fO, aD, aE, aM, aV, bE, cS, bK, aA, fF, aH, cO, fI, eT, gH, bO, eM, eK, bW, fW, eS, eI, cZ, cL, dF, aX, bD, aQ, gA, aJ, dB, dY, bB, cH, fJ, dK, gE, fL, fH, fG, dS, aK, cG, dG, fX, fY, fD, dE, aT, dT, fV, cP, eX, fN, cD, bL, dP, aW, dX, dR, cN, eN, eL, aY, dI, bA, dO, dW, dN, bH, cR, cM, dM, bR, cW, cV, fP, bV, eH, eJ, gF, dU, dQ, dL, dA, bG, bQ, bU, bT, aS, cX, aU, e1]
  refine (Ar (x := X) (n := 3) h1 (fun b hb => by omega) (by omega) ⟨by omega, by omega⟩ (by simp)).mono ?_
  rintro r w3 ⟨rfl, h3, x3⟩
  rw [apL, agV, hX] at h3
  refine (OZ h3 (by simp [b3])).mono ?_
  rintro r w4 ⟨o4, x4⟩
  have x03 : jM w w3 mM := (x1.seq x2).trans x3 fun y hy h => by omega
  rw [hRR]
  exact ⟨r, rfl, Kp o4 x03.size, x03.seq x4⟩
 have d1 : decide (((k : Nat) : Int) < 0) = false := decide_eq_false (by omega)
 have d2 : decide ((2 : Int) < ((k : Nat) : Int)) = false := decide_eq_false (by omega)
 have d3 : decide (((z : Nat) : Int) < 0) = false := decide_eq_false (by omega)
 have d4 : decide ((2097152 : Int) <= ((z : Nat) : Int)) = false := decide_eq_false (by omega)
 have t3 : (3 : Int).toNat = 3 := rfl
 have t1 : (1 : Int).toNat = 1 := rfl
 have e1 := Wy (a := z) (n := 3) (by omega) (by omega)
 have e2 := Wy (a := k) (n := 1) (by omega) (by omega)
 have e3 : UI .i64 ((z * 2 ^ 3 : Nat) : Int) ((k * 2 ^ 1 : Nat) : Int) = ((z * 2 ^ 3 + k * 2 ^ 1 : Nat) : Int) := by
  rw [SC (by omega) (by omega), LL 3 (by omega)]
 have e4 : UI .i64 ((z * 2 ^ 3 + k * 2 ^ 1 : Nat) : Int) 1 = ((z * 2 ^ 3 + k * 2 ^ 1 + 1 : Nat) : Int) := by
  have := SC (a := z * 2 ^ 3 + k * 2 ^ 1) (b := 1) (by omega) (by omega)
  rw [show z * 2 ^ 3 + k * 2 ^ 1 = (z * 4 + k) * 2 ^ 1 from by omega, LL 1 (by omega)] at this
  rw [show z * 2 ^ 3 + k * 2 ^ 1 = (z * 4 + k) * 2 ^ 1 from by omega]
  exact this
 cases t with
 | true =>
   simp (disch := omega) only [gD, jF, cJ, stepR_skip, hO, iB, iP, iN, iK, iO, jI, iV, gK, iC, iF, iD, iH, hJ, iM, hU, iE, iW, iS, iJ, gQ, iR, iQ, iG, kU, kV, lF, lC, lH, lE, lJ, lG, lD, gB, Result.ok.injEq, Next.value.injEq, true_and, and_true, gZ, hZ, iX, iT, iU, jG, anP, gW, gU, gX, gT, gM, gI, gN, gL, fZ, fT, if_true, if_false, anO, anS, anQ, anR, anU, anT, anN, anM, fM, fK, fB, fQ, cU, eQ, eE, dJ, bJ, fR, fE, aL, dD, aZ, bM, bP, aO, cQ, cF, eP, aF, gS, aP, cK, aR, bS, fS, cI, cC, aB, gC, fA, aI, aG, bN, gO, aN, eU, dZ, dV, gG, dH, fC, dC, eF, eZ, eY, cB, cY, gJ, eD, bZ, bF, bY, bX, fO, aD, aE, aM, aV, bE, cS, bK, aA, fF, aH, cO, fI, eT, gH, bO, eM, eK, bW, fW, eS, eI, cZ, cL, dF, aX, bD, aQ, gA, aJ, dB, dY, bB, cH, fJ, dK, gE, fL, fH, fG, dS, aK, cG, dG, fX, fY, fD, dE, aT, dT, fV, cP, eX, fN, cD, bL, dP, aW, dX, dR, cN, eN, eL, aY, dI, bA, dO, dW, dN, bH, cR, cM, dM, bR, cW, cV, fP, bV, eH, eJ, gF, dU, dQ, dL, dA, bG, bQ, bU, bT, aS, cX, aU, c0, c1, c2, d1, d2, d3, d4, t3, t1, e1, e2, e3, e4]
   exact fin _ (by simp; omega)
 | false =>
   simp (disch := omega) only [gD, jF, cJ, stepR_skip, hO, iB, iP, iN, iK, iO, jI, iV, gK, iC, iF, iD, iH, hJ, iM, hU, iE, iW, iS, iJ, gQ, iR, iQ, iG, kU, kV, lF, lC, lH, lE, lJ, lG, lD, gB, Result.ok.injEq, Next.value.injEq, true_and, and_true, gZ, hZ, iX, iT, iU, jG, anP, gW, gU, gX, gT, gM, gI, gN, gL, fZ, fT, if_true, if_false, anO, anS, anQ, anR, anU, anT, anN, anM, fM, fK, fB, fQ, cU, eQ, eE, dJ, bJ, fR, fE, aL, dD, aZ, bM, bP, aO, cQ, cF, eP, aF, gS, aP, cK, aR, bS, fS, cI, cC, aB, gC, fA, aI, aG, bN, gO, aN, eU, dZ, dV, gG, dH, fC, dC, eF, eZ, eY, cB, cY, gJ, eD, bZ, bF, bY, bX, fO, aD, aE, aM, aV, bE, cS, bK, aA, fF, aH, cO, fI, eT, gH, bO, eM, eK, bW, fW, eS, eI, cZ, cL, dF, aX, bD, aQ, gA, aJ, dB, dY, bB, cH, fJ, dK, gE, fL, fH, fG, dS, aK, cG, dG, fX, fY, fD, dE, aT, dT, fV, cP, eX, fN, cD, bL, dP, aW, dX, dR, cN, eN, eL, aY, dI, bA, dO, dW, dN, bH, cR, cM, dM, bR, cW, cV, fP, bV, eH, eJ, gF, dU, dQ, dL, dA, bG, bQ, bU, bT, aS, cX, aU, c0, c1, c2, d1, d2, d3, d4, t3, t1, e1, e2, e3, e4]
   exact fin _ (by simp; omega)
def EX (l : List UInt8) : Bool := match l with | [] => false | c :: r => r.all (· == c)
theorem Y9 {l : List UInt8} (h0 : 0 < l.length) (h : ∀ i (hi : i < l.length), l[i] = l[0]) : EX l = true := by
 cases l with
 | nil => cases h0
 | cons c r =>
   simp only [EX, aoY, beq_iff_eq]
   intro x hx
   obtain ⟨i, hi, rfl⟩ := apQ hx
   exact h (i + 1) (by simpa using hi)
theorem abN {l : List UInt8} {i : Nat} (hi : i < l.length) (h : l[i] ≠ l[0]) : EX l = false := by
 cases l with
 | nil => cases hi
 | cons c r =>
   cases hq : EX (c :: r) with
   | false => rfl
   | true =>
     simp only [EX, aoY, beq_iff_eq] at hq
     cases i with
     | zero => exact absurd rfl h
     | succ i => exact absurd (hq _ (apP (by simpa using hi))) h
theorem ZB {v : asZ} {l : List UInt8} {w : asY} (hb : Bs w v l) (hl : l.length <= 100000000) :
 jD pg AE #[v] w (fun r w' => r = .bool (EX l) /\ jM w w' mM) := by
 refine Sh ?_
 obtain ⟨RR, hRR⟩ : ∃ RR : asZ -> asY -> Prop, RR = fun r w' => r = .bool (EX l) /\ jM w w' mM := ⟨_, rfl⟩
 rw [<- hRR]
 unfold RD GC
 have hv := hb
 obtain ⟨a, c, rfl, hc⟩ := hb.len
 rw [anV] at hv hc ⊢
 refine Ce fun w1 o1 x1 s1 => ?_
 have o1 : mP w1 w.heap.size [.slice a l.length c] := o1
 obtain ⟨p, hp⟩ : ∃ p, p = w.heap.size := ⟨_, rfl⟩
 rw [<- hp] at o1 ⊢
 have c1 : w1.cell? ⟨p, 0, none⟩ = some (.slice a l.length c) := o1.cell (off := 0)
 by_cases h0 : 0 < l.length
 rotate_left
 .have d1 : decide ((0 : Int) < (l.length : Int)) = false := decide_eq_false (by omega)
  simp (disch := omega) only [gD, jF, cJ, stepR_skip, hO, iB, iP, iN, iK, iO, jI, iV, gK, iC, iF, iD, iH, hJ, iM, hU, iE, iW, iS, iJ, gQ, iR, iQ, iG, kU, kV, lF, lC, lH, lE, lJ, lG, lD, gB, Result.ok.injEq, Next.value.injEq, true_and, and_true, gZ, hZ, iX, iT, iU, jG, anP, gW, gU, gX, gT, gM, gI, gN, gL, fZ, fT, if_true, if_false, anO, anS, anQ, anR, anU, anT, anN, anM, fM, fK, fB, fQ, cU, eQ, eE, dJ, bJ, fR, fE, aL, dD, aZ, bM, bP, aO, cQ, cF, eP, aF, gS, aP, cK, aR, bS, fS, cI, cC, aB, gC, fA, aI, aG, bN, gO, aN, eU, dZ, dV, gG, dH, fC, dC, eF, eZ, eY, cB, cY, gJ, eD, bZ, bF, bY, bX, fO, aD, aE, aM, aV, bE, cS, bK, aA, fF, aH, cO, fI, eT, gH, bO, eM, eK, bW, fW, eS, eI, cZ, cL, dF, aX, bD, aQ, gA, aJ, dB, dY, bB, cH, fJ, dK, gE, fL, fH, fG, dS, aK, cG, dG, fX, fY, fD, dE, aT, dT, fV, cP, eX, fN, cD, bL, dP, aW, dX, dR, cN, eN, eL, aY, dI, bA, dO, dW, dN, bH, cR, cM, dM, bR, cW, cV, fP, bV, eH, eJ, gF, dU, dQ, dL, dA, bG, bQ, bU, bT, aS, cX, aU, c1, d1]
  rw [hRR]
  refine ⟨?_, x1⟩
  have : l = [] := apE.1 (by omega)
  rw [this] <;> rfl
 have d1 : decide ((0 : Int) < (l.length : Int)) = true := decide_eq_true (by omega)
 have q1 := fun w => Zm (P := pg) (f := wE) [] [.pointer (some ⟨p, 0, none⟩)] w
 simp (disch := omega) only [gD, jF, cJ, stepR_skip, hO, iB, iP, iN, iK, iO, jI, iV, gK, iC, iF, iD, iH, hJ, iM, hU, iE, iW, iS, iJ, gQ, iR, iQ, iG, kU, kV, lF, lC, lH, lE, lJ, lG, lD, gB, Result.ok.injEq, Next.value.injEq, true_and, and_true, gZ, hZ, iX, iT, iU, jG, anP, gW, gU, gX, gT, gM, gI, gN, gL, fZ, fT, if_true, if_false, anO, anS, anQ, anR, anU, anT, anN, anM, fM, fK, fB, fQ, cU, eQ, eE, dJ, bJ, fR, fE, aL, dD, aZ, bM, bP, aO, cQ, cF, eP, aF, gS, aP, cK, aR, bS, fS, cI, cC, aB, gC, fA, aI, aG, bN, gO, aN, eU, dZ, dV, gG, dH, fC, dC, eF, eZ, eY, cB, cY, gJ, eD, bZ, bF, bY, bX, fO, aD, aE, aM, aV, bE, cS, bK, aA, fF, aH, cO, fI, eT, gH, bO, eM, eK, bW, fW, eS, eI, cZ, cL, dF, aX, bD, aQ, gA, aJ, dB, dY, bB, cH, fJ, dK, gE, fL, fH, fG, dS, aK, cG, dG, fX, fY, fD, dE, aT, dT, fV, cP, eX, fN, cD, bL, dP, aW, dX, dR, cN, eN, eL, aY, dI, bA, dO, dW, dN, bH, cR, cM, dM, bR, cW, cV, fP, bV, eH, eJ, gF, dU, dQ, dL, dA, bG, bQ, bU, bT, aS, cX, aU, c1, d1, q1]
 refine Gj ?_
 unfold Ca sB
 refine Ia ?_
 unfold EF uL uG uN uM uH uI uK
 simp (disch := omega) only [gD, jF, cJ, stepR_skip, hO, iB, iP, iN, iK, iO, jI, iV, gK, iC, iF, iD, iH, hJ, iM, hU, iE, iW, iS, iJ, gQ, iR, iQ, iG, kU, kV, lF, lC, lH, lE, lJ, lG, lD, gB, Result.ok.injEq, Next.value.injEq, true_and, and_true, gZ, hZ, iX, iT, iU, jG, anP, gW, gU, gX, gT, gM, gI, gN, gL, fZ, fT, if_true, if_false, anO, anS, anQ, anR, anU, anT, anN, anM, fM, fK, fB, fQ, cU, eQ, eE, dJ, bJ, fR, fE, aL, dD, aZ, bM, bP, aO, cQ, cF, eP, aF, gS, aP, cK, aR, bS, fS, cI, cC, aB, gC, fA, aI, aG, bN, gO, aN, eU, dZ, dV, gG, dH, fC, dC, eF, eZ, eY, cB, cY, gJ, eD, bZ, bF, bY, bX, fO, aD, aE, aM, aV, bE, cS, bK, aA, fF, aH, cO, fI, eT, gH, bO, eM, eK, bW, fW, eS, eI, cZ, cL, dF, aX, bD, aQ, gA, aJ, dB, dY, bB, cH, fJ, dK, gE, fL, fH, fG, dS, aK, cG, dG, fX, fY, fD, dE, aT, dT, fV, cP, eX, fN, cD, bL, dP, aW, dX, dR, cN, eN, eL, aY, dI, bA, dO, dW, dN, bH, cR, cM, dM, bR, cW, cV, fP, bV, eH, eJ, gF, dU, dQ, dL, dA, bG, bQ, bU, bT, aS, cX, aU]
 have hv1 := hv.ext x1 (kJ _)
 have hcells : ∀ i (hi : i < l.length), ∃ b off, a = some ⟨b, off, none⟩ /\ w1.cell? ⟨b, off + i, none⟩ = some (.int .u8 (l[i].toNat : Nat)) := fun i hi => by
  obtain ⟨a', n', c', he, hn', hc', hh⟩ := hv1
  simp only [Value.slice.injEq] at he
  obtain ⟨rfl, rfl, rfl⟩ := he
  obtain ⟨kb, koff, rfl, h2⟩ := hh (by omega)
  refine ⟨kb, koff, rfl, ?_⟩
  rw [h2 i (by omega), aoJ, anX hi]
  rfl
 refine kE.rule (fun m (t : asZ) w' => ∃ i : Nat, m = l.length - i /\ i <= l.length /\ t = .int .i64 (i : Nat) /\ w' = w1 /\ (∀ j (hj : j < l.length), j < i -> l[j] = l[0])) l.length ⟨0, rfl, by omega, rfl, rfl, fun j _ hj => by omega⟩ ?_
 rintro m t w' ⟨i, rfl, hi, rfl, rfl, hall⟩
 unfold qV
 by_cases hlt : i < l.length
 .have d2 : decide ((i : Int) < (l.length : Int)) = true := decide_eq_true (by omega)
  have hin : (i : Int).toNat = i := anP _
  have e1 : (i : Int) + 1 = ((i + 1 : Nat) : Int) := by omega
  obtain ⟨kb, koff, rfl, hci⟩ := hcells i hlt
  obtain ⟨_, _, he, hc0⟩ := hcells 0 h0
  simp only [Option.some.injEq, Addr.mk.injEq] at he
  obtain ⟨rfl, rfl, -⟩ := he
  have q2 := UG (P := pg) (f := wE) Tryz.func43 (by kernel_rfl) (by kernel_rfl) #[.pointer (some ⟨p, 0, none⟩)] [.int .u8 (l[i].toNat : Nat)] w'
  have q3 : (List.toArray [Value.int .u8 (l[i].toNat : Nat)] ++ #[.pointer (some ⟨p, 0, none⟩)]) = #[.int .u8 (l[i].toNat : Nat), .pointer (some ⟨p, 0, none⟩)] := rfl
  rw [q3] at q2
  have call : ∀ K : asZ -> asY -> Prop, K (.bool (l[i] != l[0])) w' -> jD pg wE #[.int .u8 (l[i].toNat : Nat), .pointer (some ⟨p, 0, none⟩)] w' K := fun K hK => by
   refine Ps ?_
   unfold Oj D3
   rw [apI] at hc0
   have d0 : decide ((0 : Int) < (l.length : Int)) = true := decide_eq_true (by omega)
   have e0 : (((l[i].toNat : Nat) : Int) != ((l[0].toNat : Nat) : Int)) = (l[i] != l[0]) := by
    by_cases h : l[i] = l[0]
    .rw [h]; simp
    .have h2 : l[i].toNat ≠ l[0].toNat := fun e => h (UInt8.toNat_inj.1 e)
     rw [bne_iff_ne.2 h, bne_iff_ne]; omega
   have t0 : (0 : Int).toNat = 0 := rfl
   simp (disch := omega) only [gD, jF, cJ, stepR_skip, hO, iB, iP, iN, iK, iO, jI, iV, gK, iC, iF, iD, iH, hJ, iM, hU, iE, iW, iS, iJ, gQ, iR, iQ, iG, kU, kV, lF, lC, lH, lE, lJ, lG, lD, gB, Result.ok.injEq, Next.value.injEq, true_and, and_true, gZ, hZ, iX, iT, iU, jG, anP, gW, gU, gX, gT, gM, gI, gN, gL, fZ, fT, if_true, if_false, anO, anS, anQ, anR, anU, anT, anN, anM, fM, fK, fB, fQ, cU, eQ, eE, dJ, bJ, fR, fE, aL, dD, aZ, bM, bP, aO, cQ, cF, eP, aF, gS, aP, cK, aR, bS, fS, cI, cC, aB, gC, fA, aI, aG, bN, gO, aN, eU, dZ, dV, gG, dH, fC, dC, eF, eZ, eY, cB, cY, gJ, eD, bZ, bF, bY, bX, fO, aD, aE, aM, aV, bE, cS, bK, aA, fF, aH, cO, fI, eT, gH, bO, eM, eK, bW, fW, eS, eI, cZ, cL, dF, aX, bD, aQ, gA, aJ, dB, dY, bB, cH, fJ, dK, gE, fL, fH, fG, dS, aK, cG, dG, fX, fY, fD, dE, aT, dT, fV, cP, eX, fN, cD, bL, dP, aW, dX, dR, cN, eN, eL, aY, dI, bA, dO, dW, dN, bH, cR, cM, dM, bR, cW, cV, fP, bV, eH, eJ, gF, dU, dQ, dL, dA, bG, bQ, bU, bT, aS, cX, aU, c1, hc0, e0, t0, apI]
   exact hK
  simp (disch := omega) only [gD, jF, cJ, stepR_skip, hO, iB, iP, iN, iK, iO, jI, iV, gK, iC, iF, iD, iH, hJ, iM, hU, iE, iW, iS, iJ, gQ, iR, iQ, iG, kU, kV, lF, lC, lH, lE, lJ, lG, lD, gB, Result.ok.injEq, Next.value.injEq, true_and, and_true, gZ, hZ, iX, iT, iU, jG, anP, gW, gU, gX, gT, gM, gI, gN, gL, fZ, fT, if_true, if_false, anO, anS, anQ, anR, anU, anT, anN, anM, fM, fK, fB, fQ, cU, eQ, eE, dJ, bJ, fR, fE, aL, dD, aZ, bM, bP, aO, cQ, cF, eP, aF, gS, aP, cK, aR, bS, fS, cI, cC, aB, gC, fA, aI, aG, bN, gO, aN, eU, dZ, dV, gG, dH, fC, dC, eF, eZ, eY, cB, cY, gJ, eD, bZ, bF, bY, bX, fO, aD, aE, aM, aV, bE, cS, bK, aA, fF, aH, cO, fI, eT, gH, bO, eM, eK, bW, fW, eS, eI, cZ, cL, dF, aX, bD, aQ, gA, aJ, dB, dY, bB, cH, fJ, dK, gE, fL, fH, fG, dS, aK, cG, dG, fX, fY, fD, dE, aT, dT, fV, cP, eX, fN, cD, bL, dP, aW, dX, dR, cN, eN, eL, aY, dI, bA, dO, dW, dN, bH, cR, cM, dM, bR, cW, cV, fP, bV, eH, eJ, gF, dU, dQ, dL, dA, bG, bQ, bU, bT, aS, cX, aU, d2, hin, hci, q2, Gf]
  refine call _ ?_
  by_cases h : l[i] = l[0]
  .have e2 : (l[i] != l[0]) = false := by rw [h]; simp
   have hq : ∀ j (hj : j < l.length), j < i + 1 -> l[j] = l[0] := fun j hj hji => by
    by_cases hj2 : j = i
    .subst hj2; exact h
    .exact hall j hj (by omega)
   simp (disch := omega) only [gD, jF, cJ, stepR_skip, hO, iB, iP, iN, iK, iO, jI, iV, gK, iC, iF, iD, iH, hJ, iM, hU, iE, iW, iS, iJ, gQ, iR, iQ, iG, kU, kV, lF, lC, lH, lE, lJ, lG, lD, gB, Result.ok.injEq, Next.value.injEq, true_and, and_true, gZ, hZ, iX, iT, iU, jG, anP, gW, gU, gX, gT, gM, gI, gN, gL, fZ, fT, if_true, if_false, anO, anS, anQ, anR, anU, anT, anN, anM, fM, fK, fB, fQ, cU, eQ, eE, dJ, bJ, fR, fE, aL, dD, aZ, bM, bP, aO, cQ, cF, eP, aF, gS, aP, cK, aR, bS, fS, cI, cC, aB, gC, fA, aI, aG, bN, gO, aN, eU, dZ, dV, gG, dH, fC, dC, eF, eZ, eY, cB, cY, gJ, eD, bZ, bF, bY, bX, fO, aD, aE, aM, aV, bE, cS, bK, aA, fF, aH, cO, fI, eT, gH, bO, eM, eK, bW, fW, eS, eI, cZ, cL, dF, aX, bD, aQ, gA, aJ, dB, dY, bB, cH, fJ, dK, gE, fL, fH, fG, dS, aK, cG, dG, fX, fY, fD, dE, aT, dT, fV, cP, eX, fN, cD, bL, dP, aW, dX, dR, cN, eN, eL, aY, dI, bA, dO, dW, dN, bH, cR, cM, dM, bR, cW, cV, fP, bV, eH, eJ, gF, dU, dQ, dL, dA, bG, bQ, bU, bT, aS, cX, aU, e2, e1]
   first
    | exact ⟨l.length - (i + 1), by omega, i + 1, rfl, by omega, rfl, rfl, hq⟩
    | exact ⟨l.length - (i + 1), by omega, i + 1, rfl, by omega, rfl, hq⟩
  .have e2 : (l[i] != l[0]) = true := bne_iff_ne.2 h
   have d3 : decide ((0 : Int) <= (i : Int)) = true := decide_eq_true (by omega)
   simp (disch := omega) only [gD, jF, cJ, stepR_skip, hO, iB, iP, iN, iK, iO, jI, iV, gK, iC, iF, iD, iH, hJ, iM, hU, iE, iW, iS, iJ, gQ, iR, iQ, iG, kU, kV, lF, lC, lH, lE, lJ, lG, lD, gB, Result.ok.injEq, Next.value.injEq, true_and, and_true, gZ, hZ, iX, iT, iU, jG, anP, gW, gU, gX, gT, gM, gI, gN, gL, fZ, fT, if_true, if_false, anO, anS, anQ, anR, anU, anT, anN, anM, fM, fK, fB, fQ, cU, eQ, eE, dJ, bJ, fR, fE, aL, dD, aZ, bM, bP, aO, cQ, cF, eP, aF, gS, aP, cK, aR, bS, fS, cI, cC, aB, gC, fA, aI, aG, bN, gO, aN, eU, dZ, dV, gG, dH, fC, dC, eF, eZ, eY, cB, cY, gJ, eD, bZ, bF, bY, bX, fO, aD, aE, aM, aV, bE, cS, bK, aA, fF, aH, cO, fI, eT, gH, bO, eM, eK, bW, fW, eS, eI, cZ, cL, dF, aX, bD, aQ, gA, aJ, dB, dY, bB, cH, fJ, dK, gE, fL, fH, fG, dS, aK, cG, dG, fX, fY, fD, dE, aT, dT, fV, cP, eX, fN, cD, bL, dP, aW, dX, dR, cN, eN, eL, aY, dI, bA, dO, dW, dN, bH, cR, cM, dM, bR, cW, cV, fP, bV, eH, eJ, gF, dU, dQ, dL, dA, bG, bQ, bU, bT, aS, cX, aU, e2, d3]
   rw [hRR, abN hlt h]
   exact ⟨rfl, x1⟩
 .have d2 : decide ((i : Int) < (l.length : Int)) = false := decide_eq_false (by omega)
  have d3 : decide ((0 : Int) <= (-1 : Int)) = false := rfl
  unfold qU
  simp (disch := omega) only [gD, jF, cJ, stepR_skip, hO, iB, iP, iN, iK, iO, jI, iV, gK, iC, iF, iD, iH, hJ, iM, hU, iE, iW, iS, iJ, gQ, iR, iQ, iG, kU, kV, lF, lC, lH, lE, lJ, lG, lD, gB, Result.ok.injEq, Next.value.injEq, true_and, and_true, gZ, hZ, iX, iT, iU, jG, anP, gW, gU, gX, gT, gM, gI, gN, gL, fZ, fT, if_true, if_false, anO, anS, anQ, anR, anU, anT, anN, anM, fM, fK, fB, fQ, cU, eQ, eE, dJ, bJ, fR, fE, aL, dD, aZ, bM, bP, aO, cQ, cF, eP, aF, gS, aP, cK, aR, bS, fS, cI, cC, aB, gC, fA, aI, aG, bN, gO, aN, eU, dZ, dV, gG, dH, fC, dC, eF, eZ, eY, cB, cY, gJ, eD, bZ, bF, bY, bX, fO, aD, aE, aM, aV, bE, cS, bK, aA, fF, aH, cO, fI, eT, gH, bO, eM, eK, bW, fW, eS, eI, cZ, cL, dF, aX, bD, aQ, gA, aJ, dB, dY, bB, cH, fJ, dK, gE, fL, fH, fG, dS, aK, cG, dG, fX, fY, fD, dE, aT, dT, fV, cP, eX, fN, cD, bL, dP, aW, dX, dR, cN, eN, eL, aY, dI, bA, dO, dW, dN, bH, cR, cM, dM, bR, cW, cV, fP, bV, eH, eJ, gF, dU, dQ, dL, dA, bG, bQ, bU, bT, aS, cX, aU, d2, d3]
  rw [hRR, Y9 h0 fun j hj => hall j hj (by omega)]
  exact ⟨rfl, x1⟩
theorem YP {l : List UInt8} {v : asZ} {box lp : Nat} {r0 : Loop} {w : asY} (I : Nat -> asY -> Prop) (S : asY -> Prop)
 (hI : ∀ i W, I i W -> mP W box [v] /\ Bs W v l /\ W.heap[lp]? = some (.loop r0)) (hp : r0.params.size = 2) (hl : l.length <= 1000000000) (h0 : I l.length w)
 (hs : ∀ i W, (hi : i < l.length) -> I (i + 1) W -> Wv pg lp r0.fn (UX r0 [.int .i64 i, .int .u8 ((l[i]'hi).toNat : Nat)]) r0.assign r0.body W (fun b W' => (b = .bool true /\ I i W') ∨ (b = .bool false /\ S W'))) :
 jD pg oS #[Is lp, .pointer (some ⟨box, 0, none⟩)] w (fun r W => r = .tuple #[] /\ (I 0 W ∨ S W)) := by
 refine Gi ?_
 obtain ⟨o, hb, hlp⟩ := hI _ _ h0
 have c0 := o.cell (off := 0)
 simp only [anM] at c0
 obtain ⟨a, n, c, hv, hn, hc, _⟩ := id hb
 rw [anV] at hn
 unfold B8 sG sD
 subst hn
 have e1 : (l.length : Int) - 1 = (l.length : Int) - 1 := rfl
 subst hv
 simp (disch := omega) only [gD, fR, c0, gB, true_and, cJ, fM, iB, gZ]
 unfold rY sC
 refine kE.rule (fun m (t : asZ) w' => ∃ i : Nat, m = i /\ t = .int .i64 ((i : Int) - 1) /\ i <= l.length /\ I i w') l.length ⟨l.length, rfl, rfl, aoA _, h0⟩ ?_
 rintro i t w1 ⟨i', rfl, rfl, hi, hIw⟩
 unfold pX
 cases i with
 | zero =>
   have d1 : decide ((0 : Int) <= ((0 : Nat) : Int) - 1) = false := rfl
   simp (disch := omega) only [gD, iE, d1, fR, true_and, iB, gZ, cJ, fT]
   exact .inl hIw
 | succ j =>
   have e0 : ((j + 1 : Nat) : Int) - 1 = (j : Int) := by omega
   have d1 : decide ((0 : Int) <= (j : Int)) = true := by simp
   obtain ⟨o1, hb1, hlp1⟩ := hI _ _ hIw
   have c1 := o1.cell (off := 0)
   simp only [anM] at c1
   obtain ⟨b, off, c', hv', hc', hcell⟩ := hb1.openV (by simp; omega)
   simp only [anV, Value.slice.injEq] at hv'
   obtain ⟨rfl, _, rfl⟩ := hv'
   have g1 := hcell j (by rw [anV]; omega)
   simp only [List.getElem_map, pB] at g1
   have q1 := ahR (P := pg) (args := [.int .i64 (j : Nat), .int .u8 ((l[j]'hi).toNat : Nat)]) hlp1 (by rw [hp] <;> rfl)
   rw [e0]
   simp (disch := omega) only [gD, iE, d1, fR, true_and, iB, gZ, cJ, c1, gB, fQ, anP, gJ, g1, q1, Xh, fZ]
   obtain ⟨b', w2, hret, hR⟩ := hs j w1 hi hIw
   refine ⟨b', w2, hret, ?_⟩
   rcases hR with ⟨rfl, hI2⟩ | ⟨rfl, hS⟩
   .simp (disch := omega) only [iJ, anU, cJ, fT]
    exact ⟨j, by omega, j, rfl, rfl, by omega, hI2⟩
   .simp (disch := omega) only [iJ, anT, cJ, fZ]
    exact .inr hS
def Ws (w : asY) (S : Nat -> Prop) (p : Nat) (B : List Bool) : Prop := ¬ S p /\ ∃ v bytes, mP w p [v, .int .i64 B.length] /\ LI w S 1 v bytes.length (bytes.map pB) /\ Ut B bytes
def Rs (w : asY) (S : Nat -> Prop) (p : Nat) (B : List Bool) : Prop := ¬ S p /\ ∃ v bytes, mP w p [v, .int .i64 B.length] /\ LI w S 1 v bytes.length (bytes.map pB) /\
 tH bytes = B ++ List.replicate (8 * bytes.length - B.length) false /\ bytes.length = (B.length + 1 + 7) / 8
theorem Ws.ext {w w' : asY} {S M : Nat -> Prop} {p : Nat} {B : List Bool} (h : Ws w S p B) (hx : jM w w' M) (hp : ¬ M p) (hM : ∀ b, S b -> ¬ M b) : Ws w' S p B := by
 obtain ⟨h0, v, bytes, h1, h2, h3⟩ := h
 exact ⟨h0, v, bytes, h1.ext hx hp, Gz h2 hx hM, h3⟩
theorem Ws.turn {w : asY} {S T : Nat -> Prop} {p : Nat} {B : List Bool} (h : Ws w S p B) (hp : ¬ T p) (hT : ∀ b, S b -> b < w.heap.size -> T b) : Ws w T p B := by
 obtain ⟨h0, v, bytes, h1, h2, h3⟩ := h
 refine ⟨hp, v, bytes, h1, ⟨h2.1, ?_⟩, h3⟩
 rcases h2.2 with h2 | ⟨b, c, rest, e, hb, o, hc, hn⟩
 .exact .inl h2
 .exact .inr ⟨b, c, rest, e, hT b hb o.lt, o, hc, hn⟩
theorem aeJ {S : Nat -> Prop} {p x i : Nat} {B : List Bool} {t17 : asZ} {w : asY} (h : Rs w S p B) (hx : x < 2 ^ 64) (hi : i <= 60) (hB : B.length <= 1000000000)
 {kn : asZ -> asZ -> asZ -> asZ -> asY -> Prop} (hR : ∀ w', Ws w' S p (B ++ [x.testBit i]) -> jM w w' (fun y => y = p ∨ S y) -> kn (.pointer (some ⟨p, 0, none⟩)) (.int .u64 x) t17 (.int .i64 i) w') :
 oM kn (.pointer (some ⟨p, 0, none⟩)) (.int .u64 x) (.int .i64 i) t17 (.int .i64 i) w := by
 obtain ⟨h0, v, bytes, o, os, hbits, hlen⟩ := h
 obtain ⟨hlt, hheld, hval, hor⟩ := XK (y := x.testBit i) hbits hlen
 rcases os.2 with ⟨rfl, hz⟩ | ⟨b, c, rest, rfl, hS, ob, hc, hn⟩
 .rw [hlen] at hz; omega
 generalize hq : B.length = q at *
 have hcell : (bytes.map pB ++ rest)[q / 8]? = some (.int .u8 ((bytes[q / 8]'hlt).toNat : Nat)) := by
  rw [aoI (by rw [anV]; exact hlt), aoJ, anX hlt] <;> rfl
 have hcl : (bytes[q / 8]'hlt).toNat < 2 ^ 8 := aqG _
 have hset : (bytes.map pB ++ rest).set (q / 8) (.int .u8 (((bytes[q / 8]'hlt).toNat + 2 ^ (q % 8) * (x.testBit i).toNat : Nat))) = (bytes.set (q / 8) (UInt8.ofNat ((bytes[q / 8]'hlt).toNat + 2 ^ (q % 8) * (x.testBit i).toNat))).map pB ++ rest := by
  rw [arB _ _ (by rw [anV]; exact hlt), arT, pB, asG (by simpa using hval)]
 have hbl : (bytes.set (q / 8) (UInt8.ofNat ((bytes[q / 8]'hlt).toNat + 2 ^ (q % 8) * (x.testBit i).toNat))).length = bytes.length := aqT
 generalize bytes.set (q / 8) (UInt8.ofNat ((bytes[q / 8]'hlt).toNat + 2 ^ (q % 8) * (x.testBit i).toNat)) = bytes' at *
 generalize (bytes[q / 8]'hlt).toNat = y at *
 have e1 : (q : Int).tdiv 8 = ((q / 8 : Nat) : Int) := by rw [aqZ (by omega)]; omega
 have e2 : (q : Int).tmod 8 = ((q % 8 : Nat) : Int) := by rw [arA (by omega)]; omega
 have e3 := Pe x i (by omega)
 have hxl : x / 2 ^ i < 2 ^ 64 := by have := asF x (2 ^ i); omega
 have e4 := Xn hxl
 rw [<- Wj] at e4
 have hbt : (x.testBit i).toNat <= 1 := Bool.toNat_le _
 have hp8 : 2 ^ (q % 8) <= 2 ^ 7 := aoO (by omega) (by omega)
 have hm : (x.testBit i).toNat * 2 ^ (q % 8) <= 2 ^ (q % 8) := by
  have := aoQ (2 ^ (q % 8)) hbt
  omega
 have e5 : IntKind.u8.wrap (((x.testBit i).toNat : Int) * 2 ^ (min (q % 8) IntKind.u8.bits)) = (((x.testBit i).toNat * 2 ^ (q % 8) : Nat) : Int) := by
  rw [show min (q % 8) IntKind.u8.bits = q % 8 from aqD (by have h8 : IntKind.u8.bits = 8 := rfl; omega)]
  have e : ((x.testBit i).toNat : Int) * 2 ^ (q % 8) = (((x.testBit i).toNat * 2 ^ (q % 8) : Nat) : Int) := by simp
  rw [e]
  exact jG (by omega) (by omega)
 have e6 := UP (a := y) (b := (x.testBit i).toNat * 2 ^ (q % 8)) hcl (by omega)
 rw [hor] at e6
 have e7 : (q : Int) + 1 = ((q + 1 : Nat) : Int) := by omega
 have od := GI o
 have obd := GI ob
 have c0 := od.cell (off := 0)
 have c1 := od.cell (off := 1)
 have g := obd.cell (off := q / 8)
 rw [hcell] at g
 simp only [anM, anN] at c0 c1
 unfold oM
 simp (disch := omega) only [gD, iG, fS, hZ, cJ, cW, anS, gS, c1, gB, iK, e2, true_and, iF, anP, e3, iO, e4, dJ, jG, iC, e5, iN, e1, gZ, cV, fR, c0, fQ, gJ, g, jI, e6]
 refine Yn obd rfl (by rw [anW, anV]; omega) fun w2 o2 x2 s2 => ?_
 rw [hset] at o2
 have op2 := od.ext x2 (fun h => h0 (h ▸ hS))
 have c12 := op2.cell (off := 1)
 simp only [anM, anN] at c12
 simp (disch := omega) only [c12, gB, cJ, hO, e7, gZ]
 refine Mn op2 rfl (by simp) fun w3 o3 x3 s3 => ?_
 simp only [aoK, aoM] at o3
 have hBl : (B ++ [x.testBit i]).length = q + 1 := by rw [anW, hq] <;> rfl
 refine hR _ ⟨h0, _, bytes', by rw [hBl]; exact o3, ⟨by simp, .inr ⟨b, c, rest, by rw [hbl], hS, o2.ext x3 (fun h => h0 (h ▸ hS)), ?_, by rw [hbl]; exact hn⟩⟩, hheld⟩ ?_
 .rw [anW, anV] at hc ⊢; rw [hbl]; exact hc
 .exact ((jM.dr _ _).seq (x2.mono fun z _ h => .inr (h ▸ hS))).seq (x3.mono fun z _ h => .inl h)
theorem akD {S : Nat -> Prop} {p x i n : Nat} {B : List Bool} {w : asY} (hw : Ws w S p B) (hN : ∀ b, w.heap.size <= b -> S b) (hx : x < 2 ^ 64) (hi : i <= 60) (hB : B.length <= 1000000000)
 {kn : asZ -> asZ -> asZ -> asZ -> asY -> Prop} (hR : ∀ w', Ws w' S p (B ++ [x.testBit i]) -> jM w w' (fun y => y = p ∨ S y) -> kn (.pointer (some ⟨p, 0, none⟩)) (.int .u64 x) (.int .i64 n) (.int .i64 i) w') :
 qX kn (.pointer (some ⟨p, 0, none⟩)) (.int .u64 x) (.int .i64 n) (.int .i64 i) w := by
 unfold qX uA
 obtain ⟨h0, v, bytes, o, os, hh⟩ := hw
 have c1 := o.cell (off := 1)
 have c0 := o.cell (off := 0)
 simp only [anM, anN] at c0 c1
 have e2 : (B.length : Int).tmod 8 = ((B.length % 8 : Nat) : Int) := by rw [arA (by omega)]; omega
 by_cases h8 : B.length % 8 = 0
 .have d4 : (((B.length % 8 : Nat) : Int) == 0) = true := by rw [h8] <;> rfl
  obtain ⟨hr1, hr2⟩ := V2 hh h8
  have hl2 := hh.len
  have lp := o.lt
  simp (disch := omega) only [gD, iG, cJ, cV, fR, cW, anS, gS, c1, gB, iK, e2, iD, d4, c0, fZ]
  refine sK (cells := #[.int .u8 0]) (by decide) (by decide) (by kernel_rfl) fun w2 o2 x2 s2 => ?_
  refine Aq (m := 1) (news := [pB 0]) (i := Tryz.t5) Tryz.underlying22 Tryz.underlying22 Ih rfl rfl rfl (Gz os x2 (fun _ _ h => h)) (o2.cl (off := 0) (l := [pB 0]) (n := 1) rfl (fun i hi => by rw [anS] <;> rfl)) (by simp [one, pB]) (fun b hb => hN b (by omega)) (by omega) (by rw [show Tryz.t5.bytes = 1 from rfl]; omega) (by decide) fun v3 w3 o3 x3 => ?_
  have x13 : jM w w3 S := (x2.mono fun _ _ h => h.elim).seq x3
  have op3 := o.ext x13 h0
  have hv3 : ∃ a n c, v3 = .slice a n c := by
   rcases o3.2 with ⟨rfl, _⟩ | ⟨b, c, rest, rfl, _⟩
   .exact ⟨_, _, _, rfl⟩
   .exact ⟨_, _, _, rfl⟩
  obtain ⟨a3, n3, c3, rfl⟩ := hv3
  refine uC op3 rfl (by simp) fun w4 o4 x4 s4 => ?_
  simp only [aoK, aoM] at o4
  have x14 : jM w w4 (fun y => y = p ∨ S y) := (x13.mono fun y _ h => .inr h).seq (x4.mono fun y _ h => .inl h)
  refine aeJ (w := w4) ⟨h0, _, bytes ++ [0], o4, ?_, ?_, hr2⟩ hx hi hB fun w5 h5 x5 => hR w5 h5 (x14.seq x5)
  .have := Gz o3 x4 (fun b hb h => h0 (h ▸ hb))
   rw [anW, aoX]
   exact this
  .rw [anW]; exact hr1
 .have d4 : (((B.length % 8 : Nat) : Int) == 0) = false := by simp; omega
  simp (disch := omega) only [gD, iG, cJ, cV, fR, cW, anS, gS, c1, gB, iK, e2, iD, d4, fT]
  refine aeJ (w := w) ⟨h0, v, bytes, o, os, hh.bits, ?_⟩ hx hi hB fun w5 h5 x5 => hR w5 h5 x5
  rw [hh.len]; omega
theorem afU {S : Nat -> Prop} {p x n : Nat} {B : List Bool} {w : asY} (h : Ws w S p B) (hN : ∀ b, w.heap.size <= b -> S b) (hx : x < 2 ^ 64) (hn : n <= 56) (hB : B.length <= 100000000) :
 jD pg qG #[.pointer (some ⟨p, 0, none⟩), .int .u64 x, .int .i64 n] w (fun r w' => r = .tuple #[] /\ Ws w' S p (B ++ zG x n) /\ jM w w' (fun y => y = p ∨ S y)) := by
 refine DM ?_
 unfold Eg tG sY
 by_cases hn0 : n = 0
 .subst hn0
  have d1 : decide (((0 : Nat) : Int) < 1) = true := rfl
  simp (disch := omega) only [gD, bR, anQ, true_and, cJ, gT, gQ, anO, if_false, gM, hJ, d1, gU, if_true, fZ, gI]
  exact ⟨by rw [L9, aqC]; exact h, jM.refl _ _⟩
 have d1 : decide ((n : Int) < 1) = false := by simp; omega
 have d2 : decide ((56 : Int) < (n : Int)) = false := by simp; omega
 simp (disch := omega) only [gD, bR, anQ, true_and, cJ, gT, gQ, anO, if_false, gM, hJ, d1, hU, d2, fT]
 unfold sZ tT
 refine kE.rule (fun m (t : asZ) w' => ∃ i : Nat, m = n - i /\ t = .int .i64 i /\ i <= n /\ Ws w' S p (B ++ zG x i) /\ jM w w' (fun y => y = p ∨ S y)) n
  ⟨0, rfl, rfl, by omega, by rw [L9, aqC]; exact h, jM.refl _ _⟩ ?_
 rintro m t w1 ⟨i, rfl, rfl, hi, hw, x1⟩
 unfold qY uD
 by_cases hlt : i < n
 .have d3 : decide ((i : Int) < (n : Int)) = true := by simp; omega
  simp (disch := omega) only [gD, hJ, d3, cJ, fZ]
  unfold uB tR
  refine akD hw (fun b hb => hN b (by have := x1.size; omega)) hx (by omega) (by rw [anW, Dl]; omega) fun w3 hw3 x3 => ?_
  unfold rH
  simp (disch := omega) only [gD, hO, gZ, cJ]
  refine ⟨n - (i + 1), by omega, i + 1, rfl, rfl, by omega, ?_, x1.seq x3⟩
  rw [US, <- aoU]
  exact hw3
 .have d3 : decide ((i : Int) < (n : Int)) = false := by simp; omega
  obtain rfl : i = n := by omega
  simp (disch := omega) only [gD, hJ, d3, cJ, fT]
  exact ⟨hw, x1⟩
theorem Ws.wr {w : asY} {S : Nat -> Prop} {p : Nat} {B : List Bool} (h : Ws w S p B) : Wr w 0 p B := by
 have h1 := h.turn (T := fun b => 0 <= b /\ b ≠ p) (fun h => h.2 rfl) (fun b hb _ => ⟨asN _, fun e => h.1 (e ▸ hb)⟩)
 obtain ⟨h0, v, bytes, a, b, c⟩ := h1
 exact ⟨asN _, v, bytes, a, b, c⟩
theorem WL (w : asY) : jD pg AQ #[] w (fun r w' => r = .pointer (some ⟨w.heap.size, 0, none⟩) /\ w'.heap.size = w.heap.size + 1 /\ Ws w' (fun _ => False) w.heap.size [] /\ jM w w' mM) := by
 refine Pl ?_
 unfold NV D6
 simp (disch := omega) only [gD, dM, cJ]
 refine Ce fun w1 o1 x1 s1 => ?_
 simp only [Value.cells] at o1
 exact ⟨rfl, by omega, ⟨fun h => h, _, [], o1, ⟨rfl, .inl ⟨rfl, rfl⟩⟩, adD⟩, x1⟩
theorem afM {lo p : Nat} {B : List Bool} {w : asY} (h : Wr w lo p B) (hB : B.length <= 10000000) :
 jD pg tS #[.pointer (some ⟨p, 0, none⟩)] w (fun r w' => ∃ bytes, Bs w' r bytes /\ Ut (B ++ [true]) bytes /\ AtI r w.heap.size w'.heap.size /\ jM w w' mM) := by
 refine KA ?_
 obtain ⟨h0, v, bytes, o, os, hh⟩ := h
 have c0 := (GI o).cell (off := 0)
 have c1 := (GI o).cell (off := 1)
 simp only [anM, anN] at c0 c1
 have hs : Bs w v bytes := by
  have h1 := os.1
  rcases os.2 with ⟨rfl, h2⟩ | ⟨b, c, rest, rfl, h2, h3, h4, h5⟩
  .exact ⟨_, _, _, rfl, by omega, by omega, fun h => by omega⟩
  .refine ⟨_, _, _, rfl, by omega, h5, fun _ => ⟨b, 0, rfl, fun i hi => ?_⟩⟩
   rw [h3.cell, anS, aoI (by omega)]
 have hl := hh.len
 unfold HS zD
 simp (disch := omega) only [gD, bR, anQ, iG, jF, Result.ok.injEq, Next.value.injEq, and_true, true_and, cJ, cW, anS, gS, cV, fR, c0, gB, c1, fT]
 refine (UH (hs.ext (jM.dr _ mM) (kJ _)) (by omega)).mono ?_
 rintro r w1 ⟨o1, x1⟩
 have z1 := x1.size
 have x01 : jM w w1 mM := (jM.dr w mM).seq x1
 have c11 := (o.ext x01 (fun h => h)).cell (off := 1)
 simp only [anM, anN] at c11
 have hdr : (dr w).heap.size = w.heap.size := rfl
 rw [hdr] at o1 z1
 obtain ⟨a1, cc1, rfl⟩ := o1.len
 simp (disch := omega) only [c11, gB, cJ, bV, true_and]
 refine Ce fun w2 o2 x2 s2 => ?_
 simp only [Value.cells] at o2
 have hw : Wr w2 w.heap.size w1.heap.size B := by
  refine ⟨z1, _, bytes, o2, ⟨o1.1, ?_⟩, hh⟩
  rcases o1.2 with h2 | ⟨b, c, rest, h1, h2, h3, h4, h5⟩
  .exact .inl h2
  .have := h3.lt
   exact .inr ⟨b, c, rest, h1, ⟨h2, by omega⟩, h3.ext x2 (fun h => h), h4, h5⟩
 refine (agP (x := 1) (n := 1) hw (by omega) (by omega) (by omega)).mono ?_
 rintro r w3 ⟨rfl, ⟨h0', v3, bytes3, o3, os3, hh3⟩, x3⟩
 have c03 := o3.cell (off := 0)
 simp only [anM, anN] at c03
 simp (disch := omega) only [iG, cJ, cV, fR, c03, gB]
 have e1 : zG 1 1 = [true] := by decide
 rw [e1] at hh3
 refine ⟨bytes3, ?_, hh3, ?_, ?_⟩
 .have h1 := os3.1
  rcases os3.2 with ⟨rfl, h2⟩ | ⟨b, c, rest, rfl, h2, h3, h4, h5⟩
  .exact ⟨_, _, _, rfl, by omega, by omega, fun h => by omega⟩
  .refine ⟨_, _, _, rfl, by omega, h5, fun _ => ⟨b, 0, rfl, fun i hi => ?_⟩⟩
   rw [h3.cell, anS, aoI (by omega)]
 .intro M hM
  rcases os3.2 with ⟨rfl, h2⟩ | ⟨b, c, rest, rfl, h2, h3, h4, h5⟩
  .exact fun h => h
  .exact At.at b 0 _ c M (hM b h2.1 h3.lt)
 .exact (x01.seq x2).trans x3 fun b hb h => by omega
theorem Z0 {w : asY} {b i : Nat} {C : List (Nat × Nat)} {e : Nat × Nat} (o : mP w b (cc C)) (h : C[i]? = some e) :
 w.cell? ⟨b, i * 2, none⟩ = some (.int .i64 (e.1 : Nat)) /\ w.cell? ⟨b, i * 2 + 1, none⟩ = some (.int .i64 (e.2 : Nat)) := by
 have ht := aeQ h
 obtain ⟨hi, rfl⟩ := aqR.1 h
 have h0 := congrArg (fun l => l[0]?) ht
 have h1 := congrArg (fun l => l[1]?) ht
 simp only [List.getElem?_take, arH, apI, anM, anN] at h0 h1
 rw [o.cell, o.cell]
 exact ⟨by simpa using h0, by simpa using h1⟩
def WrC (C : List (Nat × Nat)) : Prop := C.length <= 256 /\ ∀ (s : Nat) (e : Nat × Nat), C[s]? = some e -> e.1 <= 11 /\ (0 < e.1 -> e.2 < 2 ^ 11)
def akM (w : asY) (base : Nat) (C : List (Nat × Nat)) (l : List UInt8) (r : asZ) : Prop :=
 ((∃ s ∈ kA l, bitsOf C s = 0) /\ r = .tuple #[.slice none 0 0, .int .i64 1]) ∨
 ((∀ s ∈ kA l, 0 < bitsOf C s) /\ ∃ v bytes, r = .tuple #[v, .int .i64 0] /\ Bs w v bytes /\ Ut (KH C (kA l) ++ [true]) bytes /\ AtI v base w.heap.size)
theorem aiD : afG jN = #[12, 13] := by kernel_rfl
theorem alL : Tb pg nH = 42 := by kernel_rfl
theorem aaK {C : List (Nat × Nat)} {l : List Nat} {i s : Nat} (h : l[i]? = some s) : KH C (l.drop i) = KH C (l.drop (i + 1)) ++ zG (C.getD s (0, 0)).2 (C.getD s (0, 0)).1 := by
 obtain ⟨hi, rfl⟩ := aqR.1 h
 rw [aqA hi, KH]
theorem Xm {C : List (Nat × Nat)} {l : List UInt8} {b : Nat} {v : asZ} {w : asY} (ho : mP w b (cc C)) (hb : Bs w v l) (hC : WrC C) (hl : l.length <= 200000) :
 jD pg nH #[.slice (some ⟨b, 0, none⟩) C.length C.length, v] w (fun r w' => akM w' w.heap.size C l r /\ jM w w' mM) := by
 refine SX ?_
 obtain ⟨RR, hRR⟩ : ∃ RR : asZ -> asY -> Prop, RR = fun r w' => akM w' w.heap.size C l r /\ jM w w' mM := ⟨_, rfl⟩
 rw [<- hRR]
 unfold Ue HQ Hd
 refine Ce fun w1 o1 x1 s1 => ?_
 simp only [Value.cells] at o1
 refine TV fun w2 o2 x2 s2 => ?_
 refine WR fun w3 o3 x3 s3 => ?_
 refine (WL w3).mono ?_
 rintro r w4 ⟨rfl, s4, hW4, x4⟩
 refine Tf fun w5 o5 x5 s5 => ?_
 refine TH o5 rfl (by simp) fun w6 o6 x6 s6 => ?_
 simp only [aoK] at o6
 unfold Hy Ij Hi
 refine IP ?_
 unfold Gk vL
 obtain ⟨va, vn, vc, hv, -⟩ := id hb
 subst hv
 refine Ce fun w7 o7 x7 s7 => ?_
 simp only [Value.cells] at o7
 have q1 := fun w => Zm (P := pg) (f := oS) [] [.pointer (some ⟨w6.heap.size, 0, none⟩)] w
 simp (disch := omega) only [gD, q1, cJ]
 unfold Iv Io
 intro g g2 g4 g5 g6 g11 gm
 generalize hn0 : w.heap.size = n0 at *
 have e1 : w1.heap.size = n0 + 1 := by omega
 have e2 : w2.heap.size = n0 + 2 := by omega
 have e3 : w3.heap.size = n0 + 3 := by omega
 have e4 : w4.heap.size = n0 + 4 := by omega
 have e6 : w6.heap.size = n0 + 5 := by omega
 have e7 : w7.heap.size = n0 + 6 := by omega
 rw [e1] at o2 g4
 rw [e2] at o3 g5
 rw [e3] at hW4 o6
 rw [e4] at o6 g6
 rw [e6] at o7 g11
 have x06 : jM w w6 mM := ((((x1.seq x2).seq x3).seq x4).seq x5).trans x6 fun y hy h => by omega
 have x07 : jM w w7 mM := x06.seq x7
 have hv7 : Bs w7 (.slice va vn vc) l := hb.ext x07 (kJ _)
 have lb := ho.lt
 have b1 : mP w7 n0 [.slice (some ⟨b, 0, none⟩) C.length C.length] := ((((((o1.ext x2 (fun h => h)).ext x3 (fun h => h)).ext x4 (fun h => h)).ext x5 (fun h => h)).ext x6 (by omega))).ext x7 (fun h => h)
 have b2 : mP w7 (n0 + 1) [.slice none 0 0] := (((((o2.ext x3 (fun h => h)).ext x4 (fun h => h)).ext x5 (fun h => h)).ext x6 (by omega))).ext x7 (fun h => h)
 have b3 : mP w7 (n0 + 2) [.int .i64 0] := ((((o3.ext x4 (fun h => h)).ext x5 (fun h => h)).ext x6 (by omega))).ext x7 (fun h => h)
 have b6 : mP w7 (n0 + 4) [.pointer (some ⟨n0 + 3, 0, none⟩)] := o6.ext x7 (fun h => h)
 have bC : mP w7 b (cc C) := ho.ext x07 (fun h => h)
 have hW7 : Ws w7 (fun y => n0 + 7 < y) (n0 + 3) [] :=
  ((hW4.ext x5 (fun h => h) (fun _ h => h.elim)).ext x6 (by omega) (fun _ h => h.elim)).ext x7 (fun h => h) (fun _ h => h.elim) |>.turn (by omega) (fun _ h => h.elim)
 refine aeI (fi := oS) (cap := #[.pointer (some ⟨n0 + 5, 0, none⟩)]) (by show noMark (g 1000003) = true; rw [gm] <;> rfl) g11 Tryz.func151 (by kernel_rfl) (by kernel_rfl) ?_
 obtain ⟨x8, s8, d8, l8⟩ := aaJ nH (Tb pg nH) (afG jN) (abT jN) (YB jN) g w7
 rw [e7] at s8 d8 l8 ⊢
 generalize rfW nH (Tb pg nH) (afG jN) (abT jN) (YB jN) g w7 = w8 at *
 obtain ⟨r0, hr0⟩ : ∃ r0 : Loop, r0 = { state := .ready, pending := none, fn := nH, tmps := tmpsOf (Tb pg nH) g, params := afG jN, assign := abT jN, body := YB jN, defers := n0 + 6 } := ⟨_, rfl⟩
 rw [<- hr0] at l8
 let I : Nat -> asY -> Prop := fun i W => W.heap[n0 + 7]? = some (.loop r0) /\ jM w8 W (fun y => y = n0 + 7 ∨ y = n0 + 3 ∨ n0 + 7 < y) /\ Ws W (fun y => n0 + 7 < y) (n0 + 3) (KH C ((kA l).drop i)) /\ ∀ s ∈ (kA l).drop i, 0 < bitsOf C s
 let S : asY -> Prop := fun W => (∃ s ∈ kA l, bitsOf C s = 0) /\ W.heap[n0 + 7]? = some (.loop { r0 with state := .done, pending := some .ret }) /\ mP W (n0 + 1) [.slice none 0 0] /\ mP W (n0 + 2) [.int .i64 1] /\ jM w W mM /\ W.heap[n0 + 6]? = some (.deferred (some []))
 have hbits : ∀ s, bitsOf C s <= 11 := fun s => by
  unfold bitsOf
  rw [anY]
  cases h : C[s]? with
  | none => simp
  | some e => exact (hC.2 s e h).1
 have x08 : jM w w8 mM := x07.seq x8
 have hmain := YP (l := l) (v := .slice va vn vc) (box := n0 + 5) (lp := n0 + 7) (r0 := r0) (w := w8) I S ?hI ?hp (by omega) ?h0 ?hs
 case hI =>
  rintro i W ⟨hlp, hx, _⟩
  exact ⟨(o7.ext x8 (fun h => h)).ext hx (by omega), hb.ext (x08.trans hx fun y hy h => by omega) (kJ _), hlp⟩
 case hp => rw [hr0, aiD] <;> rfl
 case h0 =>
  refine ⟨l8, jM.refl _ _, ?_, ?_⟩
  .rw [arJ (by rw [mX]; omega)]; exact hW7.ext x8 (fun h => h) (fun _ _ h => h)
  .rw [arJ (by rw [mX]; omega)]; intro s hs; cases hs
 case hs =>
  rintro i W hi ⟨hlp, hx, hW, hall⟩
  have zW := hx.size
  have y08 : jM w W mM := x08.trans hx fun y hy h => by omega
  have hT : UX r0 [.int .i64 i, .int .u8 ((l[i]'hi).toNat : Nat)] = ((tmpsOf 42 g).setIfInBounds 12 (.int .i64 i)).setIfInBounds 13 (.int .u8 ((l[i]'hi).toNat : Nat)) := by
   exact ahB (by rw [hr0]; exact aiD) (by rw [hr0]; simp only; rw [alL]) _ _
  have hE : ∀ {x : Nat} {u v z : asZ}, x < 12 -> g x = u -> MZ (((tmpsOf 42 g).setIfInBounds 12 v).setIfInBounds 13 z) x = u := fun {x u v z} h1 h2 => by
   rw [U8 (by simp [tmpsOf]), if_neg (by omega), U8 (by simp [tmpsOf]), if_neg (by omega), abM (by omega), h2]
  have hE13 : ∀ {v z : asZ}, MZ (((tmpsOf 42 g).setIfInBounds 12 v).setIfInBounds 13 z) 13 = z := fun {v z} => by
   rw [U8 (by simp [tmpsOf]), if_pos rfl]
  rw [hT]
  have a0 := (b1.ext x8 (fun h => h)).ext hx (by omega)
  have a1 := (b2.ext x8 (fun h => h)).ext hx (by omega)
  have a2 := (b3.ext x8 (fun h => h)).ext hx (by omega)
  have a6 := (b6.ext x8 (fun h => h)).ext hx (by omega)
  have aC := (bC.ext x8 (fun h => h)).ext hx (by omega)
  have ad := EW d8 hx (by omega)
  have hlt : n0 + 7 < W.heap.size := by omega
  subst hr0
  refine RB (by simp [tmpsOf]) ?_
  rw [hE (by omega) g2, hE (by omega) g4, hE (by omega) g5, hE (by omega) g6, hE13]
  unfold Mv Dz
  refine Z8 hlp rfl fun W1 l1 y1 z1 => ?_
  have a0 := a0.ext y1 (by omega)
  have a1 := a1.ext y1 (by omega)
  have a2 := a2.ext y1 (by omega)
  have a6 := a6.ext y1 (by omega)
  have aC := aC.ext y1 (by omega)
  have ad := EW ad y1 (by omega)
  have hW := hW.ext y1 (by omega) (fun _ h => by omega)
  have y01 : jM w W1 mM := y08.trans y1 fun y hy h => by omega
  have hs256 : (l[i]'hi).toNat < 256 := aqG _
  have hget : (kA l)[i]? = some (l[i]'hi).toNat := by unfold kA; rw [aoJ, anX hi] <;> rfl
  have hmem : (l[i]'hi).toNat ∈ kA l := aqF hget
  have hdr := aaK (C := C) hget
  have hcons : (kA l).drop i = (l[i]'hi).toNat :: (kA l).drop (i + 1) := by
   obtain ⟨hj, e⟩ := aqR.1 hget
   rw [aqA hj, e]
  generalize (l[i]'hi).toNat = s at *
  have c0 := a0.cell (off := 0)
  simp only [anM] at c0
  have hbad : bitsOf C s = 0 -> ∀ W2, jM W1 W2 (fun y => y = n0 + 1 ∨ y = n0 + 2) -> mP W2 (n0 + 1) [.slice none 0 0] -> mP W2 (n0 + 2) [.int .i64 1] -> XL (n0 + 7) (some .ret) (fun b W' => (b = .bool true /\ I i W') ∨ (b = .bool false /\ S W')) W2 := by
   intro h0 W2 y2 k1 k2
   refine UR (EW l1 y2 (by omega)) fun W3 l3 y3 z3 => .inr ⟨rfl, ⟨s, hmem, h0⟩, l3, k1.ext y3 (by omega), k2.ext y3 (by omega), ?_, ?_⟩
   .exact (y01.trans y2 fun y hy h => by omega).trans y3 fun y hy h => by omega
   .exact EW (EW ad y2 (by omega)) y3 (by omega)
  unfold zX
  by_cases hge : C.length <= s
  .have d1 : decide ((C.length : Int) <= (s : Int)) = true := by simp; omega
   simp (disch := omega) only [gD, fK, gZ, bU, cX, true_and, cJ, c0, gB, bT, iE, d1, gU, gQ, if_true, fZ, gI]
   refine uC a1 rfl (by simp) fun W2 k1 y2 z2 => ?_
   refine Lq (a2.ext y2 (by omega)) rfl (by simp) fun W3 k2 y3 z3 => ?_
   simp only [aoK] at k1 k2
   refine hbad ?_ W3 ((y2.mono fun _ _ h => .inl h).seq (y3.mono fun _ _ h => .inr h)) (k1.ext y3 (by omega)) k2
   unfold bitsOf; rw [anY, aoD hge] <;> rfl
  .have d1 : decide ((C.length : Int) <= (s : Int)) = false := by simp; omega
   obtain ⟨e, he⟩ : ∃ e, C[s]? = some e := ⟨_, anX (by omega)⟩
   obtain ⟨p0, p1⟩ := Z0 aC he
   obtain ⟨hc1, hc2⟩ := hC.2 s e he
   have hbo := aaB (b := e.1) (c := e.2) he
   by_cases h0 : e.1 = 0
   .have n1 : (((e.1 : Nat) : Int) == 0) = true := by simp; omega
    simp (disch := omega) only [gD, fK, gZ, bU, cX, true_and, cJ, c0, gB, bT, iE, d1, gT, gQ, anO, if_false, gM, bQ, anP, anS, aS, gS, p0, iD, n1, fZ]
    refine uC a1 rfl (by simp) fun W2 k1 y2 z2 => ?_
    refine Lq (a2.ext y2 (by omega)) rfl (by simp) fun W3 k2 y3 z3 => ?_
    simp only [aoK] at k1 k2
    exact hbad (by rw [hbo]; exact h0) W3 ((y2.mono fun _ _ h => .inl h).seq (y3.mono fun _ _ h => .inr h)) (k1.ext y3 (by omega)) k2
   .have n1 : (((e.1 : Nat) : Int) == 0) = false := by simp; omega
    have hc2 := hc2 (by omega)
    have c0d := (GI a0).cell (off := 0)
    have c6d := (GI a6).cell (off := 0)
    simp only [anM] at c0d c6d
    obtain ⟨p0d, p1d⟩ := Z0 (GI aC) he
    simp (disch := omega) only [gD, fK, gZ, bU, cX, true_and, cJ, c0, gB, bT, iE, d1, gT, gQ, anO, if_false, gM, bQ, anP, anS, aS, gS, p0, iD, n1, c6d, c0d, p0d, aU, p1d, eQ, hZ, fT]
    have hlen := rA hbits ((kA l).drop (i + 1))
    rw [aoN, mX] at hlen
    refine (afU (x := e.2) (n := e.1) (hW.ext (jM.dr W1 mM) (fun h => h) (fun _ _ h => h)) (fun y hy => by have : (dr W1).heap.size = W1.heap.size := rfl; omega) (by omega) (by omega) (by omega)).mono ?_
    rintro r W2 ⟨rfl, hW2, y2⟩
    have y12 : jM W1 W2 (fun y => y = n0 + 3 ∨ n0 + 7 < y) := (jM.dr W1 _).seq y2
    refine UR (EW l1 y12 (by omega)) fun W3 l3 y3 z3 => .inl ⟨rfl, l3, ?_, ?_, ?_⟩
    .refine ((hx.trans y1 fun y _ h => by omega).trans y12 fun y _ h => by omega).trans y3 fun y _ h => by omega
    .rw [hdr]
     have hg : C.getD s (0, 0) = e := by rw [anY, he] <;> rfl
     rw [hg]
     exact hW2.ext y3 (by omega) (fun _ h => by omega)
    .rw [hcons]
     intro t ht
     rcases apK.1 ht with rfl | ht
     .rw [hbo]; omega
     .exact hall t ht
 refine hmain.mono ?_
 rintro r w9 ⟨rfl, h⟩
 rcases h with ⟨hlp, hx, hW, hall⟩ | ⟨hbad, hlp, k1, k2, hx, hd⟩
 .have a1 := (b2.ext x8 (fun h => h)).ext hx (by omega)
  have a2 := (b3.ext x8 (fun h => h)).ext hx (by omega)
  have a6 := (b6.ext x8 (fun h => h)).ext hx (by omega)
  have ad := EW d8 hx (by omega)
  have y09 : jM w w9 mM := x08.trans hx fun y hy h => by omega
  refine T6 hlp (by rw [hr0]; simp) fun wa ya za => ?_
  rw [hr0]
  have hz : put g (some DS) (.pointer (some ⟨n0 + 6, 0, none⟩)) 4 = g 4 := rfl
  have hz5 : put g (some DS) (.pointer (some ⟨n0 + 6, 0, none⟩)) 5 = g 5 := rfl
  have hz6 : put g (some DS) (.pointer (some ⟨n0 + 6, 0, none⟩)) 6 = g 6 := rfl
  have hzm : put g (some DS) (.pointer (some ⟨n0 + 6, 0, none⟩)) 1000003 = .pointer (some ⟨n0 + 6, 0, none⟩) := rfl
  show Ah RR (put g (some DS) (.pointer (some ⟨n0 + 6, 0, none⟩)) 4) (put g (some DS) (.pointer (some ⟨n0 + 6, 0, none⟩)) 5) (put g (some DS) (.pointer (some ⟨n0 + 6, 0, none⟩)) 6) (put g (some DS) (.pointer (some ⟨n0 + 6, 0, none⟩)) 1000003) wa
  rw [hz, hz5, hz6, hzm, g4, g5, g6]
  unfold Ah
  have a1 := a1.ext ya (by omega)
  have a2 := a2.ext ya (by omega)
  have a6 := a6.ext ya (by omega)
  have ad := EW ad ya (by omega)
  have hW := hW.ext ya (by omega) (fun _ h => by omega)
  have y0a : jM w wa mM := y09.trans ya fun y hy h => by omega
  have c6 := a6.cell (off := 0)
  simp only [anM] at c6
  simp (disch := omega) only [gD, cX, c6, gB, cJ]
  have hlen := rA hbits (kA l)
  rw [mX] at hlen
  rw [aqQ] at hW hall
  refine (afM hW.wr (by omega)).mono ?_
  rintro r wb ⟨bytes, hbs, hheld, hat, yb⟩
  refine uC (a1.ext yb (fun h => h)) ?_ (by simp) fun wc kc yc zc => ?_
  .obtain ⟨a, n, c, rfl, _⟩ := hbs; rfl
  refine Lq ((a2.ext yb (fun h => h)).ext yc (by omega)) rfl (by simp) fun wd kd yd zd => ?_
  simp only [aoK] at kc kd
  refine Vb (EW (EW (EW ad yb (fun h => h)) yc (by omega)) yd (by omega)) fun we ye ze => ?_
  refine Sd ((kc.ext yd (by omega)).ext ye (by omega)) rfl ?_
  refine Qq (kd.ext ye (by omega)) rfl ?_
  have y0b : jM w wb mM := y0a.seq yb
  have zb := yb.size
  have z0a := y0a.size
  have z89 := hx.size
  have zcd := yc.size
  have zdd := yd.size
  have zee := ye.size
  rw [hRR]
  refine ⟨.inr ⟨hall, _, bytes, rfl, ?_, hheld, ?_⟩, ((y0b.trans yc fun y hy h => by omega).trans yd fun y hy h => by omega).trans ye fun y hy h => by omega⟩
  .refine ((hbs.ext yc ?_).ext yd ?_).ext ye ?_ <;> exact hat _ fun y h1 h2 => by omega
  .exact fun M hM => hat M fun y h1 h2 => hM y (by omega) (by omega)
 .refine T6 hlp (by simp) fun wa ya za => ?_
  show EE (put g (some DS) (.pointer (some ⟨n0 + 6, 0, none⟩)) 1000003) wa fun w => Um pg 22 (put g (some DS) (.pointer (some ⟨n0 + 6, 0, none⟩)) 4) w fun r0 => Um pg 24 (put g (some DS) (.pointer (some ⟨n0 + 6, 0, none⟩)) 5) w fun r1 => RR (.tuple #[r0, r1]) w
  have hz : put g (some DS) (.pointer (some ⟨n0 + 6, 0, none⟩)) 4 = g 4 := rfl
  have hz5 : put g (some DS) (.pointer (some ⟨n0 + 6, 0, none⟩)) 5 = g 5 := rfl
  have hzm : put g (some DS) (.pointer (some ⟨n0 + 6, 0, none⟩)) 1000003 = .pointer (some ⟨n0 + 6, 0, none⟩) := rfl
  rw [hz, hz5, hzm, g4, g5]
  refine Vb (EW hd ya (by omega)) fun we ye ze => ?_
  refine Sd ((k1.ext ya (by omega)).ext ye (by omega)) rfl ?_
  refine Qq ((k2.ext ya (by omega)).ext ye (by omega)) rfl ?_
  rw [hRR]
  exact ⟨.inl ⟨hbad, rfl⟩, (hx.trans ya fun y hy h => by omega).trans ye fun y hy h => by omega⟩
theorem aeO {wl : List UInt8} (h : oC (kA wl) ≠ 0) : WrC (wC wl) := by
 obtain ⟨hF, hm, hC⟩ := WOk.full h
 refine ⟨hC, fun s e he => ?_⟩
 obtain ⟨h1, h2⟩ := hF.le s e.1 e.2 he
 exact ⟨by omega, fun h0 => aqW (h2 h0) (aoO (by omega) (by omega))⟩
theorem W8 {wl : List UInt8} (h : oC (kA wl) ≠ 0) (s : Nat) : bitsOf (wC wl) s <= 11 := by
 unfold bitsOf
 rw [anY]
 cases he : (wC wl)[s]? with
 | none => simp
 | some e => exact ((aeO h).2 s e he).1
theorem Wk {wl l bytes : List UInt8} (h : oC (kA wl) ≠ 0) (hall : ∀ s ∈ kA l, 0 < bitsOf (wC wl) s) (hb : Ut (KH (wC wl) (kA l) ++ [true]) bytes) : RM (wC wl) bytes l.length = .ok (kA l) := by
 obtain ⟨hF, hm, hC⟩ := WOk.full h
 obtain ⟨h1, h2⟩ := aeM hb
 have h3 := ZR hF (T := tH bytes) hall h2
 rw [mX] at h3
 unfold RM
 rw [h1]
 simp only
 rw [h3]
 simp
theorem adQ {wl l bytes : List UInt8} (h : oC (kA wl) ≠ 0) (hb : Ut (KH (wC wl) (kA l) ++ [true]) bytes) : bytes.length <= (11 * l.length + 8) / 8 := by
 have h1 := rA (W8 h) (kA l)
 rw [mX] at h1
 rw [hb.len, anW, apD]
 omega
def alJ (w : asY) (base : Nat) (wl l : List UInt8) (back : List UInt8 -> Except Int (List Nat)) (lim : Nat) (bad : Prop) (r : asZ) : Prop :=
 ((oC (kA wl) = 0 ∨ bad ∨ ∃ s ∈ kA l, bitsOf (wC wl) s = 0) /\ r = .tuple #[.slice none 0 0, .int .i64 1]) ∨
 (oC (kA wl) ≠ 0 /\ (∀ s ∈ kA l, 0 < bitsOf (wC wl) s) /\ ∃ v bytes, r = .tuple #[v, .int .i64 0] /\ Bs w v bytes /\ AtI v base w.heap.size /\ bytes.length <= lim /\ back bytes = .ok (kA l))
theorem XC {lv sv : asZ} {wl l : List UInt8} {w : asY} (hw : Bs w lv wl) (hwl : wl.length <= 100000) (h : Bs w sv l) (hl : l.length <= 131072) :
 jD pg FW #[lv, sv] w (fun r w' => alJ w' w.heap.size wl l (fun b => ajB wl b l.length) ((11 * l.length + 8) / 8) False r /\ jM w w' mM) := by
 refine Tn ?_
 unfold T9 H4
 by_cases hd : oC (kA wl) = 0
 .refine (We hw hwl hd).mono ?_
  rintro r w1 ⟨rfl, rfl⟩
  have n0 : ((1 : Int) != 0) = true := rfl
  simp (disch := omega) only [gD, kU, kV, cJ, iH, n0, fZ]
  exact ⟨.inl ⟨.inl hd, rfl⟩, jM.refl _ _⟩
 .refine (ZI hw rfl hd).mono ?_
  rintro r w1 ⟨b, rfl, hb, ob, x1⟩
  have n0 : ((0 : Int) != 0) = false := rfl
  have h1 := h.ext x1 (kJ _)
  have hv := h1
  obtain ⟨a, c, rfl, hc⟩ := h1.len
  rw [anV] at hv ⊢
  have d1 : decide ((l.length : Int) > 131072) = false := decide_eq_false (by omega)
  have d2 : decide ((131072 : Int) < (l.length : Int)) = false := decide_eq_false (by omega)
  simp (disch := omega) only [gD, kU, kV, fM, cJ, hU, d1, fT, iH, n0]
  have hcl : wl.length = (wC wl).length := by rw [B6, mX]
  rw [hcl]
  refine (Xm ob hv (aeO hd) (by omega)).mono ?_
  rintro r w2 ⟨he, x2⟩
  have z1 := x1.size
  rcases he with ⟨hbad, rfl⟩ | ⟨hall, v, bytes, rfl, hbs, hheld, hat⟩
  .simp (disch := omega) only [kU, kV, cJ]
   exact ⟨.inl ⟨.inr (.inr hbad), rfl⟩, x1.seq x2⟩
  .simp (disch := omega) only [kU, kV, cJ]
   refine ⟨.inr ⟨hd, hall, _, bytes, rfl, hbs, fun M hM => hat M fun y h1 h2 => hM y (by omega) h2, adQ hd hheld, ?_⟩, x1.seq x2⟩
   show ajB wl bytes l.length = _
   unfold ajB
   rw [if_neg hd]
   exact Wk hd hall hheld
def sg (l : List UInt8) (q i : Nat) : List UInt8 := if i < 3 then (l.drop (i * q)).take q else l.drop (3 * q)
theorem Oy {l : List UInt8} {q i : Nat} (h : 3 * q <= l.length) : (sg l q i).length = if i < 3 then q else l.length - 3 * q := by
 unfold sg
 split
 .rename_i hi
  have : i * q <= 2 * q := aoQ q (by omega)
  rw [aoL, aoN]; omega
 .rw [aoN]
theorem aeK {l : List UInt8} {q : Nat} : sg l q 0 ++ (sg l q 1 ++ (sg l q 2 ++ sg l q 3)) = l := by
 unfold sg
 simp only [show (0 : Nat) < 3 from by omega, show (1 : Nat) < 3 from by omega, show (2 : Nat) < 3 from by omega, if_true, Nat.lt_irrefl, if_false, arQ, Nat.one_mul, aqQ]
 have e2 : l.drop (3 * q) = (l.drop (2 * q)).drop q := by rw [arD]; congr 1; omega
 have e1 : l.drop (2 * q) = (l.drop q).drop q := by rw [arD]; congr 1; omega
 rw [e2, aqX, e1, aqX, aqX]
def WM (P : List (List UInt8)) : List UInt8 := (P.take 3).flatMap fun s => pD s.length 2
theorem TJ {x n : Nat} {r : List UInt8} : (pD x n ++ r).drop n = r := asX (mE n x)
theorem S0 {x n : Nat} {r : List UInt8} : (pD x n ++ r).take n = pD x n := asE (mE n x)
theorem aaU {wl l a b c d : List UInt8} (h : oC (kA wl) ≠ 0) (hq : 3 * ((l.length + 3) / 4) <= l.length) (hl : l.length <= 131072)
 (ha : RM (wC wl) a (sg l ((l.length + 3) / 4) 0).length = .ok (kA (sg l ((l.length + 3) / 4) 0))) (hb : RM (wC wl) b (sg l ((l.length + 3) / 4) 1).length = .ok (kA (sg l ((l.length + 3) / 4) 1)))
 (hc : RM (wC wl) c (sg l ((l.length + 3) / 4) 2).length = .ok (kA (sg l ((l.length + 3) / 4) 2))) (hd : RM (wC wl) d (sg l ((l.length + 3) / 4) 3).length = .ok (kA (sg l ((l.length + 3) / 4) 3)))
 (la : a.length < 65536) (lb : b.length < 65536) (lc : c.length < 65536) :
 agZ wl (WM [a, b, c, d] ++ (a ++ (b ++ (c ++ d)))) l.length = .ok (kA l) := by
 have hs : WM [a, b, c, d] = pD a.length 2 ++ (pD b.length 2 ++ pD c.length 2) := by unfold WM; simp
 generalize hq' : (l.length + 3) / 4 = q at *
 have l0 := Oy (i := 0) hq
 have l1 := Oy (i := 1) hq
 have l2 := Oy (i := 2) hq
 have l3 := Oy (i := 3) hq
 simp only [show (0 : Nat) < 3 from by omega, show (1 : Nat) < 3 from by omega, show (2 : Nat) < 3 from by omega, if_true, Nat.lt_irrefl, if_false] at l0 l1 l2 l3
 rw [l0] at ha
 rw [l1] at hb
 rw [l2] at hc
 rw [l3] at hd
 rw [hs, aoU, aoU]
 generalize hY : a ++ (b ++ (c ++ d)) = Y
 have hYl : Y.length = a.length + (b.length + (c.length + d.length)) := by rw [<- hY]; simp
 have d2 : (pD a.length 2 ++ (pD b.length 2 ++ (pD c.length 2 ++ Y))).drop 2 = pD b.length 2 ++ (pD c.length 2 ++ Y) := TJ
 have d4 : (pD a.length 2 ++ (pD b.length 2 ++ (pD c.length 2 ++ Y))).drop 4 = pD c.length 2 ++ Y := by
  rw [show 4 = 2 + 2 from rfl, <- arD, d2]; exact TJ
 have d6 : (pD a.length 2 ++ (pD b.length 2 ++ (pD c.length 2 ++ Y))).drop 6 = Y := by
  rw [show 6 = 4 + 2 from rfl, <- arD, d4]; exact TJ
 have hlen : (pD a.length 2 ++ (pD b.length 2 ++ (pD c.length 2 ++ Y))).length = 6 + Y.length := by simp [mE]; omega
 have nm : ∀ x, x < 65536 -> Ye (pD x 2) = x := fun x hx => by rw [VY]; exact apH hx
 have eA : nA (pD a.length 2 ++ (pD b.length 2 ++ (pD c.length 2 ++ Y))) = a.length := by unfold nA; rw [S0, nm _ la]
 have eB : nB (pD a.length 2 ++ (pD b.length 2 ++ (pD c.length 2 ++ Y))) = b.length := by unfold nB; rw [d2, S0, nm _ lb]
 have eC : nC (pD a.length 2 ++ (pD b.length 2 ++ (pD c.length 2 ++ Y))) = c.length := by unfold nC; rw [d4, S0, nm _ lc]
 unfold agZ
 rw [if_neg h, hq', if_neg (by omega), if_neg (by rw [hlen]; omega), d6, eA, eB, eC, if_neg (by omega)]
 have ed : Y.length - (a.length + b.length + c.length) = d.length := by omega
 rw [ed, <- hY, YW, asE rfl, ha]
 simp only
 rw [asX rfl, YW, asE rfl, hb]
 simp only
 rw [asX rfl, YW, asE rfl, hc]
 simp only
 rw [asX rfl, YW, aoF (aoA _), hd]
 simp only [YW, aqC]
 have := aeK (l := l) (q := q)
 conv => rhs; rw [<- this]
 simp only [kA, aoX]
theorem ahF {l : List UInt8} {q i : Nat} (hi : i < 4) (hq : 3 * q <= l.length) : (l.drop (i * q)).take (if i < 3 then q else l.length - 3 * q) = sg l q i /\
 (l.drop (i * q)).drop (if i < 3 then q else l.length - 3 * q) = if i < 3 then l.drop ((i + 1) * q) else [] := by
 unfold sg
 by_cases h : i < 3
 .simp only [if_pos h]
  refine ⟨trivial, ?_⟩
  rw [arD]; congr 1; rw [apG]; omega
 .simp only [if_neg h]
  obtain rfl : i = 3 := by omega
  refine ⟨aoF (by rw [aoN]; omega), arJ (by rw [aoN]; omega)⟩
structure acV (W : asY) (p n0 : Nat) (C : List (Nat × Nat)) (l : List UInt8) (q : Nat) (av : asZ) (P : List (List UInt8)) (SA SW : Nat -> Prop) : Prop where
 a0 : ∀ b, SA b -> n0 <= b /\ b ≠ p /\ ¬ SW b
 aw : ∀ b, SA b -> b < W.heap.size
 s0 : ∀ b, SW b -> n0 <= b /\ b < W.heap.size
 al : LI W SA 1 av P.flatten.length (P.flatten.map pB)
 wr : Cw W p SW (WM P)
 held : ∀ j s, P[j]? = some s -> Ut (KH C (kA (sg l q j)) ++ [true]) s
 all : ∀ j, j < P.length -> ∀ s ∈ kA (sg l q j), 0 < bitsOf C s
theorem Xr {P : List (List UInt8)} {s : List UInt8} : WM (P ++ [s]) = if P.length < 3 then WM P ++ pD s.length 2 else WM P := by
 unfold WM
 by_cases h : P.length < 3
 .rw [if_pos h, aoF (by simp; omega), aoF (by omega), List.flatMap_append]; simp
 .rw [if_neg h, aqE (by omega)]
theorem W0 (P : List (List UInt8)) : (WM P).length <= 6 := by
 have : ∀ Q : List (List UInt8), (Q.flatMap fun s => pD s.length 2).length = 2 * Q.length := by
  intro Q
  induction Q with
  | nil => rfl
  | cons s Q ih => rw [List.flatMap_cons, anW, ih, mE, aoG]; omega
 unfold WM
 rw [this, aoL]; omega
theorem ZZ {w : asY} {S T : Nat -> Prop} {sz n : Nat} {v : asZ} {l : List asZ} (h : LI w S sz v n l) (hT : ∀ b, S b -> b < w.heap.size -> T b) : LI w T sz v n l := by
 refine ⟨h.1, ?_⟩
 rcases h.2 with h2 | ⟨b, c, rest, e, hb, o, hc, hn⟩
 .exact .inl h2
 .exact .inr ⟨b, c, rest, e, hT b hb o.lt, o, hc, hn⟩
theorem TR {a : Option Addr} {n c m c' k : Nat} {M : Nat -> Prop} (h : ¬ KZ (.slice a n c) M) (hm : m <= n) : ¬ KZ (.slice (nM a c k 1) m c') M := by
 have := AtS.sub (a := a) (n := n) (c := c) (m := m) (c' := c') (k := k) (mx := c) (sz := 1) (S := fun y => ¬ M y) (fun N hN hh => h (B2 hh fun b hb => Classical.byContradiction fun hm => hN b hm hb)) hm
 exact this M fun b hb => hb
theorem aaR {RR : asZ -> asY -> Prop} {l : List UInt8} {q b p n0 : Nat} {C : List (Nat × Nat)} {sv : asZ} {w0 : asY} (hC : WrC C) (ho : mP w0 b (cc C)) (hs : Bs w0 sv l) (hq : 3 * q <= l.length) (hq2 : l.length <= 4 * q) (hq3 : q <= 32768) (hl : l.length <= 131072)
 (hn0 : n0 <= w0.heap.size) (hp : n0 <= p) (hb : b < n0) (hsv : ¬ KZ sv (fun y => n0 <= y)) {SW0 : Nat -> Prop} (hw : Cw w0 p SW0 []) (hSW : ∀ y, SW0 y -> n0 <= y /\ y < w0.heap.size)
 (hbad : ∀ W, (∃ s ∈ kA l, bitsOf C s = 0) -> jM w0 W (fun y => n0 <= y) -> RR (.tuple #[.slice none 0 0, .int .i64 1]) W)
 (hok : ∀ W v P, P.length = 4 -> (∀ j s, P[j]? = some s -> Ut (KH C (kA (sg l q j)) ++ [true]) s) -> (∀ s ∈ kA l, 0 < bitsOf C s) -> Bs W v (WM P ++ P.flatten) -> AtI v w0.heap.size W.heap.size -> jM w0 W (fun y => n0 <= y) -> RR (.tuple #[v, .int .i64 0]) W) :
 AI (fun qN kQ w => yK RR qN kQ w) RR sv (.slice (some ⟨b, 0, none⟩) C.length C.length) (.pointer (some ⟨p, 0, none⟩)) (.slice none 0 0)
  (.agg #[.int .i64 (q : Nat), .int .i64 (q : Nat), .int .i64 (q : Nat), .int .i64 ((l.length : Int) - 3 * (q : Int))]) (.int .i64 0) w0 := by
 unfold AI EK
 have hbits : ∀ s, bitsOf C s <= 11 := fun s => by
  unfold bitsOf
  rw [anY]
  cases h : C[s]? with
  | none => simp
  | some e => exact (hC.2 s e h).1
 refine kE.rule (fun m (t : asZ × asZ × asZ) W => ∃ (i : Nat) (sv' av : asZ) (P : List (List UInt8)) (SA SW : Nat -> Prop), m = 4 - i /\ t = (sv', av, .int .i64 i) /\ i <= 4 /\ P.length = i /\ (i < 4 -> Bs W sv' (l.drop (i * q)) /\ ¬ KZ sv' (fun y => n0 <= y)) /\
  acV W p n0 C l q av P SA SW /\ jM w0 W (fun y => n0 <= y)) 4
  ⟨0, sv, .slice none 0 0, [], fun _ => False, SW0, rfl, rfl, by omega, rfl, fun _ => ⟨by rw [arQ]; exact hs, hsv⟩, ⟨fun _ h => h.elim, fun _ h => h.elim, hSW, ⟨rfl, .inl ⟨rfl, rfl⟩⟩, hw, fun j s h => by simp at h, fun j h => by simp at h⟩, jM.refl _ _⟩ ?_
 rintro m t W ⟨i, sv', av, P, SA, SW, rfl, rfl, hi, hPl, hsv', hE, hx⟩
 obtain ⟨hA0, hAw, hS0, hal, hwr, hheld, hall⟩ := hE
 have zW := hx.size
 unfold Ci GH
 have hpW := hwr.lt
 have hal2 := hal
 obtain ⟨aa, ac, rfl⟩ := J6 hal
 have hfl : P.flatten.length <= 262144 := by
  have key : ∀ (Q : List (List UInt8)), (∀ s ∈ Q, s.length <= 65536) -> Q.flatten.length <= 65536 * Q.length := by
   intro Q
   induction Q with
   | nil => intro _; simp
   | cons s Q ih =>
     intro h
     have h1 := h s (aoV ..)
     have h2 := ih fun t ht => h t (aoC _ ht)
     rw [asM, anW, aoG]; omega
  have := key P fun s hs => by
   obtain ⟨j, hj⟩ := List.getElem?_of_mem hs
   have h1 := hheld j s hj
   have h2 := rA hbits (kA (sg l q j))
   have h3 : (sg l q j).length <= 32768 := by rw [Oy hq]; split <;> omega
   rw [mX] at h2
   rw [h1.len, anW, apD]
   omega
  omega
 by_cases hlt : i < 4
 .have d1 : decide ((i : Int) < 4) = true := decide_eq_true (by omega)
  obtain ⟨hsb, hin⟩ := hsv' hlt
  obtain ⟨z, hz⟩ : ∃ z, z = if i < 3 then q else l.length - 3 * q := ⟨_, rfl⟩
  obtain ⟨hsg, hsd⟩ := ahF hlt hq
  rw [<- hz] at hsg hsd
  have hsl := Oy (i := i) hq
  rw [<- hz] at hsl
  have hzq : z <= 32768 := by rw [hz]; split <;> omega
  have hiq : i * q <= 3 * q := aoQ q (by omega)
  have hzl : z <= (l.drop (i * q)).length := by
   rw [aoN, hz]
   split
   .have : i * q <= 2 * q := aoQ q (by omega)
    omega
   .omega
  have hix : (#[.int .i64 (q : Nat), .int .i64 (q : Nat), .int .i64 (q : Nat), .int .i64 ((l.length : Int) - 3 * (q : Int))] : Array asZ)[i]? = some (.int .i64 (z : Nat)) := by
   rcases (show i = 0 ∨ i = 1 ∨ i = 2 ∨ i = 3 by omega) with rfl | rfl | rfl | rfl
   .rw [hz] <;> rfl
   .rw [hz] <;> rfl
   .rw [hz] <;> rfl
   .rw [hz]
    have : ((l.length : Int) - 3 * (q : Int)) = ((l.length - 3 * q : Nat) : Int) := by omega
    simp [this]
  have hv := hsb
  obtain ⟨a, c, rfl, hc⟩ := hsb.len
  rw [anV] at hv hc hin
  generalize hn : (l.drop (i * q)).length = n at *
  unfold Gy Gr MB Gv
  simp (disch := omega) only [gD, hJ, d1, fW, anP, hix, gB, anV, hn, cJ, eE, eF, fZ]
  have hseg : Bs W (.slice (nM a c 0 1) (z - 0) (c - 0)) (sg l q i) := by
   have := Sl.take' hv (k := z) hzl
   rw [<- arY, hsg] at this
   exact this
  refine (Xm (ho.ext hx (by omega)) hseg hC (by rw [hsl]; omega)).mono ?_
  rintro r W1 ⟨he, x1⟩
  have z1 := x1.size
  have y1 : jM w0 W1 (fun y => n0 <= y) := hx.trans x1 fun _ _ h => h.elim
  rcases he with ⟨⟨s, hs1, hs2⟩, rfl⟩ | ⟨hal1, v, bytes, rfl, hbs, hheld1, hat⟩
  .have n1 : ((1 : Int) != 0) = true := rfl
   simp (disch := omega) only [kU, kV, cJ, iH, n1, fZ]
   refine hbad W1 ⟨s, ?_, hs2⟩ y1
   have hsub : ∀ x ∈ sg l q i, x ∈ l := fun x hx => by
    unfold sg at hx
    split at hx
    .exact arX (apX hx)
    .exact arX hx
   obtain ⟨x, hx1, hx2⟩ := apM.1 hs1
   exact apM.2 ⟨x, hsub x hx1, hx2⟩
  .have n1 : ((0 : Int) != 0) = false := rfl
   have hbl : bytes.length < 65536 := by
    have h1 := rA hbits (kA (sg l q i))
    rw [mX, hsl] at h1
    rw [hheld1.len, anW, apD]
    omega
   have hbv := hbs
   obtain ⟨a2, c2, rfl, hc2⟩ := hbs.len
   rw [anV] at hbv hat
   have e1 : (i : Int) + 1 = ((i + 1 : Nat) : Int) := by omega
   have hszl := W0 P
   have fin : ∀ (W2 : asY) (SW2 : Nat -> Prop), Cw W2 p SW2 (WM (P ++ [bytes])) -> jM W1 W2 (fun y => y = p ∨ SW y ∨ W1.heap.size <= y) -> (∀ y, SW2 y -> (SW y ∨ W1.heap.size <= y) /\ y < W2.heap.size) →
       gD pg (oF .append #[22, 22] 22 [.slice aa P.flatten.length ac, .slice a2 bytes.length c2]) W2 fun t69 w =>
        gD pg (gV .add 3 iI iI (.int .i64 i) (.int .i64 1)) w fun t70 w =>
         ∃ m, m < 4 - i /\ ∃ (i' : Nat) (sv' av : asZ) (P : List (List UInt8)) (SA SW : Nat -> Prop), m = 4 - i' /\ ((.slice (nM a c z 1) (n - z) (c - z) : asZ), t69, t70) = (sv', av, .int .i64 i') /\ i' <= 4 /\ P.length = i' /\ (i' < 4 -> Bs w sv' (l.drop (i' * q)) /\ ¬ KZ sv' (fun y => n0 <= y)) /\
           acV w p n0 C l q av P SA SW /\ jM w0 w (fun y => n0 <= y) := by
    intro W2 SW2 hw2 x2 hS2
    have z2 := x2.size
    have hbs2 : Bs W2 (.slice a2 bytes.length c2) bytes := hbv.ext x2 (hat _ fun y h1 h2 h3 => by
     rcases h3 with h3 | h3 | h3
     .omega
     .have := (hS0 y h3).2; omega
     .omega)
    have hcl := hbs2.cl
    rw [anV] at hcl
    have hal3 : LI W2 (fun y => SA y ∨ W2.heap.size <= y) 1 (.slice aa P.flatten.length ac) P.flatten.length (P.flatten.map pB) := by
     refine ZZ (Gz (Gz hal2 x1 (fun _ _ h => h)) x2 fun y hy h3 => ?_) fun y hy _ => .inl hy
     have h4 := hA0 y hy
     have h5 := hAw y hy
     rcases h3 with h3 | h3 | h3
     .exact h4.2.1 h3
     .exact h4.2.2 h3
     .omega
    refine Aq (m := bytes.length) (news := bytes.map pB) (i := Tryz.t5) Tryz.underlying22 Tryz.underlying22 Ih rfl rfl rfl hal3 hcl (DE _) (fun y hy => .inr hy) (by omega) (by rw [show Tryz.t5.bytes = 1 from rfl]; omega) (by decide) fun v3 W3 o3 x3 => ?_
    have z3 := x3.size
    simp (disch := omega) only [gD, hO, e1, gZ, cJ]
    have y3 : jM w0 W3 (fun y => n0 <= y) := (y1.trans x2 fun y _ h => by
     rcases h with h | h | h
     .omega
     .exact (hS0 y h).1
     .omega).trans x3 fun y _ h => by
     rcases h with h | h
     .exact (hA0 y h).1
     .omega
    refine ⟨4 - (i + 1), by omega, i + 1, _, v3, P ++ [bytes], fun y => (SA y ∨ W2.heap.size <= y) /\ y < W3.heap.size, SW2, rfl, rfl, by omega, by rw [anW, apD, hPl], ?_, ⟨?_, fun y hy => hy.2, fun y hy => ?_, ?_, ?_, ?_, ?_⟩, y3⟩
    .intro hi4
     have hlt3 : i < 3 := by omega
     rw [if_pos hlt3] at hsd
     refine ⟨?_, TR hin (by omega)⟩
     have := Sl.drop' hv (k := z) hzl
     rw [<- List.map_drop, hsd] at this
     refine Sl.ext (Sl.ext (Sl.ext this x1 (kJ _)) x2 ?_) x3 ?_
     .exact fun h => TR hin (by omega) (B2 h fun y hy => by
       rcases hy with hy | hy | hy
       .omega
       .exact (hS0 y hy).1
       .omega)
     .exact fun h => TR hin (by omega) (B2 h fun y hy => by
       rcases hy with hy | hy
       .exact (hA0 y hy).1
       .omega)
    .rintro y ⟨hy | hy, hy2⟩
     .have h4 := hA0 y hy
      refine ⟨h4.1, h4.2.1, fun h => ?_⟩
      have h5 := hAw y hy
      rcases (hS2 y h).1 with h6 | h6
      .exact h4.2.2 h6
      .omega
     .refine ⟨by omega, fun h => ?_, fun h => ?_⟩
      .have := hw2.lt; omega
      .have := (hS2 y h).2; omega
    .obtain ⟨h1, h2⟩ := hS2 y hy
     refine ⟨?_, by omega⟩
     rcases h1 with h1 | h1
     .exact (hS0 y h1).1
     .omega
    .rw [List.flatten_append, List.flatten_singleton, anW, aoX]
     exact ZZ o3 fun y hy h => ⟨hy, h⟩
    .refine hw2.ext x3 (fun h => ?_) fun y hy h => ?_
     .rcases h with h | h
      .exact (hA0 p h).2.1 rfl
      .have := hw2.lt; omega
     .obtain ⟨h1, h2⟩ := hS2 y hy
      rcases h with h | h
      .rcases h1 with h1 | h1
       .exact (hA0 y h).2.2 h1
       .have := hAw y h; omega
      .omega
    .intro j s hj
     rcases aoE j P.length with hjl | hjl
     .rw [aoI hjl] at hj; exact hheld j s hj
     .rw [aoP hjl] at hj
      have : j - P.length = 0 := by
       rcases aqP (j - P.length) with h | h
       .exact h
       .rw [aoD (by simp; omega)] at hj; cases hj
      rw [this] at hj
      obtain rfl : bytes = s := by simpa using hj
      obtain rfl : j = i := by omega
      exact hheld1
    .intro j hj s hs
     rw [anW, apD] at hj
     rcases aoE j P.length with hjl | hjl
     .exact hall j hjl s hs
     .obtain rfl : j = i := by omega
      exact hal1 s hs
   have hwr1 : Cw W1 p (fun y => SW y ∨ W1.heap.size <= y) (WM P) := (hwr.ext x1 (fun h => h) (fun _ _ h => h)).turn (fun y hy _ => .inl hy) (fun h => by
    rcases h with h | h
    .exact hwr.1 h
    .omega)
   by_cases hi3 : i < 3
   .have d3 : decide ((i : Int) < 3) = true := decide_eq_true (by omega)
    have d4 : decide ((65536 : Int) <= (bytes.length : Int)) = false := decide_eq_false (by omega)
    have d5 : decide ((bytes.length : Int) ≥ 65536) = false := decide_eq_false (by omega)
    simp (disch := omega) only [anV, kU, kV, d3, fZ, cJ, iH, n1, fT, fM, eQ, hZ, iE, d4]
    refine (Ar (x := bytes.length) (n := 2) hwr1 (fun y hy => .inr hy) (by omega) (by omega) (by omega)).mono ?_
    rintro r W2 ⟨rfl, hw2, x2⟩
    unfold yG yE
    have hsz : WM (P ++ [bytes]) = WM P ++ pD bytes.length 2 := by rw [Xr, if_pos (by omega)]
    rw [<- hsz] at hw2
    exact fin W2 (fun y => (SW y ∨ W1.heap.size <= y) /\ y < W2.heap.size) (hw2.turn (fun y hy h => ⟨hy, h⟩) (fun h => hw2.1 h.1)) x2 (fun y hy => hy)
   .have d3 : decide ((i : Int) < 3) = false := decide_eq_false (by omega)
    simp (disch := omega) only [anV, kU, kV, d3, fT, cJ, iH, n1]
    unfold yG yE
    have hsz : WM (P ++ [bytes]) = WM P := by rw [Xr, if_neg (by omega)]
    rw [<- hsz] at hwr1
    exact fin W1 (fun y => (SW y ∨ W1.heap.size <= y) /\ y < W1.heap.size) (hwr1.turn (fun y hy h => ⟨hy, h⟩) (fun h => hwr1.1 h.1)) (jM.refl _ _) (fun y hy => hy)
 .have d1 : decide ((i : Int) < 4) = false := decide_eq_false (by omega)
  obtain rfl : i = 4 := by omega
  simp (disch := omega) only [gD, hJ, d1, cJ, fT]
  unfold yK
  have hwr1 : Cw W p (fun y => SW y ∨ W.heap.size <= y) (WM P) := hwr.turn (fun y hy _ => .inl hy) (fun h => by
   rcases h with h | h
   .exact hwr.1 h
   .omega)
  have hszl := W0 P
  refine (U5 hwr1 (fun y hy => .inr hy) (acO hal2) (by omega)).mono ?_
  rintro r W2 ⟨rfl, hw2, x2⟩
  refine (OZ hw2 (by rw [anW]; omega)).mono ?_
  rintro r W3 ⟨o3, x3⟩
  have z2 := x2.size
  have hat := xH.atI o3
  obtain ⟨a3, c3, rfl⟩ := o3.len
  refine hok W3 _ P hPl hheld ?_ o3.sl (fun M hM => hat M fun y h1 h2 => hM y (by omega) h2) ((hx.trans x2 fun y _ h => ?_).trans x3 fun _ _ h => h.elim)
  .intro s hs
   have hall' : ∀ j, j < 4 -> ∀ s ∈ kA (sg l q j), 0 < bitsOf C s := fun j hj => hall j (by omega)
   have := aeK (l := l) (q := q)
   rw [<- this] at hs
   simp only [kA, aoX, apV] at hs
   rcases hs with hs | hs | hs | hs
   .exact hall' 0 (by omega) s hs
   .exact hall' 1 (by omega) s hs
   .exact hall' 2 (by omega) s hs
   .exact hall' 3 (by omega) s hs
  .rcases h with h | h | h
   .omega
   .exact (hS0 y h).1
   .omega
theorem WI {lv sv : asZ} {wl l : List UInt8} {w : asY} (hw : Bs w lv wl) (hwl : wl.length <= 100000) (h : Bs w sv l) (hl : l.length <= 131072) :
 jD pg DO #[lv, sv] w (fun r w' => alJ w' w.heap.size wl l (fun b => agZ wl b l.length) (11 * l.length / 8 + 12) (l.length < 3 * ((l.length + 3) / 4)) r /\ jM w w' mM) := by
 refine R3 ?_
 unfold SK FB FQ
 by_cases hd : oC (kA wl) = 0
 .refine (We hw hwl hd).mono ?_
  rintro r w1 ⟨rfl, rfl⟩
  have n0 : ((1 : Int) != 0) = true := rfl
  simp (disch := omega) only [gD, kU, kV, cJ, iH, n0, fZ]
  exact ⟨.inl ⟨.inl hd, rfl⟩, jM.refl _ _⟩
 .refine (ZI hw rfl hd).mono ?_
  rintro r w1 ⟨b, rfl, hb, ob, x1⟩
  have n0 : ((0 : Int) != 0) = false := rfl
  have h1 := h.ext x1 (kJ _)
  have hv := h1
  obtain ⟨a, c, rfl, hc⟩ := h1.len
  rw [anV] at hv ⊢
  obtain ⟨q, hq⟩ : ∃ q, q = (l.length + 3) / 4 := ⟨_, rfl⟩
  simp (disch := omega) only [gD, kU, kV, fM, cJ, iH, n0, fT]
  refine (aeT hl hq w1).mono ?_
  rintro r w2 ⟨rfl, x2⟩
  simp (disch := omega) only [kU, kV, cJ, iJ, gQ]
  refine UM fun w3 o3 x3 s3 => ?_
  refine TZ o3 rfl (by simp [one]) (by simp) fun w4 o4 x4 s4 => ?_
  simp only [qM, aoK, aoM] at o4
  have x14 : jM w1 w4 mM := (x2.seq x3).trans x4 fun y hy h => by have := x2.size; omega
  have z1 := x1.size
  have z2 := x2.size
  have z14 := x14.size
  by_cases hbad : l.length < 3 * q
  .have d1 : decide (3 * (q : Int) <= (l.length : Int)) = false := decide_eq_false (by omega)
   simp (disch := omega) only [d1, anT, gU, if_true, fZ, gI]
   exact ⟨.inl ⟨.inr (.inl (by rw [<- hq]; exact hbad)), rfl⟩, x1.seq x14⟩
  .have d1 : decide (3 * (q : Int) <= (l.length : Int)) = true := decide_eq_true (by omega)
   have d2 : decide ((l.length : Int) > 131072) = false := decide_eq_false (by omega)
   have d3 : decide ((131072 : Int) < (l.length : Int)) = false := decide_eq_false (by omega)
   simp (disch := omega) only [d1, anU, gT, anO, if_false, gM, fM, cJ, hU, d2, fT]
   refine (FH w4).mono ?_
   rintro r w5 ⟨rfl, hlt5, hw5, x5⟩
   have z5 := x5.size
   unfold FC FK Fk
   have q1 := Yk (off := 0) (o4.ext x5 (fun h => h)) (by simp)
   simp only [aqQ, List.take_succ_cons, List.take_zero] at q1
   simp (disch := omega) only [gD, q1, cJ]
   have x15 : jM w1 w5 mM := x14.seq x5
   have hlc : wl.length = (wC wl).length := by rw [B6, mX]
   rw [hlc]
   have hb1 := ob.lt
   refine aaR (b := b) (n0 := w4.heap.size) (q := q) (aeO hd) (ob.ext x15 (fun h => h)) (hv.ext x15 (kJ _)) (by omega) (by omega) (by omega) hl z5 (aoA _) (by omega) ?_ (SW0 := fun y => w4.heap.size < y /\ y < w5.heap.size) ?_ (fun y hy => ⟨by omega, hy.2⟩) ?_ ?_
   .exact fun hh => (hv.ext x14 (kJ _)).old hh
   .exact hw5.turn (fun y hy h => ⟨hy, h⟩) (fun h => by omega)
   .intro W hbd x6
    exact ⟨.inl ⟨.inr (.inr hbd), rfl⟩, ((x1.seq x15).trans x6 fun y hy h => by omega)⟩
   .intro W v P hP hheld hall hbs hat x6
    have z6 := x6.size
    refine ⟨.inr ⟨hd, hall, v, _, rfl, hbs, fun M hM => hat M fun y h1 h2 => hM y (by omega) h2, ?_, ?_⟩, (x1.seq x15).trans x6 fun y hy h => by omega⟩
    .have hP4 : ∀ (j : Nat) (s : List UInt8), P[j]? = some s -> 8 * s.length <= 11 * (if j < 3 then q else l.length - 3 * q) + 8 := fun j s hj => by
      have h1 := hheld j s hj
      have h2 := rA (W8 hd) (kA (sg l q j))
      have h3 := Oy (l := l) (q := q) (i := j) (by omega)
      rw [mX, h3] at h2
      rw [h1.len, anW, apD]
      omega
     have hs6 := W0 P
     match P, hP with
     | [a, b, c, d], _ =>
       have h1 := hP4 0 a rfl
       have h2 := hP4 1 b rfl
       have h3 := hP4 2 c rfl
       have h4 := hP4 3 d rfl
       simp only [show (0 : Nat) < 3 from by omega, show (1 : Nat) < 3 from by omega, show (2 : Nat) < 3 from by omega, if_true, Nat.lt_irrefl, if_false] at h1 h2 h3 h4
       simp only [anW, asM, List.flatten_nil, List.length_nil]
       omega
    .show agZ wl (WM P ++ P.flatten) l.length = _
     match P, hP with
     | [a, b, c, d], _ =>
       have e : [a, b, c, d].flatten = a ++ (b ++ (c ++ d)) := by simp
       rw [e]
       have hlen : ∀ (j : Nat) (s : List UInt8), [a, b, c, d][j]? = some s -> s.length < 65536 /\ RM (wC wl) s (sg l q j).length = .ok (kA (sg l q j)) := fun j s hj => by
        have hj4 : j < 4 := by
         rcases aoE j 4 with h | h
         .exact h
         .rw [aoD (by simpa using h)] at hj; cases hj
        have h1 := hheld j s hj
        have h2 := rA (W8 hd) (kA (sg l q j))
        have h3 : (sg l q j).length <= 32768 := by rw [Oy (by omega)]; split <;> omega
        rw [mX] at h2
        refine ⟨by rw [h1.len, anW, apD]; omega, Wk hd (fun x hx => hall x ?_) h1⟩
        have hsub : ∀ x ∈ sg l q j, x ∈ l := fun x hx => by
         unfold sg at hx
         split at hx
         .exact arX (apX hx)
         .exact arX hx
        obtain ⟨y, hy1, hy2⟩ := apM.1 hx
        exact apM.2 ⟨y, hsub y hy1, hy2⟩
       obtain ⟨la, ha⟩ := hlen 0 a rfl
       obtain ⟨lb, hb⟩ := hlen 1 b rfl
       obtain ⟨lc, hc⟩ := hlen 2 c rfl
       obtain ⟨-, hdd⟩ := hlen 3 d rfl
       rw [hq] at ha hb hc hdd hbad
       exact aaU hd (by omega) hl ha hb hc hdd la lb lc
end Go.Proofs.YtoecppploooloaaGreatDoor
namespace Go.Pu
open Go Go.En
def MI (m : List Nat) : List Nat := (List.range ((m.length + 1) / 2)).map fun j => m.getD (2 * j) 0 * 16 + m.getD (2 * j + 1) 0
theorem R6 (m : List Nat) : (MI m).length = (m.length + 1) / 2 := by simp [MI]
theorem Z5 {m : List Nat} {j : Nat} (h : j < (m.length + 1) / 2) : (MI m).getD j 0 = m.getD (2 * j) 0 * 16 + m.getD (2 * j + 1) 0 := by
 rw [anY]
 unfold MI
 rw [aoJ, asA h] <;> rfl
theorem agK {m : List Nat} (h : ∀ x ∈ m, x < 16) (i : Nat) : m.getD i 0 < 16 := by
 rcases aoE i m.length with hi | hi
 .exact h _ (D1 hi)
 .rw [anY, aoD hi]; decide
end Go.Pu
namespace Go.Proofs.YtoecppploooloaaGreatDoor
open Go Go.En Go.Pu
set_option maxRecDepth 4000
abbrev Og (m : List Nat) : List UInt8 := m.map UInt8.ofNat
theorem Yq {x : Nat} (h : x < 256) : pB (UInt8.ofNat x) = .int .u8 (x : Nat) := by
 unfold pB; rw [asG h]
end Go.Proofs.YtoecppploooloaaGreatDoor
namespace Go.Pu
theorem YJ {B : Nat} : ∀ {l : List Nat}, (∀ n ∈ l, n <= B) -> l.sum <= l.length * B
 | [], _ => by simp
 | n :: l, h => by
   have h1 := h n (aoV ..)
   have h2 := YJ (l := l) fun m hm => h m (aoC _ hm)
   rw [arF, aoG, Nat.succ_mul]; omega
theorem adB {n : Nat} : ∀ {l : List Nat}, n ∈ l -> n <= l.sum
 | [], h => by cases h
 | m :: l, h => by
   rw [arF]
   rcases apK.1 h with rfl | h
   .omega
   .have := adB h; omega
def Es (n : Nat) : Bool := decide (0 < n)
def Rt (ns : List Nat) (i last : Nat) : Prop := (last = 0 /\ ∀ j, j < i -> ns.getD j 0 = 0) ∨ (last < i /\ 0 < ns.getD last 0 /\ ∀ j, last < j -> j < i -> ns.getD j 0 = 0)
theorem Rt.step {ns : List Nat} {i last : Nat} (h : Rt ns i last) : Rt ns (i + 1) (if 0 < ns.getD i 0 then i else last) := by
 split
 .rename_i h0
  exact .inr ⟨by omega, h0, fun j h1 h2 => by omega⟩
 .rename_i h0
  rcases h with ⟨rfl, h⟩ | ⟨h1, h2, h3⟩
  .refine .inl ⟨rfl, fun j hj => ?_⟩
   rcases aoE j i with h' | h'
   .exact h j h'
   .have : j = i := by omega
    subst this; omega
  .refine .inr ⟨by omega, h2, fun j hj hj2 => ?_⟩
   rcases aoE j i with h' | h'
   .exact h3 j hj h'
   .have : j = i := by omega
    subst this; omega
theorem Rt.one {ns : List Nat} {i a b : Nat} (ha : Rt ns i a) (hb : Rt ns i b) : a = b := by
 rcases ha with ⟨rfl, h⟩ | ⟨h1, h2, h3⟩
 .rcases hb with ⟨rfl, _⟩ | ⟨k1, k2, _⟩
  .rfl
  .have := h b k1; omega
 .rcases hb with ⟨rfl, k⟩ | ⟨k1, k2, k3⟩
  .have := k a h1; omega
  .rcases asL a b with h | h | h
   .have := h3 b h k1; omega
   .exact h
   .have := k3 a h h1; omega
theorem pJ {ns : List Nat} {i : Nat} (h : i < ns.length) : ns.getD i 0 = ns[i] := by rw [anY, anX h] <;> rfl
theorem abD {α : Type} {ns : List α} {i : Nat} (h : i < ns.length) : ns.take (i + 1) = ns.take i ++ [ns[i]] := by
 rw [arL, anX h] <;> rfl
theorem C0 {ns : List Nat} {i : Nat} (h : i < ns.length) : ns.take (i + 1) = ns.take i ++ [ns.getD i 0] := by rw [abD h, pJ h]
theorem S9 : ∀ {l : List Nat}, (∀ n ∈ l, n = 0) -> l.sum = 0
 | [], _ => rfl
 | n :: l, h => by rw [arF, h n (aoV ..), S9 fun m hm => h m (aoC _ hm)]
theorem TI : ∀ {l : List Nat}, (∀ n ∈ l, n = 0) -> l.countP Es = 0
 | [], _ => rfl
 | n :: l, h => by
   rw [List.countP_cons, h n (aoV ..), TI fun m hm => h m (aoC _ hm)] <;> rfl
theorem Kj {P : List Nat} {gr i : Nat} (x : Nat) (hg : gr < P.length) (hi : i < P.length) : (P.set gr x).getD i 0 = if i = gr then x else P.getD i 0 := by
 rw [anY, anY, List.getElem?_set]
 by_cases h : i = gr
 .subst h; simp [hi]
 .rw [if_neg (fun e => h e.symm), if_neg h]
end Go.Pu
namespace Go.Pu
open Go Go.En
theorem Ub (f : Nat -> Nat) : ∀ {l : List Nat} {i : Nat} (o : Nat) (h : i < l.length), ((l.set i o).map f).sum + f l[i] = (l.map f).sum + f o
 | [], i, o, h => by simp at h
 | x :: l, 0, o, h => by rw [aoK, aoT, aoT, arF, arF, asO]; omega
 | x :: l, i + 1, o, h => by
   rw [aoM, aoT, aoT, arF, arF, aqK]
   have := Ub f (l := l) (i := i) o (by simpa using h)
   omega
def Xk (out : List Nat) : Nat := (out.map fun o => 11 - o).sum
structure L3 (ns out : List Nat) : Prop where
 len : out.length = ns.length
 off : ∀ i, i < ns.length -> ns.getD i 0 = 0 -> out.getD i 0 = 0
 on : ∀ i, i < ns.length -> 0 < ns.getD i 0 -> 1 <= out.getD i 0 /\ out.getD i 0 <= 11
theorem L3.set {ns out : List Nat} {i o : Nat} (h : L3 ns out) (hi : i < ns.length) (hn : 0 < ns.getD i 0) (h1 : 1 <= o) (h2 : o <= 11) : L3 ns (out.set i o) := by
 have hl := h.len
 refine ⟨by rw [aqT]; exact hl, fun j hj h0 => ?_, fun j hj h0 => ?_⟩
 .rw [Kj _ (by omega) (by omega)]
  split
  .rename_i e; subst e; omega
  .exact h.off j hj h0
 .rw [Kj _ (by omega) (by omega)]
  split
  .exact ⟨h1, h2⟩
  .exact h.on j hj h0
theorem L3.le {ns out : List Nat} (h : L3 ns out) {i : Nat} (hi : i < out.length) : out[i] <= 11 := by
 rw [<- pJ hi]
 have hl := h.len
 rcases aqP (ns.getD i 0) with h0 | h0
 .rw [h.off i (by omega) h0]; omega
 .exact (h.on i (by omega) h0).2
theorem XA {ns out : List Nat} (h : L3 ns out) (hl : ns.length <= 256) (hno : ∀ j, j < ns.length -> ¬ (0 < ns.getD j 0 /\ out.getD j 0 < 11)) : mQ out <= 256 := by
 have hlen := h.len
 refine apN (RJ fun o ho => ?_) (by omega)
 obtain ⟨i, hi, rfl⟩ := apQ ho
 rw [<- pJ hi]
 rcases aqP (ns.getD i 0) with h0 | h0
 .exact .inl (h.off i (by omega) h0)
 .have := hno i (by omega)
  have := h.on i (by omega) h0
  omega
theorem WJ {ns out : List Nat} (h : L3 ns out) {there : Nat} (hth : there < ns.length) (hth0 : 0 < ns.getD there 0) (hroom : mQ out < 2048) : ∃ j, j < ns.length /\ 0 < ns.getD j 0 /\ 2 ^ (11 - out.getD j 0) <= 2048 - mQ out := by
 have hlen := h.len
 have hmax : ∀ k, k <= ns.length -> (∃ j, j < k /\ 0 < ns.getD j 0) -> ∃ j, j < k /\ 0 < ns.getD j 0 /\ ∀ i, i < k -> 0 < ns.getD i 0 -> out.getD i 0 <= out.getD j 0 := by
  intro k
  induction k with
  | zero => rintro _ ⟨j, hj, _⟩; omega
  | succ k ih =>
    intro hk hex
    by_cases hex2 : ∃ j, j < k /\ 0 < ns.getD j 0
    .obtain ⟨j, h1, h2, h3⟩ := ih (by omega) hex2
     by_cases hb : 0 < ns.getD k 0 /\ out.getD j 0 < out.getD k 0
     .refine ⟨k, by omega, hb.1, fun i hi hi0 => ?_⟩
      by_cases hik : i = k
      .subst hik; omega
      .have := h3 i (by omega) hi0; omega
     .refine ⟨j, by omega, h2, fun i hi hi0 => ?_⟩
      by_cases hik : i = k
      .subst hik; omega
      .exact h3 i (by omega) hi0
    .obtain ⟨j, h1, h2⟩ := hex
     have hjk : j = k := by
      rcases aoE j k with h' | h'
      .exact absurd ⟨j, h', h2⟩ hex2
      .omega
     subst hjk
     refine ⟨j, by omega, h2, fun i hi hi0 => ?_⟩
     rcases aoE i j with h' | h'
     .exact absurd ⟨i, h', hi0⟩ hex2
     .have : i = j := by omega
      subst this; omega
 obtain ⟨j, hj, hj0, hjm⟩ := hmax ns.length (aoA _) ⟨there, hth, hth0⟩
 obtain ⟨q1, q2⟩ := h.on j hj hj0
 refine ⟨j, hj, hj0, ?_⟩
 have hd := Wi (M := out.getD j 0) q2 (l := out) fun o ho => by
  obtain ⟨i, hi, rfl⟩ := apQ ho
  rw [<- pJ hi]
  rcases aqP (ns.getD i 0) with h0 | h0
  .rw [h.off i (by omega) h0]; omega
  .exact hjm i (by omega) h0
 have h2048 : 2 ^ (11 - out.getD j 0) ∣ 2048 := by
  rw [show (2048 : Nat) = 2 ^ 11 from rfl]
  exact asW 2 (by omega)
 have hd2 := Nat.dvd_sub h2048 hd
 exact Nat.le_of_dvd (by omega) hd2
theorem abA {ns out : List Nat} (h : L3 ns out) {a b : Nat} (ha : a < ns.length) (hb : b < ns.length) (hab : a ≠ b) (ha0 : 0 < ns.getD a 0) (hb0 : 0 < ns.getD b 0) (hr : 2 ^ (11 - out.getD a 0) <= 2048 - mQ out) (hk : mQ out <= 2048) : 2 <= out.getD a 0 := by
 have hlen := h.len
 obtain ⟨q1, q2⟩ := h.on a ha ha0
 obtain ⟨r1, r2⟩ := h.on b hb hb0
 rcases aoE (out.getD a 0) 2 with h1 | h1
 .exfalso
  have ea : out.getD a 0 = 1 := by omega
  rw [ea] at hr
  have hka : tP (out[a]'(by omega)) = 1024 := by rw [<- pJ (by omega), ea] <;> rfl
  have hkb : 1 <= tP (out[b]'(by omega)) := aaN (by rw [<- pJ (by omega)]; omega)
  have : tP (out[a]'(by omega)) + tP (out[b]'(by omega)) <= mQ out := by
   rcases Nat.lt_or_gt_of_ne hab with h | h
   .exact S6 (by omega) (by omega) h
   .have := S6 (l := out) (i := b) (j := a) (by omega) (by omega) h; omega
  have : (2 : Nat) ^ (11 - 1) = 1024 := rfl
  omega
 .exact h1
theorem adT {ns : List Nat} : ∀ {c : Nat}, 2 <= ns.countP Es -> ∃ b, b < ns.length /\ 0 < ns.getD b 0 /\ b ≠ c := by
 intro c h
 induction ns generalizing c with
 | nil => simp at h
 | cons x ns ih =>
   rw [List.countP_cons] at h
   by_cases hx : 0 < x
   .cases c with
    | succ c => exact ⟨0, by simp, by simpa using hx, by omega⟩
    | zero =>
      have h1 : 1 <= ns.countP Es := by
       split at h <;> omega
      have : ∃ y ∈ ns, Es y = true := by
       rw [<- List.countP_pos_iff]; omega
      obtain ⟨y, hy, hy0⟩ := this
      obtain ⟨i, hi, rfl⟩ := apQ hy
      refine ⟨i + 1, by simpa using hi, ?_, by omega⟩
      rw [pJ (by simpa using hi)]
      simpa [Es] using hy0
   .have hon : Es x = false := by unfold Es; simpa using hx
    rw [hon] at h
    simp only [anO, if_false, apI] at h
    obtain ⟨b, h1, h2, h3⟩ := ih (c := c - 1) h
    cases c with
    | zero => exact ⟨b + 1, by simpa using h1, by simpa using h2, by omega⟩
    | succ c => exact ⟨b + 1, by simpa using h1, by simpa using h2, by simp at h3; omega⟩
end Go.Pu
namespace Go.Proofs.YtoecppploooloaaGreatDoor
open Go Go.En Go.Pu
set_option maxRecDepth 4000
abbrev oc (out : List Nat) : List asZ := out.map fun (n : Nat) => Value.int .i64 n
theorem JM {out : List Nat} {i : Nat} (h : i < out.length) : (oc out)[i]? = some (.int .i64 (out.getD i 0 : Nat)) := by
 rw [aoJ, anX h, <- pJ h] <;> rfl
theorem YR (out : List Nat) (i x : Nat) : (oc out).set i (.int .i64 x) = oc (out.set i x) := by unfold oc; rw [arT]
abbrev Ow (ns : List Nat) : List asZ := ns.map fun (n : Nat) => Value.int .u32 n
theorem La {ns : List Nat} {i : Nat} (h : i < ns.length) : (Ow ns)[i]? = some (.int .u32 (ns.getD i 0 : Nat)) := by
 rw [aoJ, anX h, <- pJ h] <;> rfl
theorem abH {pb S : Nat} {ov : asZ} {ns : List Nat} {w : asY} (hs : Sl w ov (Ow ns)) (hn : ∀ n ∈ ns, n <= 4294967295) (hl : ns.length <= 256) (hS0 : 0 < S) (hS : S <= 2147483647) (ob : mP w pb (oc (List.replicate ns.length 0))) (hat : ¬ KZ ov (fun y => y = pb)) {RR : asZ -> asY -> Prop}
 (hK : ∀ out w', L3 ns out -> mP w' pb (oc out) -> jM w w' (fun y => y = pb) -> rW RR ov (.slice (some ⟨pb, 0, none⟩) ns.length ns.length) (.int .i64 (2048 - (mQ out : Nat))) w') :
 uS RR ov (.int .u64 S) (.slice (some ⟨pb, 0, none⟩) ns.length ns.length) (.int .i64 2048) w := by
 unfold uS BA BX
 obtain ⟨a, c, hv, hc⟩ := hs.len
 rw [anV] at hv
 subst hv
 simp (disch := omega) only [gD, fJ, cJ]
 unfold Be BK
 refine kE.rule (fun m (t : asZ × asZ) w' => ∃ (i : Nat) (out : List Nat), m = ns.length - i /\ t = (.int .i64 (2048 - (mQ out : Nat)), .int .i64 i) /\ i <= ns.length /\ out.length = ns.length /\ (∀ j, i <= j -> out.getD j 0 = 0) /\
  (∀ j, j < i -> ns.getD j 0 = 0 -> out.getD j 0 = 0) /\ (∀ j, j < i -> 0 < ns.getD j 0 -> 1 <= out.getD j 0 /\ out.getD j 0 <= 11) /\ mQ out <= 1024 * i /\ mP w' pb (oc out) /\ jM w w' (fun y => y = pb)) ns.length
  ⟨0, List.replicate ns.length 0, rfl, ?_, by omega, by simp, ?_, fun j h => by omega, fun j h => by omega, ?_, ob, jM.refl _ _⟩ ?_
 .have : mQ (List.replicate ns.length 0) = 0 := by
   unfold mQ
   rw [List.map_replicate]
   exact S9 fun n hn => by rw [asI hn] <;> rfl
  rw [this] <;> rfl
 .intro j _
  rw [anY, arE]
  split <;> rfl
 .unfold mQ
  rw [List.map_replicate, S9 fun n hn => by rw [asI hn] <;> rfl]; omega
 rintro m t w1 ⟨i, out, rfl, rfl, hi, hlen, hz, hoff, hon, hkr, ob1, x1⟩
 unfold vG BR
 by_cases hlt : i < ns.length
 .have d1 : decide ((i : Int) < (ns.length : Int)) = true := by simp; omega
  obtain ⟨b1, off1, rfl, hcell1⟩ := slA (hs.ext x1 hat) (by omega)
  have g1 := hcell1 i hlt
  rw [La hlt] at g1
  have hni : ns.getD i 0 <= 4294967295 := by rw [pJ hlt]; exact hn _ (apP hlt)
  generalize hnv : ns.getD i 0 = n at *
  unfold uZ
  by_cases h0 : 0 < n
  .have d2 : decide ((0 : Int) < (n : Int)) = true := by simp; omega
   have e1 : (S : Int) - 1 = ((S - 1 : Nat) : Int) := by omega
   have e2 : ((S - 1 : Nat) : Int).tdiv (n : Int) = (((S - 1) / n : Nat) : Int) := by rw [aqZ (by omega)]; simp
   have n2 : ((n : Int) == 0) = false := beq_eq_false_iff_ne.2 (by omega)
   have hq : (S - 1) / n <= S - 1 := asF _ _
   generalize (S - 1) / n = qv at *
   simp (disch := omega) only [gD, hJ, d1, fI, anP, iB, e1, hZ, gA, anS, hO, gZ, cJ, gS, gC, g1, gB, hU, d2, cU, iN, e2, fZ]
   refine (Zx qv (by omega) w1).mono ?_
   rintro r w2 ⟨rfl, rfl⟩
   have hbl : bl qv <= 32 := O1 (by omega)
   generalize bl qv = y at *
   have hmx : (if (1 : Int) > (y : Int) then (1 : Int) else (y : Int)) = ((max y 1 : Nat) : Int) := by split <;> omega
   have hmn : (if (11 : Int) < ((max y 1 : Nat) : Int) then (11 : Int) else ((max y 1 : Nat) : Int)) = ((min (max y 1) 11 : Nat) : Int) := by split <;> omega
   have hxb : 1 <= min (max y 1) 11 /\ min (max y 1) 11 <= 11 := by omega
   generalize min (max y 1) 11 = x at *
   have hks := Pc (l := out) (i := i) x (by omega)
   have hoi : out[i]'(by omega) = 0 := by rw [<- pJ (by omega)]; exact hz i (aoA _)
   rw [hoi] at hks
   have hk0 : tP 0 = 0 := rfl
   have hkx : tP x = 2 ^ (11 - x) := by unfold tP; rw [if_neg (by omega)]
   have hpx : 2 ^ (11 - x) <= 2 ^ 10 := aoO (by omega) (by omega)
   rw [hk0, hkx, apI] at hks
   simp only [gt_iff_lt] at hmx
   simp (disch := omega) only [iQ, gt_iff_lt, hmx, cJ, iR, hmn]
   refine Mn ob1 rfl (by rw [anV]; omega) fun w3 ob3 x3 s3 => ?_
   rw [YR] at ob3
   have f1 := ob3.cell (off := i)
   rw [JM (by rw [aqT]; omega), Kj x (by omega) (by omega), if_pos rfl] at f1
   have e3 : (11 : Int) - (x : Int) = ((11 - x : Nat) : Int) := by omega
   have hsh := aaM (n := 11 - x) (by omega)
   have e4 : (2048 : Int) - ((mQ out : Nat) : Int) - ((2 ^ (11 - x) : Nat) : Int) = 2048 - ((mQ (out.set i x) : Nat) : Int) := by omega
   simp (disch := omega) only [f1, gB, cJ, iB, e3, gZ, iC, anP, hsh, e4]
   refine ⟨ns.length - (i + 1), by omega, i + 1, out.set i x, rfl, rfl, by omega, by rw [aqT]; exact hlen, ?_, ?_, ?_, by omega, ob3, x1.trans x3 fun _ _ h => h⟩
   .intro j hj
    rcases aoE j out.length with h | h
    .rw [Kj x (by omega) h, if_neg (by omega)]; exact hz j (by omega)
    .rw [anY, aoD (by rw [aqT]; exact h)] <;> rfl
   .intro j hj h0'
    rw [Kj x (by omega) (by omega)]
    split
    .rename_i e; subst e; omega
    .exact hoff j (by omega) h0'
   .intro j hj h0'
    rw [Kj x (by omega) (by omega)]
    split
    .exact hxb
    .exact hon j (by omega) h0'
  .have d2 : decide ((0 : Int) < (n : Int)) = false := by simp; omega
   simp (disch := omega) only [gD, hJ, d1, fI, anP, iB, hZ, gA, anS, hO, gZ, cJ, gS, gC, g1, gB, hU, d2, cU, fT, fZ]
   refine ⟨ns.length - (i + 1), by omega, i + 1, out, rfl, rfl, by omega, hlen, fun j hj => hz j (by omega), ?_, ?_, by omega, ob1, x1⟩
   .intro j hj h0'
    rcases aoE j i with h | h
    .exact hoff j h h0'
    .exact hz j h
   .intro j hj h0'
    rcases aoE j i with h | h
    .exact hon j h h0'
    .have : j = i := by omega
     subst this; omega
 .have d1 : decide ((i : Int) < (ns.length : Int)) = false := by simp; omega
  obtain rfl : i = ns.length := by omega
  simp (disch := omega) only [gD, hJ, d1, iB, hZ, cJ, fT]
  exact hK out w1 ⟨hlen, hoff, hon⟩ ob1 x1
theorem RN (b : Bool) : kK undef b = false := by cases b <;> rfl
def XE (ns out : List Nat) (i : Nat) (at' : Int) : Prop := (at' = -1 /\ ∀ j, j < i -> ¬ (0 < ns.getD j 0 /\ out.getD j 0 < 11)) ∨ (∃ a : Nat, at' = a /\ a < ns.length /\ 0 < ns.getD a 0 /\ out.getD a 0 < 11)
theorem abF {pb : Nat} {ov : asZ} {room : Int} {ns out : List Nat} {w : asY} (hs : Sl w ov (Ow ns)) (hn : ∀ n ∈ ns, n <= 4294967295) (hl : ns.length <= 256) (h : L3 ns out) (ob : mP w pb (oc out)) {kn : asZ -> asZ -> asZ -> asZ -> asY -> Prop}
 (hK : ∀ at' w', XE ns out ns.length at' -> jM w w' mM -> kn ov (.slice (some ⟨pb, 0, none⟩) ns.length ns.length) (.int .i64 room) (.int .i64 at') w') :
 uP kn ov (.slice (some ⟨pb, 0, none⟩) ns.length ns.length) (.int .i64 room) (.int .i64 (-1)) w := by
 unfold uP BW
 obtain ⟨a, c, hv, hc⟩ := hs.len
 rw [anV] at hv
 subst hv
 have hlen := h.len
 simp (disch := omega) only [gD, fJ, cJ]
 unfold BB Bm
 refine kE.rule (fun m (t : asZ × asZ) w' => ∃ (i : Nat) (at' : Int), m = ns.length - i /\ t = (.int .i64 at', .int .i64 i) /\ i <= ns.length /\ XE ns out i at' /\ jM w w' mM) ns.length
  ⟨0, -1, rfl, rfl, by omega, .inl ⟨rfl, fun j h => by omega⟩, jM.refl _ _⟩ ?_
 rintro m t w1 ⟨i, at', rfl, rfl, hi, hp, x1⟩
 unfold uQ BH
 by_cases hlt : i < ns.length
 .have d1 : decide ((i : Int) < (ns.length : Int)) = true := by simp; omega
  have x1d : jM w (dr w1) mM := x1.seq (jM.dr _ _)
  obtain ⟨b1, off1, rfl, hcell1⟩ := slA (hs.ext x1 (kJ _)) (by omega)
  have g1 := hcell1 i hlt
  rw [La hlt] at g1
  have g1d : (dr w1).cell? ⟨b1, off1 + i, none⟩ = _ := g1
  have f1 := (ob.ext x1d (fun h => h)).cell (off := i)
  rw [JM (by omega)] at f1
  have keep : ¬ (0 < ns.getD i 0 /\ out.getD i 0 < 11) -> XE ns out (i + 1) at' := fun hb => by
   rcases hp with ⟨q1, q2⟩ | q
   .refine .inl ⟨q1, fun j hj => ?_⟩
    rcases aoE j i with h' | h'
    .exact q2 j h'
    .have : j = i := by omega
     subst this; exact hb
   .exact .inr q
  have keep2 : (0 : Int) <= at' -> XE ns out (i + 1) at' := fun hb => by
   rcases hp with ⟨q1, q2⟩ | q
   .omega
   .exact .inr q
  have new : 0 < ns.getD i 0 -> out.getD i 0 < 11 -> XE ns out (i + 1) (i : Int) := fun q1 q2 => .inr ⟨i, rfl, hlt, q1, q2⟩
  unfold vF
  by_cases h0 : 0 < ns.getD i 0
  .have d2 : decide ((0 : Int) < ((ns.getD i 0 : Nat) : Int)) = true := by simp only [decide_eq_true_eq]; omega
   by_cases h11 : out.getD i 0 < 11
   .have d3 : decide (((out.getD i 0 : Nat) : Int) < (11 : Int)) = true := by simp only [decide_eq_true_eq]; omega
    rcases hp with ⟨rfl, q2⟩ | ⟨a, rfl, ha, ha0, ha11⟩
    .have d4 : decide ((-1 : Int) < 0) = true := rfl
     simp (disch := omega) only [gD, hJ, d1, fI, anP, hO, gZ, cJ, true_and, gC, g1, gB, hU, d2, gW, gQ, if_true, gM, gA, anS, gS, f1, d3, d4, gU, fZ, gI, RN]
     exact ⟨ns.length - (i + 1), by omega, i + 1, _, rfl, rfl, by omega, new h0 h11, x1d⟩
    .have d4 : decide ((a : Int) < 0) = false := by simp
     have f2 := (ob.ext x1d (fun h => h)).cell (off := a)
     rw [JM (by omega)] at f2
     have g2 : (dr w1).cell? ⟨b1, off1 + a, none⟩ = _ := hcell1 a ha
     rw [La ha] at g2
     by_cases h5 : out.getD a 0 < out.getD i 0
     .have d5 : decide (((out.getD a 0 : Nat) : Int) < ((out.getD i 0 : Nat) : Int)) = true := by simp only [decide_eq_true_eq]; omega
      simp (disch := omega) only [gD, hJ, d1, fI, anP, hO, gZ, cJ, true_and, gC, g1, gB, hU, d2, gW, gQ, if_true, gM, gA, anS, gS, f1, d3, d4, gT, anO, if_false, f2, d5, gU, fZ, gI, RN]
      exact ⟨ns.length - (i + 1), by omega, i + 1, _, rfl, rfl, by omega, new h0 h11, x1d⟩
     .have d5 : decide (((out.getD a 0 : Nat) : Int) < ((out.getD i 0 : Nat) : Int)) = false := by simp only [decide_eq_false_iff_not]; omega
      by_cases h6 : out.getD i 0 = out.getD a 0
      .have d6 : (((out.getD i 0 : Nat) : Int) == ((out.getD a 0 : Nat) : Int)) = true := by rw [h6]; simp
       by_cases h7 : ns.getD i 0 < ns.getD a 0
       .have d7 : decide (((ns.getD i 0 : Nat) : Int) < ((ns.getD a 0 : Nat) : Int)) = true := by simp only [decide_eq_true_eq]; omega
        simp (maxSteps := 4000000) (disch := omega) only [gD, jF, cJ, stepR_skip, hO, iB, iP, iN, iK, iO, jI, iV, gK, iC, iF, iD, iH, hJ, iM, hU, iE, iW, iS, iJ, gQ, iR, iQ, iG, kU, kV, lF, lC, lH, lE, lJ, lG, lD, gB, Result.ok.injEq, Next.value.injEq, true_and, and_true, gZ, hZ, iX, iT, iU, jG, anP, gW, gU, gX, gT, gM, gI, gN, gL, fZ, fT, if_true, if_false, anO, anS, anQ, anR, anU, anT, anN, anM, fM, fS, fL, fQ, gJ, fK, bG, bQ, gF, eF, eE, fJ, fI, gC, cU, dK, gE, gA, gS, eH, eP, dL, dJ, RN, d1, g1, g1d, d2, f1, d3, d4, f2, g2, d5, d6, d7]
        exact ⟨ns.length - (i + 1), by omega, i + 1, _, rfl, rfl, by omega, new h0 h11, x1d⟩
       .have d7 : decide (((ns.getD i 0 : Nat) : Int) < ((ns.getD a 0 : Nat) : Int)) = false := by simp only [decide_eq_false_iff_not]; omega
        simp (maxSteps := 4000000) (disch := omega) only [gD, jF, cJ, stepR_skip, hO, iB, iP, iN, iK, iO, jI, iV, gK, iC, iF, iD, iH, hJ, iM, hU, iE, iW, iS, iJ, gQ, iR, iQ, iG, kU, kV, lF, lC, lH, lE, lJ, lG, lD, gB, Result.ok.injEq, Next.value.injEq, true_and, and_true, gZ, hZ, iX, iT, iU, jG, anP, gW, gU, gX, gT, gM, gI, gN, gL, fZ, fT, if_true, if_false, anO, anS, anQ, anR, anU, anT, anN, anM, fM, fS, fL, fQ, gJ, fK, bG, bQ, gF, eF, eE, fJ, fI, gC, cU, dK, gE, gA, gS, eH, eP, dL, dJ, RN, d1, g1, g1d, d2, f1, d3, d4, f2, g2, d5, d6, d7]
        exact ⟨ns.length - (i + 1), by omega, i + 1, _, rfl, rfl, by omega, .inr ⟨a, rfl, ha, ha0, ha11⟩, x1d⟩
      .have d6 : (((out.getD i 0 : Nat) : Int) == ((out.getD a 0 : Nat) : Int)) = false := beq_eq_false_iff_ne.2 (by omega)
       simp (maxSteps := 4000000) (disch := omega) only [gD, jF, cJ, stepR_skip, hO, iB, iP, iN, iK, iO, jI, iV, gK, iC, iF, iD, iH, hJ, iM, hU, iE, iW, iS, iJ, gQ, iR, iQ, iG, kU, kV, lF, lC, lH, lE, lJ, lG, lD, gB, Result.ok.injEq, Next.value.injEq, true_and, and_true, gZ, hZ, iX, iT, iU, jG, anP, gW, gU, gX, gT, gM, gI, gN, gL, fZ, fT, if_true, if_false, anO, anS, anQ, anR, anU, anT, anN, anM, fM, fS, fL, fQ, gJ, fK, bG, bQ, gF, eF, eE, fJ, fI, gC, cU, dK, gE, gA, gS, eH, eP, dL, dJ, RN, d1, g1, g1d, d2, f1, d3, d4, f2, g2, d5, d6]
       exact ⟨ns.length - (i + 1), by omega, i + 1, _, rfl, rfl, by omega, .inr ⟨a, rfl, ha, ha0, ha11⟩, x1d⟩
   .have d3 : decide (((out.getD i 0 : Nat) : Int) < (11 : Int)) = false := by simp only [decide_eq_false_iff_not]; omega
    simp (disch := omega) only [gD, hJ, d1, fI, anP, hO, gZ, cJ, true_and, gC, g1, gB, hU, d2, gW, gQ, if_true, gM, gA, anS, gS, f1, d3, gX, anO, if_false, fT, gI, RN, fZ]
    exact ⟨ns.length - (i + 1), by omega, i + 1, _, rfl, rfl, by omega, keep (by omega), x1d⟩
  .have d2 : decide ((0 : Int) < ((ns.getD i 0 : Nat) : Int)) = false := by simp only [decide_eq_false_iff_not]; omega
   simp (disch := omega) only [gD, hJ, d1, fI, anP, hO, gZ, cJ, true_and, gC, g1, gB, hU, d2, gX, gQ, anO, if_false, fT, gI, RN, fZ]
   exact ⟨ns.length - (i + 1), by omega, i + 1, _, rfl, rfl, by omega, keep (by omega), x1d⟩
 .have d1 : decide ((i : Int) < (ns.length : Int)) = false := by simp; omega
  obtain rfl : i = ns.length := by omega
  simp (disch := omega) only [gD, hJ, d1, true_and, cJ, fT]
  exact hK at' w1 hp x1
theorem abW {pb : Nat} {ov : asZ} {ns out : List Nat} {w : asY} (hs : Sl w ov (Ow ns)) (hn : ∀ n ∈ ns, n <= 4294967295) (hl : ns.length <= 256) (h : L3 ns out) (ob : mP w pb (oc out)) (hat : ¬ KZ ov (fun y => y = pb)) {RR : asZ -> asY -> Prop}
 (hK : ∀ out w', L3 ns out -> mQ out <= 2048 -> mP w' pb (oc out) -> jM w w' (fun y => y = pb) -> rV RR ov (.slice (some ⟨pb, 0, none⟩) ns.length ns.length) (.int .i64 (2048 - (mQ out : Nat))) w') :
 rW RR ov (.slice (some ⟨pb, 0, none⟩) ns.length ns.length) (.int .i64 (2048 - (mQ out : Nat))) w := by
 unfold rW BD Bp
 refine kE.rule (fun m (t : asZ) w' => ∃ out : List Nat, m = Xk out /\ t = .int .i64 (2048 - (mQ out : Nat)) /\ L3 ns out /\ mP w' pb (oc out) /\ jM w w' (fun y => y = pb)) (Xk out) ⟨out, rfl, rfl, h, ob, jM.refl _ _⟩ ?_
 rintro m t w1 ⟨out, rfl, rfl, h1, ob1, x1⟩
 have hlen := h1.len
 have hkb : mQ out <= 1024 * ns.length := by
  rw [<- hlen]
  have : ∀ l : List Nat, mQ l <= 1024 * l.length := fun l => by
   induction l with
   | nil => simp [mQ]
   | cons x l ih =>
     rw [sN, aoG]
     have : tP x <= 1024 := by
      unfold tP
      split
      .omega
      .have : 2 ^ (11 - x) <= 2 ^ 10 := aoO (by omega) (by omega)
       omega
     omega
  exact this out
 unfold uT BM
 by_cases hneg : 2048 < mQ out
 .have d1 : decide ((2048 : Int) - ((mQ out : Nat) : Int) < 0) = true := by simp only [decide_eq_true_eq]; omega
  simp (disch := omega) only [gD, hJ, d1, cJ, fZ]
  unfold Br GR Bj BF
  refine abF (room := 2048 - ((mQ out : Nat) : Int)) (hs.ext x1 hat) hn hl h1 ob1 fun at' w2 hp x2 => ?_
  rcases hp with ⟨_, q⟩ | ⟨a, rfl, ha, ha0, ha11⟩
  .exfalso
   have := XA h1 hl q
   omega
  have ob2 := ob1.ext x2 (fun h => h)
  have f1 := ob2.cell (off := a)
  rw [JM (by omega)] at f1
  have hon := h1.on a ha ha0
  have hks := Pc (l := out) (i := a) (out.getD a 0 + 1) (by omega)
  have hsl := Ub (fun o => 11 - o) (l := out) (i := a) (out.getD a 0 + 1) (by omega)
  have hset := h1.set (o := out.getD a 0 + 1) ha ha0 (by omega) (by omega)
  rw [<- pJ (by omega)] at hks hsl
  have hk1 : tP (out.getD a 0) = 2 * 2 ^ (10 - out.getD a 0) := by
   unfold tP
   rw [if_neg (by omega), <- Nat.pow_succ', show (10 - out.getD a 0).succ = 11 - out.getD a 0 from by omega]
  have hk2 : tP (out.getD a 0 + 1) = 2 ^ (10 - out.getD a 0) := by
   unfold tP
   rw [if_neg (by omega)]
   congr 1; omega
  rw [hk1, hk2] at hks
  have hsl2 : Xk (out.set a (out.getD a 0 + 1)) + (11 - out.getD a 0) = Xk out + (11 - (out.getD a 0 + 1)) := hsl
  generalize hov : out.getD a 0 = o at *
  have e1 : (11 : Int) - (o : Int) = ((11 - o : Nat) : Int) := by omega
  have e2 : ((11 - o : Nat) : Int) - 1 = ((10 - o : Nat) : Int) := by omega
  have hsh := aaM (n := 10 - o) (by omega)
  have hp10 : 2 ^ (10 - o) <= 2 ^ 10 := aoO (by omega) (by omega)
  have e3 : (2048 : Int) - ((mQ out : Nat) : Int) + ((2 ^ (10 - o) : Nat) : Int) = 2048 - ((mQ (out.set a (o + 1)) : Nat) : Int) := by omega
  have e4 : (o : Int) + 1 = ((o + 1 : Nat) : Int) := by omega
  unfold uW
  simp (disch := omega) only [gD, gA, anP, anS, cJ, gS, f1, gB, iB, e1, gZ, e2, iC, hsh, hO, e3, e4]
  refine Mn ob2 rfl (by rw [anV]; omega) fun w3 ob3 x3 s3 => ?_
  rw [YR] at ob3
  exact ⟨Xk (out.set a (o + 1)), by omega, _, rfl, rfl, hset, ob3, (x1.seq (x2.mono fun _ _ h => h.elim)).trans x3 fun _ _ h => h⟩
 .have d1 : decide ((2048 : Int) - ((mQ out : Nat) : Int) < 0) = false := by simp only [decide_eq_false_iff_not]; omega
  simp (disch := omega) only [gD, hJ, d1, cJ, fT]
  exact hK out w1 h1 (by omega) ob1 x1
def Yc (r : Nat) (ns out : List Nat) (i : Nat) (at' : Int) : Prop := (at' = -1 /\ ∀ j, j < i -> ¬ (0 < ns.getD j 0 /\ 2 ^ (11 - out.getD j 0) <= r)) ∨ (∃ a : Nat, at' = a /\ a < ns.length /\ 0 < ns.getD a 0 /\ 2 ^ (11 - out.getD a 0) <= r)
theorem aaT {pb : Nat} {ov : asZ} {r : Nat} {ns out : List Nat} {w : asY} (hs : Sl w ov (Ow ns)) (hn : ∀ n ∈ ns, n <= 4294967295) (hl : ns.length <= 256) (h : L3 ns out) (hr : r <= 2048) (ob : mP w pb (oc out)) {kn : asZ -> asZ -> asZ -> asZ -> asY -> Prop}
 (hK : ∀ at' w', Yc r ns out ns.length at' -> jM w w' mM -> kn ov (.slice (some ⟨pb, 0, none⟩) ns.length ns.length) (.int .i64 r) (.int .i64 at') w') :
 wV kn ov (.slice (some ⟨pb, 0, none⟩) ns.length ns.length) (.int .i64 r) (.int .i64 (-1)) w := by
 unfold wV C2
 obtain ⟨a, c, hv, hc⟩ := hs.len
 rw [anV] at hv
 subst hv
 have hlen := h.len
 simp (disch := omega) only [gD, fJ, cJ]
 unfold CI CD
 refine kE.rule (fun m (t : asZ × asZ) w' => ∃ (i : Nat) (at' : Int), m = ns.length - i /\ t = (.int .i64 at', .int .i64 i) /\ i <= ns.length /\ Yc r ns out i at' /\ jM w w' mM) ns.length
  ⟨0, -1, rfl, rfl, by omega, .inl ⟨rfl, fun j h => by omega⟩, jM.refl _ _⟩ ?_
 rintro m t w1 ⟨i, at', rfl, rfl, hi, hp, x1⟩
 unfold xN Cv
 by_cases hlt : i < ns.length
 .have d1 : decide ((i : Int) < (ns.length : Int)) = true := by simp; omega
  have x1d : jM w (dr w1) mM := x1.seq (jM.dr _ _)
  obtain ⟨b1, off1, rfl, hcell1⟩ := slA (hs.ext x1 (kJ _)) (by omega)
  have g1 := hcell1 i hlt
  rw [La hlt] at g1
  have g1d : (dr w1).cell? ⟨b1, off1 + i, none⟩ = _ := g1
  have f1 := (ob.ext x1d (fun h => h)).cell (off := i)
  rw [JM (by omega)] at f1
  have keep : ¬ (0 < ns.getD i 0 /\ 2 ^ (11 - out.getD i 0) <= r) -> Yc r ns out (i + 1) at' := fun hb => by
   rcases hp with ⟨q1, q2⟩ | q
   .refine .inl ⟨q1, fun j hj => ?_⟩
    rcases aoE j i with h' | h'
    .exact q2 j h'
    .have : j = i := by omega
     subst this; exact hb
   .exact .inr q
  have keep2 : (0 : Int) <= at' -> Yc r ns out (i + 1) at' := fun hb => by
   rcases hp with ⟨q1, q2⟩ | q
   .omega
   .exact .inr q
  have new : 0 < ns.getD i 0 -> 2 ^ (11 - out.getD i 0) <= r -> Yc r ns out (i + 1) (i : Int) := fun q1 q2 => .inr ⟨i, rfl, hlt, q1, q2⟩
  have hoi := h.le (i := i) (by omega)
  rw [<- pJ (by omega)] at hoi
  have e8 : (11 : Int) - ((out.getD i 0 : Nat) : Int) = ((11 - out.getD i 0 : Nat) : Int) := by omega
  have hsh := aaM (n := 11 - out.getD i 0) (by omega)
  unfold xP
  by_cases h0 : 0 < ns.getD i 0
  .have d2 : decide ((0 : Int) < ((ns.getD i 0 : Nat) : Int)) = true := by simp only [decide_eq_true_eq]; omega
   by_cases h11 : 2 ^ (11 - out.getD i 0) <= r
   .have d3 : decide (((2 ^ (11 - out.getD i 0) : Nat) : Int) <= (r : Int)) = true := by simp only [decide_eq_true_eq]; omega
    rcases hp with ⟨rfl, q2⟩ | ⟨a, rfl, ha, ha0, har⟩
    .have d4 : decide ((-1 : Int) < 0) = true := rfl
     simp (disch := omega) only [gD, hJ, d1, fI, anP, hO, gZ, cJ, true_and, gC, g1, gB, hU, d2, gW, gQ, if_true, gM, gA, anS, gS, f1, iB, e8, iC, hsh, iM, d3, d4, gU, fZ, gI, RN]
     exact ⟨ns.length - (i + 1), by omega, i + 1, _, rfl, rfl, by omega, new h0 h11, x1d⟩
    .have d4 : decide ((a : Int) < 0) = false := by simp
     have f2 := (ob.ext x1d (fun h => h)).cell (off := a)
     rw [JM (by omega)] at f2
     have g2 : (dr w1).cell? ⟨b1, off1 + a, none⟩ = _ := hcell1 a ha
     rw [La ha] at g2
     by_cases h5 : out.getD a 0 < out.getD i 0
     .have d5 : decide (((out.getD a 0 : Nat) : Int) < ((out.getD i 0 : Nat) : Int)) = true := by simp only [decide_eq_true_eq]; omega
      simp (maxSteps := 4000000) (disch := omega) only [gD, jF, cJ, stepR_skip, hO, iB, iP, iN, iK, iO, jI, iV, gK, iC, iF, iD, iH, hJ, iM, hU, iE, iW, iS, iJ, gQ, iR, iQ, iG, kU, kV, lF, lC, lH, lE, lJ, lG, lD, gB, Result.ok.injEq, Next.value.injEq, true_and, and_true, gZ, hZ, iX, iT, iU, jG, anP, gW, gU, gX, gT, gM, gI, gN, gL, fZ, fT, if_true, if_false, anO, anS, anQ, anR, anU, anT, anN, anM, fM, fS, fL, fQ, gJ, fK, bG, bQ, gF, eF, eE, fJ, fI, gC, cU, dK, gE, gA, gS, eH, eP, dL, dJ, RN, d1, g1, g1d, d2, f1, e8, hsh, d3, d4, f2, g2, d5]
      exact ⟨ns.length - (i + 1), by omega, i + 1, _, rfl, rfl, by omega, new h0 h11, x1d⟩
     .have d5 : decide (((out.getD a 0 : Nat) : Int) < ((out.getD i 0 : Nat) : Int)) = false := by simp only [decide_eq_false_iff_not]; omega
      by_cases h6 : out.getD i 0 = out.getD a 0
      .have d6 : (((out.getD i 0 : Nat) : Int) == ((out.getD a 0 : Nat) : Int)) = true := by rw [h6]; simp
       by_cases h7 : ns.getD a 0 < ns.getD i 0
       .have d7 : decide (((ns.getD a 0 : Nat) : Int) < ((ns.getD i 0 : Nat) : Int)) = true := by simp only [decide_eq_true_eq]; omega
        simp (maxSteps := 4000000) (disch := omega) only [gD, jF, cJ, stepR_skip, hO, iB, iP, iN, iK, iO, jI, iV, gK, iC, iF, iD, iH, hJ, iM, hU, iE, iW, iS, iJ, gQ, iR, iQ, iG, kU, kV, lF, lC, lH, lE, lJ, lG, lD, gB, Result.ok.injEq, Next.value.injEq, true_and, and_true, gZ, hZ, iX, iT, iU, jG, anP, gW, gU, gX, gT, gM, gI, gN, gL, fZ, fT, if_true, if_false, anO, anS, anQ, anR, anU, anT, anN, anM, fM, fS, fL, fQ, gJ, fK, bG, bQ, gF, eF, eE, fJ, fI, gC, cU, dK, gE, gA, gS, eH, eP, dL, dJ, RN, d1, g1, g1d, d2, f1, e8, hsh, d3, d4, f2, g2, d5, d6, d7]
        exact ⟨ns.length - (i + 1), by omega, i + 1, _, rfl, rfl, by omega, new h0 h11, x1d⟩
       .have d7 : decide (((ns.getD a 0 : Nat) : Int) < ((ns.getD i 0 : Nat) : Int)) = false := by simp only [decide_eq_false_iff_not]; omega
        simp (maxSteps := 4000000) (disch := omega) only [gD, jF, cJ, stepR_skip, hO, iB, iP, iN, iK, iO, jI, iV, gK, iC, iF, iD, iH, hJ, iM, hU, iE, iW, iS, iJ, gQ, iR, iQ, iG, kU, kV, lF, lC, lH, lE, lJ, lG, lD, gB, Result.ok.injEq, Next.value.injEq, true_and, and_true, gZ, hZ, iX, iT, iU, jG, anP, gW, gU, gX, gT, gM, gI, gN, gL, fZ, fT, if_true, if_false, anO, anS, anQ, anR, anU, anT, anN, anM, fM, fS, fL, fQ, gJ, fK, bG, bQ, gF, eF, eE, fJ, fI, gC, cU, dK, gE, gA, gS, eH, eP, dL, dJ, RN, d1, g1, g1d, d2, f1, e8, hsh, d3, d4, f2, g2, d5, d6, d7]
        exact ⟨ns.length - (i + 1), by omega, i + 1, _, rfl, rfl, by omega, .inr ⟨a, rfl, ha, ha0, har⟩, x1d⟩
      .have d6 : (((out.getD i 0 : Nat) : Int) == ((out.getD a 0 : Nat) : Int)) = false := beq_eq_false_iff_ne.2 (by omega)
       simp (maxSteps := 4000000) (disch := omega) only [gD, jF, cJ, stepR_skip, hO, iB, iP, iN, iK, iO, jI, iV, gK, iC, iF, iD, iH, hJ, iM, hU, iE, iW, iS, iJ, gQ, iR, iQ, iG, kU, kV, lF, lC, lH, lE, lJ, lG, lD, gB, Result.ok.injEq, Next.value.injEq, true_and, and_true, gZ, hZ, iX, iT, iU, jG, anP, gW, gU, gX, gT, gM, gI, gN, gL, fZ, fT, if_true, if_false, anO, anS, anQ, anR, anU, anT, anN, anM, fM, fS, fL, fQ, gJ, fK, bG, bQ, gF, eF, eE, fJ, fI, gC, cU, dK, gE, gA, gS, eH, eP, dL, dJ, RN, d1, g1, g1d, d2, f1, e8, hsh, d3, d4, f2, g2, d5, d6]
       exact ⟨ns.length - (i + 1), by omega, i + 1, _, rfl, rfl, by omega, .inr ⟨a, rfl, ha, ha0, har⟩, x1d⟩
   .have d3 : decide (((2 ^ (11 - out.getD i 0) : Nat) : Int) <= (r : Int)) = false := by simp only [decide_eq_false_iff_not]; omega
    simp (disch := omega) only [gD, hJ, d1, fI, anP, hO, gZ, cJ, true_and, gC, g1, gB, hU, d2, gW, gQ, if_true, gM, gA, anS, gS, f1, iB, e8, iC, hsh, iM, d3, gX, anO, if_false, fT, gI, RN, fZ]
    exact ⟨ns.length - (i + 1), by omega, i + 1, _, rfl, rfl, by omega, keep (by omega), x1d⟩
  .have d2 : decide ((0 : Int) < ((ns.getD i 0 : Nat) : Int)) = false := by simp only [decide_eq_false_iff_not]; omega
   simp (disch := omega) only [gD, hJ, d1, fI, anP, hO, gZ, cJ, true_and, gC, g1, gB, hU, d2, gX, gQ, anO, if_false, fT, gI, RN, fZ]
   exact ⟨ns.length - (i + 1), by omega, i + 1, _, rfl, rfl, by omega, keep (by omega), x1d⟩
 .have d1 : decide ((i : Int) < (ns.length : Int)) = false := by simp; omega
  obtain rfl : i = ns.length := by omega
  simp (disch := omega) only [gD, hJ, d1, true_and, cJ, fT]
  exact hK at' w1 hp x1
theorem aaQ {pb : Nat} {ov : asZ} {ns out : List Nat} {w : asY} (hs : Sl w ov (Ow ns)) (hn : ∀ n ∈ ns, n <= 4294967295) (hl : ns.length <= 256) (h2 : 2 <= ns.countP Es) (h : L3 ns out) (hk : mQ out <= 2048) (ob : mP w pb (oc out)) (hat : ¬ KZ ov (fun y => y = pb)) {RR : asZ -> asY -> Prop}
 (hK : ∀ out w', L3 ns out -> mQ out = 2048 -> mP w' pb (oc out) -> jM w w' (fun y => y = pb) -> RR (.slice (some ⟨pb, 0, none⟩) ns.length ns.length) w') :
 rV RR ov (.slice (some ⟨pb, 0, none⟩) ns.length ns.length) (.int .i64 (2048 - (mQ out : Nat))) w := by
 unfold rV Bw BU
 refine kE.rule (fun m (t : asZ) w' => ∃ out : List Nat, m = 2048 - mQ out /\ t = .int .i64 (2048 - (mQ out : Nat)) /\ L3 ns out /\ mQ out <= 2048 /\ mP w' pb (oc out) /\ jM w w' (fun y => y = pb)) (2048 - mQ out) ⟨out, rfl, rfl, h, hk, ob, jM.refl _ _⟩ ?_
 rintro m t w1 ⟨out, rfl, rfl, h1, hk1, ob1, x1⟩
 have hlen := h1.len
 have e0 : (2048 : Int) - ((mQ out : Nat) : Int) = ((2048 - mQ out : Nat) : Int) := by omega
 rw [e0]
 unfold uY Bd
 by_cases hpos : mQ out < 2048
 .have d1 : decide ((0 : Int) < ((2048 - mQ out : Nat) : Int)) = true := by simp only [decide_eq_true_eq]; omega
  simp (disch := omega) only [gD, hU, d1, cJ, fZ]
  unfold Bt GM BG BV
  refine aaT (r := 2048 - mQ out) (hs.ext x1 hat) hn hl h1 (by omega) ob1 fun at' w2 hp x2 => ?_
  obtain ⟨t0, ht0, ht1, _⟩ := adT (c := ns.length) h2
  rcases hp with ⟨_, q⟩ | ⟨a, rfl, ha, ha0, har⟩
  .exfalso
   obtain ⟨j, j1, j2, j3⟩ := WJ h1 ht0 ht1 hpos
   exact q j j1 ⟨j2, j3⟩
  obtain ⟨b, hb, hb0, hba⟩ := adT (c := a) h2
  have hge2 := abA h1 ha hb (fun e => hba e.symm) ha0 hb0 har hk1
  have ob2 := ob1.ext x2 (fun h => h)
  have f1 := ob2.cell (off := a)
  rw [JM (by omega)] at f1
  have hon := h1.on a ha ha0
  have hks := Pc (l := out) (i := a) (out.getD a 0 - 1) (by omega)
  have hset := h1.set (o := out.getD a 0 - 1) ha ha0 (by omega) (by omega)
  rw [<- pJ (by omega)] at hks
  have hk3 : tP (out.getD a 0) = 2 ^ (11 - out.getD a 0) := by unfold tP; rw [if_neg (by omega)]
  have hk2 : tP (out.getD a 0 - 1) = 2 * 2 ^ (11 - out.getD a 0) := by
   unfold tP
   rw [if_neg (by omega), <- Nat.pow_succ']
   congr 1; omega
  rw [hk3, hk2] at hks
  generalize hov : out.getD a 0 = o at *
  have e1 : (11 : Int) - (o : Int) = ((11 - o : Nat) : Int) := by omega
  have hsh := aaM (n := 11 - o) (by omega)
  have hp10 := apC (11 - o)
  have e3 : ((2048 - mQ out : Nat) : Int) - ((2 ^ (11 - o) : Nat) : Int) = 2048 - ((mQ (out.set a (o - 1)) : Nat) : Int) := by omega
  have e4 : (o : Int) - 1 = ((o - 1 : Nat) : Int) := by omega
  unfold xJ
  simp (disch := omega) only [gD, gA, anP, anS, cJ, gS, f1, gB, iB, e1, gZ, iC, hsh, e3, e4]
  refine Mn ob2 rfl (by rw [anV]; omega) fun w3 ob3 x3 s3 => ?_
  rw [YR] at ob3
  exact ⟨2048 - mQ (out.set a (o - 1)), by omega, _, rfl, rfl, hset, by omega, ob3, (x1.seq (x2.mono fun _ _ h => h.elim)).trans x3 fun _ _ h => h⟩
 .have d1 : decide ((0 : Int) < ((2048 - mQ out : Nat) : Int)) = false := by simp only [decide_eq_false_iff_not]; omega
  unfold xI
  simp (disch := omega) only [gD, hU, d1, cJ, fT]
  exact hK out w1 h1 (by omega) ob1 x1
theorem abL {ov : asZ} {S : Nat} {ns : List Nat} {w : asY} (hs : Sl w ov (Ow ns)) (hn : ∀ n ∈ ns, n <= 4294967295) (hl : ns.length <= 256) (h2 : 2 <= ns.countP Es) (hS0 : 0 < S) (hS : S <= 2147483647) :
 jD pg zJ #[ov, .int .u64 S] w (fun r w' => ∃ pb out, r = .slice (some ⟨pb, 0, none⟩) ns.length ns.length /\ w.heap.size <= pb /\ mP w' pb (oc out) /\ L3 ns out /\ mQ out = 2048 /\ jM w w' mM) := by
 refine O6 ?_
 obtain ⟨a, c, hv, hc⟩ := hs.len
 rw [anV] at hv hc
 subst hv
 unfold Mq Bn Bq
 simp (disch := omega) only [gD, fJ, cJ]
 refine Tm (by omega) (by omega) fun w1 o1 x1 s1 => ?_
 rw [anP] at o1 ⊢
 have ho1 : mP w1 w.heap.size (oc (List.replicate ns.length 0)) := by
  unfold oc; rw [List.map_replicate]; exact o1
 have hat : ¬ KZ (.slice a ns.length c) (fun y => y = w.heap.size) := fun h => hs.old (B2 h fun b hb => by omega)
 have hs1 := hs.ext x1 (kJ _)
 refine abH hs1 hn hl hS0 hS ho1 hat fun out w2 h2' ob2 x2 => ?_
 refine abW (hs1.ext x2 hat) hn hl h2' ob2 hat fun out w3 h3 hk3 ob3 x3 => ?_
 refine aaQ ((hs1.ext x2 hat).ext x3 hat) hn hl h2 h3 hk3 ob3 hat fun out w4 h4 hk4 ob4 x4 => ?_
 exact ⟨_, out, rfl, aoA _, ob4, h4, hk4, ((x1.trans x2 fun b hb h => by omega).trans x3 fun b hb h => by omega).trans x4 fun b hb h => by omega⟩
theorem aiW {pb : Nat} {out : List Nat} {w : asY} (ob : mP w pb (oc out)) (h0 : 0 < out.length) (hl : out.length <= 100000) (hb : ∀ o ∈ out, o <= 1000000) :
 jD pg zS #[.slice (some ⟨pb, 0, none⟩) out.length out.length] w (fun r w' => (∃ m : Nat, r = .int .i64 m /\ (∀ x ∈ out, x <= m) /\ m ∈ out) /\ w' = w) := by
 refine NL ?_
 unfold MA BN Bk
 have d0 : decide ((out.length : Int) < 1) = false := by simp; omega
 have g0 := ob.cell (off := 0)
 rw [JM h0] at g0
 have t0 : (0 : Int).toNat = 0 := rfl
 simp (disch := omega) only [gD, gE, cJ, hJ, d0, fT]
 unfold C6 CH
 simp (disch := omega) only [gD, gA, t0, anS, cJ, gS, g0, gB]
 unfold CS CQ CC CT CX
 refine kE.rule (fun m (t : asZ × asZ) w' => ∃ i q : Nat, m = out.length - i /\ t = (.int .i64 q, .int .i64 i) /\ 1 <= i /\ i <= out.length /\ (∀ x ∈ out.take i, x <= q) /\ q ∈ out.take i /\ w' = w) (out.length - 1)
  ⟨1, out.getD 0 0, by omega, rfl, by omega, by omega, ?_, ?_, rfl⟩ ?_
 .intro x hx
  rw [C0 (i := 0) h0] at hx
  simp at hx; simp; omega
 .rw [C0 (i := 0) h0]; simp
 rintro m t w1 ⟨i, q, rfl, rfl, hi1, hi, hle, hmem, rfl⟩
 unfold xF
 by_cases hlt : i < out.length
 .have d1 : decide ((i : Int) < (out.length : Int)) = true := by simp; omega
  have g1 := ob.cell (off := i)
  rw [JM hlt] at g1
  have ht := C0 hlt
  have hxb : out.getD i 0 <= 1000000 := by rw [pJ hlt]; exact hb _ (apP hlt)
  have hqb : q <= 1000000 := hb q (apX hmem)
  generalize out.getD i 0 = x at *
  have hmx : (if (q : Int) < (x : Int) then (x : Int) else (q : Int)) = ((max q x : Nat) : Int) := by split <;> omega
  have hmx2 : (if (x : Int) > (q : Int) then (x : Int) else (q : Int)) = ((max q x : Nat) : Int) := by split <;> omega
  simp (disch := omega) only [gD, gE, gA, anP, anS, hO, gZ, cJ, gS, hJ, d1, g1, gB, iQ, hmx, and_true, fZ]
  refine ⟨out.length - (i + 1), by omega, i + 1, max q x, rfl, rfl, by omega, by omega, ?_, ?_⟩
  .intro y hy
   rw [ht] at hy
   rcases apV.1 hy with hy | hy
   .have := hle y hy; omega
   .rw [asH.1 hy]; omega
  .rw [ht, apV]
   rcases asS q x with h | h
   .rw [Nat.max_eq_right h]; exact .inr (asH.2 rfl)
   .rw [Nat.max_eq_left h]; exact .inl hmem
 .have d1 : decide ((i : Int) < (out.length : Int)) = false := by simp; omega
  obtain rfl : i = out.length := by omega
  rw [arV] at *
  unfold wZ
  simp (disch := omega) only [gD, gE, hO, gZ, cJ, hJ, d1, and_true, fT]
  exact ⟨q, rfl, hle, hmem⟩
def Wx (ns : List Nat) : Bool := decide (ns.length <= 256 /\ 2 <= ns.countP Es /\ ns.sum <= 2147483647)
theorem acD {ov : asZ} {ns : List Nat} {w : asY} (hs : Sl w ov (Ow ns)) (hn : ∀ n ∈ ns, n <= 4294967295) (hl : ns.length <= 300) {RR : asZ -> asY -> Prop}
 (hK : ∀ last, Rt ns ns.length last -> Ej RR ov (.int .u64 ns.sum) (.int .i64 (ns.countP Es : Nat)) (.int .i64 last) w) :
 DJ RR ov (.int .u64 0) (.int .i64 0) (.int .i64 0) w := by
 unfold DJ Hs HE
 obtain ⟨a, c, hv, hc⟩ := hs.len
 rw [anV] at hv
 subst hv
 simp (disch := omega) only [gD, fJ, cJ]
 unfold Hx HF
 refine kE.rule (fun m (t : asZ × asZ × asZ × asZ) w' => ∃ i last : Nat, m = ns.length - i /\ t = (.int .u64 (ns.take i).sum, .int .i64 ((ns.take i).countP Es : Nat), .int .i64 last, .int .i64 i) /\ i <= ns.length /\ Rt ns i last /\ last <= i /\ w' = w) ns.length
  ⟨0, 0, rfl, by simp, by omega, .inl ⟨rfl, fun j h => by omega⟩, by omega, rfl⟩ ?_
 rintro m t w1 ⟨i, last, rfl, rfl, hi, hla, hli, rfl⟩
 unfold DF HG
 by_cases hlt : i < ns.length
 .have d1 : decide ((i : Int) < (ns.length : Int)) = true := by simp; omega
  obtain ⟨b, off, rfl, hcell⟩ := slA hs (by omega)
  have g1 := hcell i hlt
  rw [La hlt] at g1
  have hni : ns.getD i 0 <= 4294967295 := by rw [pJ hlt]; exact hn _ (apP hlt)
  have hsl := YJ (B := 4294967295) (l := ns.take i) fun n hn' => hn n (apX hn')
  rw [aoL, aqD (by omega)] at hsl
  have hsl2 : i * 4294967295 <= 300 * 4294967295 := aoQ _ (by omega)
  have hct : (ns.take i).countP Es <= i := by
   have := asR (l := ns.take i) (p := Es)
   rw [aoL] at this; omega
  have hsum : (ns.take (i + 1)).sum = (ns.take i).sum + ns.getD i 0 := by rw [C0 hlt, List.sum_append]; simp
  have hcnt : (ns.take (i + 1)).countP Es = (ns.take i).countP Es + (if 0 < ns.getD i 0 then 1 else 0) := by
   rw [C0 hlt, List.countP_append, List.countP_singleton]
   unfold Es; simp only [decide_eq_true_eq]
  have hstep := hla.step
  generalize ns.getD i 0 = n at *
  have e1 : (((ns.take i).sum : Nat) : Int) + (n : Int) = (((ns.take i).sum + n : Nat) : Int) := by omega
  by_cases h0 : 0 < n
  .have d2 : decide ((0 : Int) < (n : Int)) = true := by simp; omega
   rw [if_pos h0] at hcnt hstep
   unfold Au
   simp (disch := omega) only [gD, hJ, d1, fI, anP, hO, gZ, cJ, gC, g1, gB, cU, hZ, hU, d2, fZ, e1, and_true]
   exact ⟨ns.length - (i + 1), by omega, i + 1, i, rfl, by rw [hsum, hcnt] <;> rfl, by omega, hstep, by omega⟩
  .have d2 : decide ((0 : Int) < (n : Int)) = false := by simp; omega
   rw [if_neg h0] at hcnt hstep
   unfold Au
   simp (disch := omega) only [gD, hJ, d1, fI, anP, hO, gZ, cJ, gC, g1, gB, cU, hZ, hU, d2, fT, e1, and_true, fZ]
   exact ⟨ns.length - (i + 1), by omega, i + 1, last, rfl, by rw [hsum, hcnt] <;> rfl, by omega, hstep, by omega⟩
 .have d1 : decide ((i : Int) < (ns.length : Int)) = false := by simp; omega
  obtain rfl : i = ns.length := by omega
  rw [aoF (aoA _)]
  simp (disch := omega) only [gD, hJ, d1, hO, cJ, fT]
  exact hK last hla
def aiQ (w : asY) (base : Nat) (ns : List Nat) (r : asZ) : Prop :=
 (Wx ns = false /\ r = .tuple #[.slice none 0 0, .int .i64 1]) ∨
 (Wx ns = true /\ ∃ (last : Nat) (v : asZ) (wl : List Nat), Rt ns ns.length last /\ last < ns.length /\ wl.length = last + 1 /\ oC wl ≠ 0 /\ (∀ x ∈ wl, x <= 11) /\ (∀ i, i < last + 1 -> (0 < wl.getD i 0 ↔ 0 < ns.getD i 0)) /\
  r = .tuple #[v, .int .i64 0] /\ xH w base 1 v (last + 1) ((Og wl).map pB))
theorem YO {ns out : List Nat} {d last : Nat} (h : L3 (ns.take (last + 1)) out) (hk : mQ out = 2048) (hd : ∀ o ∈ out, o <= d) (hdm : d ∈ out) (hl : last < ns.length) (hl2 : ns.length <= 256) (hlast : 0 < ns.getD last 0) (h2 : 2 <= (ns.take (last + 1)).countP Es) :
 oC (out.map (Zd d)) = d /\ d ≠ 0 /\ d <= 11 /\ ∀ i, i < last + 1 -> (0 < (out.map (Zd d)).getD i 0 ↔ 0 < ns.getD i 0) := by
 have hlen := h.len
 have htl : (ns.take (last + 1)).length = last + 1 := by rw [aoL]; omega
 have htd : ∀ i, i < last + 1 -> (ns.take (last + 1)).getD i 0 = ns.getD i 0 := fun i hi => by
  rw [anY, anY, apO hi]
 have hd11 : d <= 11 := by
  obtain ⟨i, hi, rfl⟩ := apQ hdm
  exact h.le hi
 have hon := h.on last (by omega) (by rw [htd last (by omega)]; exact hlast)
 have hd0 : 1 <= d := by
  have := hd (out.getD last 0) (by rw [pJ (by omega)]; exact apP _)
  omega
 have hW := acT hd11 hd hk
 have hget : ∀ i, i < last + 1 -> (out.map (Zd d)).getD i 0 = Zd d (out.getD i 0) := fun i hi => by
  rw [pJ (by rw [anV]; omega), List.getElem_map, pJ (by omega)]
 have hiff : ∀ i, i < last + 1 -> (0 < (out.map (Zd d)).getD i 0 ↔ 0 < ns.getD i 0) := fun i hi => by
  rw [hget i hi, <- htd i hi]
  have hdi := hd (out.getD i 0) (by rw [pJ (by omega)]; exact apP _)
  constructor
  .intro h0
   rcases aqP ((ns.take (last + 1)).getD i 0) with h' | h'
   .rw [h.off i (by omega) h'] at h0
    simp [Zd] at h0
   .exact h'
  .intro h0
   have := h.on i (by omega) h0
   unfold Zd
   rw [if_neg (by omega)]; omega
 have hlast2 : 2 <= last + 1 := by
  have := asR (l := ns.take (last + 1)) (p := Es)
  omega
 refine ⟨aaP ?_ hd11 (by rw [anV]; omega) (by rw [anV]; omega) ?_ hW, by omega, hd11, hiff⟩
 .intro w hw
  obtain ⟨o, ho, rfl⟩ := apM.1 hw
  have := hd o ho
  unfold Zd
  split <;> omega
 .intro hq
  rw [asD, anV, hlen, htl, arI] at hq
  have := (hiff last (by omega)).2 hlast
  rw [anY, hq] at this
  simp at this
theorem Zn {base i x : Nat} {d10 v' t51 t52 t53 : asZ} {cells : List asZ} {w : asY} (o : xH w base 1 v' i cells) (hb : base <= w.heap.size) (hi : i <= 100000) (hx : x < 256) {kn : asZ -> asZ -> asZ -> asZ -> asZ -> asY -> Prop}
 (hK : ∀ v2 w2, xH w2 base 1 v2 (i + 1) (cells ++ [.int .u8 x]) -> jM w w2 (fun y => base <= y) -> kn d10 v2 t51 t52 t53 w2) : Cb kn d10 v' (.int .i64 x) t51 t52 t53 w := by
 unfold Cb
 obtain ⟨av, cv, rfl⟩ := o.len
 have e8 : IntKind.u8.wrap (x : Int) = (x : Int) := jG (by omega) (by omega)
 simp (disch := omega) only [gD, fL, e8, cJ]
 refine sK (cells := #[.int .u8 x]) (by decide) (by decide) (by kernel_rfl) fun w5 o5 x5 s5 => ?_
 have z5 := x5.size
 refine mC (m := 1) (news := [.int .u8 x]) (o.ext x5 (fun _ _ h => h)) (o5.cl (off := 0) (l := [.int .u8 x]) (n := 1) rfl (fun i hi => by rw [anS])) (by simp [one]) (by omega) (by omega) fun v6 w6 o6 x6 => ?_
 exact hK v6 w6 o6 ((x5.mono fun _ _ h => h.elim).seq x6)
theorem akI {ov : asZ} {ns : List Nat} {w : asY} (hs : Sl w ov (Ow ns)) (hn : ∀ n ∈ ns, n <= 4294967295) (hl : ns.length <= 300) :
 jD pg G3 #[ov] w (fun r w' => aiQ w' w.heap.size ns r /\ jM w w' mM) := by
 refine Ul ?_
 unfold U1 HW Im
 refine acD hs hn hl fun last hlast => ?_
 unfold Ej Ip
 obtain ⟨a, c, hv, hc⟩ := hs.len
 rw [anV] at hv hc
 subst hv
 have no : ¬ (ns.length <= 256 /\ 2 <= ns.countP Es /\ ns.sum <= 2147483647) -> Wx ns = false := fun h => by unfold Wx; exact decide_eq_false h
 have hcl : ns.countP Es <= ns.length := asR
 have hsl := YJ (B := 4294967295) hn
 have hsl2 : ns.length * 4294967295 <= 300 * 4294967295 := aoQ _ (by omega)
 by_cases h4 : 256 < ns.length
 .have d4 : decide ((256 : Int) < (ns.length : Int)) = true := by simp; omega
  simp (disch := omega) only [gD, fJ, hO, cJ, hU, d4, gU, gQ, if_true, fZ, gI]
  exact ⟨.inl ⟨no (by omega), rfl⟩, jM.refl _ _⟩
 have d4 : decide ((256 : Int) < (ns.length : Int)) = false := by simp; omega
 by_cases h5 : ns.countP Es < 2
 .have d5 : decide (((ns.countP Es : Nat) : Int) < 2) = true := by simp only [decide_eq_true_eq]; omega
  simp (disch := omega) only [gD, fJ, hO, cJ, hU, d4, gT, gQ, anO, if_false, gM, hJ, d5, gU, if_true, fZ, gI]
  exact ⟨.inl ⟨no (by omega), rfl⟩, jM.refl _ _⟩
 have d5 : decide (((ns.countP Es : Nat) : Int) < 2) = false := by simp only [decide_eq_false_iff_not]; omega
 by_cases h7 : 2147483647 < ns.sum
 .have d7 : decide ((2147483647 : Int) < ((ns.sum : Nat) : Int)) = true := by simp only [decide_eq_true_eq]; omega
  simp (disch := omega) only [gD, fJ, hO, cJ, hU, d4, gT, gQ, anO, if_false, gM, hJ, d5, d7, fZ]
  exact ⟨.inl ⟨no (by omega), rfl⟩, jM.refl _ _⟩
 have d7 : decide ((2147483647 : Int) < ((ns.sum : Nat) : Int)) = false := by simp only [decide_eq_false_iff_not]; omega
 have hok : Wx ns = true := by unfold Wx; exact decide_eq_true (by omega)
 have hl2 : last < ns.length /\ 0 < ns.getD last 0 /\ ∀ j, last < j -> j < ns.length -> ns.getD j 0 = 0 := by
  rcases hlast with ⟨rfl, h⟩ | h
  .exfalso
   have : ns.countP Es = 0 := TI fun n hn => by
    obtain ⟨i, hi, rfl⟩ := apQ hn
    rw [<- pJ hi]; exact h i hi
   omega
  .exact h
 obtain ⟨l1, l2, l3⟩ := hl2
 have hS0 : 0 < ns.sum := by
  have := adB (l := ns) (n := ns.getD last 0) (by rw [pJ l1]; exact apP _)
  omega
 have hz : ∀ n ∈ ns.drop (last + 1), n = 0 := fun n hn => by
  obtain ⟨i, hi, rfl⟩ := apQ hn
  rw [aoN] at hi
  rw [List.getElem_drop, <- pJ (by omega)]
  exact l3 _ (by omega) (by omega)
 have hcnt : 2 <= (ns.take (last + 1)).countP Es := by
  have : ns.countP Es = (ns.take (last + 1) ++ ns.drop (last + 1)).countP Es := by rw [aqX]
  rw [List.countP_append, TI hz] at this
  omega
 have htl : (ns.take (last + 1)).length = last + 1 := by rw [aoL]; omega
 have e1 : (last : Int) + 1 = ((last + 1 : Nat) : Int) := by omega
 obtain ⟨b0, off0, rfl, _⟩ := slA hs (by omega)
 have e2 : nM (some ⟨b0, off0, none⟩) c 0 1 = some ⟨b0, off0, none⟩ := by have := Vr (b := b0) (o := off0) (m := c) (l := 0) (by omega); simpa using this
 have hsub : Sl w (.slice (some ⟨b0, off0, none⟩) (last + 1) c) (Ow (ns.take (last + 1))) := by
  have := ajL hs (k := last + 1) (by omega)
  rw [<- arY] at this
  exact this
 simp (disch := omega) only [gD, fJ, hO, e1, gZ, cJ, dK, e2, anP, arP, hU, d4, gT, gQ, anO, if_false, gM, hJ, d5, d7, fT]
 refine (abL hsub (fun n h => hn n (apX h)) (by omega) hcnt hS0 (by omega)).mono ?_
 rintro r w1 ⟨pb, out, rfl, hpb, ob, hLen, hkr, x1⟩
 rw [htl]
 have hol : out.length = last + 1 := by rw [hLen.len, htl]
 have hm := aiW (w := w1) (pb := pb) (out := out) ob (by omega) (by omega) (fun o ho => by
  obtain ⟨i, hi, rfl⟩ := apQ ho
  have := hLen.le hi; omega)
 rw [hol] at hm
 refine hm.mono ?_
 rintro r w2 ⟨⟨d, rfl, hd1, hd2⟩, rfl⟩
 obtain ⟨hdep, hd0, hd11, hiff⟩ := YO hLen hkr hd1 hd2 l1 (by omega) l2 hcnt
 obtain ⟨wl, hwl⟩ : ∃ wl, out.map (Zd d) = wl := ⟨_, rfl⟩
 have hwll : wl.length = last + 1 := by rw [<- hwl, anV, hol]
 have hwget : ∀ i, i < last + 1 -> wl.getD i 0 = Zd d (out.getD i 0) := fun i hi => by
  rw [<- hwl, pJ (by rw [anV]; omega), List.getElem_map, pJ (by omega)]
 rw [hwl] at hdep hiff
 have hw11 := (Kl hdep hd0).1
 unfold HO HI HZ
 simp (disch := omega) only [gD, gE, cJ]
 unfold Hu HK
 refine kE.rule (fun m (t : asZ × asZ) w' => ∃ (i : Nat) (v' : asZ), m = last + 1 - i /\ t = (v', .int .i64 i) /\ i <= last + 1 /\ xH w' w2.heap.size 1 v' i ((Og (wl.take i)).map pB) /\ jM w2 w' mM) (last + 1)
  ⟨0, _, rfl, rfl, by omega, xH.nil _ _ _, jM.refl _ _⟩ ?_
 rintro m t w3 ⟨i, v', rfl, rfl, hi, o3, x3⟩
 have z3 := x3.size
 have z1 := x1.size
 unfold FV Jk
 by_cases hlt : i < last + 1
 .have d1 : decide ((i : Int) < ((last + 1 : Nat) : Int)) = true := by simp only [decide_eq_true_eq]; omega
  have f1 := (ob.ext x3 (fun h => h)).cell (off := i)
  rw [JM (by omega)] at f1
  have hs1 := C0 (ns := wl) (i := i) (by omega)
  rw [hwget i hlt] at hs1
  have hod := hd1 (out.getD i 0) (by rw [pJ (by omega)]; exact apP _)
  have hwo : Zd d (out.getD i 0) = if out.getD i 0 = 0 then 0 else d + 1 - out.getD i 0 := rfl
  generalize out.getD i 0 = o at *
  have hcells : ∀ x : Nat, Zd d o = x -> x < 256 -> ((Og (wl.take i)).map pB ++ [.int .u8 x]) = (Og (wl.take (i + 1))).map pB := fun x hx hx2 => by
   rw [hs1, hx]
   simp only [Og, aoX, aoT, asV, Yq hx2]
  unfold JW JA Qi JZ
  by_cases h0 : 0 < o
  .have d2 : decide ((0 : Int) < (o : Int)) = true := by simp; omega
   have e3 : (d : Int) + 1 - (o : Int) = ((d + 1 - o : Nat) : Int) := by omega
   rw [if_neg (by omega)] at hwo
   simp (disch := omega) only [gD, hJ, d1, gA, anP, anS, hO, gZ, cJ, gS, f1, gB, hU, d2, iB, e3, fZ]
   refine Zn o3 z3 (by omega) (by omega) fun v4 w4 o4 x4 => ?_
   rw [hcells _ hwo (by omega)] at o4
   unfold B4
   simp (disch := omega) only [gD, hO, gZ, cJ]
   exact ⟨last + 1 - (i + 1), by omega, i + 1, _, rfl, rfl, by omega, o4, x3.trans x4 fun b hb h => by omega⟩
  .have d2 : decide ((0 : Int) < (o : Int)) = false := by simp; omega
   rw [if_pos (by omega)] at hwo
   simp (disch := omega) only [gD, hJ, d1, gA, anP, anS, hO, gZ, cJ, gS, f1, gB, hU, d2, iB, fT, fZ]
   refine Zn (x := 0) o3 z3 (by omega) (by omega) fun v4 w4 o4 x4 => ?_
   rw [hcells _ hwo (by omega)] at o4
   unfold B4
   simp (disch := omega) only [gD, hO, gZ, cJ]
   exact ⟨last + 1 - (i + 1), by omega, i + 1, _, rfl, rfl, by omega, o4, x3.trans x4 fun b hb h => by omega⟩
 .have d1 : decide ((i : Int) < ((last + 1 : Nat) : Int)) = false := by simp only [decide_eq_false_iff_not]; omega
  obtain rfl : i = last + 1 := by omega
  rw [aoF (by omega)] at o3
  unfold FX
  simp (disch := omega) only [gD, hJ, d1, cJ, fT]
  refine ⟨.inr ⟨hok, last, v', wl, hlast, l1, hwll, by omega, fun x hx => by have := hw11 x hx; omega, hiff, rfl, o3.1, ?_⟩, x1.seq x3⟩
  rcases o3.2 with h | ⟨b, c, rest', q1, q2, q3⟩
  .exact .inl h
  .exact .inr ⟨b, c, rest', q1, by omega, q3⟩
def wrB (l : List Nat) : List Nat := (126 + l.length) :: MI (l.take (l.length - 1))
theorem Yv (l : List Nat) : (wrB l).length = 1 + (l.length - 1 + 1) / 2 := by
 unfold wrB
 rw [aoG, R6, aoL, aqD (by omega)]; omega
theorem Vc {base i x : Nat} {l0 n4 v' i6 : asZ} {cells : List asZ} {w : asY} (o : xH w base 1 v' i cells) (hb : base <= w.heap.size) (hi : i <= 100000) (hx : x < 256) {kn : asZ -> asZ -> asZ -> asZ -> asY -> Prop}
 (hK : ∀ v2 w2, xH w2 base 1 v2 (i + 1) (cells ++ [.int .u8 x]) -> jM w w2 (fun y => base <= y) -> kn l0 n4 v2 i6 w2) : vN kn l0 n4 v' i6 (.int .u8 x) w := by
 unfold vN
 obtain ⟨av, cv, rfl⟩ := o.len
 refine sK (cells := #[.int .u8 x]) (by decide) (by decide) (by kernel_rfl) fun w5 o5 x5 s5 => ?_
 have z5 := x5.size
 refine mC (m := 1) (news := [.int .u8 x]) (o.ext x5 (fun _ _ h => h)) (o5.cl (off := 0) (l := [.int .u8 x]) (n := 1) rfl (fun i hi => by rw [anS])) (by simp [one]) (by omega) (by omega) fun v6 w6 o6 x6 => ?_
 exact hK v6 w6 o6 ((x5.mono fun _ _ h => h.elim).seq x6)
theorem Zg {v : asZ} {l : List UInt8} {w : asY} (h : Bs w v l) (hl : l.length <= 100000) (hd : oC (kA l) = 0 ∨ 129 < l.length) :
 jD pg yJ #[v] w (fun r w' => r = .tuple #[.slice none 0 0, .int .i64 (if oC (kA l) = 0 then 1 else 12)] /\ w' = w) := by
 refine Iu ?_
 obtain ⟨a, n, c, rfl, hn, hc, hh⟩ := id h
 rw [anV] at hn
 subst hn
 unfold Jy zK zQ
 refine (UL h hl).mono ?_
 rintro r w1 ⟨rfl, rfl⟩
 by_cases h0 : oC (kA l) = 0
 .have n1 : (((oC (kA l) : Nat) : Int) == 0) = true := by rw [h0] <;> rfl
  simp (disch := omega) only [gD, iD, n1, fM, cJ, iB, gZ, hO, fL, hU, and_true, fZ]
  rw [if_pos h0]
 .have n1 : (((oC (kA l) : Nat) : Int) == 0) = false := beq_eq_false_iff_ne.2 (by omega)
  have d1 : decide ((129 : Int) < (l.length : Int)) = true := by simp; omega
  simp (disch := omega) only [gD, iD, n1, fM, cJ, iB, gZ, hO, fL, hU, d1, fZ, and_true, fT]
  rw [if_neg h0]
theorem acM {v : asZ} {l : List UInt8} {d : Nat} {w : asY} (h : Bs w v l) (hd : oC (kA l) = d) (hd0 : d ≠ 0) (hl : l.length <= 129) :
 jD pg yJ #[v] w (fun r w' => ∃ v', r = .tuple #[v', .int .i64 0] /\ xH w' w.heap.size 1 v' (wrB (kA l)).length ((Og (wrB (kA l))).map pB) /\ jM w w' mM) := by
 refine Iu ?_
 obtain ⟨hall, hd11, hl2, hl256, hlast, hsum⟩ := Kl hd hd0
 have hnl := mX l
 obtain ⟨b, off, c, rfl, hc, hcell⟩ := Vp h (by omega)
 unfold Jy zK zQ
 refine (UL h (by omega)).mono ?_
 rintro r w1 ⟨rfl, rfl⟩
 rw [hd]
 have n1 : ((d : Int) == 0) = false := beq_eq_false_iff_ne.2 (by omega)
 have d1 : decide ((129 : Int) < (l.length : Int)) = false := by simp; omega
 have e1 : (l.length : Int) - 1 = ((l.length - 1 : Nat) : Int) := by omega
 have e2 : (127 : Int) + ((l.length - 1 : Nat) : Int) = ((126 + l.length : Nat) : Int) := by omega
 have e8 : IntKind.u8.wrap ((126 + l.length : Nat) : Int) = ((126 + l.length : Nat) : Int) := jG (by omega) (by omega)
 simp (disch := omega) only [gD, iD, n1, fM, cJ, iB, e1, gZ, hO, e2, fL, e8, hU, d1, fT]
 refine sK (cells := #[.int .u8 (126 + l.length : Nat)]) (by decide) (by decide) (by kernel_rfl) fun w2 o2 x2 s2 => ?_
 obtain ⟨m, hm⟩ : ∃ m, m = (kA l).take (l.length - 1) := ⟨_, rfl⟩
 have hml : m.length = l.length - 1 := by rw [hm, aoL, hnl]; omega
 have hmg : ∀ i, i < l.length - 1 -> m.getD i 0 = (kA l).getD i 0 := fun i hi => by
  rw [hm, anY, anY, apO hi]
 have hm11 : ∀ x ∈ m, x <= 11 := fun x hx => by rw [hm] at hx; have := hall x (apX hx); omega
 have hm16 : ∀ x ∈ m, x < 16 := fun x hx => by have := hm11 x hx; omega
 have hwr : wrB (kA l) = (126 + l.length) :: MI m := by unfold wrB; rw [hnl, hm]
 have hpl := R6 m
 have ho2 : xH w2 w1.heap.size 1 (.slice (some ⟨w1.heap.size, 0, none⟩) 1 1) (0 + 1) ((Og ((126 + l.length) :: (MI m).take 0)).map pB) := by
  refine ⟨by simp, .inr ⟨_, 1, [], rfl, aoA _, ?_, rfl, aoA _⟩⟩
  simp only [Og, List.take_zero, aoT, asV, Yq (show 126 + l.length < 256 by omega), aqC]
  exact o2
 unfold DR DP Eo Eb DK
 refine kE.rule (fun q (t : asZ × asZ) w' => ∃ (j : Nat) (v' : asZ), q = l.length - 1 + 1 - j /\ t = (v', .int .i64 (2 * j : Nat)) /\ j <= (m.length + 1) / 2 /\ xH w' w1.heap.size 1 v' (j + 1) ((Og ((126 + l.length) :: (MI m).take j)).map pB) /\ jM w1 w' mM) (l.length - 1 + 1)
  ⟨0, _, rfl, rfl, by omega, ho2, x2⟩ ?_
 rintro q t w3 ⟨j, v', rfl, rfl, hj, o3, x3⟩
 have z3 := x3.size
 unfold A5 Fi
 by_cases hlt : 2 * j < l.length - 1
 .have d2 : decide (((2 * j : Nat) : Int) < ((l.length - 1 : Nat) : Int)) = true := by simp only [decide_eq_true_eq]; omega
  obtain ⟨_, _, _, he, _, hcell3⟩ := Vp (h.ext x3 (kJ _)) (by omega)
  cases he
  have g1 := hcell3 (2 * j) (by omega)
  have hg1 := acY (l := l) (i := 2 * j) (by omega)
  rw [<- hg1, <- hmg (2 * j) hlt] at g1
  have hs1 := C0 (ns := MI m) (i := j) (by omega)
  rw [Z5 (by omega)] at hs1
  have hx11 : m.getD (2 * j) 0 <= 11 := hm11 _ (D1 (by omega))
  have hy11 := agK hm16 (2 * j + 1)
  have e3 : ((2 * j : Nat) : Int) + 1 = ((2 * j + 1 : Nat) : Int) := by omega
  have hcells : ∀ z : Nat, z = m.getD (2 * j) 0 * 16 + m.getD (2 * j + 1) 0 -> z < 256 -> ((Og ((126 + l.length) :: (MI m).take j)).map pB ++ [.int .u8 z]) = (Og ((126 + l.length) :: (MI m).take (j + 1))).map pB := fun z hz hz2 => by
   rw [hs1, <- hz]
   simp only [Og, aoX, aoT, asV, Yq hz2, aqM]
  have hodd : ¬ 2 * j + 1 < l.length - 1 -> m.getD (2 * j + 1) 0 = 0 := fun h => by
   rw [anY, aoD (by omega)] <;> rfl
  have g2 : 2 * j + 1 < l.length - 1 -> w3.cell? ⟨b, off + (2 * j + 1), none⟩ = some (.int .u8 (m.getD (2 * j + 1) 0 : Nat)) := fun h => by
   have := hcell3 (2 * j + 1) (by omega)
   rw [<- acY (l := l) (i := 2 * j + 1) (by omega), <- hmg (2 * j + 1) h] at this
   exact this
  generalize m.getD (2 * j) 0 = x at *
  generalize m.getD (2 * j + 1) 0 = y at *
  have t4 : (4 : Int).toNat = 4 := rfl
  have e4 : IntKind.u8.wrap ((x : Int) * 2 ^ (min 4 IntKind.u8.bits)) = ((x * 16 : Nat) : Int) := by
   rw [show min 4 IntKind.u8.bits = 4 from rfl]
   have : (x : Int) * 2 ^ 4 = ((x * 16 : Nat) : Int) := by omega
   rw [this]
   exact jG (by omega) (by omega)
  unfold Fh FD Kw Fs
  by_cases h2 : 2 * j + 1 < l.length - 1
  .have d3 : decide (((2 * j + 1 : Nat) : Int) < ((l.length - 1 : Nat) : Int)) = true := by simp only [decide_eq_true_eq]; omega
   have g2 := g2 h2
   have e5 := UP (a := x * 16) (b := y) (by omega) (by omega)
   have e6 : x * 16 ||| y = x * 16 + y := by
    rw [Nat.or_comm]
    have := aeD (x := y) (i := 4) (by omega) x
    rw [show x * 2 ^ 4 = x * 16 from rfl] at this
    rw [this]; omega
   rw [e6] at e5
   simp (disch := omega) only [gD, hJ, d2, fQ, anP, hO, e3, gZ, cJ, gJ, d3, fZ, g1, gB, iC, t4, e4, g2, jI, e5]
   refine Vc (x := x * 16 + y) o3 (by omega) (by omega) (by omega) fun v4 w4 o4 x4 => ?_
   rw [hcells _ rfl (by omega)] at o4
   unfold vM
   have e7 : ((2 * j : Nat) : Int) + 2 = ((2 * (j + 1) : Nat) : Int) := by omega
   simp (disch := omega) only [gD, hO, e7, gZ, cJ]
   exact ⟨l.length - 1 + 1 - (j + 1), by omega, j + 1, _, rfl, rfl, by omega, o4, x3.trans x4 fun b hb h => by omega⟩
  .have d3 : decide (((2 * j + 1 : Nat) : Int) < ((l.length - 1 : Nat) : Int)) = false := by simp only [decide_eq_false_iff_not]; omega
   have hy0 := hodd h2
   simp (disch := omega) only [gD, hJ, d2, fQ, anP, hO, e3, gZ, cJ, gJ, d3, fT, g1, gB, iC, t4, e4, fZ]
   refine Vc (x := x * 16) o3 (by omega) (by omega) (by omega) fun v4 w4 o4 x4 => ?_
   rw [hcells _ (by omega) (by omega)] at o4
   unfold vM
   have e7 : ((2 * j : Nat) : Int) + 2 = ((2 * (j + 1) : Nat) : Int) := by omega
   simp (disch := omega) only [gD, hO, e7, gZ, cJ]
   exact ⟨l.length - 1 + 1 - (j + 1), by omega, j + 1, _, rfl, rfl, by omega, o4, x3.trans x4 fun b hb h => by omega⟩
 .have d2 : decide (((2 * j : Nat) : Int) < ((l.length - 1 : Nat) : Int)) = false := by simp only [decide_eq_false_iff_not]; omega
  have hjE : j = (MI m).length := by omega
  rw [aoF (by omega), <- hwr] at o3
  have hwl : (wrB (kA l)).length = j + 1 := by rw [hwr, aoG]; omega
  unfold AY
  simp (disch := omega) only [gD, hJ, d2, cJ, fT]
  exact ⟨v', rfl, by rw [hwl]; exact o3, x3⟩
end Go.Proofs.YtoecppploooloaaGreatDoor

/- Parts of the proof of ChunkSpans: merged and given short names by a program of ours. -/
import Derived.Test.YtoecppploooloaaGreatDoorZtB
set_option linter.unusedVariables false
set_option linter.unusedSimpArgs false
open Array renaming getD_eq_getD_getElem? → aoO, getElem?_eq_getElem → aoW, getElem?_setIfInBounds_self_of_lt → apI, getElem?_setIfInBounds_ne → apQ, getElem?_eq_none → aqI
open Bool renaming false_eq_true → aoD, not_false → aoI, not_true → aoJ, and_eq_true → aoQ
open Int renaming toNat_natCast → aoE, fdiv_eq_ediv_of_nonneg → arA, tdiv_eq_ediv_of_nonneg → arO, tmod_eq_emod_of_nonneg → arP
open List renaming getElem?_cons_zero → aoB, getElem?_cons_succ → aoC, length_map → aoK, length_append → aoL, getElem?_eq_getElem → aoM, getD_eq_getElem?_getD → aoN, mem_cons_of_mem → aoR, getElem?_eq_none → aoS, take_of_length_le → aoU, length_cons → aoV, getElem?_append_left → aoX, getElem?_map → aoY, set_cons_zero → aoZ, length_take → apA, set_cons_succ → apC, length_drop → apD, getElem?_append_right → apF, map_cons → apJ, append_assoc → apK, mem_cons_self → apL, map_append → apN, all_eq_true → apO, length_singleton → apS, length_eq_zero_iff → apT, mem_range → apV, mem_cons → apZ, nil_append → aqA, mem_map → aqB, getElem?_take_of_lt → aqD, getElem_mem → aqE, getElem_of_mem → aqF, set_append_right → aqH, mem_append → aqJ, mem_of_mem_take → aqM, drop_eq_getElem_cons → aqP, append_nil → aqR, take_append_of_le_length → aqS, mem_of_getElem? → aqT, ext_getElem? → aqW, getElem_cons_succ → aqZ, cons_append → arB, drop_zero → arF, getElem?_eq_some_iff → arG, length_set → arI, take_append_drop → arM, set_append_left → arQ, drop_drop → arR, getElem?_replicate → arS, sum_cons → arT, getElem?_drop → arV, drop_eq_nil_of_le → arX, drop_append_of_le_length → arY, take_add_one → arZ, map_set → asI, take_length → asK, filter_cons → asL, mem_of_mem_drop → asM, map_take → asN, replicate_succ → asP, getElem?_range → asR, getLast?_eq_getElem? → asT, take_left' → asU, mem_singleton → asX, eq_of_mem_replicate → asY, flatten_cons → atC, getElem_cons_zero → atE, countP_le_length → atG, mem_filter → atJ, map_nil → atL, drop_left' → atN
open Nat renaming zero_add → aoH, le_refl → aoP, lt_or_ge → aoT, pow_le_pow_right → apE, mul_le_mul_right → apG, two_pow_pos → apR, mul_comm → apU, add_mul → apW, mod_eq_of_lt → apX, add_zero → apY, le_trans → aqC, mul_one → aqK, pow_add → aqN, min_eq_left → aqX, div_div_eq_div_mul → aqY, eq_zero_or_pos → arE, lt_of_lt_of_le → arL, add_assoc → arN, add_sub_cancel → arW, sub_self → asD, sub_zero → asE, zero_mul → asF, div_lt_iff_lt_mul → asG, pow_succ → asH, mul_add → asO, div_le_self → asV, add_sub_cancel_left → asZ, mul_div_cancel_left → atA, lt_trichotomy → atB, zero_le → atD, le_total → atH, pow_dvd_pow → atM
open Option renaming isNone_some → aoF, isNone_none → aoG, map_some → apM
open Option.some renaming inj → apP
open UInt8 renaming toNat_lt → aqU, toNat_ofNat_of_lt' → asW
namespace Go.Proofs.YtoecppploooloaaGreatDoor
open Go Go.En
set_option maxRecDepth 4000
def alO : List Int := [IntKind.u64.wrap (11400714785074694791 + 14029467366897019727), 14029467366897019727, 0, IntKind.u64.wrap (0 - 11400714785074694791)]
def Om (vs : List Int) (s : List UInt8) (i : Nat) : List Int := vs.mapIdx fun j v => if j < i then acD v (EA ((s.drop (8 * j)).take 8)) else v
def Pp : Nat -> List UInt8 -> List Int
 | 0, _ => alO
 | k + 1, L => Om (Pp k L) ((L.drop (32 * k)).take 32) 4
theorem wI (vs : List Int) (s : List UInt8) (i : Nat) : (Om vs s i).length = vs.length := by simp [Om]
theorem Au : ∀ k L, (Pp k L).length = 4
 | 0, _ => rfl
 | k + 1, L => by rw [Pp, wI, Au k L]
theorem abB (vs : List Int) (s : List UInt8) : Om vs s 0 = vs := by
 apply List.ext_getElem
 .simp [Om]
 .intro i h1 h2; simp [Om]
theorem aeM (vs : List Int) (s : List UInt8) (i : Nat) (h : i < vs.length) : (Om vs s i)[i]? = some vs[i] := by
 rw [aoM (by rw [wI]; exact h)]; simp [Om]
theorem adY (vs : List Int) (s : List UInt8) (i : Nat) (h : i < vs.length) : (Om vs s i).set i (acD vs[i] (EA ((s.drop (8 * i)).take 8))) = Om vs s (i + 1) := by
 apply List.ext_getElem
 .simp [Om]
 .intro j h1 h2
  rw [List.getElem_set]
  simp only [Om, List.getElem_mapIdx]
  by_cases hij : i = j
  .subst hij; simp
  .simp only [hij, if_false]
   by_cases hj : j < i
   .rw [if_pos hj, if_pos (by omega)]
   .rw [if_neg hj, if_neg (by omega)]
theorem Uu : ∀ k (L M : List UInt8), 32 * k <= L.length -> Pp k (L ++ M) = Pp k L
 | 0, _, _, _ => rfl
 | k + 1, L, M, h => by
   rw [Pp, Pp, Uu k L M (by omega)]
   congr 1
   rw [arY (by omega), aqS (by rw [apD]; omega)]
def lI (vs : List Int) (kept : List UInt8) (n all : Nat) : List atP := vs.map (Value.int .u64) ++ (kept.map oZ ++ [.int .i64 (n : Int), .int .u64 (all : Int)])
theorem sK {vs : List Int} {kept : List UInt8} {n all : Nat} (h1 : vs.length = 4) (h2 : kept.length = 32) : (lI vs kept n all).length = 38 := by
 simp [lI, h1, h2]
theorem T9 {vs : List Int} {kept : List UInt8} {n all : Nat} (i : Nat) (h : i < vs.length) : (lI vs kept n all)[i]? = some (.int .u64 vs[i]) := by
 unfold lI; rw [aoX (by simpa using h)]; simp [h]
theorem OT {vs : List Int} {kept : List UInt8} {n all : Nat} (h1 : vs.length = 4) (i : Nat) (h : i < kept.length) : (lI vs kept n all)[4 + i]? = some (oZ kept[i]) := by
 unfold lI
 rw [apF (by simp [h1]), aoK, h1, asZ, aoX (by simpa using h)]; simp [h]
theorem Jg {vs : List Int} {kept : List UInt8} {n all : Nat} (h1 : vs.length = 4) (h2 : kept.length = 32) : (lI vs kept n all)[36]? = some (.int .i64 (n : Int)) := by
 unfold lI
 rw [apF (by simp [h1]), aoK, h1, apF (by simp [h2]), aoK, h2] <;> rfl
theorem FZ {vs : List Int} {kept : List UInt8} {n all : Nat} (h1 : vs.length = 4) (h2 : kept.length = 32) : (lI vs kept n all)[37]? = some (.int .u64 (all : Int)) := by
 unfold lI
 rw [apF (by simp [h1]), aoK, h1, apF (by simp [h2]), aoK, h2] <;> rfl
theorem UR {vs : List Int} {kept : List UInt8} {n all : Nat} (i : Nat) (x : Int) (h : i < vs.length) : (lI vs kept n all).set i (.int .u64 x) = lI (vs.set i x) kept n all := by
 unfold lI; rw [arQ _ _ (by simpa using h), asI]
theorem MB {vs : List Int} {kept : List UInt8} {n all : Nat} (h1 : vs.length = 4) (h2 : kept.length = 32) (m : Nat) : (lI vs kept n all).set 36 (.int .i64 (m : Int)) = lI vs kept m all := by
 unfold lI
 rw [aqH _ _ (by simp [h1]), aoK, h1, aqH _ _ (by simp [h2]), aoK, h2] <;> rfl
theorem R1 {vs : List Int} {kept : List UInt8} {n all : Nat} (h1 : vs.length = 4) (h2 : kept.length = 32) (m : Nat) : (lI vs kept n all).set 37 (.int .u64 (m : Int)) = lI vs kept n m := by
 unfold lI
 rw [aqH _ _ (by simp [h1]), aoK, h1, aqH _ _ (by simp [h2]), aoK, h2] <;> rfl
def Mk (l : List UInt8) (o : Nat) (x : List UInt8) : List UInt8 := l.take o ++ x ++ l.drop (o + x.length)
theorem V5 {l : List UInt8} {o : Nat} {x : List UInt8} (h : o + x.length <= l.length) : (Mk l o x).length = l.length := by
 simp [Mk]; omega
theorem aaK {l : List UInt8} {o : Nat} {c : UInt8} {x : List UInt8} (h : o + (x.length + 1) <= l.length) : Mk (l.set o c) (o + 1) x = Mk l o (c :: x) := by
 unfold Mk
 rw [List.take_set, List.drop_set_of_lt (by omega)]
 have e : (l.take (o + 1)).set o c = l.take o ++ [c] := by
  rw [List.take_succ_eq_append_getElem (by omega), aqH _ _ (by simp; omega)]
  simp only [apA]
  rw [show o - min o l.length = 0 from by omega] <;> rfl
 rw [e]
 simp only [apK, List.singleton_append, aoV, arB, aqA]
 rw [show o + 1 + x.length = o + (x.length + 1) from by omega]
theorem VN {vs : List Int} {n all : Nat} (h1 : vs.length = 4) : ∀ (x kept : List UInt8) (o : Nat), o + x.length <= kept.length →
 qL (lI vs kept n all) (4 + o) (x.map oZ) = lI vs (Mk kept o x) n all := by
 intro x
 induction x with
 | nil => intro kept o _; simp [qL, Mk]
 | cons c x ih =>
   intro kept o h
   rw [aoV] at h
   have e : (lI vs kept n all).set (4 + o) (oZ c) = lI vs (kept.set o c) n all := by
    unfold lI
    rw [aqH _ _ (by simp [h1]), aoK, h1, asZ, arQ _ _ (by simp; omega), asI]
   rw [apJ, qL, e, arN, ih _ _ (by simp; omega), aaK (by omega)]
def aaF (w : atO) (b : Nat) (L : List UInt8) (all : Nat) : Prop :=
 ∃ kept, kept.length = 32 /\ kept.take (L.length % 32) = L.drop (32 * (L.length / 32)) /\ mQ w b (lI (Pp (L.length / 32) L) kept (L.length % 32) all)
abbrev TS (w : atO) (b : Nat) (L : List UInt8) : Prop := aaF w b L L.length
theorem aiF (w : atO) : jD pg Pb #[] w (fun v w' => v = .pointer (some ⟨w.heap.size, 0, none⟩) /\ TS w' w.heap.size [] /\ jM w w' mN) := by
 refine Xj ?_
 simp (disch := omega) only [aaJ, QF, gE, jE, cS, stepR_skip, hO, iA, iO, iM, iJ, iL, jH, iT, gL, iD, iF, iC, iH, hJ, iN, hU, iE, iR, iS, iI, gQ, iQ, iP, iG, kR, kQ, lE, lH, lG, lD, lF, lC, lB, gB, Result.ok.injEq, Next.value.injEq, true_and, and_true, gY, hZ, iV, iW, iU, jG, aoE, gV, gU, gX, gT, gM, gI, gN, gK, fZ, fU, if_true, if_false, aoD, aoH, aoF, aoG, aoJ, aoI, aoC, aoB, fM, fK, eZ, fQ, cU, eQ, eE, dJ, bO, fR, eS, aQ, cY, bF, bP, bJ, aI, cP, cB, eP, aF, gR, aK, cJ, aS, bS, fS, cC, cD, aB, gC, fC, aJ, aD, bH, gO, aP, eU, dT, dV, gG, dH, fH, dB, eH, eT, fD, cF, dF, gJ, dQ, cH, bA, bZ, cG, fP, aE, aG, aO, aV, bD, cL, bN, aA, fE, aM, cO, fI, eY, gH, bK, eK, eL, bW, fW, fF, eJ, dD, cR, dG, aW, bB, aH, gA, aL, dC, dW, aX, cI, fJ, dK, gD, fL, fA, fB, dP, aN, bX, dE, fY, fX, fG, dI, aT, dZ, fT, cQ, eX, fN, bY, bL, dU, aZ, dY, dO, cK, eI, eM, aY, dA, bE, dN, dS, dR, bM, cN, cM, dM, bR, cW, cV, fO, bV, eF, eN, gF, dX, eD, dL, cZ, bG, bQ, bT, bU, aR, cX, aU]
 refine Cc fun w1 o1 x1 s1 => ⟨rfl, ⟨List.replicate 32 0, rfl, rfl, ?_⟩, x1⟩
 exact o1
theorem S0 {w : atO} {b : Nat} {cs : List atP} (h : mQ w b cs) : mQ (dr w) b cs := h.ext (jM.dr w mN) (fun h => h)
theorem W0 (w0 : atO) (b : Nat) (vs : List Int) (kept : List UInt8) (all : Nat) (h1 : vs.length = 4) (h2 : kept.length = 32) (v : atP) (R : atP -> atP -> atO -> Prop)
 (hR : ∀ w', mQ w' b (lI (Om vs kept 4) kept 32 all) -> jM w0 w' (fun x => x = b) -> R (.pointer (some ⟨b, 0, none⟩)) v w') (w : atO) (ho : mQ w b (lI vs kept 32 all)) (hx : jM w0 w (fun x => x = b)) :
 Ab R (.pointer (some ⟨b, 0, none⟩)) v w := by
 simp (disch := omega) only [Ab, Eh, DI, Df]
 refine kE.rule (fun n t w' => ∃ i : Nat, i <= 4 /\ n = 4 - i /\ t = .int .i64 (i : Int) /\ mQ w' b (lI (Om vs kept i) kept 32 all) /\ jM w0 w' (fun x => x = b)) 4
  ⟨0, by omega, rfl, rfl, by rw [abB]; exact ho, hx⟩ ?_
 rintro n t w' ⟨i, hi, rfl, rfl, ho, hx⟩
 by_cases hlt : i < 4
 .have hd : decide ((i : Int) < 4) = true := by simp; omega
  have hod := S0 ho
  have hv := aeM vs kept i (by omega)
  have hc : (lI (Om vs kept i) kept 32 all)[i]? = some (.int .u64 vs[i]) := by
   rw [T9 i (by rw [wI]; omega)]
   rw [aoM (by rw [wI]; omega)] at hv
   rw [apP hv]
  have t1 : (8 * (i : Int)).toNat = 8 * i := by omega
  have t2 : (8 * (i : Int) + 8).toNat = 8 * i + 8 := by omega
  simp (disch := omega) only [tR, gE, jE, cS, stepR_skip, hO, iA, iO, iM, iJ, iL, jH, iT, gL, iD, iF, iC, iH, hJ, iN, hU, iE, iR, iS, iI, gQ, iQ, iP, iG, kR, kQ, lE, lH, lG, lD, lF, lC, lB, gB, Result.ok.injEq, Next.value.injEq, true_and, and_true, gY, hZ, iV, iW, iU, jG, aoE, gV, gU, gX, gT, gM, gI, gN, gK, fZ, fU, if_true, if_false, aoD, aoH, aoF, aoG, aoJ, aoI, aoC, aoB, fM, fK, eZ, fQ, cU, eQ, eE, dJ, bO, fR, eS, aQ, cY, bF, bP, bJ, aI, cP, cB, eP, aF, gR, aK, cJ, aS, bS, fS, cC, cD, aB, gC, fC, aJ, aD, bH, gO, aP, eU, dT, dV, gG, dH, fH, dB, eH, eT, fD, cF, dF, gJ, dQ, cH, bA, bZ, cG, fP, aE, aG, aO, aV, bD, cL, bN, aA, fE, aM, cO, fI, eY, gH, bK, eK, eL, bW, fW, fF, eJ, dD, cR, dG, aW, bB, aH, gA, aL, dC, dW, aX, cI, fJ, dK, gD, fL, fA, fB, dP, aN, bX, dE, fY, fX, fG, dI, aT, dZ, fT, cQ, eX, fN, bY, bL, dU, aZ, dY, dO, cK, eI, eM, aY, dA, bE, dN, dS, dR, bM, cN, cM, dM, bR, cW, cV, fO, bV, eF, eN, gF, dX, eD, dL, cZ, bG, bQ, bT, bU, aR, cX, aU, hd, hod.cell, hc, t1, t2, QD (show 8 * i ≠ 32 by omega)]
  have hs : ((kept.drop (8 * i)).take 8).length = 8 := by rw [apA, apD]; omega
  have hbs : Bs (dr w') (.slice (some ⟨b, 4 + 8 * i, none⟩) (8 * i + 8 - 8 * i) (32 - 8 * i)) ((kept.drop (8 * i)).take 8) := by
   rw [show 8 * i + 8 - 8 * i = ((kept.drop (8 * i)).take 8).length from by omega]
   refine hod.bs (by omega) fun j hj => ?_
   rw [arN, OT (by rw [wI]; exact h1) (8 * i + j) (by omega)]
   simp
  refine (QL _ _ _ hbs (by omega)).mono ?_
  rintro r w1 ⟨rfl, rfl⟩
  simp (disch := omega) only [gE, jE, cS, stepR_skip, hO, iA, iO, iM, iJ, iL, jH, iT, gL, iD, iF, iC, iH, hJ, iN, hU, iE, iR, iS, iI, gQ, iQ, iP, iG, kR, kQ, lE, lH, lG, lD, lF, lC, lB, gB, Result.ok.injEq, Next.value.injEq, true_and, and_true, gY, hZ, iV, iW, iU, jG, aoE, gV, gU, gX, gT, gM, gI, gN, gK, fZ, fU, if_true, if_false, aoD, aoH, aoF, aoG, aoJ, aoI, aoC, aoB, fM, fK, eZ, fQ, cU, eQ, eE, dJ, bO, fR, eS, aQ, cY, bF, bP, bJ, aI, cP, cB, eP, aF, gR, aK, cJ, aS, bS, fS, cC, cD, aB, gC, fC, aJ, aD, bH, gO, aP, eU, dT, dV, gG, dH, fH, dB, eH, eT, fD, cF, dF, gJ, dQ, cH, bA, bZ, cG, fP, aE, aG, aO, aV, bD, cL, bN, aA, fE, aM, cO, fI, eY, gH, bK, eK, eL, bW, fW, fF, eJ, dD, cR, dG, aW, bB, aH, gA, aL, dC, dW, aX, cI, fJ, dK, gD, fL, fA, fB, dP, aN, bX, dE, fY, fX, fG, dI, aT, dZ, fT, cQ, eX, fN, bY, bL, dU, aZ, dY, dO, cK, eI, eM, aY, dA, bE, dN, dS, dR, bM, cN, cM, dM, bR, cW, cV, fO, bV, eF, eN, gF, dX, eD, dL, cZ, bG, bQ, bT, bU, aR, cX, aU, hod.cell, hc]
  refine (Ts _ _ _).mono ?_
  rintro r w1 ⟨rfl, rfl⟩
  refine Wt hod rfl (by rw [sK (by rw [wI]; exact h1) h2]; omega) fun w2 o2 x2 s2 => ?_
  rw [UR i _ (by rw [wI]; omega), adY vs kept i (by omega)] at o2
  exact ⟨4 - (i + 1), by omega, i + 1, by omega, rfl, rfl, o2, (hx.seq (jM.dr _ _)).seq x2⟩
 .have : i = 4 := by omega
  subst this
  have hd : decide (((4 : Nat) : Int) < 4) = false := by simp
  simp (disch := omega) only [tR, gE, jE, cS, stepR_skip, hO, iA, iO, iM, iJ, iL, jH, iT, gL, iD, iF, iC, iH, hJ, iN, hU, iE, iR, iS, iI, gQ, iQ, iP, iG, kR, kQ, lE, lH, lG, lD, lF, lC, lB, gB, Result.ok.injEq, Next.value.injEq, true_and, and_true, gY, hZ, iV, iW, iU, jG, aoE, gV, gU, gX, gT, gM, gI, gN, gK, fZ, fU, if_true, if_false, aoD, aoH, aoF, aoG, aoJ, aoI, aoC, aoB, fM, fK, eZ, fQ, cU, eQ, eE, dJ, bO, fR, eS, aQ, cY, bF, bP, bJ, aI, cP, cB, eP, aF, gR, aK, cJ, aS, bS, fS, cC, cD, aB, gC, fC, aJ, aD, bH, gO, aP, eU, dT, dV, gG, dH, fH, dB, eH, eT, fD, cF, dF, gJ, dQ, cH, bA, bZ, cG, fP, aE, aG, aO, aV, bD, cL, bN, aA, fE, aM, cO, fI, eY, gH, bK, eK, eL, bW, fW, fF, eJ, dD, cR, dG, aW, bB, aH, gA, aL, dC, dW, aX, cI, fJ, dK, gD, fL, fA, fB, dP, aN, bX, dE, fY, fX, fG, dI, aT, dZ, fT, cQ, eX, fN, bY, bL, dU, aZ, dY, dO, cK, eI, eM, aY, dA, bE, dN, dS, dR, bM, cN, cM, dM, bR, cW, cV, fO, bV, eF, eN, gF, dX, eD, dL, cZ, bG, bQ, bT, bU, aR, cX, aU, hd]
  exact hR _ ho hx
theorem Xs (w0 : atO) (b : Nat) (L l : List UInt8) (_hlen : L.length + l.length <= 1099511627776) (R : atO -> Prop)
 (hR : ∀ w', aaF w' b (L ++ l) (L.length + l.length) -> jM w0 w' (fun x => x = b) -> R w') (v : atP) (w : atO)
 (h : aaF w b L (L.length + l.length)) (hv : Bs w v l) (hb : ¬ Lf v (fun x => x = b)) (hx : jM w0 w (fun x => x = b)) :
 xD R (.pointer (some ⟨b, 0, none⟩)) v w := by
 unfold xD
 refine kE.rule (fun n t w' => ∃ m : Nat, m <= l.length /\ n = l.length - m /\ Bs w' t (l.drop m) /\ ¬ Lf t (fun x => x = b) /\ aaF w' b (L ++ l.take m) (L.length + l.length) /\ jM w0 w' (fun x => x = b)) l.length
  ⟨0, by omega, rfl, hv, hb, by simpa using h, hx⟩ ?_
 rintro n t w' ⟨m, hm, rfl, hv, hb, ⟨kept, h2, hk, ho⟩, hx⟩
 have hv' := hv
 obtain ⟨a, n, c, rfl, hn, hc, hcell⟩ := hv'
 rw [aoK, apD] at hn
 by_cases hlt : m < l.length
 .obtain ⟨b', o', rfl, hcell'⟩ := hcell (by omega)
  have hd : decide ((0 : Int) < (n : Int)) = true := by simp; omega
  have hM : (L ++ l.take m).length = L.length + m := by simp; omega
  rw [hM] at hk ho
  obtain ⟨q, hq⟩ : ∃ q, q = (L.length + m) / 32 := ⟨_, rfl⟩
  obtain ⟨r, hr⟩ : ∃ r, r = (L.length + m) % 32 := ⟨_, rfl⟩
  rw [<- hq, <- hr] at hk ho
  have hqr : L.length + m = 32 * q + r /\ r < 32 := by omega
  have h1 : (Pp q (L ++ l.take m)).length = 4 := Au _ _
  have hod := S0 ho
  have t1 : (r : Int).toNat = r := by omega
  simp (disch := omega) only [qR, sV, sR, wT, sN, tS, uG, zF, rJ, gE, jE, cS, stepR_skip, hO, iA, iO, iM, iJ, iL, jH, iT, gL, iD, iF, iC, iH, hJ, iN, hU, iE, iR, iS, iI, gQ, iQ, iP, iG, kR, kQ, lE, lH, lG, lD, lF, lC, lB, gB, Result.ok.injEq, Next.value.injEq, true_and, and_true, gY, hZ, iV, iW, iU, jG, aoE, gV, gU, gX, gT, gM, gI, gN, gK, fZ, fU, if_true, if_false, aoD, aoH, aoF, aoG, aoJ, aoI, aoC, aoB, fM, fK, eZ, fQ, cU, eQ, eE, dJ, bO, fR, eS, aQ, cY, bF, bP, bJ, aI, cP, cB, eP, aF, gR, aK, cJ, aS, bS, fS, cC, cD, aB, gC, fC, aJ, aD, bH, gO, aP, eU, dT, dV, gG, dH, fH, dB, eH, eT, fD, cF, dF, gJ, dQ, cH, bA, bZ, cG, fP, aE, aG, aO, aV, bD, cL, bN, aA, fE, aM, cO, fI, eY, gH, bK, eK, eL, bW, fW, fF, eJ, dD, cR, dG, aW, bB, aH, gA, aL, dC, dW, aX, cI, fJ, dK, gD, fL, fA, fB, dP, aN, bX, dE, fY, fX, fG, dI, aT, dZ, fT, cQ, eX, fN, bY, bL, dU, aZ, dY, dO, cK, eI, eM, aY, dA, bE, dN, dS, dR, bM, cN, cM, dM, bR, cW, cV, fO, bV, eF, eN, gF, dX, eD, dL, cZ, bG, bQ, bT, bU, aR, cX, aU, hd, hod.cell, Jg h1 h2, QD (show r ≠ 32 by omega)]
  have hvd : Bs (dr w') (.slice (some ⟨b', o', none⟩) n c) (l.drop m) := hv.ext (jM.dr w' mN) (by unfold Lf mN; split <;> simp)
  refine X1 hod (by rw [sK h1 h2]; omega) hvd (DA _) fun w1 o1 x1 s1 => ?_
  obtain ⟨u, hu⟩ : ∃ u, u = min n (32 - r) := ⟨_, rfl⟩
  have hlm : (List.map oZ (l.drop m)).length = n := by rw [aoK, apD, hn]
  rw [hlm] at o1 ⊢
  rw [<- hu] at o1 ⊢
  have hu1 : u <= n /\ u <= 32 - r /\ (u = n ∨ u = 32 - r) := by omega
  have hul : ((l.drop m).take u).length = u := by rw [apA, apD]; omega
  rw [<- asN, VN h1 _ _ _ (by omega)] at o1
  obtain ⟨kept1, hk1⟩ : ∃ x, x = Mk kept r ((l.drop m).take u) := ⟨_, rfl⟩
  rw [<- hk1] at o1
  have h21 : kept1.length = 32 := by rw [hk1, V5 (by omega)]; exact h2
  simp (disch := omega) only [gE, jE, cS, stepR_skip, hO, iA, iO, iM, iJ, iL, jH, iT, gL, iD, iF, iC, iH, hJ, iN, hU, iE, iR, iS, iI, gQ, iQ, iP, iG, kR, kQ, lE, lH, lG, lD, lF, lC, lB, gB, Result.ok.injEq, Next.value.injEq, true_and, and_true, gY, hZ, iV, iW, iU, jG, aoE, gV, gU, gX, gT, gM, gI, gN, gK, fZ, fU, if_true, if_false, aoD, aoH, aoF, aoG, aoJ, aoI, aoC, aoB, fM, fK, eZ, fQ, cU, eQ, eE, dJ, bO, fR, eS, aQ, cY, bF, bP, bJ, aI, cP, cB, eP, aF, gR, aK, cJ, aS, bS, fS, cC, cD, aB, gC, fC, aJ, aD, bH, gO, aP, eU, dT, dV, gG, dH, fH, dB, eH, eT, fD, cF, dF, gJ, dQ, cH, bA, bZ, cG, fP, aE, aG, aO, aV, bD, cL, bN, aA, fE, aM, cO, fI, eY, gH, bK, eK, eL, bW, fW, fF, eJ, dD, cR, dG, aW, bB, aH, gA, aL, dC, dW, aX, cI, fJ, dK, gD, fL, fA, fB, dP, aN, bX, dE, fY, fX, fG, dI, aT, dZ, fT, cQ, eX, fN, bY, bL, dU, aZ, dY, dO, cK, eI, eM, aY, dA, bE, dN, dS, dR, bM, cN, cM, dM, bR, cW, cV, fO, bV, eF, eN, gF, dX, eD, dL, cZ, bG, bQ, bT, bU, aR, cX, aU, o1.cell, Jg h1 h21]
  refine Lt o1 rfl (by rw [sK h1 h21]; omega) fun w2 o2 x2 s2 => ?_
  rw [<- Int.natCast_add, MB h1 h21] at o2
  have hx2 : jM w' w2 (fun x => x = b) := ((jM.dr w' _).seq x1).seq x2
  have hv2 := hv.ext hx2 hb
  have hv3 := hv2.drop hu1.1
  have hb3 := aaO (k := u) hb (by omega) (n - u)
  rw [<- List.map_drop, arR] at hv3
  have hM2 : L ++ l.take (m + u) = (L ++ l.take m) ++ (l.drop m).take u := by rw [apK, List.take_add]
  have hacc : Pp q (L ++ l.take (m + u)) = Pp q (L ++ l.take m) := by rw [hM2]; exact Uu _ _ _ (by omega)
  have hlen2 : (L ++ l.take (m + u)).length = L.length + (m + u) := by simp; omega
  have hkeep : kept1.take (r + u) = (L ++ l.take (m + u)).drop (32 * q) := by
   rw [hk1, hM2, arY (by omega), <- hk]
   unfold Mk
   rw [aqS (by simp; omega), aoU (by simp; omega)]
  rw [<- hacc] at o2
  simp (disch := omega) only [gE, jE, cS, stepR_skip, hO, iA, iO, iM, iJ, iL, jH, iT, gL, iD, iF, iC, iH, hJ, iN, hU, iE, iR, iS, iI, gQ, iQ, iP, iG, kR, kQ, lE, lH, lG, lD, lF, lC, lB, gB, Result.ok.injEq, Next.value.injEq, true_and, and_true, gY, hZ, iV, iW, iU, jG, aoE, gV, gU, gX, gT, gM, gI, gN, gK, fZ, fU, if_true, if_false, aoD, aoH, aoF, aoG, aoJ, aoI, aoC, aoB, fM, fK, eZ, fQ, cU, eQ, eE, dJ, bO, fR, eS, aQ, cY, bF, bP, bJ, aI, cP, cB, eP, aF, gR, aK, cJ, aS, bS, fS, cC, cD, aB, gC, fC, aJ, aD, bH, gO, aP, eU, dT, dV, gG, dH, fH, dB, eH, eT, fD, cF, dF, gJ, dQ, cH, bA, bZ, cG, fP, aE, aG, aO, aV, bD, cL, bN, aA, fE, aM, cO, fI, eY, gH, bK, eK, eL, bW, fW, fF, eJ, dD, cR, dG, aW, bB, aH, gA, aL, dC, dW, aX, cI, fJ, dK, gD, fL, fA, fB, dP, aN, bX, dE, fY, fX, fG, dI, aT, dZ, fT, cQ, eX, fN, bY, bL, dU, aZ, dY, dO, cK, eI, eM, aY, dA, bE, dN, dS, dR, bM, cN, cM, dM, bR, cW, cV, fO, bV, eF, eN, gF, dX, eD, dL, cZ, bG, bQ, bT, bU, aR, cX, aU, o2.cell, Jg (Au _ _) h21]
  by_cases hfull : r + u = 32
  .have he : (((r + u : Nat) : Int) == 32) = true := by rw [hfull] <;> rfl
   rw [he]
   simp (disch := omega) only [gE, jE, cS, stepR_skip, hO, iA, iO, iM, iJ, iL, jH, iT, gL, iD, iF, iC, iH, hJ, iN, hU, iE, iR, iS, iI, gQ, iQ, iP, iG, kR, kQ, lE, lH, lG, lD, lF, lC, lB, gB, Result.ok.injEq, Next.value.injEq, true_and, and_true, gY, hZ, iV, iW, iU, jG, aoE, gV, gU, gX, gT, gM, gI, gN, gK, fZ, fU, if_true, if_false, aoD, aoH, aoF, aoG, aoJ, aoI, aoC, aoB, fM, fK, eZ, fQ, cU, eQ, eE, dJ, bO, fR, eS, aQ, cY, bF, bP, bJ, aI, cP, cB, eP, aF, gR, aK, cJ, aS, bS, fS, cC, cD, aB, gC, fC, aJ, aD, bH, gO, aP, eU, dT, dV, gG, dH, fH, dB, eH, eT, fD, cF, dF, gJ, dQ, cH, bA, bZ, cG, fP, aE, aG, aO, aV, bD, cL, bN, aA, fE, aM, cO, fI, eY, gH, bK, eK, eL, bW, fW, fF, eJ, dD, cR, dG, aW, bB, aH, gA, aL, dC, dW, aX, cI, fJ, dK, gD, fL, fA, fB, dP, aN, bX, dE, fY, fX, fG, dI, aT, dZ, fT, cQ, eX, fN, bY, bL, dU, aZ, dY, dO, cK, eI, eM, aY, dA, bE, dN, dS, dR, bM, cN, cM, dM, bR, cW, cV, fO, bV, eF, eN, gF, dX, eD, dL, cZ, bG, bQ, bT, bU, aR, cX, aU]
   rw [hfull] at o2 hkeep
   have h11 := Au q (L ++ l.take (m + u))
   refine W0 w2 b _ kept1 _ h11 h21 _ _ (fun w3 o3 x3 => ?_) w2 o2 (jM.refl _ _)
   have h13 : (Om (Pp q (L ++ l.take (m + u))) kept1 4).length = 4 := by rw [wI]; exact h11
   simp (disch := omega) only [qR, sV, sR, wT, sN, tS, uG, zF, rJ, gE, jE, cS, stepR_skip, hO, iA, iO, iM, iJ, iL, jH, iT, gL, iD, iF, iC, iH, hJ, iN, hU, iE, iR, iS, iI, gQ, iQ, iP, iG, kR, kQ, lE, lH, lG, lD, lF, lC, lB, gB, Result.ok.injEq, Next.value.injEq, true_and, and_true, gY, hZ, iV, iW, iU, jG, aoE, gV, gU, gX, gT, gM, gI, gN, gK, fZ, fU, if_true, if_false, aoD, aoH, aoF, aoG, aoJ, aoI, aoC, aoB, fM, fK, eZ, fQ, cU, eQ, eE, dJ, bO, fR, eS, aQ, cY, bF, bP, bJ, aI, cP, cB, eP, aF, gR, aK, cJ, aS, bS, fS, cC, cD, aB, gC, fC, aJ, aD, bH, gO, aP, eU, dT, dV, gG, dH, fH, dB, eH, eT, fD, cF, dF, gJ, dQ, cH, bA, bZ, cG, fP, aE, aG, aO, aV, bD, cL, bN, aA, fE, aM, cO, fI, eY, gH, bK, eK, eL, bW, fW, fF, eJ, dD, cR, dG, aW, bB, aH, gA, aL, dC, dW, aX, cI, fJ, dK, gD, fL, fA, fB, dP, aN, bX, dE, fY, fX, fG, dI, aT, dZ, fT, cQ, eX, fN, bY, bL, dU, aZ, dY, dO, cK, eI, eM, aY, dA, bE, dN, dS, dR, bM, cN, cM, dM, bR, cW, cV, fO, bV, eF, eN, gF, dX, eD, dL, cZ, bG, bQ, bT, bU, aR, cX, aU]
   refine Lt o3 rfl (by rw [sK h13 h21]; omega) fun w4 o4 x4 s4 => ?_
   have o4 : mQ w4 b ((lI (Om (Pp q (L ++ l.take (m + u))) kept1 4) kept1 32 (L.length + l.length)).set 36 (.int .i64 ((0 : Nat) : Int))) := o4
   rw [MB h13 h21] at o4
   have hx4 := x3.seq x4
   have hkk : kept1 = (L ++ l.take (m + u)).drop (32 * q) := by rw [<- hkeep, aoU (by omega)]
   refine ⟨l.length - (m + u), by omega, m + u, by omega, rfl, hv3.ext hx4 hb3, hb3, ⟨kept1, h21, ?_, ?_⟩, (hx.seq hx2).seq hx4⟩
   .have z : (L ++ l.take (m + u)).drop (32 * ((L.length + (m + u)) / 32)) = [] := arX (by rw [hlen2]; omega)
    have z1 : (L.length + (m + u)) % 32 = 0 := by omega
    rw [hlen2, z, z1] <;> rfl
   .have z1 : (L.length + (m + u)) % 32 = 0 := by omega
    have z2 : (L.length + (m + u)) / 32 = q + 1 := by omega
    have z3 : kept1.take 32 = kept1 := aoU (by omega)
    rw [hlen2, z1, z2, Pp, <- hkk, z3]
    exact o4
  .have he : (((r + u : Nat) : Int) == 32) = false := by rw [beq_eq_false_iff_ne]; omega
   rw [he]
   simp (disch := omega) only [gE, jE, cS, stepR_skip, hO, iA, iO, iM, iJ, iL, jH, iT, gL, iD, iF, iC, iH, hJ, iN, hU, iE, iR, iS, iI, gQ, iQ, iP, iG, kR, kQ, lE, lH, lG, lD, lF, lC, lB, gB, Result.ok.injEq, Next.value.injEq, true_and, and_true, gY, hZ, iV, iW, iU, jG, aoE, gV, gU, gX, gT, gM, gI, gN, gK, fZ, fU, if_true, if_false, aoD, aoH, aoF, aoG, aoJ, aoI, aoC, aoB, fM, fK, eZ, fQ, cU, eQ, eE, dJ, bO, fR, eS, aQ, cY, bF, bP, bJ, aI, cP, cB, eP, aF, gR, aK, cJ, aS, bS, fS, cC, cD, aB, gC, fC, aJ, aD, bH, gO, aP, eU, dT, dV, gG, dH, fH, dB, eH, eT, fD, cF, dF, gJ, dQ, cH, bA, bZ, cG, fP, aE, aG, aO, aV, bD, cL, bN, aA, fE, aM, cO, fI, eY, gH, bK, eK, eL, bW, fW, fF, eJ, dD, cR, dG, aW, bB, aH, gA, aL, dC, dW, aX, cI, fJ, dK, gD, fL, fA, fB, dP, aN, bX, dE, fY, fX, fG, dI, aT, dZ, fT, cQ, eX, fN, bY, bL, dU, aZ, dY, dO, cK, eI, eM, aY, dA, bE, dN, dS, dR, bM, cN, cM, dM, bR, cW, cV, fO, bV, eF, eN, gF, dX, eD, dL, cZ, bG, bQ, bT, bU, aR, cX, aU]
   refine ⟨l.length - (m + u), by omega, m + u, by omega, rfl, hv3, hb3, ⟨kept1, h21, ?_, ?_⟩, hx.seq hx2⟩
   .rw [hlen2, show (L.length + (m + u)) % 32 = r + u from by omega, show (L.length + (m + u)) / 32 = q from by omega]; exact hkeep
   .rw [hlen2, show (L.length + (m + u)) % 32 = r + u from by omega, show (L.length + (m + u)) / 32 = q from by omega]; exact o2
 .have hd : decide ((0 : Int) < (n : Int)) = false := by simp; omega
  simp (disch := omega) only [qR, sV, sR, wT, sN, tS, uG, zF, rJ, gE, jE, cS, stepR_skip, hO, iA, iO, iM, iJ, iL, jH, iT, gL, iD, iF, iC, iH, hJ, iN, hU, iE, iR, iS, iI, gQ, iQ, iP, iG, kR, kQ, lE, lH, lG, lD, lF, lC, lB, gB, Result.ok.injEq, Next.value.injEq, true_and, and_true, gY, hZ, iV, iW, iU, jG, aoE, gV, gU, gX, gT, gM, gI, gN, gK, fZ, fU, if_true, if_false, aoD, aoH, aoF, aoG, aoJ, aoI, aoC, aoB, fM, fK, eZ, fQ, cU, eQ, eE, dJ, bO, fR, eS, aQ, cY, bF, bP, bJ, aI, cP, cB, eP, aF, gR, aK, cJ, aS, bS, fS, cC, cD, aB, gC, fC, aJ, aD, bH, gO, aP, eU, dT, dV, gG, dH, fH, dB, eH, eT, fD, cF, dF, gJ, dQ, cH, bA, bZ, cG, fP, aE, aG, aO, aV, bD, cL, bN, aA, fE, aM, cO, fI, eY, gH, bK, eK, eL, bW, fW, fF, eJ, dD, cR, dG, aW, bB, aH, gA, aL, dC, dW, aX, cI, fJ, dK, gD, fL, fA, fB, dP, aN, bX, dE, fY, fX, fG, dI, aT, dZ, fT, cQ, eX, fN, bY, bL, dU, aZ, dY, dO, cK, eI, eM, aY, dA, bE, dN, dS, dR, bM, cN, cM, dM, bR, cW, cV, fO, bV, eF, eN, gF, dX, eD, dL, cZ, bG, bQ, bT, bU, aR, cX, aU, hd]
  refine hR _ ⟨kept, h2, ?_, ?_⟩ hx
  .have e : l.take m = l := aoU (by omega)
   rw [e] at hk; exact hk
  .have e : l.take m = l := aoU (by omega)
   rw [e] at ho; exact ho
theorem acC (b : Nat) (L l : List UInt8) (hlen : L.length + l.length <= 1099511627776) (v : atP) (w : atO) (h : TS w b L) (hv : Bs w v l) (hb : ¬ Lf v (fun x => x = b)) :
 jD pg AG #[.pointer (some ⟨b, 0, none⟩), v] w (fun r w' => r = .tuple #[] /\ TS w' b (L ++ l) /\ jM w w' (fun x => x = b)) := by
 refine PV ?_
 obtain ⟨kept, h2, hk, ho⟩ := h
 have h1 := Au (L.length / 32) L
 have hv' := hv
 obtain ⟨a, n, c, rfl, hn, hc, hcell⟩ := hv'
 rw [aoK] at hn
 simp (disch := omega) only [OL, CL, CI, Ct, gE, jE, cS, stepR_skip, hO, iA, iO, iM, iJ, iL, jH, iT, gL, iD, iF, iC, iH, hJ, iN, hU, iE, iR, iS, iI, gQ, iQ, iP, iG, kR, kQ, lE, lH, lG, lD, lF, lC, lB, gB, Result.ok.injEq, Next.value.injEq, true_and, and_true, gY, hZ, iV, iW, iU, jG, aoE, gV, gU, gX, gT, gM, gI, gN, gK, fZ, fU, if_true, if_false, aoD, aoH, aoF, aoG, aoJ, aoI, aoC, aoB, fM, fK, eZ, fQ, cU, eQ, eE, dJ, bO, fR, eS, aQ, cY, bF, bP, bJ, aI, cP, cB, eP, aF, gR, aK, cJ, aS, bS, fS, cC, cD, aB, gC, fC, aJ, aD, bH, gO, aP, eU, dT, dV, gG, dH, fH, dB, eH, eT, fD, cF, dF, gJ, dQ, cH, bA, bZ, cG, fP, aE, aG, aO, aV, bD, cL, bN, aA, fE, aM, cO, fI, eY, gH, bK, eK, eL, bW, fW, fF, eJ, dD, cR, dG, aW, bB, aH, gA, aL, dC, dW, aX, cI, fJ, dK, gD, fL, fA, fB, dP, aN, bX, dE, fY, fX, fG, dI, aT, dZ, fT, cQ, eX, fN, bY, bL, dU, aZ, dY, dO, cK, eI, eM, aY, dA, bE, dN, dS, dR, bM, cN, cM, dM, bR, cW, cV, fO, bV, eF, eN, gF, dX, eD, dL, cZ, bG, bQ, bT, bU, aR, cX, aU, ho.cell, FZ h1 h2]
 refine Wt ho rfl (by rw [sK h1 h2]; omega) fun w1 o1 x1 s1 => ?_
 rw [<- Int.natCast_add, hn, R1 h1 h2] at o1
 refine Xs w b L l hlen _ (fun w' hh hx => ⟨?_, hx⟩) _ w1 ⟨kept, h2, hk, o1⟩ (hv.ext x1 hb) hb x1
 unfold TS; rw [aoL]; exact hh
def jA (vs : List Int) : Nat -> Int
 | 0 => 0
 | i + 1 => IntKind.u64.wrap (jA vs i + Zu (vs.getD i 0) ([1, 7, 12, 18].getD i 0))
def jB (vs : List Int) : Nat -> Int
 | 0 => jA vs 4
 | i + 1 => IntKind.u64.wrap (IntKind.u64.wrap (QT .u64 (jB vs i) (acD 0 (vs.getD i 0)) * 11400714785074694791) + 9650029242287828579)
def XZ (L : List UInt8) : Int := if L.length < 32 then 2870177450012600261 else jB (Pp (L.length / 32) L) 4
def aeN (x : Int) : Int :=
 let y1 := IntKind.u64.wrap (QT .u64 x (x.fdiv (2 ^ min (33 : Int).toNat IntKind.u64.bits)) * 14029467366897019727)
 let y2 := IntKind.u64.wrap (QT .u64 y1 (y1.fdiv (2 ^ min (29 : Int).toNat IntKind.u64.bits)) * 1609587929392839161)
 QT .u64 y2 (y2.fdiv (2 ^ min (32 : Int).toNat IntKind.u64.bits))
def ZZ (x m : Int) : Int := IntKind.u64.wrap (IntKind.u64.wrap (Zu (QT .u64 x (acD 0 m)) 27 * 11400714785074694791) + 9650029242287828579)
def aiY (x m : Int) : Int := IntKind.u64.wrap (IntKind.u64.wrap (Zu (QT .u64 x (IntKind.u64.wrap (m * 11400714785074694791))) 23 * 14029467366897019727) + 1609587929392839161)
def akZ (x : Int) (c : UInt8) : Int := IntKind.u64.wrap (Zu (QT .u64 x (IntKind.u64.wrap ((c.toNat : Int) * 2870177450012600261))) 11 * 11400714785074694791)
def e8 (x : Int) (B : List UInt8) : Nat -> Int
 | 0 => x
 | j + 1 => ZZ (e8 x B j) (EA ((B.drop (8 * j)).take 8))
def e1 (x : Int) (B : List UInt8) : Nat -> Int
 | 0 => x
 | j + 1 => akZ (e1 x B j) (B.getD j 0)
def Tp (x : Int) (C : List UInt8) : Int × List UInt8 := if 4 <= C.length then (aiY x (EA (C.take 4)), C.drop 4) else (x, C)
def aeL (x : Int) (B : List UInt8) : Int :=
 let r := Tp (e8 x B (B.length / 8)) (B.drop (8 * (B.length / 8)))
 e1 r.1 r.2 r.2.length
def XXH (L : List UInt8) : Int := aeN (aeL (IntKind.u64.wrap (XZ L + (L.length : Int))) (L.drop (32 * (L.length / 32))))
theorem Y5 (b : Nat) (L : List UInt8) (hlen : L.length <= 1099511627776) (w : atO) (h : TS w b L) :
 jD pg zL #[.pointer (some ⟨b, 0, none⟩)] w (fun r w' => r = .int .u64 (XZ L) /\ w' = w) := by
 refine OS ?_
 obtain ⟨kept, h2, hk, ho⟩ := h
 have h1 := Au (L.length / 32) L
 by_cases hs : L.length < 32
 .have hd : decide ((L.length : Int) < 32) = true := by simp; omega
  simp (disch := omega) only [GD, vA, uR, gE, jE, cS, stepR_skip, hO, iA, iO, iM, iJ, iL, jH, iT, gL, iD, iF, iC, iH, hJ, iN, hU, iE, iR, iS, iI, gQ, iQ, iP, iG, kR, kQ, lE, lH, lG, lD, lF, lC, lB, gB, Result.ok.injEq, Next.value.injEq, true_and, and_true, gY, hZ, iV, iW, iU, jG, aoE, gV, gU, gX, gT, gM, gI, gN, gK, fZ, fU, if_true, if_false, aoD, aoH, aoF, aoG, aoJ, aoI, aoC, aoB, fM, fK, eZ, fQ, cU, eQ, eE, dJ, bO, fR, eS, aQ, cY, bF, bP, bJ, aI, cP, cB, eP, aF, gR, aK, cJ, aS, bS, fS, cC, cD, aB, gC, fC, aJ, aD, bH, gO, aP, eU, dT, dV, gG, dH, fH, dB, eH, eT, fD, cF, dF, gJ, dQ, cH, bA, bZ, cG, fP, aE, aG, aO, aV, bD, cL, bN, aA, fE, aM, cO, fI, eY, gH, bK, eK, eL, bW, fW, fF, eJ, dD, cR, dG, aW, bB, aH, gA, aL, dC, dW, aX, cI, fJ, dK, gD, fL, fA, fB, dP, aN, bX, dE, fY, fX, fG, dI, aT, dZ, fT, cQ, eX, fN, bY, bL, dU, aZ, dY, dO, cK, eI, eM, aY, dA, bE, dN, dS, dR, bM, cN, cM, dM, bR, cW, cV, fO, bV, eF, eN, gF, dX, eD, dL, cZ, bG, bQ, bT, bU, aR, cX, aU, ho.cell, FZ h1 h2, hd, XZ, hs]
 .have hd : decide ((L.length : Int) < 32) = false := by simp; omega
  obtain ⟨vs, hvs⟩ : ∃ vs, vs = Pp (L.length / 32) L := ⟨_, rfl⟩
  have hH : XZ L = jB vs 4 := by rw [hvs]; unfold XZ; rw [if_neg hs]
  rw [hH]
  rw [<- hvs] at ho h1
  clear hvs hH
  simp (disch := omega) only [GD, xO, CM, Cx, CO, CC, CW, Cz, BK, BL, BN, BM, uR, vA, gE, jE, cS, stepR_skip, hO, iA, iO, iM, iJ, iL, jH, iT, gL, iD, iF, iC, iH, hJ, iN, hU, iE, iR, iS, iI, gQ, iQ, iP, iG, kR, kQ, lE, lH, lG, lD, lF, lC, lB, gB, Result.ok.injEq, Next.value.injEq, true_and, and_true, gY, hZ, iV, iW, iU, jG, aoE, gV, gU, gX, gT, gM, gI, gN, gK, fZ, fU, if_true, if_false, aoD, aoH, aoF, aoG, aoJ, aoI, aoC, aoB, fM, fK, eZ, fQ, cU, eQ, eE, dJ, bO, fR, eS, aQ, cY, bF, bP, bJ, aI, cP, cB, eP, aF, gR, aK, cJ, aS, bS, fS, cC, cD, aB, gC, fC, aJ, aD, bH, gO, aP, eU, dT, dV, gG, dH, fH, dB, eH, eT, fD, cF, dF, gJ, dQ, cH, bA, bZ, cG, fP, aE, aG, aO, aV, bD, cL, bN, aA, fE, aM, cO, fI, eY, gH, bK, eK, eL, bW, fW, fF, eJ, dD, cR, dG, aW, bB, aH, gA, aL, dC, dW, aX, cI, fJ, dK, gD, fL, fA, fB, dP, aN, bX, dE, fY, fX, fG, dI, aT, dZ, fT, cQ, eX, fN, bY, bL, dU, aZ, dY, dO, cK, eI, eM, aY, dA, bE, dN, dS, dR, bM, cN, cM, dM, bR, cW, cV, fO, bV, eF, eN, gF, dX, eD, dL, cZ, bG, bQ, bT, bU, aR, cX, aU, ho.cell, FZ h1 h2, hd]
  refine kE.rule (fun n t w' => ∃ i : Nat, i <= 4 /\ n = 4 - i /\ t = (.int .u64 (jA vs i), .int .i64 (i : Int)) /\ w' = w) 4 ⟨0, by omega, rfl, rfl, rfl⟩ ?_
  rintro n t w' ⟨i, hi, rfl, rfl, rfl⟩
  by_cases hlt : i < 4
  .have hd : decide ((i : Int) < 4) = true := by simp; omega
   have hv := T9 (vs := vs) (kept := kept) (n := L.length % 32) (all := L.length) i (by omega)
   have hg : (#[Value.int .i64 1, .int .i64 7, .int .i64 12, .int .i64 18] : Array atP)[i]? = some (.int .i64 (([1, 7, 12, 18].getD i 0 : Nat) : Int)) := by
    have : i = 0 ∨ i = 1 ∨ i = 2 ∨ i = 3 := by omega
    rcases this with rfl | rfl | rfl | rfl <;> rfl
   have ht : [1, 7, 12, 18].getD i 0 < 64 := by
    have : i = 0 ∨ i = 1 ∨ i = 2 ∨ i = 3 := by omega
    rcases this with rfl | rfl | rfl | rfl <;> decide
   simp (disch := omega) only [sT, gE, jE, cS, stepR_skip, hO, iA, iO, iM, iJ, iL, jH, iT, gL, iD, iF, iC, iH, hJ, iN, hU, iE, iR, iS, iI, gQ, iQ, iP, iG, kR, kQ, lE, lH, lG, lD, lF, lC, lB, gB, Result.ok.injEq, Next.value.injEq, true_and, and_true, gY, hZ, iV, iW, iU, jG, aoE, gV, gU, gX, gT, gM, gI, gN, gK, fZ, fU, if_true, if_false, aoD, aoH, aoF, aoG, aoJ, aoI, aoC, aoB, fM, fK, eZ, fQ, cU, eQ, eE, dJ, bO, fR, eS, aQ, cY, bF, bP, bJ, aI, cP, cB, eP, aF, gR, aK, cJ, aS, bS, fS, cC, cD, aB, gC, fC, aJ, aD, bH, gO, aP, eU, dT, dV, gG, dH, fH, dB, eH, eT, fD, cF, dF, gJ, dQ, cH, bA, bZ, cG, fP, aE, aG, aO, aV, bD, cL, bN, aA, fE, aM, cO, fI, eY, gH, bK, eK, eL, bW, fW, fF, eJ, dD, cR, dG, aW, bB, aH, gA, aL, dC, dW, aX, cI, fJ, dK, gD, fL, fA, fB, dP, aN, bX, dE, fY, fX, fG, dI, aT, dZ, fT, cQ, eX, fN, bY, bL, dU, aZ, dY, dO, cK, eI, eM, aY, dA, bE, dN, dS, dR, bM, cN, cM, dM, bR, cW, cV, fO, bV, eF, eN, gF, dX, eD, dL, cZ, bG, bQ, bT, bU, aR, cX, aU, hd, hg, ho.cell, hv]
   refine (Sy _ _ ht _).mono ?_
   rintro r w1 ⟨rfl, rfl⟩
   simp (disch := omega) only [gE, jE, cS, stepR_skip, hO, iA, iO, iM, iJ, iL, jH, iT, gL, iD, iF, iC, iH, hJ, iN, hU, iE, iR, iS, iI, gQ, iQ, iP, iG, kR, kQ, lE, lH, lG, lD, lF, lC, lB, gB, Result.ok.injEq, Next.value.injEq, true_and, and_true, gY, hZ, iV, iW, iU, jG, aoE, gV, gU, gX, gT, gM, gI, gN, gK, fZ, fU, if_true, if_false, aoD, aoH, aoF, aoG, aoJ, aoI, aoC, aoB, fM, fK, eZ, fQ, cU, eQ, eE, dJ, bO, fR, eS, aQ, cY, bF, bP, bJ, aI, cP, cB, eP, aF, gR, aK, cJ, aS, bS, fS, cC, cD, aB, gC, fC, aJ, aD, bH, gO, aP, eU, dT, dV, gG, dH, fH, dB, eH, eT, fD, cF, dF, gJ, dQ, cH, bA, bZ, cG, fP, aE, aG, aO, aV, bD, cL, bN, aA, fE, aM, cO, fI, eY, gH, bK, eK, eL, bW, fW, fF, eJ, dD, cR, dG, aW, bB, aH, gA, aL, dC, dW, aX, cI, fJ, dK, gD, fL, fA, fB, dP, aN, bX, dE, fY, fX, fG, dI, aT, dZ, fT, cQ, eX, fN, bY, bL, dU, aZ, dY, dO, cK, eI, eM, aY, dA, bE, dN, dS, dR, bM, cN, cM, dM, bR, cW, cV, fO, bV, eF, eN, gF, dX, eD, dL, cZ, bG, bQ, bT, bU, aR, cX, aU]
   refine ⟨4 - (i + 1), by omega, i + 1, by omega, rfl, ?_⟩
   have hvd : vs.getD i 0 = vs[i]'(by omega) := by rw [aoN, aoM (by omega)] <;> rfl
   rw [jA, hvd]
   rfl
  .have : i = 4 := by omega
   subst this
   have hd : decide (((4 : Nat) : Int) < 4) = false := by simp
   have ha := Vx (off := 0) ho (by rw [sK h1 h2]; omega)
   have hb : ((lI vs kept (L.length % 32) L.length).drop 0).take 4 = vs.map (Value.int .u64) := by
    rw [arF]; unfold lI; rw [aqS (by simp; omega), aoU (by simp; omega)]
   rw [hb] at ha
   simp (disch := omega) only [sT, gE, jE, cS, stepR_skip, hO, iA, iO, iM, iJ, iL, jH, iT, gL, iD, iF, iC, iH, hJ, iN, hU, iE, iR, iS, iI, gQ, iQ, iP, iG, kR, kQ, lE, lH, lG, lD, lF, lC, lB, gB, Result.ok.injEq, Next.value.injEq, true_and, and_true, gY, hZ, iV, iW, iU, jG, aoE, gV, gU, gX, gT, gM, gI, gN, gK, fZ, fU, if_true, if_false, aoD, aoH, aoF, aoG, aoJ, aoI, aoC, aoB, fM, fK, eZ, fQ, cU, eQ, eE, dJ, bO, fR, eS, aQ, cY, bF, bP, bJ, aI, cP, cB, eP, aF, gR, aK, cJ, aS, bS, fS, cC, cD, aB, gC, fC, aJ, aD, bH, gO, aP, eU, dT, dV, gG, dH, fH, dB, eH, eT, fD, cF, dF, gJ, dQ, cH, bA, bZ, cG, fP, aE, aG, aO, aV, bD, cL, bN, aA, fE, aM, cO, fI, eY, gH, bK, eK, eL, bW, fW, fF, eJ, dD, cR, dG, aW, bB, aH, gA, aL, dC, dW, aX, cI, fJ, dK, gD, fL, fA, fB, dP, aN, bX, dE, fY, fX, fG, dI, aT, dZ, fT, cQ, eX, fN, bY, bL, dU, aZ, dY, dO, cK, eI, eM, aY, dA, bE, dN, dS, dR, bM, cN, cM, dM, bR, cW, cV, fO, bV, eF, eN, gF, dX, eD, dL, cZ, bG, bQ, bT, bU, aR, cX, aU, hd, ha]
   refine kE.rule (fun n t w2 => ∃ i : Nat, i <= 4 /\ n = 4 - i /\ t = (.int .u64 (jB vs i), .int .i64 (i : Int)) /\ w2 = w') 4 ⟨0, by omega, rfl, rfl, rfl⟩ ?_
   rintro n t w2 ⟨i, hi, rfl, rfl, rfl⟩
   by_cases hlt : i < 4
   .have hd : decide ((i : Int) < 4) = true := by simp; omega
    have hg : ((vs.map (Value.int .u64)).toArray)[i]? = some (.int .u64 (vs[i]'(by omega))) := by simp [show i < vs.length by omega]
    simp (disch := omega) only [sQ, gE, jE, cS, stepR_skip, hO, iA, iO, iM, iJ, iL, jH, iT, gL, iD, iF, iC, iH, hJ, iN, hU, iE, iR, iS, iI, gQ, iQ, iP, iG, kR, kQ, lE, lH, lG, lD, lF, lC, lB, gB, Result.ok.injEq, Next.value.injEq, true_and, and_true, gY, hZ, iV, iW, iU, jG, aoE, gV, gU, gX, gT, gM, gI, gN, gK, fZ, fU, if_true, if_false, aoD, aoH, aoF, aoG, aoJ, aoI, aoC, aoB, fM, fK, eZ, fQ, cU, eQ, eE, dJ, bO, fR, eS, aQ, cY, bF, bP, bJ, aI, cP, cB, eP, aF, gR, aK, cJ, aS, bS, fS, cC, cD, aB, gC, fC, aJ, aD, bH, gO, aP, eU, dT, dV, gG, dH, fH, dB, eH, eT, fD, cF, dF, gJ, dQ, cH, bA, bZ, cG, fP, aE, aG, aO, aV, bD, cL, bN, aA, fE, aM, cO, fI, eY, gH, bK, eK, eL, bW, fW, fF, eJ, dD, cR, dG, aW, bB, aH, gA, aL, dC, dW, aX, cI, fJ, dK, gD, fL, fA, fB, dP, aN, bX, dE, fY, fX, fG, dI, aT, dZ, fT, cQ, eX, fN, bY, bL, dU, aZ, dY, dO, cK, eI, eM, aY, dA, bE, dN, dS, dR, bM, cN, cM, dM, bR, cW, cV, fO, bV, eF, eN, gF, dX, eD, dL, cZ, bG, bQ, bT, bU, aR, cX, aU, hd, hg]
    refine (Ts _ _ _).mono ?_
    rintro r w1 ⟨rfl, rfl⟩
    simp (disch := omega) only [gE, jE, cS, stepR_skip, hO, iA, iO, iM, iJ, iL, jH, iT, gL, iD, iF, iC, iH, hJ, iN, hU, iE, iR, iS, iI, gQ, iQ, iP, iG, kR, kQ, lE, lH, lG, lD, lF, lC, lB, gB, Result.ok.injEq, Next.value.injEq, true_and, and_true, gY, hZ, iV, iW, iU, jG, aoE, gV, gU, gX, gT, gM, gI, gN, gK, fZ, fU, if_true, if_false, aoD, aoH, aoF, aoG, aoJ, aoI, aoC, aoB, fM, fK, eZ, fQ, cU, eQ, eE, dJ, bO, fR, eS, aQ, cY, bF, bP, bJ, aI, cP, cB, eP, aF, gR, aK, cJ, aS, bS, fS, cC, cD, aB, gC, fC, aJ, aD, bH, gO, aP, eU, dT, dV, gG, dH, fH, dB, eH, eT, fD, cF, dF, gJ, dQ, cH, bA, bZ, cG, fP, aE, aG, aO, aV, bD, cL, bN, aA, fE, aM, cO, fI, eY, gH, bK, eK, eL, bW, fW, fF, eJ, dD, cR, dG, aW, bB, aH, gA, aL, dC, dW, aX, cI, fJ, dK, gD, fL, fA, fB, dP, aN, bX, dE, fY, fX, fG, dI, aT, dZ, fT, cQ, eX, fN, bY, bL, dU, aZ, dY, dO, cK, eI, eM, aY, dA, bE, dN, dS, dR, bM, cN, cM, dM, bR, cW, cV, fO, bV, eF, eN, gF, dX, eD, dL, cZ, bG, bQ, bT, bU, aR, cX, aU]
    refine ⟨4 - (i + 1), by omega, i + 1, by omega, rfl, ?_⟩
    have hvd : vs.getD i 0 = vs[i]'(by omega) := by rw [aoN, aoM (by omega)] <;> rfl
    rw [jB, hvd]
    rfl
   .have : i = 4 := by omega
    subst this
    have hd : decide (((4 : Nat) : Int) < 4) = false := by simp
    simp (disch := omega) only [sQ, gE, jE, cS, stepR_skip, hO, iA, iO, iM, iJ, iL, jH, iT, gL, iD, iF, iC, iH, hJ, iN, hU, iE, iR, iS, iI, gQ, iQ, iP, iG, kR, kQ, lE, lH, lG, lD, lF, lC, lB, gB, Result.ok.injEq, Next.value.injEq, true_and, and_true, gY, hZ, iV, iW, iU, jG, aoE, gV, gU, gX, gT, gM, gI, gN, gK, fZ, fU, if_true, if_false, aoD, aoH, aoF, aoG, aoJ, aoI, aoC, aoB, fM, fK, eZ, fQ, cU, eQ, eE, dJ, bO, fR, eS, aQ, cY, bF, bP, bJ, aI, cP, cB, eP, aF, gR, aK, cJ, aS, bS, fS, cC, cD, aB, gC, fC, aJ, aD, bH, gO, aP, eU, dT, dV, gG, dH, fH, dB, eH, eT, fD, cF, dF, gJ, dQ, cH, bA, bZ, cG, fP, aE, aG, aO, aV, bD, cL, bN, aA, fE, aM, cO, fI, eY, gH, bK, eK, eL, bW, fW, fF, eJ, dD, cR, dG, aW, bB, aH, gA, aL, dC, dW, aX, cI, fJ, dK, gD, fL, fA, fB, dP, aN, bX, dE, fY, fX, fG, dI, aT, dZ, fT, cQ, eX, fN, bY, bL, dU, aZ, dY, dO, cK, eI, eM, aY, dA, bE, dN, dS, dR, bM, cN, cM, dM, bR, cW, cV, fO, bV, eF, eN, gF, dX, eD, dL, cZ, bG, bQ, bT, bU, aR, cX, aU, hd]
theorem Yf (w : atO) (R : atP -> atO -> Prop) (y : Int) (D : List UInt8) (v : atP) (hv : Bs w v D) (hD : D.length < 32) (hR : R (.int .u64 (aeN (e1 y D D.length))) w) :
 Ch R (.int .u64 y) v w := by
 have hv' := hv
 obtain ⟨a, n, c, rfl, hn, hc, hcell⟩ := hv'
 rw [aoK] at hn
 simp (disch := omega) only [Ch, GA, Gt, Gq, Gu, gE, jE, cS, stepR_skip, hO, iA, iO, iM, iJ, iL, jH, iT, gL, iD, iF, iC, iH, hJ, iN, hU, iE, iR, iS, iI, gQ, iQ, iP, iG, kR, kQ, lE, lH, lG, lD, lF, lC, lB, gB, Result.ok.injEq, Next.value.injEq, true_and, and_true, gY, hZ, iV, iW, iU, jG, aoE, gV, gU, gX, gT, gM, gI, gN, gK, fZ, fU, if_true, if_false, aoD, aoH, aoF, aoG, aoJ, aoI, aoC, aoB, fM, fK, eZ, fQ, cU, eQ, eE, dJ, bO, fR, eS, aQ, cY, bF, bP, bJ, aI, cP, cB, eP, aF, gR, aK, cJ, aS, bS, fS, cC, cD, aB, gC, fC, aJ, aD, bH, gO, aP, eU, dT, dV, gG, dH, fH, dB, eH, eT, fD, cF, dF, gJ, dQ, cH, bA, bZ, cG, fP, aE, aG, aO, aV, bD, cL, bN, aA, fE, aM, cO, fI, eY, gH, bK, eK, eL, bW, fW, fF, eJ, dD, cR, dG, aW, bB, aH, gA, aL, dC, dW, aX, cI, fJ, dK, gD, fL, fA, fB, dP, aN, bX, dE, fY, fX, fG, dI, aT, dZ, fT, cQ, eX, fN, bY, bL, dU, aZ, dY, dO, cK, eI, eM, aY, dA, bE, dN, dS, dR, bM, cN, cM, dM, bR, cW, cV, fO, bV, eF, eN, gF, dX, eD, dL, cZ, bG, bQ, bT, bU, aR, cX, aU]
 refine kE.rule (fun m t w' => ∃ j : Nat, j <= n /\ m = n - j /\ t = (.int .u64 (e1 y D j), .int .i64 (j : Int)) /\ w' = w) n ⟨0, by omega, rfl, rfl, rfl⟩ ?_
 rintro m t w' ⟨j, hj, rfl, rfl, rfl⟩
 by_cases hlt : j < n
 .obtain ⟨b, off, rfl, hcell'⟩ := hcell (by omega)
  have hcl := hcell' j hlt
  rw [aoY, aoM (by omega), apM] at hcl
  have hb : (D[j]'(by omega)).toNat < 256 := aqU _
  have hd : decide ((j : Int) < (n : Int)) = true := by simpa using hlt
  simp (disch := omega) only [yJ, gE, jE, cS, stepR_skip, hO, iA, iO, iM, iJ, iL, jH, iT, gL, iD, iF, iC, iH, hJ, iN, hU, iE, iR, iS, iI, gQ, iQ, iP, iG, kR, kQ, lE, lH, lG, lD, lF, lC, lB, gB, Result.ok.injEq, Next.value.injEq, true_and, and_true, gY, hZ, iV, iW, iU, jG, aoE, gV, gU, gX, gT, gM, gI, gN, gK, fZ, fU, if_true, if_false, aoD, aoH, aoF, aoG, aoJ, aoI, aoC, aoB, fM, fK, eZ, fQ, cU, eQ, eE, dJ, bO, fR, eS, aQ, cY, bF, bP, bJ, aI, cP, cB, eP, aF, gR, aK, cJ, aS, bS, fS, cC, cD, aB, gC, fC, aJ, aD, bH, gO, aP, eU, dT, dV, gG, dH, fH, dB, eH, eT, fD, cF, dF, gJ, dQ, cH, bA, bZ, cG, fP, aE, aG, aO, aV, bD, cL, bN, aA, fE, aM, cO, fI, eY, gH, bK, eK, eL, bW, fW, fF, eJ, dD, cR, dG, aW, bB, aH, gA, aL, dC, dW, aX, cI, fJ, dK, gD, fL, fA, fB, dP, aN, bX, dE, fY, fX, fG, dI, aT, dZ, fT, cQ, eX, fN, bY, bL, dU, aZ, dY, dO, cK, eI, eM, aY, dA, bE, dN, dS, dR, bM, cN, cM, dM, bR, cW, cV, fO, bV, eF, eN, gF, dX, eD, dL, cZ, bG, bQ, bT, bU, aR, cX, aU, hd, hcl, oZ]
  refine (Sy _ 11 (by omega) _).mono ?_
  rintro r w1 ⟨rfl, rfl⟩
  simp (disch := omega) only [gE, jE, cS, stepR_skip, hO, iA, iO, iM, iJ, iL, jH, iT, gL, iD, iF, iC, iH, hJ, iN, hU, iE, iR, iS, iI, gQ, iQ, iP, iG, kR, kQ, lE, lH, lG, lD, lF, lC, lB, gB, Result.ok.injEq, Next.value.injEq, true_and, and_true, gY, hZ, iV, iW, iU, jG, aoE, gV, gU, gX, gT, gM, gI, gN, gK, fZ, fU, if_true, if_false, aoD, aoH, aoF, aoG, aoJ, aoI, aoC, aoB, fM, fK, eZ, fQ, cU, eQ, eE, dJ, bO, fR, eS, aQ, cY, bF, bP, bJ, aI, cP, cB, eP, aF, gR, aK, cJ, aS, bS, fS, cC, cD, aB, gC, fC, aJ, aD, bH, gO, aP, eU, dT, dV, gG, dH, fH, dB, eH, eT, fD, cF, dF, gJ, dQ, cH, bA, bZ, cG, fP, aE, aG, aO, aV, bD, cL, bN, aA, fE, aM, cO, fI, eY, gH, bK, eK, eL, bW, fW, fF, eJ, dD, cR, dG, aW, bB, aH, gA, aL, dC, dW, aX, cI, fJ, dK, gD, fL, fA, fB, dP, aN, bX, dE, fY, fX, fG, dI, aT, dZ, fT, cQ, eX, fN, bY, bL, dU, aZ, dY, dO, cK, eI, eM, aY, dA, bE, dN, dS, dR, bM, cN, cM, dM, bR, cW, cV, fO, bV, eF, eN, gF, dX, eD, dL, cZ, bG, bQ, bT, bU, aR, cX, aU]
  refine ⟨n - (j + 1), by omega, j + 1, by omega, rfl, ?_⟩
  have hg : D.getD j 0 = D[j]'(by omega) := by rw [aoN, aoM (by omega)] <;> rfl
  rw [e1, hg]
  rfl
 .have hd : decide ((j : Int) < (n : Int)) = false := by simpa using hlt
  have : j = D.length := by omega
  subst this
  simp (disch := omega) only [yJ, Ce, gE, jE, cS, stepR_skip, hO, iA, iO, iM, iJ, iL, jH, iT, gL, iD, iF, iC, iH, hJ, iN, hU, iE, iR, iS, iI, gQ, iQ, iP, iG, kR, kQ, lE, lH, lG, lD, lF, lC, lB, gB, Result.ok.injEq, Next.value.injEq, true_and, and_true, gY, hZ, iV, iW, iU, jG, aoE, gV, gU, gX, gT, gM, gI, gN, gK, fZ, fU, if_true, if_false, aoD, aoH, aoF, aoG, aoJ, aoI, aoC, aoB, fM, fK, eZ, fQ, cU, eQ, eE, dJ, bO, fR, eS, aQ, cY, bF, bP, bJ, aI, cP, cB, eP, aF, gR, aK, cJ, aS, bS, fS, cC, cD, aB, gC, fC, aJ, aD, bH, gO, aP, eU, dT, dV, gG, dH, fH, dB, eH, eT, fD, cF, dF, gJ, dQ, cH, bA, bZ, cG, fP, aE, aG, aO, aV, bD, cL, bN, aA, fE, aM, cO, fI, eY, gH, bK, eK, eL, bW, fW, fF, eJ, dD, cR, dG, aW, bB, aH, gA, aL, dC, dW, aX, cI, fJ, dK, gD, fL, fA, fB, dP, aN, bX, dE, fY, fX, fG, dI, aT, dZ, fT, cQ, eX, fN, bY, bL, dU, aZ, dY, dO, cK, eI, eM, aY, dA, bE, dN, dS, dR, bM, cN, cM, dM, bR, cW, cV, fO, bV, eF, eN, gF, dX, eD, dL, cZ, bG, bQ, bT, bU, aR, cX, aU, hd]
  exact hR
theorem aeJ (w : atO) (R : atP -> atO -> Prop) (x : Int) (B : List UInt8) (v : atP) (hv : Bs w v B) (hB : B.length < 32) (hR : R (.int .u64 (aeN (aeL x B))) w) :
 AQ R (.int .u64 x) v w := by
 unfold AQ Fv FC
 refine kE.rule (fun n t w' => ∃ (j : Nat) (u : atP), 8 * j <= B.length /\ n = B.length - j /\ t = (.int .u64 (e8 x B j), u) /\ Bs w u (B.drop (8 * j)) /\ w' = w) B.length ⟨0, v, by omega, rfl, rfl, hv, rfl⟩ ?_
 rintro n t w' ⟨j, u, hj, rfl, rfl, hu, rfl⟩
 have hu' := hu
 obtain ⟨a, n, c, rfl, hn, hc, hcell⟩ := hu'
 rw [aoK, apD] at hn
 by_cases h8 : 8 <= n
 .obtain ⟨b', o', rfl, _⟩ := hcell (by omega)
  have hd : decide ((8 : Int) <= (n : Int)) = true := by simp; omega
  have t8 : (8 : Int).toNat = 8 := rfl
  simp (disch := omega) only [wB, gE, jE, cS, stepR_skip, hO, iA, iO, iM, iJ, iL, jH, iT, gL, iD, iF, iC, iH, hJ, iN, hU, iE, iR, iS, iI, gQ, iQ, iP, iG, kR, kQ, lE, lH, lG, lD, lF, lC, lB, gB, Result.ok.injEq, Next.value.injEq, true_and, and_true, gY, hZ, iV, iW, iU, jG, aoE, gV, gU, gX, gT, gM, gI, gN, gK, fZ, fU, if_true, if_false, aoD, aoH, aoF, aoG, aoJ, aoI, aoC, aoB, fM, fK, eZ, fQ, cU, eQ, eE, dJ, bO, fR, eS, aQ, cY, bF, bP, bJ, aI, cP, cB, eP, aF, gR, aK, cJ, aS, bS, fS, cC, cD, aB, gC, fC, aJ, aD, bH, gO, aP, eU, dT, dV, gG, dH, fH, dB, eH, eT, fD, cF, dF, gJ, dQ, cH, bA, bZ, cG, fP, aE, aG, aO, aV, bD, cL, bN, aA, fE, aM, cO, fI, eY, gH, bK, eK, eL, bW, fW, fF, eJ, dD, cR, dG, aW, bB, aH, gA, aL, dC, dW, aX, cI, fJ, dK, gD, fL, fA, fB, dP, aN, bX, dE, fY, fX, fG, dI, aT, dZ, fT, cQ, eX, fN, bY, bL, dU, aZ, dY, dO, cK, eI, eM, aY, dA, bE, dN, dS, dR, bM, cN, cM, dM, bR, cW, cV, fO, bV, eF, eN, gF, dX, eD, dL, cZ, bG, bQ, bT, bU, aR, cX, aU, hd, t8]
  have hs := hu.take h8
  rw [<- asN] at hs
  refine (QL _ _ _ hs (by rw [apA]; omega)).mono ?_
  rintro r w1 ⟨rfl, rfl⟩
  refine (Ts _ _ _).mono ?_
  rintro r w1 ⟨rfl, rfl⟩
  simp (disch := omega) only [gE, jE, cS, stepR_skip, hO, iA, iO, iM, iJ, iL, jH, iT, gL, iD, iF, iC, iH, hJ, iN, hU, iE, iR, iS, iI, gQ, iQ, iP, iG, kR, kQ, lE, lH, lG, lD, lF, lC, lB, gB, Result.ok.injEq, Next.value.injEq, true_and, and_true, gY, hZ, iV, iW, iU, jG, aoE, gV, gU, gX, gT, gM, gI, gN, gK, fZ, fU, if_true, if_false, aoD, aoH, aoF, aoG, aoJ, aoI, aoC, aoB, fM, fK, eZ, fQ, cU, eQ, eE, dJ, bO, fR, eS, aQ, cY, bF, bP, bJ, aI, cP, cB, eP, aF, gR, aK, cJ, aS, bS, fS, cC, cD, aB, gC, fC, aJ, aD, bH, gO, aP, eU, dT, dV, gG, dH, fH, dB, eH, eT, fD, cF, dF, gJ, dQ, cH, bA, bZ, cG, fP, aE, aG, aO, aV, bD, cL, bN, aA, fE, aM, cO, fI, eY, gH, bK, eK, eL, bW, fW, fF, eJ, dD, cR, dG, aW, bB, aH, gA, aL, dC, dW, aX, cI, fJ, dK, gD, fL, fA, fB, dP, aN, bX, dE, fY, fX, fG, dI, aT, dZ, fT, cQ, eX, fN, bY, bL, dU, aZ, dY, dO, cK, eI, eM, aY, dA, bE, dN, dS, dR, bM, cN, cM, dM, bR, cW, cV, fO, bV, eF, eN, gF, dX, eD, dL, cZ, bG, bQ, bT, bU, aR, cX, aU]
  refine (Sy _ 27 (by omega) _).mono ?_
  rintro r w1 ⟨rfl, rfl⟩
  simp (disch := omega) only [gE, jE, cS, stepR_skip, hO, iA, iO, iM, iJ, iL, jH, iT, gL, iD, iF, iC, iH, hJ, iN, hU, iE, iR, iS, iI, gQ, iQ, iP, iG, kR, kQ, lE, lH, lG, lD, lF, lC, lB, gB, Result.ok.injEq, Next.value.injEq, true_and, and_true, gY, hZ, iV, iW, iU, jG, aoE, gV, gU, gX, gT, gM, gI, gN, gK, fZ, fU, if_true, if_false, aoD, aoH, aoF, aoG, aoJ, aoI, aoC, aoB, fM, fK, eZ, fQ, cU, eQ, eE, dJ, bO, fR, eS, aQ, cY, bF, bP, bJ, aI, cP, cB, eP, aF, gR, aK, cJ, aS, bS, fS, cC, cD, aB, gC, fC, aJ, aD, bH, gO, aP, eU, dT, dV, gG, dH, fH, dB, eH, eT, fD, cF, dF, gJ, dQ, cH, bA, bZ, cG, fP, aE, aG, aO, aV, bD, cL, bN, aA, fE, aM, cO, fI, eY, gH, bK, eK, eL, bW, fW, fF, eJ, dD, cR, dG, aW, bB, aH, gA, aL, dC, dW, aX, cI, fJ, dK, gD, fL, fA, fB, dP, aN, bX, dE, fY, fX, fG, dI, aT, dZ, fT, cQ, eX, fN, bY, bL, dU, aZ, dY, dO, cK, eI, eM, aY, dA, bE, dN, dS, dR, bM, cN, cM, dM, bR, cW, cV, fO, bV, eF, eN, gF, dX, eD, dL, cZ, bG, bQ, bT, bU, aR, cX, aU, t8]
  have hs2 := hu.drop h8
  rw [<- List.map_drop, arR] at hs2
  exact ⟨B.length - (j + 1), by omega, j + 1, _, by omega, rfl, rfl, by rw [asO]; exact hs2⟩
 .have hd : decide ((8 : Int) <= (n : Int)) = false := by simp; omega
  have hj8 : j = B.length / 8 := by omega
  obtain ⟨C, hC⟩ : ∃ C, C = B.drop (8 * j) := ⟨_, rfl⟩
  have hCl : C.length = n := by rw [hC, apD, hn]
  have htail : aeL x B = (let r := Tp (e8 x B j) C; e1 r.1 r.2 r.2.length) := by rw [hC, hj8] <;> rfl
  rw [htail] at hR
  rw [<- hC] at hu
  simp (disch := omega) only [wB, gE, jE, cS, stepR_skip, hO, iA, iO, iM, iJ, iL, jH, iT, gL, iD, iF, iC, iH, hJ, iN, hU, iE, iR, iS, iI, gQ, iQ, iP, iG, kR, kQ, lE, lH, lG, lD, lF, lC, lB, gB, Result.ok.injEq, Next.value.injEq, true_and, and_true, gY, hZ, iV, iW, iU, jG, aoE, gV, gU, gX, gT, gM, gI, gN, gK, fZ, fU, if_true, if_false, aoD, aoH, aoF, aoG, aoJ, aoI, aoC, aoB, fM, fK, eZ, fQ, cU, eQ, eE, dJ, bO, fR, eS, aQ, cY, bF, bP, bJ, aI, cP, cB, eP, aF, gR, aK, cJ, aS, bS, fS, cC, cD, aB, gC, fC, aJ, aD, bH, gO, aP, eU, dT, dV, gG, dH, fH, dB, eH, eT, fD, cF, dF, gJ, dQ, cH, bA, bZ, cG, fP, aE, aG, aO, aV, bD, cL, bN, aA, fE, aM, cO, fI, eY, gH, bK, eK, eL, bW, fW, fF, eJ, dD, cR, dG, aW, bB, aH, gA, aL, dC, dW, aX, cI, fJ, dK, gD, fL, fA, fB, dP, aN, bX, dE, fY, fX, fG, dI, aT, dZ, fT, cQ, eX, fN, bY, bL, dU, aZ, dY, dO, cK, eI, eM, aY, dA, bE, dN, dS, dR, bM, cN, cM, dM, bR, cW, cV, fO, bV, eF, eN, gF, dX, eD, dL, cZ, bG, bQ, bT, bU, aR, cX, aU, hd]
  by_cases h4 : 4 <= n
  .obtain ⟨b', o', rfl, _⟩ := hcell (by omega)
   have hd : decide ((4 : Int) <= (n : Int)) = true := by simp; omega
   have t4 : (4 : Int).toNat = 4 := rfl
   have ha : Tp (e8 x B j) C = (aiY (e8 x B j) (EA (C.take 4)), C.drop 4) := by unfold Tp; rw [if_pos (by omega)]
   rw [ha] at hR
   simp (disch := omega) only [Cd, B9, gE, jE, cS, stepR_skip, hO, iA, iO, iM, iJ, iL, jH, iT, gL, iD, iF, iC, iH, hJ, iN, hU, iE, iR, iS, iI, gQ, iQ, iP, iG, kR, kQ, lE, lH, lG, lD, lF, lC, lB, gB, Result.ok.injEq, Next.value.injEq, true_and, and_true, gY, hZ, iV, iW, iU, jG, aoE, gV, gU, gX, gT, gM, gI, gN, gK, fZ, fU, if_true, if_false, aoD, aoH, aoF, aoG, aoJ, aoI, aoC, aoB, fM, fK, eZ, fQ, cU, eQ, eE, dJ, bO, fR, eS, aQ, cY, bF, bP, bJ, aI, cP, cB, eP, aF, gR, aK, cJ, aS, bS, fS, cC, cD, aB, gC, fC, aJ, aD, bH, gO, aP, eU, dT, dV, gG, dH, fH, dB, eH, eT, fD, cF, dF, gJ, dQ, cH, bA, bZ, cG, fP, aE, aG, aO, aV, bD, cL, bN, aA, fE, aM, cO, fI, eY, gH, bK, eK, eL, bW, fW, fF, eJ, dD, cR, dG, aW, bB, aH, gA, aL, dC, dW, aX, cI, fJ, dK, gD, fL, fA, fB, dP, aN, bX, dE, fY, fX, fG, dI, aT, dZ, fT, cQ, eX, fN, bY, bL, dU, aZ, dY, dO, cK, eI, eM, aY, dA, bE, dN, dS, dR, bM, cN, cM, dM, bR, cW, cV, fO, bV, eF, eN, gF, dX, eD, dL, cZ, bG, bQ, bT, bU, aR, cX, aU, hd, t4]
   have hs := hu.take h4
   rw [<- asN] at hs
   refine (QL _ _ _ hs (by rw [apA]; omega)).mono ?_
   rintro r w1 ⟨rfl, rfl⟩
   simp (disch := omega) only [gE, jE, cS, stepR_skip, hO, iA, iO, iM, iJ, iL, jH, iT, gL, iD, iF, iC, iH, hJ, iN, hU, iE, iR, iS, iI, gQ, iQ, iP, iG, kR, kQ, lE, lH, lG, lD, lF, lC, lB, gB, Result.ok.injEq, Next.value.injEq, true_and, and_true, gY, hZ, iV, iW, iU, jG, aoE, gV, gU, gX, gT, gM, gI, gN, gK, fZ, fU, if_true, if_false, aoD, aoH, aoF, aoG, aoJ, aoI, aoC, aoB, fM, fK, eZ, fQ, cU, eQ, eE, dJ, bO, fR, eS, aQ, cY, bF, bP, bJ, aI, cP, cB, eP, aF, gR, aK, cJ, aS, bS, fS, cC, cD, aB, gC, fC, aJ, aD, bH, gO, aP, eU, dT, dV, gG, dH, fH, dB, eH, eT, fD, cF, dF, gJ, dQ, cH, bA, bZ, cG, fP, aE, aG, aO, aV, bD, cL, bN, aA, fE, aM, cO, fI, eY, gH, bK, eK, eL, bW, fW, fF, eJ, dD, cR, dG, aW, bB, aH, gA, aL, dC, dW, aX, cI, fJ, dK, gD, fL, fA, fB, dP, aN, bX, dE, fY, fX, fG, dI, aT, dZ, fT, cQ, eX, fN, bY, bL, dU, aZ, dY, dO, cK, eI, eM, aY, dA, bE, dN, dS, dR, bM, cN, cM, dM, bR, cW, cV, fO, bV, eF, eN, gF, dX, eD, dL, cZ, bG, bQ, bT, bU, aR, cX, aU]
   refine (Sy _ 23 (by omega) _).mono ?_
   rintro r w1 ⟨rfl, rfl⟩
   simp (disch := omega) only [gE, jE, cS, stepR_skip, hO, iA, iO, iM, iJ, iL, jH, iT, gL, iD, iF, iC, iH, hJ, iN, hU, iE, iR, iS, iI, gQ, iQ, iP, iG, kR, kQ, lE, lH, lG, lD, lF, lC, lB, gB, Result.ok.injEq, Next.value.injEq, true_and, and_true, gY, hZ, iV, iW, iU, jG, aoE, gV, gU, gX, gT, gM, gI, gN, gK, fZ, fU, if_true, if_false, aoD, aoH, aoF, aoG, aoJ, aoI, aoC, aoB, fM, fK, eZ, fQ, cU, eQ, eE, dJ, bO, fR, eS, aQ, cY, bF, bP, bJ, aI, cP, cB, eP, aF, gR, aK, cJ, aS, bS, fS, cC, cD, aB, gC, fC, aJ, aD, bH, gO, aP, eU, dT, dV, gG, dH, fH, dB, eH, eT, fD, cF, dF, gJ, dQ, cH, bA, bZ, cG, fP, aE, aG, aO, aV, bD, cL, bN, aA, fE, aM, cO, fI, eY, gH, bK, eK, eL, bW, fW, fF, eJ, dD, cR, dG, aW, bB, aH, gA, aL, dC, dW, aX, cI, fJ, dK, gD, fL, fA, fB, dP, aN, bX, dE, fY, fX, fG, dI, aT, dZ, fT, cQ, eX, fN, bY, bL, dU, aZ, dY, dO, cK, eI, eM, aY, dA, bE, dN, dS, dR, bM, cN, cM, dM, bR, cW, cV, fO, bV, eF, eN, gF, dX, eD, dL, cZ, bG, bQ, bT, bU, aR, cX, aU, t4]
   have hs2 := hu.drop h4
   rw [<- List.map_drop] at hs2
   exact Yf _ _ _ _ _ hs2 (by rw [apD]; omega) hR
  .have hd : decide ((4 : Int) <= (n : Int)) = false := by simp; omega
   have ha : Tp (e8 x B j) C = (e8 x B j, C) := by unfold Tp; rw [if_neg (by omega)]
   rw [ha] at hR
   simp (disch := omega) only [Cd, B9, gE, jE, cS, stepR_skip, hO, iA, iO, iM, iJ, iL, jH, iT, gL, iD, iF, iC, iH, hJ, iN, hU, iE, iR, iS, iI, gQ, iQ, iP, iG, kR, kQ, lE, lH, lG, lD, lF, lC, lB, gB, Result.ok.injEq, Next.value.injEq, true_and, and_true, gY, hZ, iV, iW, iU, jG, aoE, gV, gU, gX, gT, gM, gI, gN, gK, fZ, fU, if_true, if_false, aoD, aoH, aoF, aoG, aoJ, aoI, aoC, aoB, fM, fK, eZ, fQ, cU, eQ, eE, dJ, bO, fR, eS, aQ, cY, bF, bP, bJ, aI, cP, cB, eP, aF, gR, aK, cJ, aS, bS, fS, cC, cD, aB, gC, fC, aJ, aD, bH, gO, aP, eU, dT, dV, gG, dH, fH, dB, eH, eT, fD, cF, dF, gJ, dQ, cH, bA, bZ, cG, fP, aE, aG, aO, aV, bD, cL, bN, aA, fE, aM, cO, fI, eY, gH, bK, eK, eL, bW, fW, fF, eJ, dD, cR, dG, aW, bB, aH, gA, aL, dC, dW, aX, cI, fJ, dK, gD, fL, fA, fB, dP, aN, bX, dE, fY, fX, fG, dI, aT, dZ, fT, cQ, eX, fN, bY, bL, dU, aZ, dY, dO, cK, eI, eM, aY, dA, bE, dN, dS, dR, bM, cN, cM, dM, bR, cW, cV, fO, bV, eF, eN, gF, dX, eD, dL, cZ, bG, bQ, bT, bU, aR, cX, aU, hd]
   exact Yf _ _ _ _ _ hu (by omega) hR
theorem ahC (b : Nat) (L : List UInt8) (hlen : L.length <= 1099511627776) (w : atO) (h : TS w b L) :
 jD pg DV #[.pointer (some ⟨b, 0, none⟩)] w (fun r w' => r = .int .u64 (XXH L) /\ jM w w' mN) := by
 refine RB ?_
 have h' := h
 obtain ⟨kept, h2, hk, ho⟩ := h'
 have h1 := Au (L.length / 32) L
 have hod := S0 ho
 simp (disch := omega) only [Sd, EZ, FL, gE, jE, cS, stepR_skip, hO, iA, iO, iM, iJ, iL, jH, iT, gL, iD, iF, iC, iH, hJ, iN, hU, iE, iR, iS, iI, gQ, iQ, iP, iG, kR, kQ, lE, lH, lG, lD, lF, lC, lB, gB, Result.ok.injEq, Next.value.injEq, true_and, and_true, gY, hZ, iV, iW, iU, jG, aoE, gV, gU, gX, gT, gM, gI, gN, gK, fZ, fU, if_true, if_false, aoD, aoH, aoF, aoG, aoJ, aoI, aoC, aoB, fM, fK, eZ, fQ, cU, eQ, eE, dJ, bO, fR, eS, aQ, cY, bF, bP, bJ, aI, cP, cB, eP, aF, gR, aK, cJ, aS, bS, fS, cC, cD, aB, gC, fC, aJ, aD, bH, gO, aP, eU, dT, dV, gG, dH, fH, dB, eH, eT, fD, cF, dF, gJ, dQ, cH, bA, bZ, cG, fP, aE, aG, aO, aV, bD, cL, bN, aA, fE, aM, cO, fI, eY, gH, bK, eK, eL, bW, fW, fF, eJ, dD, cR, dG, aW, bB, aH, gA, aL, dC, dW, aX, cI, fJ, dK, gD, fL, fA, fB, dP, aN, bX, dE, fY, fX, fG, dI, aT, dZ, fT, cQ, eX, fN, bY, bL, dU, aZ, dY, dO, cK, eI, eM, aY, dA, bE, dN, dS, dR, bM, cN, cM, dM, bR, cW, cV, fO, bV, eF, eN, gF, dX, eD, dL, cZ, bG, bQ, bT, bU, aR, cX, aU]
 refine (Y5 b L hlen (dr w) ⟨kept, h2, hk, hod⟩).mono ?_
 rintro r w1 ⟨rfl, rfl⟩
 have hod2 := S0 hod
 have hr : L.length % 32 < 32 := by omega
 have hbs : Bs (dr (dr w)) (.slice (some ⟨b, 4, none⟩) (L.length % 32 - 0) (32 - 0)) (L.drop (32 * (L.length / 32))) := by
  rw [<- hk]
  have e : (kept.take (L.length % 32)).length = L.length % 32 := by rw [apA]; omega
  rw [show L.length % 32 - 0 = (kept.take (L.length % 32)).length from by omega]
  refine hod2.bs (by omega) fun j hj => ?_
  rw [OT h1 j (by omega)]
  simp
 have t0 : sX ⟨b, 4, none⟩ 32 0 1 = ⟨b, 4, none⟩ := by rw [QD (by omega)]
 simp (disch := omega) only [gE, jE, cS, stepR_skip, hO, iA, iO, iM, iJ, iL, jH, iT, gL, iD, iF, iC, iH, hJ, iN, hU, iE, iR, iS, iI, gQ, iQ, iP, iG, kR, kQ, lE, lH, lG, lD, lF, lC, lB, gB, Result.ok.injEq, Next.value.injEq, true_and, and_true, gY, hZ, iV, iW, iU, jG, aoE, gV, gU, gX, gT, gM, gI, gN, gK, fZ, fU, if_true, if_false, aoD, aoH, aoF, aoG, aoJ, aoI, aoC, aoB, fM, fK, eZ, fQ, cU, eQ, eE, dJ, bO, fR, eS, aQ, cY, bF, bP, bJ, aI, cP, cB, eP, aF, gR, aK, cJ, aS, bS, fS, cC, cD, aB, gC, fC, aJ, aD, bH, gO, aP, eU, dT, dV, gG, dH, fH, dB, eH, eT, fD, cF, dF, gJ, dQ, cH, bA, bZ, cG, fP, aE, aG, aO, aV, bD, cL, bN, aA, fE, aM, cO, fI, eY, gH, bK, eK, eL, bW, fW, fF, eJ, dD, cR, dG, aW, bB, aH, gA, aL, dC, dW, aX, cI, fJ, dK, gD, fL, fA, fB, dP, aN, bX, dE, fY, fX, fG, dI, aT, dZ, fT, cQ, eX, fN, bY, bL, dU, aZ, dY, dO, cK, eI, eM, aY, dA, bE, dN, dS, dR, bM, cN, cM, dM, bR, cW, cV, fO, bV, eF, eN, gF, dX, eD, dL, cZ, bG, bQ, bT, bU, aR, cX, aU, hod.cell, hod2.cell, FZ h1 h2, Jg h1 h2, t0]
 refine aeJ _ _ _ _ _ hbs (by rw [apD]; omega) ⟨rfl, (jM.dr w _).seq (jM.dr _ _)⟩
theorem ajV (L : List UInt8) (hlen : L.length <= 1099511627776) (v : atP) (w : atO) (hv : Bs w v L) :
 jD pg Ox #[v] w (fun r w' => r = .int .u64 (XXH L) /\ jM w w' mN) := by
 refine XF ?_
 simp (disch := omega) only [afY, Ti, gE, jE, cS, stepR_skip, hO, iA, iO, iM, iJ, iL, jH, iT, gL, iD, iF, iC, iH, hJ, iN, hU, iE, iR, iS, iI, gQ, iQ, iP, iG, kR, kQ, lE, lH, lG, lD, lF, lC, lB, gB, Result.ok.injEq, Next.value.injEq, true_and, and_true, gY, hZ, iV, iW, iU, jG, aoE, gV, gU, gX, gT, gM, gI, gN, gK, fZ, fU, if_true, if_false, aoD, aoH, aoF, aoG, aoJ, aoI, aoC, aoB, fM, fK, eZ, fQ, cU, eQ, eE, dJ, bO, fR, eS, aQ, cY, bF, bP, bJ, aI, cP, cB, eP, aF, gR, aK, cJ, aS, bS, fS, cC, cD, aB, gC, fC, aJ, aD, bH, gO, aP, eU, dT, dV, gG, dH, fH, dB, eH, eT, fD, cF, dF, gJ, dQ, cH, bA, bZ, cG, fP, aE, aG, aO, aV, bD, cL, bN, aA, fE, aM, cO, fI, eY, gH, bK, eK, eL, bW, fW, fF, eJ, dD, cR, dG, aW, bB, aH, gA, aL, dC, dW, aX, cI, fJ, dK, gD, fL, fA, fB, dP, aN, bX, dE, fY, fX, fG, dI, aT, dZ, fT, cQ, eX, fN, bY, bL, dU, aZ, dY, dO, cK, eI, eM, aY, dA, bE, dN, dS, dR, bM, cN, cM, dM, bR, cW, cV, fO, bV, eF, eN, gF, dX, eD, dL, cZ, bG, bQ, bT, bU, aR, cX, aU]
 refine (aiF w).mono ?_
 rintro r w1 ⟨rfl, h1, x1⟩
 have hnb : ¬ Lf v (fun x => x = w.heap.size) := by
  intro hb
  refine hv.old ?_
  unfold Lf at *
  split at hb
  .omega
  .exact hb
 have hv1 := hv.ext x1 (by unfold Lf mN; split <;> simp)
 refine (acC _ [] L (by simpa using hlen) v w1 h1 hv1 hnb).mono ?_
 rintro r w2 ⟨rfl, h2, x2⟩
 refine (ahC _ L hlen w2 h2).mono ?_
 rintro r w3 ⟨rfl, x3⟩
 exact ⟨rfl, (x1.new x2 (aoP _)).seq x3⟩
end Go.Proofs.YtoecppploooloaaGreatDoor
namespace Go.Proofs.YtoecppploooloaaGreatDoor
open Go Go.En Go.Pu
set_option maxRecDepth 4000
def XN (L : List UInt8) : Nat := (XXH L).toNat
theorem TU (a b : Int) : 0 <= QT .u64 a b /\ QT .u64 a b < 2 ^ 64 := by
 unfold QT
 have h : (BitVec.ofInt IntKind.u64.bits a ^^^ BitVec.ofInt IntKind.u64.bits b).toNat < 2 ^ 64 := BitVec.isLt _
 rw [hZ (by omega) (by omega)]
 omega
theorem amB (L : List UInt8) : XN L < 2 ^ 64 := by
 have := TU
 unfold XN XXH aeN
 simp only []
 generalize IntKind.u64.wrap (QT .u64 (IntKind.u64.wrap _) _ * 1609587929392839161) = y
 have := TU y (y.fdiv (2 ^ min (32 : Int).toNat IntKind.u64.bits))
 omega
theorem alB (L : List UInt8) : XXH L = (XN L : Int) := by
 have : 0 <= XXH L := by
  unfold XXH aeN
  exact (TU _ _).1
 unfold XN
 omega
theorem ahQ {w : atO} : jD pg Ck #[] w (fun r w' => r = .agg #[.int .u32 1, .int .u32 4, .int .u32 8] /\ jM w w' mN) := by
 refine Rd ?_
 unfold Qh Fl
 refine rM fun w1 o1 x1 s1 => ?_
 try simp (disch := omega) only [gE, jE, cS, stepR_skip, hO, iA, iO, iM, iJ, iL, jH, iT, gL, iD, iF, iC, iH, hJ, iN, hU, iE, iR, iS, iI, gQ, iQ, iP, iG, kR, kQ, lE, lH, lG, lD, lF, lC, lB, gB, Result.ok.injEq, Next.value.injEq, true_and, and_true, gY, hZ, iV, iW, iU, jG, aoE, gV, gU, gX, gT, gM, gI, gN, gK, fZ, fU, if_true, if_false, aoD, aoH, aoF, aoG, aoJ, aoI, aoC, aoB, fM, fK, eZ, fQ, cU, eQ, eE, dJ, bO, fR, eS, aQ, cY, bF, bP, bJ, aI, cP, cB, eP, aF, gR, aK, cJ, aS, bS, fS, cC, cD, aB, gC, fC, aJ, aD, bH, gO, aP, eU, dT, dV, gG, dH, fH, dB, eH, eT, fD, cF, dF, gJ, dQ, cH, bA, bZ, cG, fP, aE, aG, aO, aV, bD, cL, bN, aA, fE, aM, cO, fI, eY, gH, bK, eK, eL, bW, fW, fF, eJ, dD, cR, dG, aW, bB, aH, gA, aL, dC, dW, aX, cI, fJ, dK, gD, fL, fA, fB, dP, aN, bX, dE, fY, fX, fG, dI, aT, dZ, fT, cQ, eX, fN, bY, bL, dU, aZ, dY, dO, cK, eI, eM, aY, dA, bE, dN, dS, dR, bM, cN, cM, dM, bR, cW, cV, fO, bV, eF, eN, gF, dX, eD, dL, cZ, bG, bQ, bT, bU, aR, cX, aU]
 refine pS o1 rfl (by simp [one]) (by simp) fun w2 o2 x2 s2 => ?_
 refine EO o2 (by simp [qL]) ?_
 exact ⟨rfl, x1.new x2 (by omega)⟩
def skF (k : UInt8) (b : List UInt8) : List UInt8 := UInt8.ofNat (80 + k.toNat % 16) :: 42 :: 77 :: 24 :: UInt8.ofNat b.length :: 0 :: 0 :: 0 :: b
def adH : List (UInt8 × List UInt8) -> List UInt8
 | [] => []
 | (k, b) :: L => skF k b ++ adH L
def Zh : Nat -> List (UInt8 × List UInt8) -> List Nat
 | _, [] => []
 | n, (k, b) :: L => (n + (8 + b.length)) :: Zh (n + (8 + b.length)) L
def RwS (w : atO) (v : atP) (ls : List (List UInt8)) : Prop := ∃ vs : List atP, Sl w v vs /\ vs.length = ls.length /\ ∀ i (h : i < ls.length) (h' : i < vs.length), Bs w vs[i] ls[i]
theorem RwS.ext {w w' : atO} {v : atP} {ls : List (List UInt8)} (h : RwS w v ls) (x : jM w w' mN) : RwS w' v ls := by
 obtain ⟨vs, h1, h2, h3⟩ := h
 exact ⟨vs, h1.ext x (kJ _), h2, fun i a b => (h3 i a b).ext x (kJ _)⟩
theorem RwS.len {w : atO} {v : atP} {ls : List (List UInt8)} (h : RwS w v ls) : ∃ a c, v = .slice a ls.length c := by
 obtain ⟨vs, ⟨a, n, c, rfl, hn, hc, _⟩, h2, h3⟩ := h
 exact ⟨a, c, by rw [<- h2, hn]⟩
theorem RwS.at {w : atO} {v : atP} {ls : List (List UInt8)} (h : RwS w v ls) {i : Nat} (hi : i < ls.length) : ∃ b o c u, v = .slice (some ⟨b, o, none⟩) ls.length c /\ w.cell? ⟨b, o + i, none⟩ = some u /\ Bs w u (ls[i]'hi) := by
 obtain ⟨vs, ⟨a, n, c, rfl, hn, hc, hh⟩, h2, h3⟩ := h
 obtain ⟨b, o, rfl, h4⟩ := hh (by omega)
 have h5 := h4 i (by omega)
 rw [aoM (by omega)] at h5
 exact ⟨b, o, c, _, by rw [<- h2, hn], h5, h3 i hi (by omega)⟩
theorem akL {w : atO} {b : Nat} {l : List UInt8} (h : mQ w b (l.map oZ)) : Bs w (.slice (some ⟨b, 0, none⟩) l.length l.length) l :=
 h.bs (off := 0) (c := l.length) (aoP _) (fun i hi => by rw [aoH, aoY, aoM hi] <;> rfl)
def iv (n : Nat) : atP := .int .i64 (n : Nat)
def akT (base : Nat) (w : atO) (va ve : atP) (L : List (UInt8 × List UInt8)) : Prop :=
 ∃ S T : Nat -> Prop, LF w S 1 va (adH L).length ((adH L).map oZ) /\ LF w T 1 ve (Zh 0 L).length ((Zh 0 L).map iv) /\ (∀ b, S b -> base <= b /\ ¬ T b) /\ (∀ b, T b -> base <= b)
theorem akT.ext {base : Nat} {w w' : atO} {va ve : atP} {L : List (UInt8 × List UInt8)} (h : akT base w va ve L) (x : jM w w' mN) : akT base w' va ve L := by
 obtain ⟨S, T, h1, h2, h3, h4⟩ := h
 exact ⟨S, T, h1.ext x (fun _ _ h => h), h2.ext x (fun _ _ h => h), h3, h4⟩
theorem ofN {n : Nat} (h : n < 256) : (UInt8.ofNat n).toNat = n := by rw [UInt8.toNat_ofNat']; omega
def b3 (x : Nat) : List UInt8 := [UInt8.ofNat (x % 256), UInt8.ofNat (x / 256 % 256), UInt8.ofNat (x / 65536 % 256)]
def smX (n : Nat) (b : Bool) : Nat := 8 * n + 2 + (if b then 1 else 0)
def ahT (n : Nat) (c : UInt8) (b : Bool) : List UInt8 := b3 (smX n b) ++ [c]
def Lm (n : Nat) (s : Bool) : List UInt8 := if n < 256 then [40, 181, 47, 253] ++ pB (32 + (if s then 4 else 0)) 1 ++ pB n 1 else [40, 181, 47, 253] ++ pB (32 + (if s then 4 else 0) + 64) 1 ++ pB (n - 256) 2
theorem Xy (n : Nat) (s : Bool) : (Lm n s).length <= 7 := by
 unfold Lm
 split
 .rw [aoL, aoL, mC, mC]; simp
 .rw [aoL, aoL, mC, mC]; simp
def enT (b : List UInt8) (s : Bool) : List UInt8 := if s then pB (XN b) 4 else []
def enF (b blk : List UInt8) (s : Bool) : List UInt8 := Lm b.length s ++ (blk ++ enT b s)
def ajL (b : List UInt8) : List UInt8 := b3 (8 * b.length + 1) ++ b
theorem Mb {a b : Nat} (k : Nat) (h : b < 2 ^ k) : a * 2 ^ k ||| b = a * 2 ^ k + b := by
 rw [<- Nat.shiftLeft_eq, Nat.shiftLeft_add_eq_or_of_lt h]
def uN (k n : Nat) : List UInt8 := if n < 32 then pB (n * 8 + k) 1 else if n < 4096 then pB (n * 16 + 4 + k) 2 else pB (n * 16 + 12 + k) 3
theorem LO (k n : Nat) : (uN k n).length <= 3 := by
 unfold uN; split
 .simp [mC]
 .split <;> simp [mC]
end Go.Proofs.YtoecppploooloaaGreatDoor
namespace Go.Pu
def PT (w : Nat) : Nat := if w = 0 then 0 else 2 ^ (w - 1)
def mK (l : List Nat) : Nat := (l.map PT).sum
def Ap (d : Nat) (l : List Nat) : Bool := l.all fun w => decide (w <= d)
def oC (l : List Nat) : Nat :=
 if Ap 11 l = true /\ 2 <= l.length /\ l.length <= 256 /\ l.getLast? ≠ some 0 /\ 2 ^ (mK l).log2 = mK l /\ (mK l).log2 <= 11 /\ Ap (mK l).log2 l = true then (mK l).log2 else 0
theorem V0 (a b : List Nat) : mK (a ++ b) = mK a + mK b := by simp [mK]
theorem qG (w : Nat) (l : List Nat) : mK (w :: l) = PT w + mK l := by simp [mK]
theorem Z5 {w : Nat} (h : w <= 11) : PT w <= 1024 := by
 unfold PT
 split
 .omega
 .have : 2 ^ (w - 1) <= 2 ^ 10 := apE (by omega) (by omega)
  omega
theorem Ty : ∀ {l : List Nat}, (∀ w ∈ l, w <= 11) -> mK l <= 1024 * l.length
 | [], _ => by simp [mK]
 | w :: l, h => by
   have h1 := Z5 (h w (apL ..))
   have h2 := Ty fun x hx => h x (aoR _ hx)
   rw [qG, aoV]; omega
theorem XI {w : Nat} : ∀ {l : List Nat}, w ∈ l -> PT w <= mK l
 | [], h => by cases h
 | x :: l, h => by
   rw [qG]
   rcases apZ.1 h with rfl | h
   .omega
   .have := XI h; omega
theorem AV {d : Nat} {l : List Nat} : Ap d l = true ↔ ∀ w ∈ l, w <= d := by simp [Ap]
theorem agP : ∀ (s : Nat), 0 < s -> ((s &&& (s - 1) = 0) ↔ 2 ^ s.log2 = s) := by
 intro s
 induction s using Nat.strongRecOn with
 | ind s ih =>
   intro h
   by_cases h1 : s = 1
   .subst h1; decide
   .have hl : s.log2 = (s / 2).log2 + 1 := by
     rw [Nat.log2_def, if_pos (by omega)]
    have hd : (s &&& (s - 1)) / 2 = s / 2 &&& (s - 1) / 2 := Nat.and_div_two
    have hm : (s &&& (s - 1)) % 2 = 0 := by
     rcases Nat.mod_two_eq_zero_or_one (s &&& (s - 1)) with h' | h'
     .exact h'
     .rw [Nat.and_mod_two_eq_one] at h'; omega
    rw [hl, asH]
    rcases Nat.mod_two_eq_zero_or_one s with h2 | h2
    .have he : (s - 1) / 2 = s / 2 - 1 := by omega
     rw [he] at hd
     have := ih (s / 2) (by omega) (by omega)
     constructor
     .intro h0
      rw [h0] at hd
      have := this.1 (by omega)
      omega
     .intro h0
      have := this.2 (by omega)
      omega
    .have he : (s - 1) / 2 = s / 2 := by omega
     rw [he, Nat.and_self] at hd
     constructor
     .intro h0; omega
     .intro h0; omega
theorem KD {l : List Nat} {d : Nat} (h : oC l = d) (hd : d ≠ 0) : (∀ w ∈ l, w <= d) /\ d <= 11 /\ 2 <= l.length /\ l.length <= 256 /\ l.getLast? ≠ some 0 /\ mK l = 2 ^ d := by
 unfold oC at h
 split at h
 .rename_i hh
  obtain ⟨h1, h2, h3, h4, h5, h6, h7⟩ := hh
  subst h
  exact ⟨AV.1 h7, h6, h2, h3, h4, h5.symm⟩
 .exact absurd h.symm hd
theorem acF {l : List Nat} {d : Nat} (h1 : ∀ w ∈ l, w <= d) (h2 : d <= 11) (h3 : 2 <= l.length) (h4 : l.length <= 256) (h5 : l.getLast? ≠ some 0) (h6 : mK l = 2 ^ d) : oC l = d := by
 unfold oC
 have hl : (mK l).log2 = d := by rw [h6, Nat.log2_two_pow]
 rw [hl, if_pos ⟨AV.2 fun w hw => aqC (h1 w hw) h2, h3, h4, h5, h6.symm, h2, AV.2 h1⟩]
def vW (l : List Nat) (w : Nat) : Nat := mK (l.filter fun x => decide (x < w))
def IF (l : List Nat) (s : Nat) : Nat := vW l (l.getD s 0) + (l.take s).count (l.getD s 0) * 2 ^ (l.getD s 0 - 1)
def EH (l : List Nat) (d s : Nat) : Nat × Nat := if l.getD s 0 = 0 then (0, 0) else (d + 1 - l.getD s 0, IF l s / 2 ^ (l.getD s 0 - 1))
theorem I9 (l : List Nat) (w : Nat) (hw : 1 <= w) : vW l (w + 1) = vW l w + l.count w * 2 ^ (w - 1) := by
 unfold vW
 induction l with
 | nil => simp [mK]
 | cons x l ih =>
   rw [List.count_cons, asL, asL]
   by_cases h1 : x < w
   .rw [if_pos (by simp; omega), if_pos (by simp; omega), qG, qG, ih]
    have : (x == w) = false := by simp; omega
    rw [this]; simp; omega
   .by_cases h2 : x = w
    .subst h2
     rw [if_pos (by simp), if_neg (by simp), qG, ih]
     have : PT x = 2 ^ (x - 1) := by unfold PT; rw [if_neg (by omega)]
     rw [this]; simp [apW]; omega
    .rw [if_neg (by simp; omega), if_neg (by simp; omega), ih]
     have : (x == w) = false := by simpa using h2
     rw [this]; simp
theorem VX (l : List Nat) : vW l 1 = 0 := by
 unfold vW
 induction l with
 | nil => rfl
 | cons x l ih =>
   rw [asL]
   split
   .rename_i h
    have : x = 0 := by simp at h; omega
    subst this
    rw [qG, ih] <;> rfl
   .exact ih
theorem QK {l : List Nat} {d : Nat} (h : ∀ w ∈ l, w <= d) : vW l (d + 1) = mK l := by
 unfold vW
 rw [List.filter_eq_self.2 fun a ha => by have := h a ha; simp; omega]
theorem VV {l : List Nat} {d w : Nat} (hs : mK l = 2 ^ d) (hw : w <= d + 1) (h1 : 1 <= w) : 2 ^ (w - 1) ∣ vW l w := by
 have hsplit : ∀ l : List Nat, mK l = vW l w + mK (l.filter fun x => decide (w <= x)) := by
  intro l
  unfold vW
  induction l with
  | nil => rfl
  | cons x l ih =>
    rw [asL, asL, qG, ih]
    by_cases h : x < w
    .rw [if_pos (by simpa using h), if_neg (by simp; omega), qG]; omega
    .rw [if_neg (by simpa using h), if_pos (by simp; omega), qG]; omega
 have hhigh : 2 ^ (w - 1) ∣ mK (l.filter fun x => decide (w <= x)) := by
  generalize hL : l.filter (fun x => decide (w <= x)) = L
  have hge : ∀ x ∈ L, w <= x := fun x hx => by rw [<- hL] at hx; simpa using (atJ.1 hx).2
  clear hL
  induction L with
  | nil => exact Nat.dvd_zero _
  | cons x L ih =>
    rw [qG]
    refine Nat.dvd_add ?_ (ih fun y hy => hge y (aoR _ hy))
    have := hge x (apL ..)
    unfold PT
    rw [if_neg (by omega)]
    exact atM 2 (by omega)
 have htot : 2 ^ (w - 1) ∣ mK l := by rw [hs]; exact atM 2 (by omega)
 rw [hsplit l] at htot
 exact (Nat.dvd_add_left hhigh).1 htot
theorem DP {l : List Nat} {s : Nat} (h : s < l.length) : l.getD s 0 ∈ l := by
 rw [aoN, aoM h]; exact aqE h
theorem aeO {l : List Nat} {s : Nat} (h : s < l.length) : (l.take s).count (l.getD s 0) + 1 <= l.count (l.getD s 0) := by
 have hg : l.getD s 0 = l[s] := by rw [aoN, aoM h] <;> rfl
 have e : l = l.take s ++ l[s] :: l.drop (s + 1) := by rw [<- aqP h, arM]
 rw [hg]
 have : l.count l[s] = (l.take s ++ l[s] :: l.drop (s + 1)).count l[s] := by rw [<- e]
 rw [this, List.count_append, List.count_cons]; simp
theorem Ok {l : List Nat} {a b : Nat} (h1 : 1 <= a) (h : a <= b) : vW l a <= vW l b := by
 obtain ⟨c, rfl⟩ := Nat.exists_eq_add_of_le h
 induction c with
 | zero => exact aoP _
 | succ c ih =>
   have := I9 l (a + c) (by omega)
   rw [<- arN]
   have := ih (by omega)
   omega
theorem agC {l : List Nat} {s : Nat} (h : s < l.length) (h0 : l.getD s 0 ≠ 0) : IF l s + 2 ^ (l.getD s 0 - 1) <= vW l (l.getD s 0 + 1) := by
 have h1 := aeO h
 rw [I9 l _ (by omega)]
 unfold IF
 have := apG (2 ^ (l.getD s 0 - 1)) h1
 rw [apW] at this
 omega
theorem adV {l : List Nat} {s d : Nat} (h : s < l.length) (h0 : l.getD s 0 ≠ 0) (hs : mK l = 2 ^ d) (hd : l.getD s 0 <= d) : 2 ^ (l.getD s 0 - 1) ∣ IF l s :=
 Nat.dvd_add (VV hs (by omega) (by omega)) (Nat.dvd_mul_left _ _)
theorem acW {l : List Nat} {s d : Nat} (h : s < l.length) (h0 : l.getD s 0 ≠ 0) (hs : mK l = 2 ^ d) (hall : ∀ w ∈ l, w <= d) : IF l s / 2 ^ (l.getD s 0 - 1) < 2 ^ (d + 1 - l.getD s 0) := by
 have hd := hall _ (DP h)
 have h1 := agC h h0
 have h2 := Ok (l := l) (a := l.getD s 0 + 1) (b := d + 1) (by omega) (by omega)
 rw [QK hall, hs] at h2
 rw [asG (apR _), <- aqN, show d + 1 - l.getD s 0 + (l.getD s 0 - 1) = d from by omega]
 have := apR (l.getD s 0 - 1)
 omega
theorem Wi {l : List Nat} {s t d : Nat} (hsl : s < l.length) (htl : t < l.length) (hst : s ≠ t) (hs0 : l.getD s 0 ≠ 0) (ht0 : l.getD t 0 ≠ 0) (hw : l.getD t 0 <= l.getD s 0) (hs : mK l = 2 ^ d) (hall : ∀ w ∈ l, w <= d) :
 IF l t / 2 ^ (l.getD t 0 - 1) / 2 ^ (l.getD s 0 - l.getD t 0) ≠ IF l s / 2 ^ (l.getD s 0 - 1) := by
 rw [aqY, <- aqN, show l.getD t 0 - 1 + (l.getD s 0 - l.getD t 0) = l.getD s 0 - 1 from by omega]
 have hp := apR (l.getD s 0 - 1)
 obtain ⟨q, hq⟩ := adV hsl hs0 hs (hall _ (DP hsl))
 rw [hq, atA _ hp]
 rcases aoT (l.getD t 0) (l.getD s 0) with hlt | hge
 .have h1 := agC htl ht0
  have h2 := Ok (l := l) (a := l.getD t 0 + 1) (b := l.getD s 0) (by omega) (by omega)
  have h3 : vW l (l.getD s 0) <= IF l s := Nat.le_add_right _ _
  have hp2 := apR (l.getD t 0 - 1)
  have : IF l t / 2 ^ (l.getD s 0 - 1) < q := by
   rw [asG hp, apU]
   omega
  omega
 .have he : l.getD t 0 = l.getD s 0 := by omega
  have hne : (l.take t).count (l.getD t 0) ≠ (l.take s).count (l.getD s 0) := by
   have key : ∀ {a b : Nat}, a < b -> b < l.length -> l.getD a 0 = l.getD b 0 -> (l.take a).count (l.getD a 0) < (l.take b).count (l.getD b 0) := by
    intro a b hab hb hab2
    have h1 := aeO (l := l.take b) (s := a) (by rw [apA]; omega)
    have h2 : (l.take b).getD a 0 = l.getD a 0 := by
     rw [aoN, aoN, aqD hab]
    rw [h2, List.take_take, aqX (by omega)] at h1
    rw [<- hab2]; omega
   rcases Nat.lt_or_gt_of_ne hst with h | h
   .have := key h htl he.symm; omega
   .have := key h hsl he; omega
  intro h
  apply hne
  unfold IF at hq h
  rw [he] at h ⊢
  obtain ⟨r, hr⟩ := VV hs (by have := hall _ (DP hsl); omega) (by omega : 1 <= l.getD s 0)
  rw [hr] at hq h
  generalize 2 ^ (l.getD s 0 - 1) = p at *
  generalize (l.take t).count (l.getD s 0) = x at *
  generalize (l.take s).count (l.getD s 0) = y at *
  rw [apU x p, <- asO, atA _ hp] at h
  rw [apU y p, <- asO] at hq
  have := Nat.eq_of_mul_eq_mul_left hp hq
  omega
def tY (o : Nat) : Nat := if o = 0 then 0 else 2 ^ (11 - o)
def mR (out : List Nat) : Nat := (out.map tY).sum
theorem sO (o : Nat) (l : List Nat) : mR (o :: l) = tY o + mR l := by simp [mR]
theorem Pc : ∀ {l : List Nat} {i : Nat} (o : Nat) (h : i < l.length), mR (l.set i o) + tY l[i] = mR l + tY o
 | [], i, o, h => by simp at h
 | x :: l, 0, o, h => by rw [aoZ, sO, sO, atE]; omega
 | x :: l, i + 1, o, h => by
   rw [apC, sO, sO, aqZ]
   have := Pc (l := l) (i := i) o (by simpa using h)
   omega
theorem RN : ∀ {l : List Nat}, (∀ o ∈ l, o = 0 ∨ o = 11) -> mR l <= l.length
 | [], _ => by simp [mR]
 | x :: l, h => by
   have h1 := h x (apL ..)
   have h2 := RN fun y hy => h y (aoR _ hy)
   rw [sO, aoV]
   have : tY x <= 1 := by
    rcases h1 with rfl | rfl <;> decide
   omega
theorem WR {M : Nat} (hM : M <= 11) : ∀ {l : List Nat}, (∀ o ∈ l, o <= M) -> 2 ^ (11 - M) ∣ mR l
 | [], _ => Nat.dvd_zero _
 | x :: l, h => by
   rw [sO]
   refine Nat.dvd_add ?_ (WR hM fun y hy => h y (aoR _ hy))
   have := h x (apL ..)
   unfold tY
   split
   .exact Nat.dvd_zero _
   .exact atM 2 (by omega)
theorem WK {o : Nat} : ∀ {l : List Nat}, o ∈ l -> tY o <= mR l
 | [], h => by cases h
 | x :: l, h => by
   rw [sO]
   rcases apZ.1 h with rfl | h
   .omega
   .have := WK h; omega
theorem aaL {o : Nat} (h : o ≠ 0) : 1 <= tY o := by
 unfold tY; rw [if_neg h]; exact Nat.one_le_two_pow
theorem T4 : ∀ {l : List Nat} {i j : Nat} (hi : i < l.length) (hj : j < l.length), i < j -> tY l[i] + tY l[j] <= mR l
 | [], i, j, hi, hj, h => by simp at hi
 | x :: l, 0, j + 1, hi, hj, h => by
   have := WK (l := l) (aqE (show j < l.length by simpa using hj))
   rw [sO, atE, aqZ]; omega
 | x :: l, i + 1, j + 1, hi, hj, h => by
   have := T4 (l := l) (i := i) (j := j) (by simpa using hi) (by simpa using hj) (by omega)
   rw [sO, aqZ, aqZ]; omega
def YQ (d o : Nat) : Nat := if o = 0 then 0 else d + 1 - o
theorem Ug {d : Nat} (hd : d <= 11) : ∀ {l : List Nat}, (∀ o ∈ l, o <= d) -> mK (l.map (YQ d)) * 2 ^ (11 - d) = mR l
 | [], _ => by simp [mK, mR]
 | x :: l, h => by
   have h1 := h x (apL ..)
   rw [apJ, qG, sO, apW, Ug hd fun y hy => h y (aoR _ hy)]
   congr 1
   unfold PT YQ tY
   by_cases h0 : x = 0
   .subst h0; simp
   .rw [if_neg h0, if_neg h0, if_neg (by omega), <- aqN]
    congr 1; omega
theorem aeC {d : Nat} {l : List Nat} (hd : d <= 11) (h : ∀ o ∈ l, o <= d) (hk : mR l = 2048) : mK (l.map (YQ d)) = 2 ^ d := by
 have := Ug hd h
 rw [hk, show (2048 : Nat) = 2 ^ d * 2 ^ (11 - d) from by rw [<- aqN, show d + (11 - d) = 11 from by omega]] at this
 exact Nat.eq_of_mul_eq_mul_right (apR _) this
end Go.Pu
namespace Go.Proofs.YtoecppploooloaaGreatDoor
open Go Go.En Go.Pu
set_option maxRecDepth 4000
abbrev jZ (l : List UInt8) : List Nat := l.map (·.toNat)
theorem mY (l : List UInt8) : (jZ l).length = l.length := by simp
theorem XD {l : List UInt8} {i : Nat} (h : i < l.length) : (jZ l)[i]? = some (l[i].toNat) := by rw [aoY, aoM h] <;> rfl
theorem Pg {l : List UInt8} {i : Nat} (h : i < l.length) : jZ (l.take (i + 1)) = jZ (l.take i) ++ [l[i].toNat] := by
 unfold jZ
 rw [arZ, aoM h, apN] <;> rfl
theorem aaM {l : List UInt8} (h : 0 < l.length) : (jZ l).getLast? = some 0 ↔ l[l.length - 1].toNat = 0 := by
 rw [asT, mY, XD (by omega)]
 simp
theorem aiI (l : List UInt8) : ∀ w ∈ jZ l, w < 256 := fun w hw => by
 obtain ⟨x, _, rfl⟩ := aqB.1 hw
 exact aqU x
theorem Zl {d : Nat} {l : List Nat} {x : Nat} : Ap d (l ++ [x]) = (Ap d l && decide (x <= d)) := by
 unfold Ap; rw [List.all_append]; simp
theorem YO {d : Nat} {l : List Nat} {i : Nat} (h : Ap d (l.take i) = false) : Ap d l = false := by
 cases hq : Ap d l with
 | false => rfl
 | true =>
   rw [AV] at hq
   have : Ap d (l.take i) = true := AV.2 fun w hw => hq w (aqM hw)
   rw [this] at h; cases h
theorem ahA {v : atP} {l : List UInt8} {w : atO} (h : Bs w v l) (hl : l.length <= 100000) :
 jD pg Cj #[v] w (fun r w' => r = .tuple #[.int .i64 (if Ap 11 (jZ l) = true then mK (jZ l) else 0 : Nat), .bool (Ap 11 (jZ l))] /\ w' = w) := by
 refine Rb ?_
 obtain ⟨a, n, c, rfl, hn, hc, hh⟩ := id h
 rw [aoK] at hn
 subst hn
 unfold Qp Dq DU Fq Fu FN
 simp (disch := omega) only [gE, fM, cS]
 unfold EI Ff
 refine kE.rule (fun m (t : atP × atP) w' => ∃ i : Nat, m = l.length - i /\ t = (.int .i64 (mK (jZ (l.take i)) : Nat), .int .i64 i) /\ i <= l.length /\ Ap 11 (jZ (l.take i)) = true /\ w' = w) l.length
  ⟨0, rfl, by simp [mK], by omega, by simp [Ap], rfl⟩ ?_
 rintro m t w1 ⟨i, rfl, rfl, hi, hle, rfl⟩
 unfold A4 Fp
 by_cases hlt : i < l.length
 .have d1 : decide ((i : Int) < (l.length : Int)) = true := by simp; omega
  obtain ⟨b, off, rfl, hcell⟩ := slA h (by omega)
  have g1 := hcell i hlt
  rw [aoY, aoM hlt] at g1
  simp only [apM, oZ] at g1
  have ht := Pg hlt
  have hx : (l[i]).toNat < 256 := aqU _
  have hwl := Ty (AV.1 hle)
  rw [mY, apA] at hwl
  have hsn : Ap 11 (jZ (l.take (i + 1))) = (Ap 11 (jZ (l.take i)) && decide ((l[i]).toNat <= 11)) := by rw [ht, Zl]
  have hwn : mK (jZ (l.take (i + 1))) = mK (jZ (l.take i)) + PT (l[i]).toNat := by rw [ht, V0, qG] <;> rfl
  have hbad : Ap 11 (jZ (l.take (i + 1))) = false -> Ap 11 (jZ l) = false := fun h => YO (i := i + 1) (by rw [<- asN]; exact h)
  generalize (l[i]).toNat = x at *
  unfold AO
  by_cases h11 : 11 < x
  .have d2 : decide ((11 : Int) < (x : Int)) = true := by simp; omega
   have hf := hbad (by rw [hsn, hle, decide_eq_false (by omega)] <;> rfl)
   simp (disch := omega) only [gE, hJ, d1, fQ, aoE, hO, gY, cS, gJ, g1, gB, hU, d2, iA, jG, iD, and_true, fZ]
   rw [hf]; simp
  .have d2 : decide ((11 : Int) < (x : Int)) = false := by simp; omega
   have hle1 : Ap 11 (jZ (l.take (i + 1))) = true := by rw [hsn, hle, decide_eq_true (by omega)] <;> rfl
   have hwp := Z5 (w := x) (by omega)
   by_cases h0 : 0 < x
   .have d3 : decide ((0 : Int) < (x : Int)) = true := by simp; omega
    have e1 : (x : Int) - 1 = ((x - 1 : Nat) : Int) := by omega
    have hsh := acU (n := x - 1) (by omega)
    have hpw : PT x = 2 ^ (x - 1) := by unfold PT; rw [if_neg (by omega)]
    have e2 : ((mK (jZ (l.take i)) : Nat) : Int) + ((2 ^ (x - 1) : Nat) : Int) = ((mK (jZ (l.take i)) + 2 ^ (x - 1) : Nat) : Int) := by omega
    rw [hpw] at hwp hwn
    simp (disch := omega) only [gE, hJ, d1, fQ, aoE, hO, gY, cS, gJ, g1, gB, hU, d2, d3, iA, e1, jG, iD, hsh, e2, fZ, and_true, fU]
    exact ⟨l.length - (i + 1), by omega, i + 1, rfl, by rw [hwn] <;> rfl, by omega, hle1⟩
   .have d3 : decide ((0 : Int) < (x : Int)) = false := by simp; omega
    have hpw : PT x = 0 := by unfold PT; rw [if_pos (by omega)]
    simp (disch := omega) only [gE, hJ, d1, fQ, aoE, hO, gY, cS, gJ, g1, gB, hU, d2, d3, iA, fU, and_true, fZ]
    exact ⟨l.length - (i + 1), by omega, i + 1, rfl, by rw [hwn, hpw] <;> rfl, by omega, hle1⟩
 .have d1 : decide ((i : Int) < (l.length : Int)) = false := by simp; omega
  obtain rfl : i = l.length := by omega
  rw [asK] at *
  unfold A7
  simp (disch := omega) only [gE, hJ, d1, cS, and_true, fU]
  rw [hle]; simp
theorem akJ {a b : Nat} (ha : a < 2 ^ 63) (hb : b < 2 ^ 63) : Zk .i64 (a : Int) (b : Int) = ((a &&& b : Nat) : Int) := by
 unfold Zk
 have e : IntKind.i64.bits = 64 := rfl
 have h := Nat.and_lt_two_pow (n := 63) a hb
 rw [e, BitVec.ofInt_natCast, BitVec.ofInt_natCast, BitVec.toNat_and, BitVec.toNat_ofNat, BitVec.toNat_ofNat, apX (by omega), apX (by omega)]
 exact gY (by omega) (by omega)
theorem akA {v : atP} {l : List UInt8} {w : atO} (h : Bs w v l) (h0 : 0 < l.length) (hl : l.length <= 100000) :
 jD pg tE #[v] w (fun r w' => (∃ m : Nat, r = .int .u8 m /\ (∀ x ∈ jZ l, x <= m) /\ m ∈ jZ l) /\ w' = w) := by
 refine JT ?_
 obtain ⟨b, off, c, rfl, hc, hcell⟩ := Vc h h0
 unfold GU vL vS
 have d0 : decide ((l.length : Int) < 1) = false := by simp; omega
 have g0 := hcell 0 h0
 have t0 : (0 : Int).toNat = 0 := rfl
 simp (disch := omega) only [gE, fM, cS, hJ, d0, fU]
 unfold xQ xX
 simp (disch := omega) only [gE, fQ, t0, cS, gJ, g0, gB]
 unfold xL xN wS xF wO
 refine kE.rule (fun m (t : atP × atP) w' => ∃ i q : Nat, m = l.length - i /\ t = (.int .u8 q, .int .i64 i) /\ 1 <= i /\ i <= l.length /\ (∀ x ∈ jZ (l.take i), x <= q) /\ q ∈ jZ (l.take i) /\ w' = w) (l.length - 1)
  ⟨1, l[0].toNat, by omega, rfl, by omega, by omega, ?_, ?_, rfl⟩ ?_
 .intro x hx
  rw [Pg (i := 0) h0] at hx
  simp at hx; omega
 .rw [Pg (i := 0) h0]; simp
 rintro m t w1 ⟨i, q, rfl, rfl, hi1, hi, hle, hmem, rfl⟩
 unfold rY
 by_cases hlt : i < l.length
 .have d1 : decide ((i : Int) < (l.length : Int)) = true := by simp; omega
  have g1 := hcell i hlt
  have ht := Pg hlt
  generalize (l[i]).toNat = x at *
  have hmx : (if (q : Int) <= (x : Int) then (x : Int) else (q : Int)) = ((max q x : Nat) : Int) := by split <;> omega
  have hmx2 : (if (x : Int) > (q : Int) then (x : Int) else (q : Int)) = ((max q x : Nat) : Int) := by split <;> omega
  have hmx3 : (if (q : Int) < (x : Int) then (x : Int) else (q : Int)) = ((max q x : Nat) : Int) := by split <;> omega
  simp (disch := omega) only [gE, fM, fQ, aoE, hO, gY, cS, gJ, hJ, d1, g1, gB, iP, hmx2, and_true, fZ]
  refine ⟨l.length - (i + 1), by omega, i + 1, max q x, rfl, rfl, by omega, by omega, ?_, ?_⟩
  .intro y hy
   rw [ht] at hy
   rcases aqJ.1 hy with hy | hy
   .have := hle y hy; omega
   .rw [asX.1 hy]; omega
  .rw [ht, aqJ]
   rcases atH q x with h | h
   .rw [Nat.max_eq_right h]; exact .inr (asX.2 rfl)
   .rw [Nat.max_eq_left h]; exact .inl hmem
 .have d1 : decide ((i : Int) < (l.length : Int)) = false := by simp; omega
  obtain rfl : i = l.length := by omega
  rw [asK] at *
  unfold rW
  simp (disch := omega) only [gE, fM, hO, gY, cS, hJ, d1, and_true, fU]
  exact ⟨q, rfl, hle, hmem⟩
theorem U1 {v : atP} {l : List UInt8} {w : atO} (h : Bs w v l) (hl : l.length <= 100000) :
 jD pg yH #[v] w (fun r w' => r = .int .i64 (oC (jZ l) : Nat) /\ w' = w) := by
 refine Q7 ?_
 obtain ⟨a, n, c, rfl, hn, hc, hh⟩ := id h
 rw [aoK] at hn
 subst hn
 have no : ¬ (Ap 11 (jZ l) = true /\ 2 <= (jZ l).length /\ (jZ l).length <= 256 /\ (jZ l).getLast? ≠ some 0 /\ 2 ^ (mK (jZ l)).log2 = mK (jZ l) /\ (mK (jZ l)).log2 <= 11 /\ Ap (mK (jZ l)).log2 (jZ l) = true) -> oC (jZ l) = 0 := fun h => by
  unfold oC; rw [if_neg h]
 have hnl := mY l
 unfold Qs EP
 refine (ahA h hl).mono ?_
 rintro r w1 ⟨rfl, rfl⟩
 cases hok : Ap 11 (jZ l) with
 | false =>
   have := no (by rw [hok]; simp)
   simp (disch := omega) only [gE, aoD, if_false, kR, kQ, cS, iI, aoI, gU, gQ, if_true, fZ, gI, and_true]
   rw [this] <;> rfl
 | true =>
   have hw := Ty (AV.1 hok)
   rw [hnl] at hw
   by_cases h2 : l.length < 2
   .have d2 : decide ((l.length : Int) < 2) = true := by simp; omega
    have := no (by omega)
    simp (disch := omega) only [gE, if_true, kR, kQ, cS, iI, aoJ, gT, gQ, aoD, if_false, gM, fM, hJ, d2, gU, fZ, gI, and_true]
    rw [this] <;> rfl
   have d2 : decide ((l.length : Int) < 2) = false := by simp; omega
   by_cases h3 : 256 < l.length
   .have d3 : decide ((256 : Int) < (l.length : Int)) = true := by simp; omega
    have := no (by omega)
    simp (disch := omega) only [gE, if_true, kR, kQ, cS, iI, aoJ, gT, gQ, aoD, if_false, gM, fM, hJ, d2, hU, d3, gU, fZ, gI, and_true]
    rw [this] <;> rfl
   have d3 : decide ((256 : Int) < (l.length : Int)) = false := by simp; omega
   obtain ⟨b, off, rfl, hcell⟩ := slA h (by omega)
   have e1 : (l.length : Int) - 1 = ((l.length - 1 : Nat) : Int) := by omega
   have g1 := hcell (l.length - 1) (by omega)
   rw [aoY, aoM (by omega)] at g1
   simp only [apM, oZ] at g1
   have hla := aaM (l := l) (by omega)
   have hmem : (l[l.length - 1]'(by omega)).toNat ∈ jZ l := aqB.2 ⟨_, aqE _, rfl⟩
   generalize (l[l.length - 1]'(by omega)).toNat = x at *
   by_cases h4 : x = 0
   .have d4 : ((x : Int) == 0) = true := by rw [h4] <;> rfl
    have := no (fun h => h.2.2.2.1 (hla.2 h4))
    simp (disch := omega) only [gE, if_true, kR, kQ, cS, iI, aoJ, gT, gQ, aoD, if_false, gM, fM, hJ, d2, hU, d3, iA, e1, gY, fQ, aoE, gJ, g1, gB, fS, hZ, iC, d4, gU, fZ, gI, and_true]
    rw [this] <;> rfl
   have d4 : ((x : Int) == 0) = false := beq_eq_false_iff_ne.2 (by omega)
   have hwp := XI hmem
   have hwx : 1 <= PT x := by unfold PT; rw [if_neg h4]; exact Nat.one_le_two_pow
   obtain ⟨s, hs⟩ : ∃ s, mK (jZ l) = s := ⟨_, rfl⟩
   rw [hs] at no hw hwp ⊢
   have e2 : (s : Int) - 1 = ((s - 1 : Nat) : Int) := by omega
   have e3 := akJ (a := s) (b := s - 1) (by omega) (by omega)
   have hpw := agP s (by omega)
   have hlast : (jZ l).getLast? ≠ some 0 := fun h => h4 (hla.1 h)
   simp only [if_true]
   by_cases h5 : s &&& (s - 1) = 0
   .have d5 : (((s &&& (s - 1) : Nat) : Int) != 0) = false := by rw [h5] <;> rfl
    have hlog := hpw.1 h5
    have hbl : bl s = s.log2 + 1 := by unfold bl; rw [if_neg (by omega)]
    have e4 : ((s.log2 + 1 : Nat) : Int) - 1 = (s.log2 : Int) := by omega
    have hb20 : bl s <= 20 := OR (by omega)
    simp (disch := omega) only [gE, kR, kQ, cS, iI, aoJ, gT, gQ, aoD, if_false, gM, fM, hJ, d2, hU, d3, iA, e1, gY, fQ, aoE, gJ, g1, gB, fS, hZ, iC, d4, e2, iL, e3, iH, d5, and_true, fU]
    refine (alS s (by omega) w1).mono ?_
    rintro r w2 ⟨rfl, rfl⟩
    rw [hbl]
    by_cases h6 : 11 < s.log2
    .have d6 : decide ((11 : Int) < (s.log2 : Int)) = true := by simp; omega
     have := no (by omega)
     simp (disch := omega) only [iA, e4, gY, cS, hU, d6, gU, gQ, if_true, fZ, gI, and_true]
     rw [this] <;> rfl
    have d6 : decide ((11 : Int) < (s.log2 : Int)) = false := by simp; omega
    simp (disch := omega) only [iA, e4, gY, cS, hU, d6, gT, gQ, aoD, if_false, gM]
    refine (akA h (by omega) hl).mono ?_
    rintro r w3 ⟨⟨q, rfl, hq1, hq2⟩, rfl⟩
    have hq := aiI l q hq2
    by_cases h7 : s.log2 < q
    .have d7 : decide ((s.log2 : Int) < (q : Int)) = true := by simp; omega
     have := no (fun h => by have := AV.1 h.2.2.2.2.2.2 q hq2; omega)
     simp (disch := omega) only [fK, gY, cS, hU, d7, and_true, fZ]
     rw [this] <;> rfl
    .have d7 : decide ((s.log2 : Int) < (q : Int)) = false := by simp; omega
     have hyes : oC (jZ l) = s.log2 := by
      unfold oC
      rw [hs, if_pos ⟨hok, by omega, by omega, hlast, hlog, by omega, AV.2 fun y hy => by have := hq1 y hy; omega⟩]
     simp (disch := omega) only [fK, gY, cS, hU, d7, and_true, fU]
     rw [hyes]
   .have d5 : (((s &&& (s - 1) : Nat) : Int) != 0) = true := by simpa using h5
    have := no (fun h => h5 (hpw.2 h.2.2.2.2.1))
    simp (disch := omega) only [gE, kR, kQ, cS, iI, aoJ, gT, gQ, aoD, if_false, gM, fM, hJ, d2, hU, d3, iA, e1, gY, fQ, aoE, gJ, g1, gB, fS, hZ, iC, d4, e2, iL, e3, iH, d5, and_true, fZ]
    rw [this] <;> rfl
end Go.Proofs.YtoecppploooloaaGreatDoor
namespace Go.Pu
open Go Go.En
def cc : List (Nat × Nat) -> List atP
 | [] => []
 | e :: r => .int .i64 (e.1 : Nat) :: .int .i64 (e.2 : Nat) :: cc r
theorem WJ : ∀ L : List (Nat × Nat), (cc L).length = 2 * L.length
 | [] => rfl
 | e :: r => by rw [cc, aoV, aoV, WJ r, aoV]; omega
theorem Z0 : ∀ n : Nat, KV n [Value.int .i64 0, Value.int .i64 0] = cc (List.replicate n (0, 0))
 | 0 => rfl
 | n + 1 => by
   have := Z0 n
   unfold KV at *
   rw [asP, atC, this, asP, cc] <;> rfl
theorem aaI : ∀ {L : List (Nat × Nat)} {i : Nat} (h : i < L.length), ((cc L).drop (i * 2)).take 2 = [.int .i64 (L[i].1 : Nat), .int .i64 (L[i].2 : Nat)]
 | [], i, h => by simp at h
 | e :: r, 0, h => rfl
 | e :: r, i + 1, h => by
   have := aaI (L := r) (i := i) (by simpa using h)
   rw [cc, show (i + 1) * 2 = i * 2 + 1 + 1 from by omega, List.drop_succ_cons, List.drop_succ_cons, aqZ]
   exact this
theorem adL : ∀ {L : List (Nat × Nat)} {i : Nat} (e : Nat × Nat), i < L.length -> ((cc L).set (i * 2) (.int .i64 (e.1 : Nat))).set (i * 2 + 1) (.int .i64 (e.2 : Nat)) = cc (L.set i e)
 | [], i, e, h => by simp at h
 | x :: r, 0, e, h => rfl
 | x :: r, i + 1, e, h => by
   have := adL (L := r) (i := i) e (by simpa using h)
   rw [cc, show (i + 1) * 2 = i * 2 + 1 + 1 from by omega, apC, apC, apC, apC, this, apC, cc]
def xP (l : List Nat) (d w i : Nat) : List (Nat × Nat) := (List.range l.length).map fun s => if l.getD s 0 < w ∨ (l.getD s 0 = w /\ s < i) then EH l d s else (0, 0)
def pW (l : List Nat) (d : Nat) : List (Nat × Nat) := (List.range l.length).map (EH l d)
theorem oK (l : List Nat) (d w i : Nat) : (xP l d w i).length = l.length := by simp [xP]
theorem BU (l : List Nat) (d : Nat) : (pW l d).length = l.length := by simp [pW]
theorem Rh {l : List Nat} {d s : Nat} (h : s < l.length) : (pW l d)[s]? = some (EH l d s) := by
 unfold pW; rw [aoY, asR h] <;> rfl
theorem tT {l : List Nat} {d w i s : Nat} (h : s < l.length) : (xP l d w i)[s]? = some (if l.getD s 0 < w ∨ (l.getD s 0 = w /\ s < i) then EH l d s else (0, 0)) := by
 unfold xP; rw [aoY, asR h] <;> rfl
theorem V6 (l : List Nat) (d : Nat) : xP l d 1 0 = List.replicate l.length (0, 0) := by
 apply aqW
 intro s
 rcases aoT s l.length with h | h
 .rw [tT h, arS, if_pos h]
  congr 1
  split
  .rename_i hh
   unfold EH
   rw [if_pos (by omega)]
  .rfl
 .rw [aoS (by rw [oK]; exact h), aoS (by simpa using h)]
theorem Xg {l : List Nat} {d w : Nat} : xP l d w l.length = xP l d (w + 1) 0 := by
 apply aqW
 intro s
 rcases aoT s l.length with h | h
 .rw [tT h, tT h]
  congr 1
  by_cases hh : l.getD s 0 < w + 1
  .rw [if_pos (by omega), if_pos (by omega)]
  .rw [if_neg (by omega), if_neg (by omega)]
 .rw [aoS (by rw [oK]; exact h), aoS (by rw [oK]; exact h)]
theorem XA {l : List Nat} {d w : Nat} (hall : ∀ x ∈ l, x <= d) (hw : d < w) : xP l d w 0 = pW l d := by
 apply aqW
 intro s
 rcases aoT s l.length with h | h
 .rw [tT h, Rh h, if_pos]
  have := hall _ (DP h)
  omega
 .rw [aoS (by rw [oK]; exact h), aoS (by rw [BU]; exact h)]
theorem Xb {l : List Nat} {d w i : Nat} (h : i < l.length) (hw : l.getD i 0 ≠ w) : xP l d w (i + 1) = xP l d w i := by
 apply aqW
 intro s
 rcases aoT s l.length with hs | hs
 .rw [tT hs, tT hs]
  congr 1
  by_cases hsi : s = i
  .subst hsi
   by_cases h1 : l.getD s 0 < w
   .rw [if_pos (by omega), if_pos (by omega)]
   .rw [if_neg (by omega), if_neg (by omega)]
  .by_cases h1 : l.getD s 0 < w ∨ (l.getD s 0 = w /\ s < i)
   .rw [if_pos (by omega), if_pos h1]
   .rw [if_neg (by omega), if_neg h1]
 .rw [aoS (by rw [oK]; exact hs), aoS (by rw [oK]; exact hs)]
theorem XO {l : List Nat} {d w i : Nat} (h : i < l.length) (hw : l.getD i 0 = w) : (xP l d w i).set i (EH l d i) = xP l d w (i + 1) := by
 apply aqW
 intro s
 rw [List.getElem?_set]
 rcases aoT s l.length with hs | hs
 .by_cases hsi : i = s
  .subst hsi
   rw [if_pos rfl, if_pos (by rw [oK]; exact h), tT (i := i + 1) hs, if_pos (by omega)]
  .rw [if_neg hsi, tT (i := i) hs, tT (i := i + 1) hs]
   congr 1
   by_cases h1 : l.getD s 0 < w ∨ (l.getD s 0 = w /\ s < i)
   .rw [if_pos h1, if_pos (by omega)]
   .rw [if_neg h1, if_neg (by omega)]
 .rw [if_neg (by omega), aoS (by rw [oK]; exact hs), aoS (by rw [oK]; exact hs)]
def Ga (l : List Nat) (w i : Nat) : Nat := vW l w + (l.take i).count w * 2 ^ (w - 1)
theorem Zw (l : List Nat) : Ga l 1 0 = 0 := by unfold Ga; rw [VX]; simp
theorem Ww {l : List Nat} {w : Nat} (h : 1 <= w) : Ga l w l.length = Ga l (w + 1) 0 := by
 unfold Ga
 rw [asK, I9 l w h]; simp
theorem WB {l : List Nat} {w i : Nat} (h : i < l.length) : Ga l w (i + 1) = Ga l w i + (if l.getD i 0 = w then 2 ^ (w - 1) else 0) := by
 have hg : l.getD i 0 = l[i] := by rw [aoN, aoM h] <;> rfl
 unfold Ga
 rw [arZ, aoM h, List.count_append, hg]
 simp only [Option.toList, List.count_singleton]
 by_cases hw : l[i] = w
 .subst hw; simp [apW]; omega
 .rw [if_neg hw]
  have : (l[i] == w) = false := by simpa using hw
  rw [this]; simp
theorem ZG {l : List Nat} {w i : Nat} (h : l.getD i 0 = w) : Ga l w i = IF l i := by unfold Ga IF; rw [h]
theorem ahI {l : List Nat} {d w i : Nat} (hs : mK l = 2 ^ d) (hall : ∀ x ∈ l, x <= d) (h1 : 1 <= w) (hw : w <= d) : Ga l w i <= 2 ^ d := by
 have h2 : Ga l w i <= vW l (w + 1) := by
  rw [I9 l w h1]
  unfold Ga
  have hc : (l.take i).count w <= l.count w := (List.take_sublist _ _).count_le _
  have := apG (2 ^ (w - 1)) hc
  omega
 have h3 := Ok (l := l) (a := w + 1) (b := d + 1) (by omega) (by omega)
 rw [QK hall, hs] at h3
 omega
end Go.Pu
namespace Go.Proofs.YtoecppploooloaaGreatDoor
open Go Go.En Go.Pu
set_option maxRecDepth 4000
theorem agN {l : List UInt8} {i : Nat} (h : i < l.length) : (jZ l).getD i 0 = l[i].toNat := by rw [aoN, XD h] <;> rfl
theorem ZW {v : atP} {l : List UInt8} {d : Nat} {w : atO} (h : Bs w v l) (hd : oC (jZ l) = d) (hd0 : d ≠ 0) :
 jD pg tL #[v] w (fun r w' => ∃ b, r = .tuple #[.slice (some ⟨b, 0, none⟩) l.length l.length, .int .i64 0] /\ w.heap.size <= b /\ mQ w' b (cc (pW (jZ l) d)) /\ jM w w' mN) := by
 refine HM ?_
 obtain ⟨hall, hd11, hl2, hl256, hlast, hsum⟩ := KD hd hd0
 have hnl := mY l
 obtain ⟨b, off, c, rfl, hc, hcell⟩ := Vc h (by omega)
 unfold JP zV Aa
 refine (U1 h (by omega)).mono ?_
 rintro r w1 ⟨rfl, rfl⟩
 rw [hd]
 have n1 : ((d : Int) == 0) = false := beq_eq_false_iff_ne.2 (by omega)
 simp (disch := omega) only [gE, iC, n1, fM, cS, fU]
 refine PN (by omega) (by omega) fun w2 o2 x2 s2 => ?_
 rw [aoE] at o2 ⊢
 rw [Z0, <- hnl, <- V6 _ d] at o2
 generalize hpb : w1.heap.size = pb at *
 have hp2 : 2 ^ d <= 2 ^ 11 := apE (by omega) hd11
 unfold Dz DQ Ee Dk DY
 refine kE.rule (fun m (t : atP × atP) w' => ∃ q : Nat, m = d + 1 - q /\ t = (.int .i64 (Ga (jZ l) q 0 : Nat), .int .i64 q) /\ 1 <= q /\ q <= d + 1 /\ mQ w' pb (cc (xP (jZ l) d q 0)) /\ jM w2 w' (fun y => y = pb)) d
  ⟨1, by omega, by rw [Zw] <;> rfl, by omega, by omega, o2, jM.refl _ _⟩ ?_
 rintro m t w3 ⟨q, rfl, rfl, hq1, hqd, o3, x3⟩
 unfold zJ Dl
 by_cases hq : q <= d
 .have d1 : decide ((q : Int) <= (d : Int)) = true := by simp; omega
  simp (disch := omega) only [gE, iN, d1, cS, fZ]
  unfold DB DG Kw Fi
  simp (disch := omega) only [gE, fM, cS]
  unfold Fz EY
  refine kE.rule (fun m (t : atP × atP) w' => ∃ i : Nat, m = l.length - i /\ t = (.int .i64 (Ga (jZ l) q i : Nat), .int .i64 i) /\ i <= l.length /\ mQ w' pb (cc (xP (jZ l) d q i)) /\ jM w2 w' (fun y => y = pb)) l.length
   ⟨0, rfl, rfl, by omega, o3, x3⟩ ?_
  rintro m t w4 ⟨i, rfl, rfl, hi, o4, x4⟩
  unfold AY FO
  by_cases hlt : i < l.length
  .have d2 : decide ((i : Int) < (l.length : Int)) = true := by simp; omega
   have h4 : Bs w4 _ l := (h.ext x2 (kJ _)).ext x4 (fun hb => (h.old) (B3 hb fun y hy => by omega))
   obtain ⟨_, _, _, he, _, hcell4⟩ := Vc h4 (by omega)
   cases he
   have g1 := hcell4 i hlt
   have hgd := agN hlt
   have hstep := WB (l := jZ l) (w := q) (i := i) (by omega)
   have hskip := Xb (l := jZ l) (d := d) (w := q) (i := i) (by omega)
   have hset := XO (l := jZ l) (d := d) (w := q) (i := i) (by omega)
   have hof := ZG (l := jZ l) (w := q) (i := i)
   have hle := ahI (l := jZ l) (d := d) (w := q) (i := i) hsum hall hq1 hq
   have hco : EH (jZ l) d i = if (jZ l).getD i 0 = 0 then (0, 0) else (d + 1 - (jZ l).getD i 0, IF (jZ l) i / 2 ^ ((jZ l).getD i 0 - 1)) := rfl
   rw [hgd] at hskip hset hstep hof hco
   have hx : (l[i]).toNat < 256 := aqU _
   generalize (l[i]).toNat = x at *
   unfold AH
   by_cases hxq : x = q
   .subst hxq
    have n2 : ((x : Int) != (x : Int)) = false := by simp
    have e1 : (d : Int) + 1 - (x : Int) = ((d + 1 - x : Nat) : Int) := by omega
    have e2 : (x : Int) - 1 = ((x - 1 : Nat) : Int) := by omega
    rw [if_neg (by omega), <- hof rfl] at hco
    rw [if_pos rfl] at hstep
    have hset := hset rfl
    rw [hco] at hset
    have e3 : ((Ga (jZ l) x i : Nat) : Int).fdiv (2 ^ (min (x - 1) IntKind.i64.bits)) = ((Ga (jZ l) x i / 2 ^ (x - 1) : Nat) : Int) := by
     rw [show min (x - 1) IntKind.i64.bits = x - 1 from aqX (by have : IntKind.i64.bits = 64 := rfl
                                                                omega), arA _ (Int.pow_nonneg (by omega))]
     simp
    have hdl := asV (Ga (jZ l) x i) (2 ^ (x - 1))
    have hsh := acU (n := x - 1) (by omega)
    have hpx : 2 ^ (x - 1) <= 2 ^ 11 := apE (by omega) (by omega)
    have e4 : ((Ga (jZ l) x i : Nat) : Int) + ((2 ^ (x - 1) : Nat) : Int) = ((Ga (jZ l) x (i + 1) : Nat) : Int) := by omega
    generalize Ga (jZ l) x i = at' at *
    generalize at' / 2 ^ (x - 1) = cd at *
    simp (disch := omega) only [gE, hJ, d2, fQ, aoE, hO, gY, cS, iA, e2, bQ, aoH, iD, iF, e3, e1, bG, gJ, g1, gB, fK, iH, n2, fU, fZ]
    refine Tb o4 rfl (by simp [one]) (by rw [WJ, oK]; simp; omega) fun w5 o5 x5 s5 => ?_
    simp only [qL] at o5
    have hcs := adL (L := xP (jZ l) d x i) (i := i) (d + 1 - x, cd) (by rw [oK]; omega)
    simp only at hcs
    rw [hcs, hset] at o5
    simp (disch := omega) only [hsh, e4]
    exact ⟨l.length - (i + 1), by omega, i + 1, rfl, rfl, by omega, o5, x4.trans x5 fun _ _ h => h⟩
   .have n2 : ((x : Int) != (q : Int)) = true := by simp; omega
    rw [if_neg hxq, apY] at hstep
    have hskip := hskip hxq
    simp (disch := omega) only [gE, hJ, d2, fQ, aoE, hO, gY, cS, iA, bQ, aoH, iD, iF, bG, gJ, g1, gB, fK, iH, n2, fZ]
    exact ⟨l.length - (i + 1), by omega, i + 1, rfl, by rw [hstep] <;> rfl, by omega, by rw [hskip]; exact o4, x4⟩
  .have d2 : decide ((i : Int) < (l.length : Int)) = false := by simp; omega
   obtain rfl : i = l.length := by omega
   have e1 := Ww (l := jZ l) (w := q) hq1
   rw [hnl] at e1
   have e2 := Xg (l := jZ l) (d := d) (w := q)
   rw [hnl] at e2
   rw [e2] at o4
   unfold AL
   simp (disch := omega) only [gE, hJ, d2, hO, gY, iA, cS, iD, iF, bG, fU]
   exact ⟨d + 1 - (q + 1), by omega, q + 1, rfl, by rw [e1] <;> rfl, by omega, by omega, o4, x4⟩
 .have d1 : decide ((q : Int) <= (d : Int)) = false := by simp; omega
  rw [XA hall (by omega)] at o3
  unfold AI
  simp (disch := omega) only [gE, iN, d1, cS, fU]
  exact ⟨pb, rfl, by omega, o3, x2.trans x3 fun _ hb h => by omega⟩
theorem WO {v : atP} {l : List UInt8} {w : atO} (h : Bs w v l) (hl : l.length <= 100000) (hd : oC (jZ l) = 0) :
 jD pg tL #[v] w (fun r w' => r = .tuple #[.slice none 0 0, .int .i64 1] /\ w' = w) := by
 refine HM ?_
 unfold JP zV Aa
 refine (U1 h hl).mono ?_
 rintro r w1 ⟨rfl, rfl⟩
 rw [hd]
 have n1 : (((0 : Nat) : Int) == 0) = true := rfl
 simp (disch := omega) only [gE, iC, n1, true_and, cS, fZ]
end Go.Proofs.YtoecppploooloaaGreatDoor
namespace Go.Pu
open Go Go.En
def O6 (k : Nat) : List Nat := if k = 0 then [0, 1, 2, 3, 4, 5, 6, 7, 8, 9, 10, 11, 12, 13, 14, 15, 16, 18, 20, 22, 24, 28, 32, 40, 48, 64, 128, 256, 512, 1024, 2048, 4096, 8192, 16384, 32768, 65536]
 else if k = 1 then [1, 2, 4, 8, 16, 32, 64, 128, 256, 512, 1024, 2048, 4096, 8192, 16384, 32768, 65536, 131072, 262144, 524288, 1048576, 2097152, 4194304, 8388608, 16777216, 33554432, 67108864, 134217728, 268435456, 536870912, 1073741824, 2147483648]
 else [3, 4, 5, 6, 7, 8, 9, 10, 11, 12, 13, 14, 15, 16, 17, 18, 19, 20, 21, 22, 23, 24, 25, 26, 27, 28, 29, 30, 31, 32, 33, 34, 35, 37, 39, 41, 43, 47, 51, 59, 67, 83, 99, 131, 259, 515, 1027, 2051, 4099, 8195, 16387, 32771, 65539]
def Vp (k : Nat) : List Nat := if k = 0 then [0, 0, 0, 0, 0, 0, 0, 0, 0, 0, 0, 0, 0, 0, 0, 0, 1, 1, 1, 1, 2, 2, 3, 3, 4, 6, 7, 8, 9, 10, 11, 12, 13, 14, 15, 16]
 else if k = 1 then List.range 32
 else [0, 0, 0, 0, 0, 0, 0, 0, 0, 0, 0, 0, 0, 0, 0, 0, 0, 0, 0, 0, 0, 0, 0, 0, 0, 0, 0, 0, 0, 0, 0, 0, 1, 1, 1, 1, 2, 2, 3, 3, 4, 4, 5, 7, 8, 9, 10, 11, 12, 13, 14, 15, 16]
abbrev UC (k : Nat) : Nat := (O6 k).length
theorem acK {k : Nat} (h : k < 3) (c : Nat) (hc : c + 1 < UC k) : (O6 k).getD (c + 1) 0 = (O6 k).getD c 0 + 2 ^ (Vp k).getD c 0 := by
 have h0 : ∀ c, c < 53 -> c + 1 < UC 0 -> (O6 0).getD (c + 1) 0 = (O6 0).getD c 0 + 2 ^ (Vp 0).getD c 0 := by decide +kernel
 have h1 : ∀ c, c < 53 -> c + 1 < UC 1 -> (O6 1).getD (c + 1) 0 = (O6 1).getD c 0 + 2 ^ (Vp 1).getD c 0 := by decide +kernel
 have h2 : ∀ c, c < 53 -> c + 1 < UC 2 -> (O6 2).getD (c + 1) 0 = (O6 2).getD c 0 + 2 ^ (Vp 2).getD c 0 := by decide +kernel
 have hl : UC k <= 53 := by rcases (show k = 0 ∨ k = 1 ∨ k = 2 by omega) with rfl | rfl | rfl <;> decide
 rcases (show k = 0 ∨ k = 1 ∨ k = 2 by omega) with rfl | rfl | rfl
 .exact h0 c (by omega) hc
 .exact h1 c (by omega) hc
 .exact h2 c (by omega) hc
theorem amP {k : Nat} (h : k < 3) (c : Nat) (hc : c < UC k) : (O6 k).getD c 0 + 2 ^ (Vp k).getD c 0 <= 4294967296 := by
 have h0 : ∀ c, c < 53 -> c < UC 0 -> (O6 0).getD c 0 + 2 ^ (Vp 0).getD c 0 <= 4294967296 := by decide +kernel
 have h1 : ∀ c, c < 53 -> c < UC 1 -> (O6 1).getD c 0 + 2 ^ (Vp 1).getD c 0 <= 4294967296 := by decide +kernel
 have h2 : ∀ c, c < 53 -> c < UC 2 -> (O6 2).getD c 0 + 2 ^ (Vp 2).getD c 0 <= 4294967296 := by decide +kernel
 have hl : UC k <= 53 := by rcases (show k = 0 ∨ k = 1 ∨ k = 2 by omega) with rfl | rfl | rfl <;> decide
 rcases (show k = 0 ∨ k = 1 ∨ k = 2 by omega) with rfl | rfl | rfl
 .exact h0 c (by omega) hc
 .exact h1 c (by omega) hc
 .exact h2 c (by omega) hc
def XJ (k v c : Nat) : Prop := c < UC k /\ (O6 k).getD c 0 <= v /\ v < (O6 k).getD c 0 + 2 ^ (Vp k).getD c 0
theorem TF {k : Nat} (h : k < 3) : ∀ {c d : Nat}, c < d -> d < UC k -> (O6 k).getD c 0 + 2 ^ (Vp k).getD c 0 <= (O6 k).getD d 0
 | c, d + 1, hcd, hd => by
   have e := acK h d (by omega)
   rcases aoT c d with h' | h'
   .have := TF h h' (by omega)
    have := apR ((Vp k).getD d 0)
    omega
   .have : c = d := by omega
    subst this; omega
theorem XJ.one {k v c d : Nat} (hk : k < 3) (hc : XJ k v c) (hd : XJ k v d) : c = d := by
 rcases atB c d with h | h | h
 .have := TF hk h hd.1; have := hc.2.2; have := hd.2.1; omega
 .exact h
 .have := TF hk h hc.1; have := hd.2.2; have := hc.2.1; omega
theorem XJ.lt {k v c : Nat} (hk : k < 3) (hc : XJ k v c) : v < 4294967296 := by
 have := amP hk c hc.1; have := hc.2.2; omega
structure Sq where
 ll : Nat
 ml : Nat
 of : Nat
deriving DecidableEq
def rdL (B : List Bool) (left : Int) (n : Nat) : Nat := WL (B.take left.toNat) n
theorem ajY {T B X u : List Bool} {x n : Nat} (hT : T.take (X ++ u).length = X ++ u) (hu : u = zU x n) (hx : x < 2 ^ n) : rdL T ((X ++ u).length : Nat) n = x /\ (((X ++ u).length : Nat) : Int) - n = ((X.length : Nat) : Int) /\ T.take X.length = X := by
 subst hu
 have hl : (X ++ zU x n).length = X.length + n := by rw [aoL, DH]
 refine ⟨?_, by omega, ?_⟩
 .unfold rdL
  rw [aoE, hT, YI hx]
 .have := congrArg (List.take X.length) hT
  rw [List.take_take, aqX (by omega), aqS (aoP _), aoU (aoP _)] at this
  exact this
def SL (C : List (Nat × Nat)) : Nat := C.foldl (fun m e => max m e.1) 0
theorem Yr : ∀ (C : List (Nat × Nat)) (m : Nat), m <= C.foldl (fun m e => max m e.1) m /\ ∀ e ∈ C, e.1 <= C.foldl (fun m e => max m e.1) m
 | [], m => ⟨aoP _, fun e h => by cases h⟩
 | x :: C, m => by
   obtain ⟨h1, h2⟩ := Yr C (max m x.1)
   rw [List.foldl_cons]
   refine ⟨by omega, fun e he => ?_⟩
   rcases apZ.1 he with rfl | he
   .omega
   .exact h2 e he
theorem W4 {C : List (Nat × Nat)} {e : Nat × Nat} (h : e ∈ C) : e.1 <= SL C := (Yr C 0).2 e h
theorem afI {d : Nat} : ∀ {C : List (Nat × Nat)} {m : Nat}, m <= d -> (∀ e ∈ C, e.1 <= d) -> C.foldl (fun m e => max m e.1) m <= d
 | [], m, hm, _ => hm
 | x :: C, m, hm, h => by
   rw [List.foldl_cons]
   exact afI (by have := h x (apL ..); omega) fun e he => h e (aoR _ he)
def UH (C : List (Nat × Nat)) (m x s : Nat) : Bool := match C[s]? with
 | some e => decide (0 < e.1) && decide (x / 2 ^ (m - e.1) = e.2)
 | none => false
theorem Ss {C : List (Nat × Nat)} {m x s : Nat} : UH C m x s = true ↔ ∃ b c, C[s]? = some (b, c) /\ 0 < b /\ x / 2 ^ (m - b) = c := by
 unfold UH
 cases h : C[s]? with
 | none => simp
 | some e =>
   obtain ⟨b, c⟩ := e
   simp only [aoQ, decide_eq_true_eq]
   constructor
   .rintro ⟨h1, h2⟩; exact ⟨b, c, rfl, h1, h2⟩
   .rintro ⟨b', c', h1, h2, h3⟩; cases h1; exact ⟨h2, h3⟩
structure ahZ (C : List (Nat × Nat)) (m : Nat) : Prop where
 le : ∀ (s b c : Nat), C[s]? = some (b, c) -> b <= m /\ (0 < b -> c < 2 ^ b)
 ex : ∀ x, x < 2 ^ m -> ∃ s, UH C m x s = true
 un : ∀ x s t, x < 2 ^ m -> UH C m x s = true -> UH C m x t = true -> s = t
 pos : 0 < m
theorem ZU {l : List Nat} {w y : Nat} : ∀ i, i <= l.length -> vW l w <= y -> y < Ga l w i -> ∃ s, s < l.length /\ l.getD s 0 = w /\ IF l s <= y /\ y < IF l s + 2 ^ (w - 1)
 | 0, _, h, hy => by unfold Ga at hy; simp at hy; omega
 | i + 1, hi, h, hy => by
   rcases aoT y (Ga l w i) with h1 | h1
   .exact ZU i (by omega) h h1
   .rw [WB (by omega)] at hy
    by_cases hw : l.getD i 0 = w
    .rw [if_pos hw] at hy
     rw [ZG hw] at hy h1
     exact ⟨i, by omega, hw, h1, hy⟩
    .rw [if_neg hw] at hy; omega
theorem amD {l : List Nat} {y : Nat} : ∀ w, y < vW l (w + 1) -> ∃ s, s < l.length /\ l.getD s 0 ≠ 0 /\ IF l s <= y /\ y < IF l s + 2 ^ (l.getD s 0 - 1)
 | 0, hy => by rw [VX] at hy; omega
 | w + 1, hy => by
   rcases aoT y (vW l (w + 1)) with h1 | h1
   .exact amD w h1
   .have h2 : y < Ga l (w + 1) l.length := by rw [Ww (by omega)]; unfold Ga; simpa using hy
    obtain ⟨s, a, b, c, d⟩ := ZU l.length (aoP _) h1 h2
    exact ⟨s, a, by omega, c, by rw [b]; exact d⟩
theorem ajG {l : List Nat} {s d y : Nat} (h : s < l.length) (h0 : l.getD s 0 ≠ 0) (hs : mK l = 2 ^ d) (hd : l.getD s 0 <= d) : (IF l s <= y /\ y < IF l s + 2 ^ (l.getD s 0 - 1)) ↔ y / 2 ^ (l.getD s 0 - 1) = IF l s / 2 ^ (l.getD s 0 - 1) := by
 obtain ⟨q, hq⟩ := adV h h0 hs hd
 have hp := apR (l.getD s 0 - 1)
 rw [hq, atA _ hp]
 generalize 2 ^ (l.getD s 0 - 1) = p at *
 constructor
 .rintro ⟨h1, h2⟩
  rw [Nat.div_eq_iff hp, apU]
  omega
 .intro h
  rw [Nat.div_eq_iff hp, apU q] at h
  omega
theorem NU {l : List Nat} {d s b c : Nat} (h : (pW l d)[s]? = some (b, c)) : s < l.length /\ EH l d s = (b, c) := by
 have hs : s < l.length := by
  rcases aoT s l.length with h' | h'
  .exact h'
  .rw [aoS (by rw [BU]; exact h')] at h; cases h
 rw [Rh hs] at h
 exact ⟨hs, apP h⟩
theorem Zx {l : List Nat} {d : Nat} (hd : oC l = d) (hd0 : d ≠ 0) : ahZ (pW l d) (SL (pW l d)) /\ SL (pW l d) <= d := by
 obtain ⟨hall, hd11, hl2, hl256, hlast, hsum⟩ := KD hd hd0
 have hle : SL (pW l d) <= d := afI (atD _) fun e he => by
  obtain ⟨s, hs⟩ := List.getElem?_of_mem he
  obtain ⟨hsl, hc⟩ := NU (b := e.1) (c := e.2) hs
  unfold EH at hc
  split at hc
  .have := (Prod.mk.inj hc).1; omega
  .have := (Prod.mk.inj hc).1; omega
 have key : ∀ x s, UH (pW l d) (SL (pW l d)) x s = true ↔ s < l.length /\ l.getD s 0 ≠ 0 /\ (x * 2 ^ (d - SL (pW l d))) / 2 ^ (l.getD s 0 - 1) = IF l s / 2 ^ (l.getD s 0 - 1) := by
  intro x s
  rw [Ss]
  have hx : ∀ {b : Nat}, b <= SL (pW l d) -> 0 < b -> b = d + 1 - l.getD s 0 -> l.getD s 0 <= d -> l.getD s 0 ≠ 0 -> (x * 2 ^ (d - SL (pW l d))) / 2 ^ (l.getD s 0 - 1) = x / 2 ^ (SL (pW l d) - b) := by
   intro b h1 h2 h3 h4 h5
   rw [show l.getD s 0 - 1 = (d - SL (pW l d)) + (SL (pW l d) - b) from by omega, aqN, <- aqY, Nat.mul_div_cancel _ (apR _)]
  constructor
  .rintro ⟨b, c, h1, h2, h3⟩
   have hm := W4 (aqT h1)
   obtain ⟨hs, hc⟩ := NU h1
   unfold EH at hc
   by_cases h0 : l.getD s 0 = 0
   .rw [if_pos h0] at hc; cases hc; omega
   .rw [if_neg h0] at hc
    obtain ⟨hb, hcc⟩ := Prod.mk.inj hc
    have hws := hall _ (DP hs)
    exact ⟨hs, h0, by rw [hx hm h2 hb.symm hws h0, h3, hcc]⟩
  .rintro ⟨hs, h0, h⟩
   have hws := hall _ (DP hs)
   have hg := Rh (d := d) hs
   have hm := W4 (aqT hg)
   have hc : EH l d s = (d + 1 - l.getD s 0, IF l s / 2 ^ (l.getD s 0 - 1)) := by unfold EH; rw [if_neg h0]
   rw [hc] at hg hm
   exact ⟨_, _, hg, by omega, by rw [<- hx hm (by omega) rfl hws h0, h]⟩
 have hyx : ∀ x, x < 2 ^ SL (pW l d) -> x * 2 ^ (d - SL (pW l d)) < 2 ^ d := fun x hx => by
  have := Nat.mul_lt_mul_of_pos_right hx (apR (d - SL (pW l d)))
  rwa [<- aqN, show SL (pW l d) + (d - SL (pW l d)) = d from by omega] at this
 have ex : ∀ x, x < 2 ^ SL (pW l d) -> ∃ s, UH (pW l d) (SL (pW l d)) x s = true := fun x hx => by
  have h1 := hyx x hx
  rw [<- hsum, <- QK hall] at h1
  obtain ⟨s, a, b, c, e⟩ := amD d h1
  exact ⟨s, (key x s).2 ⟨a, b, (ajG a b hsum (hall _ (DP a))).1 ⟨c, e⟩⟩⟩
 refine ⟨⟨fun s b c h => ?_, ex, fun x s t hx h1 h2 => ?_, ?_⟩, hle⟩
 .have hm := W4 (aqT h)
  refine ⟨hm, fun hb => ?_⟩
  obtain ⟨hs, hc⟩ := NU h
  unfold EH at hc
  by_cases h0 : l.getD s 0 = 0
  .rw [if_pos h0] at hc; cases hc; omega
  .rw [if_neg h0] at hc
   obtain ⟨hb', hcc⟩ := Prod.mk.inj hc
   rw [<- hb', <- hcc]
   exact acW hs h0 hsum hall
 .obtain ⟨a1, b1, c1⟩ := (key x s).1 h1
  obtain ⟨a2, b2, c2⟩ := (key x t).1 h2
  have dv : ∀ {y p q : Nat}, p <= q -> y / 2 ^ q = y / 2 ^ p / 2 ^ (q - p) := fun {y p q} h => by
   rw [aqY, <- aqN, show p + (q - p) = q from by omega]
  refine Decidable.byContradiction fun hne => ?_
  rcases atH (l.getD t 0) (l.getD s 0) with hle' | hle'
  .refine Wi a1 a2 hne b1 b2 hle' hsum hall ?_
   rw [<- c2, <- c1, dv (y := x * 2 ^ (d - SL (pW l d))) (p := l.getD t 0 - 1) (q := l.getD s 0 - 1) (by omega)]
   congr 2; omega
  .refine Wi a2 a1 (fun h => hne h.symm) b2 b1 hle' hsum hall ?_
   rw [<- c2, <- c1, dv (y := x * 2 ^ (d - SL (pW l d))) (p := l.getD s 0 - 1) (q := l.getD t 0 - 1) (by omega)]
   congr 2; omega
 .obtain ⟨s, hs⟩ := ex 0 (apR _)
  obtain ⟨b, c, h1, h2, _⟩ := Ss.1 hs
  have := W4 (aqT h1)
  omega
def aaG (C : List (Nat × Nat)) (m x : Nat) : Nat := ((List.range C.length).find? (UH C m x)).getD 0
def bitsOf (C : List (Nat × Nat)) (s : Nat) : Nat := (C.getD s (0, 0)).1
theorem ahM {C : List (Nat × Nat)} {m x s : Nat} (h : UH C m x s = true) : s < C.length := by
 obtain ⟨b, c, h1, _⟩ := Ss.1 h
 exact (arG.1 h1).1
theorem adQ {C : List (Nat × Nat)} {m x s : Nat} (hF : ahZ C m) (hx : x < 2 ^ m) (h : UH C m x s = true) : aaG C m x = s := by
 unfold aaG
 cases hf : (List.range C.length).find? (UH C m x) with
 | none => exact absurd h (List.find?_eq_none.1 hf s (apV.2 (ahM h)))
 | some t => exact hF.un x t s hx (List.find?_some hf) h
theorem abV {C : List (Nat × Nat)} {s b c : Nat} (h : C[s]? = some (b, c)) : bitsOf C s = b := by
 unfold bitsOf; rw [aoN, h] <;> rfl
def aaZ (C : List (Nat × Nat)) (m : Nat) (B : List Bool) : Nat -> Int -> List Nat × Int
 | 0, left => ([], left)
 | n + 1, left =>
   let s := aaG C m (rdL B left m)
   let r := aaZ C m B n (left - bitsOf C s)
   (s :: r.1, r.2)
theorem agA (B : List Bool) (left : Int) (n : Nat) : rdL B left n < 2 ^ n := aeB _ _
theorem agZ {B : List Bool} {left : Int} (a b : Nat) (h : left <= B.length) : rdL B left (a + b) = rdL B left a * 2 ^ b + rdL B (left - a) b := by
 unfold rdL
 obtain ⟨k, hk⟩ : ∃ k, left.toNat = k := ⟨_, rfl⟩
 have hkB : k <= B.length := by omega
 have e2 : (left - a).toNat = k - a := by omega
 rw [hk, e2]
 have l1 : (B.take k).length = k := by rw [apA]; omega
 have l2 : (B.take (k - a)).length = k - a := by rw [apA]; omega
 unfold WL
 rw [l1, l2]
 rcases aoT a k with h1 | h1
 .have hs : B.take k = B.take (k - a) ++ (B.drop (k - a)).take a := by
   rw [<- List.take_add]; congr 1; omega
  have m1 : min a k = a := by omega
  have hT : (B.take k).drop (k - a) = (B.drop (k - a)).take a := by
   rw [List.drop_take, show k - (k - a) = a from by omega]
  rw [m1, asD, Nat.pow_zero, aqK, hT]
  obtain ⟨j, hj⟩ : ∃ j, j = min b (k - a) := ⟨_, rfl⟩
  have m2 : min (a + b) k = a + j := by omega
  rw [m2, <- hj]
  have hD : (B.take k).drop (k - (a + j)) = (B.take (k - a)).drop (k - a - j) ++ (B.drop (k - a)).take a := by
   rw [hs, arY (by rw [l2]; omega), show k - (a + j) = k - a - j from by omega]
  rw [hD, Ur, apD, l2, show k - a - (k - a - j) = j from by omega, show a + b - (a + j) = b - j from by omega, apW]
  rw [Nat.add_comm]
  congr 1
  rw [Nat.mul_assoc, apU (NY _) (2 ^ (b - j)), <- Nat.mul_assoc, <- aqN, apU, show j + (b - j) = b from by omega]
 .have m1 : min a k = k := by omega
  have m2 : min (a + b) k = k := by omega
  have m3 : min b (k - a) = 0 := by omega
  rw [m1, m2, m3, asD, show k - a = 0 from by omega]
  simp only [List.take_zero, arF, asE, List.drop_nil, NY, asF, apY]
  rw [Nat.mul_assoc, <- aqN, show a - k + b = a + b - k from by omega]
theorem ahE {B : List Bool} {left : Int} {a m : Nat} (h : left <= B.length) (ha : a <= m) : rdL B left m / 2 ^ (m - a) = rdL B left a /\ rdL B left m % 2 ^ (m - a) = rdL B (left - a) (m - a) := by
 obtain ⟨b, rfl⟩ := Nat.exists_eq_add_of_le ha
 rw [asZ, agZ a b h]
 have hlt := agA B (left - a) b
 constructor
 .rw [apU, Nat.mul_add_div (apR b), Nat.div_eq_of_lt hlt, apY]
 .rw [apU, Nat.mul_add_mod, apX hlt]
def KQ (C : List (Nat × Nat)) : List Nat -> List Bool
 | [] => []
 | s :: r => KQ C r ++ zU (C.getD s (0, 0)).2 (C.getD s (0, 0)).1
theorem rC {C : List (Nat × Nat)} {m : Nat} (h : ∀ s, bitsOf C s <= m) : ∀ l : List Nat, (KQ C l).length <= m * l.length
 | [] => by simp [KQ]
 | s :: r => by
   rw [KQ, aoL, DH, aoV, asO]
   have := h s
   have := rC h r
   unfold bitsOf at *
   omega
theorem Z9 {C : List (Nat × Nat)} {m : Nat} {T : List Bool} (hF : ahZ C m) : ∀ {l : List Nat}, (∀ s ∈ l, 0 < bitsOf C s) -> T.take (KQ C l).length = KQ C l -> aaZ C m T l.length ((KQ C l).length : Nat) = (l, 0)
 | [], _, _ => rfl
 | s :: r, hb, hT => by
   have h0 := hb s (apL ..)
   have hg : C[s]? = some ((C.getD s (0, 0)).1, (C.getD s (0, 0)).2) := by
    rw [aoN]
    cases h : C[s]? with
    | none => unfold bitsOf at h0; rw [aoN, h] at h0; simp at h0
    | some e => rfl
   obtain ⟨hle, hfit⟩ := hF.le _ _ _ hg
   have hfit := hfit h0
   obtain ⟨r1, r2, r3⟩ := ajY (B := []) hT rfl hfit
   have hTl : ((KQ C (s :: r)).length : Int) <= T.length := by
    have := congrArg List.length hT
    rw [apA] at this
    omega
   have hd := (ahE (a := (C.getD s (0, 0)).1) (m := m) hTl hle).1
   rw [aoV, aaZ]
   have hlen : (KQ C (s :: r)).length = (KQ C r ++ zU (C.getD s (0, 0)).2 (C.getD s (0, 0)).1).length := rfl
   rw [hlen] at hd ⊢
   rw [r1] at hd
   have hs : aaG C m (rdL T (((KQ C r ++ zU (C.getD s (0, 0)).2 (C.getD s (0, 0)).1).length : Nat) : Int) m) = s :=
    adQ hF (agA _ _ _) (Ss.2 ⟨_, _, hg, h0, hd⟩)
   simp only [hs, bitsOf, r2]
   rw [Z9 hF (fun x hx => hb x (aoR _ hx)) r3]
def fc : List (Nat × Nat) -> List atP
 | [] => []
 | e :: r => .int .u8 (e.1 : Nat) :: .int .i64 (e.2 : Nat) :: fc r
def anG (C : List (Nat × Nat)) (m s x : Nat) : Nat × Nat := match (List.range s).find? (UH C m x) with
 | some t => (t, bitsOf C t)
 | none => (0, 0)
def anF (C : List (Nat × Nat)) (m s : Nat) : List (Nat × Nat) := (List.range (2 ^ m)).map (anG C m s)
end Go.Pu
namespace Go.Proofs.YtoecppploooloaaGreatDoor
open Go Go.En Go.Pu
set_option maxRecDepth 4000
theorem WS {a n : Nat} (hn : n <= 62) (h : a * 2 ^ n < 2 ^ 62) : IntKind.i64.wrap ((a : Int) * 2 ^ (min n IntKind.i64.bits)) = ((a * 2 ^ n : Nat) : Int) := by
 have e : IntKind.i64.bits = 64 := rfl
 rw [e, aqX (by omega)]
 have : (a : Int) * 2 ^ n = ((a * 2 ^ n : Nat) : Int) := by push_cast; rfl
 rw [this]
 exact gY (by omega) (by omega)
theorem aeK {C : List (Nat × Nat)} {i : Nat} {e : Nat × Nat} (h : C[i]? = some e) : ((cc C).drop (i * 2)).take 2 = [.int .i64 (e.1 : Nat), .int .i64 (e.2 : Nat)] := by
 obtain ⟨hi, rfl⟩ := arG.1 h
 exact aaI hi
def HtV (w : atO) (base : Nat) (C : List (Nat × Nat)) (v : atP) : Prop := ∃ b, v = .agg #[.int .i64 (SL C : Nat), .slice (some ⟨b, 0, none⟩) (2 ^ SL C) (2 ^ SL C)] /\ base <= b /\ mQ w b (fc (anF C (SL C) C.length))
def Bwd (w : atO) (lo hi : Nat) (l : List UInt8) (left : Int) : Prop := ∃ v, mQ w hi [v, .int .i64 left] /\ Bs w v l /\ AtI v lo hi
theorem Bwd.ext {w w' : atO} {lo hi : Nat} {left : Int} {l : List UInt8} {M : Nat -> Prop} (h : Bwd w lo hi l left) (hx : jM w w' M) (hM : ∀ b, lo <= b -> b <= hi -> ¬ M b) (hlh : lo <= hi) : Bwd w' lo hi l left := by
 obtain ⟨v, h1, h2, h3⟩ := h
 exact ⟨v, h1.ext hx (hM _ hlh (aoP _)), h2.ext hx (h3 M fun b hb hh => hM b hb (by omega)), h3⟩
end Go.Proofs.YtoecppploooloaaGreatDoor
namespace Go.En
open Go Go.RowKit
section
variable {P : Program} {w : atO} {t e : TypeId} {k : IntKind}
end
end Go.En
namespace Go.Proofs.YtoecppploooloaaGreatDoor
open Go Go.En Go.Pu
set_option maxRecDepth 4000
theorem HtV.ext {w w' : atO} {base : Nat} {C : List (Nat × Nat)} {v : atP} {M : Nat -> Prop} (h : HtV w base C v) (x : jM w w' M) (hM : ∀ b, base <= b -> ¬ M b) : HtV w' base C v := by
 obtain ⟨b, h1, h2, h3⟩ := h
 exact ⟨b, h1, h2, h3.ext x (hM b h2)⟩
def SC (C : List (Nat × Nat)) (l : List UInt8) (n : Nat) : Except Int (List Nat) := match Zn l with
 | none => .error 11
 | some k =>
   if (aaZ C (SL C) (tI l) n (k : Int)).2 < 0 then .error 11
   else if 0 < (aaZ C (SL C) (tI l) n (k : Int)).2 then .error 15
   else .ok (aaZ C (SL C) (tI l) n (k : Int)).1
theorem Sj {a b : Nat} (ha : a < 2 ^ 62) (hb : b < 2 ^ 62) : UU .i64 (a : Int) (b : Int) = ((a ||| b : Nat) : Int) := by
 have h := Nat.or_lt_two_pow ha hb
 unfold UU
 have e : IntKind.i64.bits = 64 := rfl
 rw [e, BitVec.ofInt_natCast, BitVec.ofInt_natCast, BitVec.toNat_or, BitVec.toNat_ofNat, BitVec.toNat_ofNat, apX (by omega), apX (by omega)]
 exact gY (by omega) (by omega)
abbrev wC (wl : List UInt8) : List (Nat × Nat) := pW (jZ wl) (oC (jZ wl))
structure WOk (wl : List UInt8) : Prop where
 d0 : oC (jZ wl) ≠ 0
theorem WOk.full {wl : List UInt8} (h : oC (jZ wl) ≠ 0) : ahZ (wC wl) (SL (wC wl)) /\ SL (wC wl) <= 11 /\ (wC wl).length <= 256 := by
 obtain ⟨h1, h2⟩ := Zx rfl h
 have h3 := KD rfl h
 exact ⟨h1, aqC h2 h3.2.1, by rw [BU]; exact h3.2.2.2.1⟩
def akM (wl s : List UInt8) (n : Nat) : Except Int (List Nat) := if oC (jZ wl) = 0 then .error 1 else SC (wC wl) s n
theorem agM {n q : Nat} (hn : n <= 131072) (hq : q = (n + 3) / 4) (w : atO) :
 jD pg G1 #[.int .i64 n] w (fun r w' => r = .tuple #[.agg #[.int .i64 (q : Nat), .int .i64 (q : Nat), .int .i64 (q : Nat), .int .i64 ((n : Int) - 3 * (q : Int))], .bool (decide (3 * (q : Int) <= (n : Int)))] /\ jM w w' mN) := by
 refine UA ?_
 unfold Vi JN
 have e1 : (n : Int) + 4 - 1 = ((n + 3 : Nat) : Int) := by omega
 have e2 : ((n + 3 : Nat) : Int).tdiv 4 = (q : Int) := by rw [arO (by omega)]; omega
 have e3 : IntKind.i64.wrap (q : Int) = (q : Int) := gY (by omega) (by omega)
 generalize hK : (fun (t2 : atP) (w : atO) => _) = K
 refine VG fun w1 o1 x1 s1 => ?_
 simp (disch := omega) only [hK.symm, gE, hO, gY, cS, iA, e1, iM, e2, e3, iO, iE, bW]
 refine Uj o1 rfl (by simp [one]) (by simp) fun w2 o2 x2 s2 => ?_
 refine Ym o2 (by simp [qL]) ?_
 simp only [qL, aoZ, apC, arF, List.take_succ_cons, List.take_zero]
 exact ⟨trivial, x1.new x2 (aoP _)⟩
def YV (C : List (Nat × Nat)) : List UInt8 -> List (Nat × Nat) -> Except Int (List Nat)
 | _, [] => .ok []
 | l, (k, n) :: r => match SC C (l.take k) n with
   | .error e => .error e
   | .ok m => (match YV C (l.drop k) r with
     | .error e => .error e
     | .ok m' => .ok (m ++ m'))
def nA (l : List UInt8) : Nat := Yq (l.take 2)
def nB (l : List UInt8) : Nat := Yq ((l.drop 2).take 2)
def nC (l : List UInt8) : Nat := Yq ((l.drop 4).take 2)
def ahN (wl l : List UInt8) (n : Nat) : Except Int (List Nat) :=
 if oC (jZ wl) = 0 then .error 1
 else if n < 3 * ((n + 3) / 4) then .error 11
 else if l.length < 6 then .error 10
 else if (l.drop 6).length < nA l + nB l + nC l then .error 10
 else YV (wC wl) (l.drop 6) [(nA l, (n + 3) / 4), (nB l, (n + 3) / 4), (nC l, (n + 3) / 4), ((l.drop 6).length - (nA l + nB l + nC l), n - 3 * ((n + 3) / 4))]
def nx (l : List UInt8) : Nat -> List UInt8 × Int
 | 0 => (l, 0)
 | i + 1 => ((tkR (nx l i).1 (nx l i).2 2).2.1, (tkR (nx l i).1 (nx l i).2 2).2.2)
theorem Kk {w : atO} {base base' sz n : Nat} {v : atP} {l : List atP} (h : yB w base sz v n l) (hb : base' <= base) : yB w base' sz v n l := by
 rcases h.2 with h0 | ⟨b, c, rest, h1, h2, h3⟩
 .exact ⟨h.1, .inl h0⟩
 .exact ⟨h.1, .inr ⟨b, c, rest, h1, by omega, h3⟩⟩
theorem VK {k n : Nat} {w : atO} (hk : k < 2) (hn : n <= 131072) :
 jD pg vU #[.int .i64 k, .int .i64 n] w (fun r w' => yB w' w.heap.size 1 r (uN k n).length ((uN k n).map oZ) /\ jM w w' mN) := by
 refine Pl ?_
 obtain ⟨RR, hRR⟩ : ∃ RR : atP -> atO -> Prop, RR = fun r w' => yB w' w.heap.size 1 r (uN k n).length ((uN k n).map oZ) /\ jM w w' mN := ⟨_, rfl⟩
 rw [<- hRR]
 unfold NO Ds DM
 refine (ER w).mono ?_
 rintro r w1 ⟨rfl, hlt, hc1, x1⟩
 have z1 := x1.size
 have fin : ∀ (X m : Nat) (w2 : atO), X < 2 ^ 40 -> 1 <= m -> m <= 8 -> pB X m = uN k n -> w2 = w1 →
     jD pg jL #[.pointer (some ⟨w.heap.size, 0, none⟩), .int .u64 X, .int .i64 m] w2 fun _ w' => uD RR (.pointer (some ⟨w.heap.size, 0, none⟩)) w' := by
  intro X m w2 hX h1 h8 hp hw
  subst hw
  refine (AE (n := m) hc1 (fun b hb => by omega) (Nat.lt_trans hX (by decide)) ⟨h1, h8⟩ (atD _)).mono ?_
  rintro r w3 ⟨rfl, hc3, x3⟩
  rw [aqA, hp] at hc3
  have hpl : (uN k n).length <= 8 := by rw [<- hp, mC]; exact h8
  unfold uD
  have hpl2 : (uN k n).length <= 1000000000 := aqC hpl (by decide)
  have hout := NR hc3 hpl2
  refine hout.mono ?_
  rintro r w4 ⟨o4, x4⟩
  have x03 : jM w w3 mN := x1.trans x3 fun y hy h => by omega
  have z3 := x03.size
  have hfin : yB w4 w.heap.size 1 r (uN k n).length ((uN k n).map oZ) /\ jM w w4 mN := ⟨Kk o4 z3, x03.seq x4⟩
  rw [hRR]
  exact hfin
 have t3 : (3 : Int).toNat = 3 := rfl
 have t4 : (4 : Int).toNat = 4 := rfl
 have p3 : (2 : Nat) ^ 3 = 8 := rfl
 have p4 : (2 : Nat) ^ 4 = 16 := rfl
 by_cases h1 : n < 32
 .have d1 : decide ((n : Int) < 32) = true := decide_eq_true (by omega)
  have e1 := WS (a := n) (n := 3) (by omega) (by omega)
  have e2 : UU .i64 ((n * 2 ^ 3 : Nat) : Int) (k : Int) = ((n * 8 + k : Nat) : Int) := by
   rw [Sj (by omega) (by omega), Mb 3 (by omega)]
  have e3 : IntKind.u64.wrap ((n * 8 + k : Nat) : Int) = ((n * 8 + k : Nat) : Int) := hZ (by omega) (by omega)
  simp (disch := omega) only [gE, jE, cS, stepR_skip, hO, iA, iO, iM, iJ, iL, jH, iT, gL, iD, iF, iC, iH, hJ, iN, hU, iE, iR, iS, iI, gQ, iQ, iP, iG, kR, kQ, lE, lH, lG, lD, lF, lC, lB, gB, Result.ok.injEq, Next.value.injEq, true_and, and_true, gY, hZ, iV, iW, iU, jG, aoE, gV, gU, gX, gT, gM, gI, gN, gK, fZ, fU, if_true, if_false, aoD, aoH, aoF, aoG, aoJ, aoI, aoC, aoB, fM, fK, eZ, fQ, cU, eQ, eE, dJ, bO, fR, eS, aQ, cY, bF, bP, bJ, aI, cP, cB, eP, aF, gR, aK, cJ, aS, bS, fS, cC, cD, aB, gC, fC, aJ, aD, bH, gO, aP, eU, dT, dV, gG, dH, fH, dB, eH, eT, fD, cF, dF, gJ, dQ, cH, bA, bZ, cG, fP, aE, aG, aO, aV, bD, cL, bN, aA, fE, aM, cO, fI, eY, gH, bK, eK, eL, bW, fW, fF, eJ, dD, cR, dG, aW, bB, aH, gA, aL, dC, dW, aX, cI, fJ, dK, gD, fL, fA, fB, dP, aN, bX, dE, fY, fX, fG, dI, aT, dZ, fT, cQ, eX, fN, bY, bL, dU, aZ, dY, dO, cK, eI, eM, aY, dA, bE, dN, dS, dR, bM, cN, cM, dM, bR, cW, cV, fO, bV, eF, eN, gF, dX, eD, dL, cZ, bG, bQ, bT, bU, aR, cX, aU, d1, t3, e1, e2, e3]
  exact fin (n * 8 + k) 1 _ (by omega) (by omega) (by omega) (by unfold uN; rw [if_pos h1]) rfl
 have d1 : decide ((n : Int) < 32) = false := decide_eq_false (by omega)
 have e1 := WS (a := n) (n := 4) (by omega) (by omega)
 by_cases h2 : n < 4096
 .have d2 : decide ((n : Int) < 4096) = true := decide_eq_true (by omega)
  have e2 : UU .i64 ((n * 2 ^ 4 : Nat) : Int) 4 = ((n * 16 + 4 : Nat) : Int) := by
   have := Sj (a := n * 2 ^ 4) (b := 4) (by omega) (by omega)
   rw [Mb 4 (by omega)] at this
   exact this
  have e3 : UU .i64 ((n * 16 + 4 : Nat) : Int) (k : Int) = ((n * 16 + 4 + k : Nat) : Int) := by
   rw [Sj (by omega) (by omega), show n * 16 + 4 = (n * 4 + 1) * 2 ^ 2 from by omega, Mb 2 (by omega)]
  have e4 : IntKind.u64.wrap ((n * 16 + 4 + k : Nat) : Int) = ((n * 16 + 4 + k : Nat) : Int) := hZ (by omega) (by omega)
  simp (disch := omega) only [gE, jE, cS, stepR_skip, hO, iA, iO, iM, iJ, iL, jH, iT, gL, iD, iF, iC, iH, hJ, iN, hU, iE, iR, iS, iI, gQ, iQ, iP, iG, kR, kQ, lE, lH, lG, lD, lF, lC, lB, gB, Result.ok.injEq, Next.value.injEq, true_and, and_true, gY, hZ, iV, iW, iU, jG, aoE, gV, gU, gX, gT, gM, gI, gN, gK, fZ, fU, if_true, if_false, aoD, aoH, aoF, aoG, aoJ, aoI, aoC, aoB, fM, fK, eZ, fQ, cU, eQ, eE, dJ, bO, fR, eS, aQ, cY, bF, bP, bJ, aI, cP, cB, eP, aF, gR, aK, cJ, aS, bS, fS, cC, cD, aB, gC, fC, aJ, aD, bH, gO, aP, eU, dT, dV, gG, dH, fH, dB, eH, eT, fD, cF, dF, gJ, dQ, cH, bA, bZ, cG, fP, aE, aG, aO, aV, bD, cL, bN, aA, fE, aM, cO, fI, eY, gH, bK, eK, eL, bW, fW, fF, eJ, dD, cR, dG, aW, bB, aH, gA, aL, dC, dW, aX, cI, fJ, dK, gD, fL, fA, fB, dP, aN, bX, dE, fY, fX, fG, dI, aT, dZ, fT, cQ, eX, fN, bY, bL, dU, aZ, dY, dO, cK, eI, eM, aY, dA, bE, dN, dS, dR, bM, cN, cM, dM, bR, cW, cV, fO, bV, eF, eN, gF, dX, eD, dL, cZ, bG, bQ, bT, bU, aR, cX, aU, d1, d2, t4, e1, e2, e3, e4]
  exact fin (n * 16 + 4 + k) 2 _ (by omega) (by omega) (by omega) (by unfold uN; rw [if_neg h1, if_pos h2]) rfl
 .have d2 : decide ((n : Int) < 4096) = false := decide_eq_false (by omega)
  have e2 : UU .i64 ((n * 2 ^ 4 : Nat) : Int) 12 = ((n * 16 + 12 : Nat) : Int) := by
   have := Sj (a := n * 2 ^ 4) (b := 12) (by omega) (by omega)
   rw [Mb 4 (by omega)] at this
   exact this
  have e3 : UU .i64 ((n * 16 + 12 : Nat) : Int) (k : Int) = ((n * 16 + 12 + k : Nat) : Int) := by
   rw [Sj (by omega) (by omega), show n * 16 + 12 = (n * 4 + 3) * 2 ^ 2 from by omega, Mb 2 (by omega)]
  have e4 : IntKind.u64.wrap ((n * 16 + 12 + k : Nat) : Int) = ((n * 16 + 12 + k : Nat) : Int) := hZ (by omega) (by omega)
  simp (disch := omega) only [gE, jE, cS, stepR_skip, hO, iA, iO, iM, iJ, iL, jH, iT, gL, iD, iF, iC, iH, hJ, iN, hU, iE, iR, iS, iI, gQ, iQ, iP, iG, kR, kQ, lE, lH, lG, lD, lF, lC, lB, gB, Result.ok.injEq, Next.value.injEq, true_and, and_true, gY, hZ, iV, iW, iU, jG, aoE, gV, gU, gX, gT, gM, gI, gN, gK, fZ, fU, if_true, if_false, aoD, aoH, aoF, aoG, aoJ, aoI, aoC, aoB, fM, fK, eZ, fQ, cU, eQ, eE, dJ, bO, fR, eS, aQ, cY, bF, bP, bJ, aI, cP, cB, eP, aF, gR, aK, cJ, aS, bS, fS, cC, cD, aB, gC, fC, aJ, aD, bH, gO, aP, eU, dT, dV, gG, dH, fH, dB, eH, eT, fD, cF, dF, gJ, dQ, cH, bA, bZ, cG, fP, aE, aG, aO, aV, bD, cL, bN, aA, fE, aM, cO, fI, eY, gH, bK, eK, eL, bW, fW, fF, eJ, dD, cR, dG, aW, bB, aH, gA, aL, dC, dW, aX, cI, fJ, dK, gD, fL, fA, fB, dP, aN, bX, dE, fY, fX, fG, dI, aT, dZ, fT, cQ, eX, fN, bY, bL, dU, aZ, dY, dO, cK, eI, eM, aY, dA, bE, dN, dS, dR, bM, cN, cM, dM, bR, cW, cV, fO, bV, eF, eN, gF, dX, eD, dL, cZ, bG, bQ, bT, bU, aR, cX, aU, d1, d2, t4, e1, e2, e3, e4]
  exact fin (n * 16 + 12 + k) 3 _ (by omega) (by omega) (by omega) (by unfold uN; rw [if_neg h1, if_neg h2]) rfl
theorem agI {v : atP} {l : List UInt8} {w : atO} (h : Bs w v l) (hl : l.length <= 131072) :
 jD pg DT #[v] w (fun r w' => ∃ x, r = .tuple #[x, .int .i64 0] /\ yB w' w.heap.size 1 x (uN 0 l.length ++ l).length ((uN 0 l.length ++ l).map oZ) /\ jM w w' mN) := by
 refine Sn ?_
 unfold R7 GG
 have hv := h
 obtain ⟨a, c, rfl, hc⟩ := h.len
 rw [aoK] at *
 have d1 : decide ((l.length : Int) > 131072) = false := decide_eq_false (by omega)
 have d2 : decide ((131072 : Int) < (l.length : Int)) = false := decide_eq_false (by omega)
 simp (disch := omega) only [gE, jE, cS, stepR_skip, hO, iA, iO, iM, iJ, iL, jH, iT, gL, iD, iF, iC, iH, hJ, iN, hU, iE, iR, iS, iI, gQ, iQ, iP, iG, kR, kQ, lE, lH, lG, lD, lF, lC, lB, gB, Result.ok.injEq, Next.value.injEq, true_and, and_true, gY, hZ, iV, iW, iU, jG, aoE, gV, gU, gX, gT, gM, gI, gN, gK, fZ, fU, if_true, if_false, aoD, aoH, aoF, aoG, aoJ, aoI, aoC, aoB, fM, fK, eZ, fQ, cU, eQ, eE, dJ, bO, fR, eS, aQ, cY, bF, bP, bJ, aI, cP, cB, eP, aF, gR, aK, cJ, aS, bS, fS, cC, cD, aB, gC, fC, aJ, aD, bH, gO, aP, eU, dT, dV, gG, dH, fH, dB, eH, eT, fD, cF, dF, gJ, dQ, cH, bA, bZ, cG, fP, aE, aG, aO, aV, bD, cL, bN, aA, fE, aM, cO, fI, eY, gH, bK, eK, eL, bW, fW, fF, eJ, dD, cR, dG, aW, bB, aH, gA, aL, dC, dW, aX, cI, fJ, dK, gD, fL, fA, fB, dP, aN, bX, dE, fY, fX, fG, dI, aT, dZ, fT, cQ, eX, fN, bY, bL, dU, aZ, dY, dO, cK, eI, eM, aY, dA, bE, dN, dS, dR, bM, cN, cM, dM, bR, cW, cV, fO, bV, eF, eN, gF, dX, eD, dL, cZ, bG, bQ, bT, bU, aR, cX, aU, d1, d2]
 refine (VK (k := 0) (n := l.length) (by omega) hl).mono ?_
 rintro r w1 ⟨o1, x1⟩
 have z1 := x1.size
 have hcl := (hv.ext x1 (kJ _)).cl
 rw [aoK] at hcl
 have hp := LO 0 l.length
 refine lZ o1 hcl (DA _) z1 (by omega) fun v2 w2 o2 x2 => ?_
 refine ⟨v2, rfl, ?_, x1.trans x2 fun y hy h => by omega⟩
 rw [aoL, apN]
 exact o2
theorem acL {c : UInt8} {n : Nat} {w : atO} (hn : n <= 131072) :
 jD pg Ca #[oZ c, .int .i64 n] w (fun r w' => ∃ x, r = .tuple #[x, .int .i64 0] /\ yB w' w.heap.size 1 x (uN 1 n ++ [c]).length ((uN 1 n ++ [c]).map oZ) /\ jM w w' mN) := by
 refine Rk ?_
 unfold Qo FE
 have d0 : decide ((n : Int) < 0) = false := decide_eq_false (by omega)
 have d1 : decide ((n : Int) > 131072) = false := decide_eq_false (by omega)
 have d2 : decide ((131072 : Int) < (n : Int)) = false := decide_eq_false (by omega)
 simp (disch := omega) only [gE, jE, cS, stepR_skip, hO, iA, iO, iM, iJ, iL, jH, iT, gL, iD, iF, iC, iH, hJ, iN, hU, iE, iR, iS, iI, gQ, iQ, iP, iG, kR, kQ, lE, lH, lG, lD, lF, lC, lB, gB, Result.ok.injEq, Next.value.injEq, true_and, and_true, gY, hZ, iV, iW, iU, jG, aoE, gV, gU, gX, gT, gM, gI, gN, gK, fZ, fU, if_true, if_false, aoD, aoH, aoF, aoG, aoJ, aoI, aoC, aoB, fM, fK, eZ, fQ, cU, eQ, eE, dJ, bO, fR, eS, aQ, cY, bF, bP, bJ, aI, cP, cB, eP, aF, gR, aK, cJ, aS, bS, fS, cC, cD, aB, gC, fC, aJ, aD, bH, gO, aP, eU, dT, dV, gG, dH, fH, dB, eH, eT, fD, cF, dF, gJ, dQ, cH, bA, bZ, cG, fP, aE, aG, aO, aV, bD, cL, bN, aA, fE, aM, cO, fI, eY, gH, bK, eK, eL, bW, fW, fF, eJ, dD, cR, dG, aW, bB, aH, gA, aL, dC, dW, aX, cI, fJ, dK, gD, fL, fA, fB, dP, aN, bX, dE, fY, fX, fG, dI, aT, dZ, fT, cQ, eX, fN, bY, bL, dU, aZ, dY, dO, cK, eI, eM, aY, dA, bE, dN, dS, dR, bM, cN, cM, dM, bR, cW, cV, fO, bV, eF, eN, gF, dX, eD, dL, cZ, bG, bQ, bT, bU, aR, cX, aU, d0, d1, d2]
 refine (VK (k := 1) (n := n) (by omega) hn).mono ?_
 rintro r w1 ⟨o1, x1⟩
 have z1 := x1.size
 have hp := LO 1 n
 refine sJ (cells := #[oZ c]) (by decide) (by decide) (by kernel_rfl) fun w2 o2 x2 s2 => ?_
 have z2 := x2.size
 refine lZ (m := 1) (news := [oZ c]) (o1.ext x2 (fun _ _ h => h)) (o2.cl (off := 0) (l := [oZ c]) (n := 1) rfl (fun i hi => by rw [aoH])) (by simp [one, oZ]) (by omega) (by omega) fun v2 w3 o3 x3 => ?_
 refine ⟨v2, rfl, ?_, (x1.seq x2).trans x3 fun y hy h => by omega⟩
 rw [aoL, apN]
 exact o3
end Go.Proofs.YtoecppploooloaaGreatDoor
namespace Go.En
open Go
section
variable {P : Program}
theorem Vj {a : Array atP} {t x : Nat} {v : atP} (h : t < a.size) : MV (a.setIfInBounds t v) x = if x = t then v else MV a x := by
 unfold MV
 rw [aoO, aoO]
 by_cases hx : x = t
 .subst hx; rw [apI h, if_pos rfl] <;> rfl
 .rw [apQ (fun e => hx e.symm), if_neg hx]
theorem abS {N x : Nat} {g : Env} (h : x < N) : MV (tmpsOf N g) x = g x := by
 unfold MV tmpsOf
 rw [aoO, aoW (by simpa using h)]
 simp
theorem UZ {f : FuncId} {fn : Func} (hf : P.funcs[f]? = some fn) (hb : fn.body.isSome = true) (hn : (fn.name == "runtime.NumGoroutine") = false) (cap : Array atP) (args : List atP) (w : atO) :
 (Cq (.func (.func f) #[] cap) args).run P w = .ok (.enter f (args.toArray ++ cap)) w := by
 unfold Cq Deferred.ofValue
 simp only [pure_bind, invoke, Array.empty_append]
 exact Si hf hb hn _ _
def Vd (r : Loop) (args : List atP) : Array atP := (r.params.zip args.toArray).foldl (fun tmps (t, a) => tmps.setIfInBounds t a) r.tmps
theorem ahL {r : Loop} {a b : Tmp} {t : Array atP} (hp : r.params = #[a, b]) (ht : r.tmps = t) (x y : atP) : Vd r [x, y] = (t.setIfInBounds a x).setIfInBounds b y := by
 unfold Vd; rw [hp, ht]; simp
theorem ahD {l : Nat} {r : Loop} {args : List atP} {w : atO} (h : w.heap[l]? = some (.loop r)) (hs : args.length = r.params.size) :
 (Cq (Iq l) args).run P w = .ok (.round l r.fn (Vd r args) r.assign r.body) w := by
 unfold Cq Iq Deferred.ofValue
 simp only [pure_bind, invoke, Array.empty_append]
 exact run_yield h (by simpa using hs)
theorem adW {f fi : FuncId} {fn : Func} {gf : Operand} {ps : Array Tmp} {aoA bd : Code} {Q : Exit -> Env -> atO -> Prop} {g : Env} {w : atO} {cap : Array atP}
 (hm : noMark (g DS) = true) (he : ev g gf = .func (.func fi) #[] cap) (hf : P.funcs[fi]? = some fn) (hb : fn.body.isSome = true) (hn : (fn.name == "runtime.NumGoroutine") = false)
 (h : jD P fi (#[Iq (w.heap.size + 1)] ++ cap) (rfW f (Tu P f) ps aoA bd g w) fun _ w3 => afD (w.heap.size + 1) Q (put g (some DS) (.pointer (some ⟨w.heap.size, 0, none⟩))) w3) :
 RF P f gf ps aoA bd Q g w := by
 unfold RF
 rw [hm]
 simp only
 rw [he, UZ hf hb hn]
 exact h
theorem jM.putObj (w : atO) (l : Nat) (o : Obj) : jM w (w.putObj l o) (fun y => y = l) :=
 ⟨rfl, rfl, rfl, by simp, fun b hb hM => World.putObj_heap_other hM⟩
theorem EK {w w' : atO} {l : Nat} {o : Obj} {M : Nat -> Prop} (h : w.heap[l]? = some o) (hx : jM w w' M) (hM : ¬ M l) : w'.heap[l]? = some o := by
 have : l < w.heap.size := by
  rcases aoT l w.heap.size with h' | h'
  .exact h'
  .rw [aqI h'] at h; cases h
 rw [hx.keep l this hM]; exact h
theorem aiQ {w : atO} {l : Nat} {o : Obj} (h : w.heap[l]? = some o) : l < w.heap.size := by
 rcases aoT l w.heap.size with h' | h'
 .exact h'
 .rw [aqI h'] at h; cases h
theorem aaP (f : FuncId) (N : Nat) (ps : Array Tmp) (aoA bd : Code) (g : Env) (w : atO) :
 jM w (rfW f N ps aoA bd g w) mN /\ (rfW f N ps aoA bd g w).heap.size = w.heap.size + 2 /\ (rfW f N ps aoA bd g w).heap[w.heap.size]? = some (.deferred (some [])) /\
  (rfW f N ps aoA bd g w).heap[w.heap.size + 1]? = some (.loop { state := .ready, pending := none, fn := f, tmps := tmpsOf N g, params := ps, assign := aoA, body := bd, defers := w.heap.size }) := by
 unfold rfW
 have x1 := jM.alloc w (.deferred (some [])) mN
 have h1 := World.alloc_heap_new w (.deferred (some []))
 have z1 : (w.alloc (.deferred (some []))).heap.size = w.heap.size + 1 := by simp
 generalize w.alloc (.deferred (some [])) = w1 at *
 refine ⟨x1.seq (jM.alloc w1 _ mN), by simp [z1], EK h1 (jM.alloc w1 _ mN) (fun h => h), ?_⟩
 have := World.alloc_heap_new w1 (.loop { state := .ready, pending := none, fn := f, tmps := tmpsOf N g, params := ps, assign := aoA, body := bd, defers := w.heap.size })
 rw [z1] at this
 exact this
theorem abW {l : Nat} {r : Loop} {w : atO} {K : atO -> Prop} (h : w.heap[l]? = some (.loop r)) (hr : r.state = .ready)
 (hk : ∀ w', w'.heap[l]? = some (.loop { r with state := .busy }) -> jM w w' (fun y => y = l) -> w'.heap.size = w.heap.size -> K w') : Rdy l w K :=
 ⟨r, h, hr, hk _ (World.putObj_heap_same (aiQ h)) (jM.putObj _ _ _) (by simp)⟩
theorem VP {l : Nat} {r : Loop} {j : Option Code} {w : atO} {R : atP -> atO -> Prop} (h : w.heap[l]? = some (.loop r))
 (hk : ∀ w', w'.heap[l]? = some (.loop { r with state := jSt j, pending := j }) -> jM w w' (fun y => y = l) -> w'.heap.size = w.heap.size -> R (.bool j.isNone) w') : XT l j R w :=
 ⟨r, h, hk _ (World.putObj_heap_same (aiQ h)) (jM.putObj _ _ _) (by simp)⟩
theorem Un {l : Nat} {r : Loop} {w : atO} {Q : Exit -> Env -> atO -> Prop} {g : Env} (h : w.heap[l]? = some (.loop r)) (hb : r.state ≠ .busy)
 (hk : ∀ w', jM w w' (fun y => y = l) -> w'.heap.size = w.heap.size -> akC Q g r.pending w') : afD l Q g w :=
 ⟨r, h, hb, hk _ (jM.putObj _ _ _) (by simp)⟩
theorem VF {b : Nat} {w : atO} {K : atO -> Prop} (h : w.heap[b]? = some (.deferred (some []))) (hk : ∀ w', jM w w' (fun y => y = b) -> w'.heap.size = w.heap.size -> K w') :
 Ey (.pointer (some ⟨b, 0, none⟩)) w K := ⟨h, hk _ (jM.putObj _ _ _) (by simp)⟩
theorem YT {f : FuncId} (first captured : List atP) (w : atO) : (Vy (.func f) first captured).run P w = .ok (.value (.func (.func f) first.toArray captured.toArray)) w := by
 unfold Vy V Instr.makeFunc
 simp [Sem.run_bind, Sem.run_pure]
end
end Go.En
namespace Go.Proofs.YtoecppploooloaaGreatDoor
open Go Go.En Go.Pu
set_option maxRecDepth 4000
theorem ajU : pB 4247762216 4 = [40, 181, 47, 253] := by decide
theorem Xr {n : Nat} {s : Bool} {w : atO} (hn : n < 65792) :
 jD pg FQ #[.int .u64 (n : Nat), .bool s] w (fun r w' => yB w' w.heap.size 1 r (Lm n s).length ((Lm n s).map oZ) /\ jM w w' mN) := by
 refine TY ?_
 obtain ⟨RR, hRR⟩ : ∃ RR : atP -> atO -> Prop, RR = fun r w' => yB w' w.heap.size 1 r (Lm n s).length ((Lm n s).map oZ) /\ jM w w' mN := ⟨_, rfl⟩
 rw [<- hRR]
 unfold Uk Hy HI IA Ic
 have fin : ∀ (d m less : Nat), d < 256 -> 1 <= m /\ m <= 2 -> less <= n -> [40, 181, 47, 253] ++ pB d 1 ++ pB (n - less) m = Lm n s -> Ao RR (.int .u64 (n : Nat)) (.int .u64 (d : Nat)) (.int .i64 (m : Nat)) (.int .u64 (less : Nat)) w := by
  intro d m less hd hm hle he
  unfold Ao
  refine (ER w).mono ?_
  rintro r w1 ⟨rfl, hlt, h1, x1⟩
  have z1 := x1.size
  have e1 : (n : Int) - (less : Int) = ((n - less : Nat) : Int) := by omega
  refine (AE (x := 4247762216) (n := 4) h1 (fun b hb => by omega) (by decide) ⟨by omega, by omega⟩ (by simp)).mono ?_
  rintro r w2 ⟨rfl, h2, x2⟩
  have z2 := x2.size
  rw [aqA, ajU] at h2
  refine (AE (x := d) (n := 1) h2 (fun b hb => by omega) (by omega) ⟨by omega, by omega⟩ (by simp)).mono ?_
  rintro r w3 ⟨rfl, h3, x3⟩
  have z3 := x3.size
  simp (disch := omega) only [gE, jE, cS, stepR_skip, hO, iA, iO, iM, iJ, iL, jH, iT, gL, iD, iF, iC, iH, hJ, iN, hU, iE, iR, iS, iI, gQ, iQ, iP, iG, kR, kQ, lE, lH, lG, lD, lF, lC, lB, gB, Result.ok.injEq, Next.value.injEq, true_and, and_true, gY, hZ, iV, iW, iU, jG, aoE, gV, gU, gX, gT, gM, gI, gN, gK, fZ, fU, if_true, if_false, aoD, aoH, aoF, aoG, aoJ, aoI, aoC, aoB, fM, fK, eZ, fQ, cU, eQ, eE, dJ, bO, fR, eS, aQ, cY, bF, bP, bJ, aI, cP, cB, eP, aF, gR, aK, cJ, aS, bS, fS, cC, cD, aB, gC, fC, aJ, aD, bH, gO, aP, eU, dT, dV, gG, dH, fH, dB, eH, eT, fD, cF, dF, gJ, dQ, cH, bA, bZ, cG, fP, aE, aG, aO, aV, bD, cL, bN, aA, fE, aM, cO, fI, eY, gH, bK, eK, eL, bW, fW, fF, eJ, dD, cR, dG, aW, bB, aH, gA, aL, dC, dW, aX, cI, fJ, dK, gD, fL, fA, fB, dP, aN, bX, dE, fY, fX, fG, dI, aT, dZ, fT, cQ, eX, fN, bY, bL, dU, aZ, dY, dO, cK, eI, eM, aY, dA, bE, dN, dS, dR, bM, cN, cM, dM, bR, cW, cV, fO, bV, eF, eN, gF, dX, eD, dL, cZ, bG, bQ, bT, bU, aR, cX, aU, e1]
  refine (AE (x := n - less) (n := m) h3 (fun b hb => by omega) (by omega) ⟨by omega, by omega⟩ (by simp [mC])).mono ?_
  rintro r w4 ⟨rfl, h4, x4⟩
  rw [he] at h4
  refine (NR h4 (by have := Xy n s; omega)).mono ?_
  rintro r w5 ⟨o5, x5⟩
  have x04 : jM w w4 mN := ((x1.trans x2 fun y hy h => by omega).trans x3 fun y hy h => by omega).trans x4 fun y hy h => by omega
  rw [hRR]
  exact ⟨Kk o5 x04.size, x04.seq x5⟩
 have o1 : UU .u64 32 64 = 96 := by decide
 have o2 : UU .u64 32 4 = 36 := by decide
 have o3 : UU .u64 96 4 = 100 := by decide
 by_cases h1 : n < 256
 .have d1 : decide ((n : Int) < 256) = true := decide_eq_true (by omega)
  cases s with
  | true =>
    simp (disch := omega) only [gE, jE, cS, stepR_skip, hO, iA, iO, iM, iJ, iL, jH, iT, gL, iD, iF, iC, iH, hJ, iN, hU, iE, iR, iS, iI, gQ, iQ, iP, iG, kR, kQ, lE, lH, lG, lD, lF, lC, lB, gB, Result.ok.injEq, Next.value.injEq, true_and, and_true, gY, hZ, iV, iW, iU, jG, aoE, gV, gU, gX, gT, gM, gI, gN, gK, fZ, fU, if_true, if_false, aoD, aoH, aoF, aoG, aoJ, aoI, aoC, aoB, fM, fK, eZ, fQ, cU, eQ, eE, dJ, bO, fR, eS, aQ, cY, bF, bP, bJ, aI, cP, cB, eP, aF, gR, aK, cJ, aS, bS, fS, cC, cD, aB, gC, fC, aJ, aD, bH, gO, aP, eU, dT, dV, gG, dH, fH, dB, eH, eT, fD, cF, dF, gJ, dQ, cH, bA, bZ, cG, fP, aE, aG, aO, aV, bD, cL, bN, aA, fE, aM, cO, fI, eY, gH, bK, eK, eL, bW, fW, fF, eJ, dD, cR, dG, aW, bB, aH, gA, aL, dC, dW, aX, cI, fJ, dK, gD, fL, fA, fB, dP, aN, bX, dE, fY, fX, fG, dI, aT, dZ, fT, cQ, eX, fN, bY, bL, dU, aZ, dY, dO, cK, eI, eM, aY, dA, bE, dN, dS, dR, bM, cN, cM, dM, bR, cW, cV, fO, bV, eF, eN, gF, dX, eD, dL, cZ, bG, bQ, bT, bU, aR, cX, aU, d1, o1, o2, o3]
    exact fin 36 1 0 (by omega) (by omega) (by omega) (by unfold Lm; rw [if_pos h1] <;> rfl)
  | false =>
    simp (disch := omega) only [gE, jE, cS, stepR_skip, hO, iA, iO, iM, iJ, iL, jH, iT, gL, iD, iF, iC, iH, hJ, iN, hU, iE, iR, iS, iI, gQ, iQ, iP, iG, kR, kQ, lE, lH, lG, lD, lF, lC, lB, gB, Result.ok.injEq, Next.value.injEq, true_and, and_true, gY, hZ, iV, iW, iU, jG, aoE, gV, gU, gX, gT, gM, gI, gN, gK, fZ, fU, if_true, if_false, aoD, aoH, aoF, aoG, aoJ, aoI, aoC, aoB, fM, fK, eZ, fQ, cU, eQ, eE, dJ, bO, fR, eS, aQ, cY, bF, bP, bJ, aI, cP, cB, eP, aF, gR, aK, cJ, aS, bS, fS, cC, cD, aB, gC, fC, aJ, aD, bH, gO, aP, eU, dT, dV, gG, dH, fH, dB, eH, eT, fD, cF, dF, gJ, dQ, cH, bA, bZ, cG, fP, aE, aG, aO, aV, bD, cL, bN, aA, fE, aM, cO, fI, eY, gH, bK, eK, eL, bW, fW, fF, eJ, dD, cR, dG, aW, bB, aH, gA, aL, dC, dW, aX, cI, fJ, dK, gD, fL, fA, fB, dP, aN, bX, dE, fY, fX, fG, dI, aT, dZ, fT, cQ, eX, fN, bY, bL, dU, aZ, dY, dO, cK, eI, eM, aY, dA, bE, dN, dS, dR, bM, cN, cM, dM, bR, cW, cV, fO, bV, eF, eN, gF, dX, eD, dL, cZ, bG, bQ, bT, bU, aR, cX, aU, d1, o1, o2, o3]
    exact fin 32 1 0 (by omega) (by omega) (by omega) (by unfold Lm; rw [if_pos h1] <;> rfl)
 .have d1 : decide ((n : Int) < 256) = false := decide_eq_false (by omega)
  have d2 : decide ((n : Int) < 65792) = true := decide_eq_true (by omega)
  cases s with
  | true =>
    simp (disch := omega) only [gE, jE, cS, stepR_skip, hO, iA, iO, iM, iJ, iL, jH, iT, gL, iD, iF, iC, iH, hJ, iN, hU, iE, iR, iS, iI, gQ, iQ, iP, iG, kR, kQ, lE, lH, lG, lD, lF, lC, lB, gB, Result.ok.injEq, Next.value.injEq, true_and, and_true, gY, hZ, iV, iW, iU, jG, aoE, gV, gU, gX, gT, gM, gI, gN, gK, fZ, fU, if_true, if_false, aoD, aoH, aoF, aoG, aoJ, aoI, aoC, aoB, fM, fK, eZ, fQ, cU, eQ, eE, dJ, bO, fR, eS, aQ, cY, bF, bP, bJ, aI, cP, cB, eP, aF, gR, aK, cJ, aS, bS, fS, cC, cD, aB, gC, fC, aJ, aD, bH, gO, aP, eU, dT, dV, gG, dH, fH, dB, eH, eT, fD, cF, dF, gJ, dQ, cH, bA, bZ, cG, fP, aE, aG, aO, aV, bD, cL, bN, aA, fE, aM, cO, fI, eY, gH, bK, eK, eL, bW, fW, fF, eJ, dD, cR, dG, aW, bB, aH, gA, aL, dC, dW, aX, cI, fJ, dK, gD, fL, fA, fB, dP, aN, bX, dE, fY, fX, fG, dI, aT, dZ, fT, cQ, eX, fN, bY, bL, dU, aZ, dY, dO, cK, eI, eM, aY, dA, bE, dN, dS, dR, bM, cN, cM, dM, bR, cW, cV, fO, bV, eF, eN, gF, dX, eD, dL, cZ, bG, bQ, bT, bU, aR, cX, aU, d1, d2, o1, o2, o3]
    exact fin 100 2 256 (by omega) (by omega) (by omega) (by unfold Lm; rw [if_neg h1] <;> rfl)
  | false =>
    simp (disch := omega) only [gE, jE, cS, stepR_skip, hO, iA, iO, iM, iJ, iL, jH, iT, gL, iD, iF, iC, iH, hJ, iN, hU, iE, iR, iS, iI, gQ, iQ, iP, iG, kR, kQ, lE, lH, lG, lD, lF, lC, lB, gB, Result.ok.injEq, Next.value.injEq, true_and, and_true, gY, hZ, iV, iW, iU, jG, aoE, gV, gU, gX, gT, gM, gI, gN, gK, fZ, fU, if_true, if_false, aoD, aoH, aoF, aoG, aoJ, aoI, aoC, aoB, fM, fK, eZ, fQ, cU, eQ, eE, dJ, bO, fR, eS, aQ, cY, bF, bP, bJ, aI, cP, cB, eP, aF, gR, aK, cJ, aS, bS, fS, cC, cD, aB, gC, fC, aJ, aD, bH, gO, aP, eU, dT, dV, gG, dH, fH, dB, eH, eT, fD, cF, dF, gJ, dQ, cH, bA, bZ, cG, fP, aE, aG, aO, aV, bD, cL, bN, aA, fE, aM, cO, fI, eY, gH, bK, eK, eL, bW, fW, fF, eJ, dD, cR, dG, aW, bB, aH, gA, aL, dC, dW, aX, cI, fJ, dK, gD, fL, fA, fB, dP, aN, bX, dE, fY, fX, fG, dI, aT, dZ, fT, cQ, eX, fN, bY, bL, dU, aZ, dY, dO, cK, eI, eM, aY, dA, bE, dN, dS, dR, bM, cN, cM, dM, bR, cW, cV, fO, bV, eF, eN, gF, dX, eD, dL, cZ, bG, bQ, bT, bU, aR, cX, aU, d1, d2, o1, o2, o3]
    exact fin 96 2 256 (by omega) (by omega) (by omega) (by unfold Lm; rw [if_neg h1] <;> rfl)
theorem aiG (x : Nat) : pB x 3 = b3 x := by
 unfold b3
 simp only [pB]
 rw [show x / 256 / 256 = x / 65536 from by omega]
theorem WY {k z : Nat} {t : Bool} {w : atO} (hk : k <= 2) (hz : z < 2097152) :
 jD pg wZ #[.agg #[.bool t, .int .i64 (k : Nat), .int .i64 (z : Nat)]] w (fun r w' => ∃ v, r = .tuple #[v, .int .i64 0] /\ yB w' w.heap.size 1 v 3 ((b3 (8 * z + 2 * k + if t then 1 else 0)).map oZ) /\ jM w w' mN) := by
 refine NA ?_
 obtain ⟨RR, hRR⟩ : ∃ RR : atP -> atO -> Prop, RR = fun r w' => ∃ v, r = .tuple #[v, .int .i64 0] /\ yB w' w.heap.size 1 v 3 ((b3 (8 * z + 2 * k + if t then 1 else 0)).map oZ) /\ jM w w' mN := ⟨_, rfl⟩
 rw [<- hRR]
 unfold KF Bv Bm
 refine Cc fun w1 o1 x1 s1 => ?_
 have o1 : mQ w1 w.heap.size [.bool t, .int .i64 (k : Nat), .int .i64 (z : Nat)] := o1
 obtain ⟨p, hp⟩ : ∃ p, p = w.heap.size := ⟨_, rfl⟩
 rw [<- hp] at o1 ⊢
 have c0 : w1.cell? ⟨p, 0, none⟩ = some (.bool t) := o1.cell (off := 0)
 have c1 : w1.cell? ⟨p, 1, none⟩ = some (.int .i64 (k : Nat)) := o1.cell (off := 1)
 have c2 : w1.cell? ⟨p, 2, none⟩ = some (.int .i64 (z : Nat)) := o1.cell (off := 2)
 have fin : ∀ X : Nat, X = 8 * z + 2 * k + (if t then 1 else 0) -> rS RR (.int .i64 (X : Nat)) w1 := by
  intro X hX
  unfold rS
  refine (ER w1).mono ?_
  rintro r w2 ⟨rfl, hlt, h1, x2⟩
  have z2 := x2.size
  have hXb : X < 2 ^ 25 := by rw [hX]; split <;> omega
  have e1 : IntKind.u64.wrap (X : Int) = (X : Int) := hZ (by omega) (by omega)
  simp (disch := omega) only [gE, jE, cS, stepR_skip, hO, iA, iO, iM, iJ, iL, jH, iT, gL, iD, iF, iC, iH, hJ, iN, hU, iE, iR, iS, iI, gQ, iQ, iP, iG, kR, kQ, lE, lH, lG, lD, lF, lC, lB, gB, Result.ok.injEq, Next.value.injEq, true_and, and_true, gY, hZ, iV, iW, iU, jG, aoE, gV, gU, gX, gT, gM, gI, gN, gK, fZ, fU, if_true, if_false, aoD, aoH, aoF, aoG, aoJ, aoI, aoC, aoB, fM, fK, eZ, fQ, cU, eQ, eE, dJ, bO, fR, eS, aQ, cY, bF, bP, bJ, aI, cP, cB, eP, aF, gR, aK, cJ, aS, bS, fS, cC, cD, aB, gC, fC, aJ, aD, bH, gO, aP, eU, dT, dV, gG, dH, fH, dB, eH, eT, fD, cF, dF, gJ, dQ, cH, bA, bZ, cG, fP, aE, aG, aO, aV, bD, cL, bN, aA, fE, aM, cO, fI, eY, gH, bK, eK, eL, bW, fW, fF, eJ, dD, cR, dG, aW, bB, aH, gA, aL, dC, dW, aX, cI, fJ, dK, gD, fL, fA, fB, dP, aN, bX, dE, fY, fX, fG, dI, aT, dZ, fT, cQ, eX, fN, bY, bL, dU, aZ, dY, dO, cK, eI, eM, aY, dA, bE, dN, dS, dR, bM, cN, cM, dM, bR, cW, cV, fO, bV, eF, eN, gF, dX, eD, dL, cZ, bG, bQ, bT, bU, aR, cX, aU, e1]
  refine (AE (x := X) (n := 3) h1 (fun b hb => by omega) (by omega) ⟨by omega, by omega⟩ (by simp)).mono ?_
  rintro r w3 ⟨rfl, h3, x3⟩
  rw [aqA, aiG, hX] at h3
  refine (NR h3 (by simp [b3])).mono ?_
  rintro r w4 ⟨o4, x4⟩
  have x03 : jM w w3 mN := (x1.seq x2).trans x3 fun y hy h => by omega
  rw [hRR]
  exact ⟨r, rfl, Kk o4 x03.size, x03.seq x4⟩
 have d1 : decide (((k : Nat) : Int) < 0) = false := decide_eq_false (by omega)
 have d2 : decide ((2 : Int) < ((k : Nat) : Int)) = false := decide_eq_false (by omega)
 have d3 : decide (((z : Nat) : Int) < 0) = false := decide_eq_false (by omega)
 have d4 : decide ((2097152 : Int) <= ((z : Nat) : Int)) = false := decide_eq_false (by omega)
 have t3 : (3 : Int).toNat = 3 := rfl
 have t1 : (1 : Int).toNat = 1 := rfl
 have e1 := WS (a := z) (n := 3) (by omega) (by omega)
 have e2 := WS (a := k) (n := 1) (by omega) (by omega)
 have e3 : UU .i64 ((z * 2 ^ 3 : Nat) : Int) ((k * 2 ^ 1 : Nat) : Int) = ((z * 2 ^ 3 + k * 2 ^ 1 : Nat) : Int) := by
  rw [Sj (by omega) (by omega), Mb 3 (by omega)]
 have e4 : UU .i64 ((z * 2 ^ 3 + k * 2 ^ 1 : Nat) : Int) 1 = ((z * 2 ^ 3 + k * 2 ^ 1 + 1 : Nat) : Int) := by
  have := Sj (a := z * 2 ^ 3 + k * 2 ^ 1) (b := 1) (by omega) (by omega)
  rw [show z * 2 ^ 3 + k * 2 ^ 1 = (z * 4 + k) * 2 ^ 1 from by omega, Mb 1 (by omega)] at this
  rw [show z * 2 ^ 3 + k * 2 ^ 1 = (z * 4 + k) * 2 ^ 1 from by omega]
  exact this
 cases t with
 | true =>
   simp (disch := omega) only [gE, jE, cS, stepR_skip, hO, iA, iO, iM, iJ, iL, jH, iT, gL, iD, iF, iC, iH, hJ, iN, hU, iE, iR, iS, iI, gQ, iQ, iP, iG, kR, kQ, lE, lH, lG, lD, lF, lC, lB, gB, Result.ok.injEq, Next.value.injEq, true_and, and_true, gY, hZ, iV, iW, iU, jG, aoE, gV, gU, gX, gT, gM, gI, gN, gK, fZ, fU, if_true, if_false, aoD, aoH, aoF, aoG, aoJ, aoI, aoC, aoB, fM, fK, eZ, fQ, cU, eQ, eE, dJ, bO, fR, eS, aQ, cY, bF, bP, bJ, aI, cP, cB, eP, aF, gR, aK, cJ, aS, bS, fS, cC, cD, aB, gC, fC, aJ, aD, bH, gO, aP, eU, dT, dV, gG, dH, fH, dB, eH, eT, fD, cF, dF, gJ, dQ, cH, bA, bZ, cG, fP, aE, aG, aO, aV, bD, cL, bN, aA, fE, aM, cO, fI, eY, gH, bK, eK, eL, bW, fW, fF, eJ, dD, cR, dG, aW, bB, aH, gA, aL, dC, dW, aX, cI, fJ, dK, gD, fL, fA, fB, dP, aN, bX, dE, fY, fX, fG, dI, aT, dZ, fT, cQ, eX, fN, bY, bL, dU, aZ, dY, dO, cK, eI, eM, aY, dA, bE, dN, dS, dR, bM, cN, cM, dM, bR, cW, cV, fO, bV, eF, eN, gF, dX, eD, dL, cZ, bG, bQ, bT, bU, aR, cX, aU, c0, c1, c2, d1, d2, d3, d4, t3, t1, e1, e2, e3, e4]
   exact fin _ (by simp; omega)
 | false =>
   simp (disch := omega) only [gE, jE, cS, stepR_skip, hO, iA, iO, iM, iJ, iL, jH, iT, gL, iD, iF, iC, iH, hJ, iN, hU, iE, iR, iS, iI, gQ, iQ, iP, iG, kR, kQ, lE, lH, lG, lD, lF, lC, lB, gB, Result.ok.injEq, Next.value.injEq, true_and, and_true, gY, hZ, iV, iW, iU, jG, aoE, gV, gU, gX, gT, gM, gI, gN, gK, fZ, fU, if_true, if_false, aoD, aoH, aoF, aoG, aoJ, aoI, aoC, aoB, fM, fK, eZ, fQ, cU, eQ, eE, dJ, bO, fR, eS, aQ, cY, bF, bP, bJ, aI, cP, cB, eP, aF, gR, aK, cJ, aS, bS, fS, cC, cD, aB, gC, fC, aJ, aD, bH, gO, aP, eU, dT, dV, gG, dH, fH, dB, eH, eT, fD, cF, dF, gJ, dQ, cH, bA, bZ, cG, fP, aE, aG, aO, aV, bD, cL, bN, aA, fE, aM, cO, fI, eY, gH, bK, eK, eL, bW, fW, fF, eJ, dD, cR, dG, aW, bB, aH, gA, aL, dC, dW, aX, cI, fJ, dK, gD, fL, fA, fB, dP, aN, bX, dE, fY, fX, fG, dI, aT, dZ, fT, cQ, eX, fN, bY, bL, dU, aZ, dY, dO, cK, eI, eM, aY, dA, bE, dN, dS, dR, bM, cN, cM, dM, bR, cW, cV, fO, bV, eF, eN, gF, dX, eD, dL, cZ, bG, bQ, bT, bU, aR, cX, aU, c0, c1, c2, d1, d2, d3, d4, t3, t1, e1, e2, e3, e4]
   exact fin _ (by simp; omega)
def Fm (l : List UInt8) : Bool := match l with | [] => false | c :: r => r.all (· == c)
theorem ZB {l : List UInt8} (h0 : 0 < l.length) (h : ∀ i (hi : i < l.length), l[i] = l[0]) : Fm l = true := by
 cases l with
 | nil => cases h0
 | cons c r =>
   simp only [Fm, apO, beq_iff_eq]
   intro x hx
   obtain ⟨i, hi, rfl⟩ := aqF hx
   exact h (i + 1) (by simpa using hi)
theorem abH {l : List UInt8} {i : Nat} (hi : i < l.length) (h : l[i] ≠ l[0]) : Fm l = false := by
 cases l with
 | nil => cases hi
 | cons c r =>
   cases hq : Fm (c :: r) with
   | false => rfl
   | true =>
     simp only [Fm, apO, beq_iff_eq] at hq
     cases i with
     | zero => exact absurd rfl h
     | succ i => exact absurd (hq _ (aqE (by simpa using hi))) h
theorem aaD {v : atP} {l : List UInt8} {w : atO} (hb : Bs w v l) (hl : l.length <= 100000000) :
 jD pg Ai #[v] w (fun r w' => r = .bool (Fm l) /\ jM w w' mN) := by
 refine RV ?_
 obtain ⟨RR, hRR⟩ : ∃ RR : atP -> atO -> Prop, RR = fun r w' => r = .bool (Fm l) /\ jM w w' mN := ⟨_, rfl⟩
 rw [<- hRR]
 unfold RE Gr
 have hv := hb
 obtain ⟨a, c, rfl, hc⟩ := hb.len
 rw [aoK] at hv hc ⊢
 refine Cc fun w1 o1 x1 s1 => ?_
 have o1 : mQ w1 w.heap.size [.slice a l.length c] := o1
 obtain ⟨p, hp⟩ : ∃ p, p = w.heap.size := ⟨_, rfl⟩
 rw [<- hp] at o1 ⊢
 have c1 : w1.cell? ⟨p, 0, none⟩ = some (.slice a l.length c) := o1.cell (off := 0)
 by_cases h0 : 0 < l.length
 rotate_left
 .have d1 : decide ((0 : Int) < (l.length : Int)) = false := decide_eq_false (by omega)
  simp (disch := omega) only [gE, jE, cS, stepR_skip, hO, iA, iO, iM, iJ, iL, jH, iT, gL, iD, iF, iC, iH, hJ, iN, hU, iE, iR, iS, iI, gQ, iQ, iP, iG, kR, kQ, lE, lH, lG, lD, lF, lC, lB, gB, Result.ok.injEq, Next.value.injEq, true_and, and_true, gY, hZ, iV, iW, iU, jG, aoE, gV, gU, gX, gT, gM, gI, gN, gK, fZ, fU, if_true, if_false, aoD, aoH, aoF, aoG, aoJ, aoI, aoC, aoB, fM, fK, eZ, fQ, cU, eQ, eE, dJ, bO, fR, eS, aQ, cY, bF, bP, bJ, aI, cP, cB, eP, aF, gR, aK, cJ, aS, bS, fS, cC, cD, aB, gC, fC, aJ, aD, bH, gO, aP, eU, dT, dV, gG, dH, fH, dB, eH, eT, fD, cF, dF, gJ, dQ, cH, bA, bZ, cG, fP, aE, aG, aO, aV, bD, cL, bN, aA, fE, aM, cO, fI, eY, gH, bK, eK, eL, bW, fW, fF, eJ, dD, cR, dG, aW, bB, aH, gA, aL, dC, dW, aX, cI, fJ, dK, gD, fL, fA, fB, dP, aN, bX, dE, fY, fX, fG, dI, aT, dZ, fT, cQ, eX, fN, bY, bL, dU, aZ, dY, dO, cK, eI, eM, aY, dA, bE, dN, dS, dR, bM, cN, cM, dM, bR, cW, cV, fO, bV, eF, eN, gF, dX, eD, dL, cZ, bG, bQ, bT, bU, aR, cX, aU, c1, d1]
  rw [hRR]
  refine ⟨?_, x1⟩
  have : l = [] := apT.1 (by omega)
  rw [this] <;> rfl
 have d1 : decide ((0 : Int) < (l.length : Int)) = true := decide_eq_true (by omega)
 have q1 := fun w => YT (P := pg) (f := vP) [] [.pointer (some ⟨p, 0, none⟩)] w
 simp (disch := omega) only [gE, jE, cS, stepR_skip, hO, iA, iO, iM, iJ, iL, jH, iT, gL, iD, iF, iC, iH, hJ, iN, hU, iE, iR, iS, iI, gQ, iQ, iP, iG, kR, kQ, lE, lH, lG, lD, lF, lC, lB, gB, Result.ok.injEq, Next.value.injEq, true_and, and_true, gY, hZ, iV, iW, iU, jG, aoE, gV, gU, gX, gT, gM, gI, gN, gK, fZ, fU, if_true, if_false, aoD, aoH, aoF, aoG, aoJ, aoI, aoC, aoB, fM, fK, eZ, fQ, cU, eQ, eE, dJ, bO, fR, eS, aQ, cY, bF, bP, bJ, aI, cP, cB, eP, aF, gR, aK, cJ, aS, bS, fS, cC, cD, aB, gC, fC, aJ, aD, bH, gO, aP, eU, dT, dV, gG, dH, fH, dB, eH, eT, fD, cF, dF, gJ, dQ, cH, bA, bZ, cG, fP, aE, aG, aO, aV, bD, cL, bN, aA, fE, aM, cO, fI, eY, gH, bK, eK, eL, bW, fW, fF, eJ, dD, cR, dG, aW, bB, aH, gA, aL, dC, dW, aX, cI, fJ, dK, gD, fL, fA, fB, dP, aN, bX, dE, fY, fX, fG, dI, aT, dZ, fT, cQ, eX, fN, bY, bL, dU, aZ, dY, dO, cK, eI, eM, aY, dA, bE, dN, dS, dR, bM, cN, cM, dM, bR, cW, cV, fO, bV, eF, eN, gF, dX, eD, dL, cZ, bG, bQ, bT, bU, aR, cX, aU, c1, d1, q1]
 refine F9 ?_
 unfold BY sD
 refine HL ?_
 unfold Ex uI uM uL uK uH uJ uO
 simp (disch := omega) only [gE, jE, cS, stepR_skip, hO, iA, iO, iM, iJ, iL, jH, iT, gL, iD, iF, iC, iH, hJ, iN, hU, iE, iR, iS, iI, gQ, iQ, iP, iG, kR, kQ, lE, lH, lG, lD, lF, lC, lB, gB, Result.ok.injEq, Next.value.injEq, true_and, and_true, gY, hZ, iV, iW, iU, jG, aoE, gV, gU, gX, gT, gM, gI, gN, gK, fZ, fU, if_true, if_false, aoD, aoH, aoF, aoG, aoJ, aoI, aoC, aoB, fM, fK, eZ, fQ, cU, eQ, eE, dJ, bO, fR, eS, aQ, cY, bF, bP, bJ, aI, cP, cB, eP, aF, gR, aK, cJ, aS, bS, fS, cC, cD, aB, gC, fC, aJ, aD, bH, gO, aP, eU, dT, dV, gG, dH, fH, dB, eH, eT, fD, cF, dF, gJ, dQ, cH, bA, bZ, cG, fP, aE, aG, aO, aV, bD, cL, bN, aA, fE, aM, cO, fI, eY, gH, bK, eK, eL, bW, fW, fF, eJ, dD, cR, dG, aW, bB, aH, gA, aL, dC, dW, aX, cI, fJ, dK, gD, fL, fA, fB, dP, aN, bX, dE, fY, fX, fG, dI, aT, dZ, fT, cQ, eX, fN, bY, bL, dU, aZ, dY, dO, cK, eI, eM, aY, dA, bE, dN, dS, dR, bM, cN, cM, dM, bR, cW, cV, fO, bV, eF, eN, gF, dX, eD, dL, cZ, bG, bQ, bT, bU, aR, cX, aU]
 have hv1 := hv.ext x1 (kJ _)
 have hcells : ∀ i (hi : i < l.length), ∃ b off, a = some ⟨b, off, none⟩ /\ w1.cell? ⟨b, off + i, none⟩ = some (.int .u8 (l[i].toNat : Nat)) := fun i hi => by
  obtain ⟨a', n', c', he, hn', hc', hh⟩ := hv1
  simp only [Value.slice.injEq] at he
  obtain ⟨rfl, rfl, rfl⟩ := he
  obtain ⟨kb, koff, rfl, h2⟩ := hh (by omega)
  refine ⟨kb, koff, rfl, ?_⟩
  rw [h2 i (by omega), aoY, aoM hi]
  rfl
 refine kE.rule (fun m (t : atP) w' => ∃ i : Nat, m = l.length - i /\ i <= l.length /\ t = .int .i64 (i : Nat) /\ w' = w1 /\ (∀ j (hj : j < l.length), j < i -> l[j] = l[0])) l.length ⟨0, rfl, by omega, rfl, rfl, fun j _ hj => by omega⟩ ?_
 rintro m t w' ⟨i, rfl, hi, rfl, rfl, hall⟩
 unfold qU
 by_cases hlt : i < l.length
 .have d2 : decide ((i : Int) < (l.length : Int)) = true := decide_eq_true (by omega)
  have hin : (i : Int).toNat = i := aoE _
  have e1 : (i : Int) + 1 = ((i + 1 : Nat) : Int) := by omega
  obtain ⟨kb, koff, rfl, hci⟩ := hcells i hlt
  obtain ⟨_, _, he, hc0⟩ := hcells 0 h0
  simp only [Option.some.injEq, Addr.mk.injEq] at he
  obtain ⟨rfl, rfl, -⟩ := he
  have q2 := UZ (P := pg) (f := vP) Tryz.func43 (by kernel_rfl) (by kernel_rfl) #[.pointer (some ⟨p, 0, none⟩)] [.int .u8 (l[i].toNat : Nat)] w'
  have q3 : (List.toArray [Value.int .u8 (l[i].toNat : Nat)] ++ #[.pointer (some ⟨p, 0, none⟩)]) = #[.int .u8 (l[i].toNat : Nat), .pointer (some ⟨p, 0, none⟩)] := rfl
  rw [q3] at q2
  have call : ∀ K : atP -> atO -> Prop, K (.bool (l[i] != l[0])) w' -> jD pg vP #[.int .u8 (l[i].toNat : Nat), .pointer (some ⟨p, 0, none⟩)] w' K := fun K hK => by
   refine P3 ?_
   unfold OO DO
   rw [apY] at hc0
   have d0 : decide ((0 : Int) < (l.length : Int)) = true := decide_eq_true (by omega)
   have e0 : (((l[i].toNat : Nat) : Int) != ((l[0].toNat : Nat) : Int)) = (l[i] != l[0]) := by
    by_cases h : l[i] = l[0]
    .rw [h]; simp
    .have h2 : l[i].toNat ≠ l[0].toNat := fun e => h (UInt8.toNat_inj.1 e)
     rw [bne_iff_ne.2 h, bne_iff_ne]; omega
   have t0 : (0 : Int).toNat = 0 := rfl
   simp (disch := omega) only [gE, jE, cS, stepR_skip, hO, iA, iO, iM, iJ, iL, jH, iT, gL, iD, iF, iC, iH, hJ, iN, hU, iE, iR, iS, iI, gQ, iQ, iP, iG, kR, kQ, lE, lH, lG, lD, lF, lC, lB, gB, Result.ok.injEq, Next.value.injEq, true_and, and_true, gY, hZ, iV, iW, iU, jG, aoE, gV, gU, gX, gT, gM, gI, gN, gK, fZ, fU, if_true, if_false, aoD, aoH, aoF, aoG, aoJ, aoI, aoC, aoB, fM, fK, eZ, fQ, cU, eQ, eE, dJ, bO, fR, eS, aQ, cY, bF, bP, bJ, aI, cP, cB, eP, aF, gR, aK, cJ, aS, bS, fS, cC, cD, aB, gC, fC, aJ, aD, bH, gO, aP, eU, dT, dV, gG, dH, fH, dB, eH, eT, fD, cF, dF, gJ, dQ, cH, bA, bZ, cG, fP, aE, aG, aO, aV, bD, cL, bN, aA, fE, aM, cO, fI, eY, gH, bK, eK, eL, bW, fW, fF, eJ, dD, cR, dG, aW, bB, aH, gA, aL, dC, dW, aX, cI, fJ, dK, gD, fL, fA, fB, dP, aN, bX, dE, fY, fX, fG, dI, aT, dZ, fT, cQ, eX, fN, bY, bL, dU, aZ, dY, dO, cK, eI, eM, aY, dA, bE, dN, dS, dR, bM, cN, cM, dM, bR, cW, cV, fO, bV, eF, eN, gF, dX, eD, dL, cZ, bG, bQ, bT, bU, aR, cX, aU, c1, hc0, e0, t0, apY]
   exact hK
  simp (disch := omega) only [gE, jE, cS, stepR_skip, hO, iA, iO, iM, iJ, iL, jH, iT, gL, iD, iF, iC, iH, hJ, iN, hU, iE, iR, iS, iI, gQ, iQ, iP, iG, kR, kQ, lE, lH, lG, lD, lF, lC, lB, gB, Result.ok.injEq, Next.value.injEq, true_and, and_true, gY, hZ, iV, iW, iU, jG, aoE, gV, gU, gX, gT, gM, gI, gN, gK, fZ, fU, if_true, if_false, aoD, aoH, aoF, aoG, aoJ, aoI, aoC, aoB, fM, fK, eZ, fQ, cU, eQ, eE, dJ, bO, fR, eS, aQ, cY, bF, bP, bJ, aI, cP, cB, eP, aF, gR, aK, cJ, aS, bS, fS, cC, cD, aB, gC, fC, aJ, aD, bH, gO, aP, eU, dT, dV, gG, dH, fH, dB, eH, eT, fD, cF, dF, gJ, dQ, cH, bA, bZ, cG, fP, aE, aG, aO, aV, bD, cL, bN, aA, fE, aM, cO, fI, eY, gH, bK, eK, eL, bW, fW, fF, eJ, dD, cR, dG, aW, bB, aH, gA, aL, dC, dW, aX, cI, fJ, dK, gD, fL, fA, fB, dP, aN, bX, dE, fY, fX, fG, dI, aT, dZ, fT, cQ, eX, fN, bY, bL, dU, aZ, dY, dO, cK, eI, eM, aY, dA, bE, dN, dS, dR, bM, cN, cM, dM, bR, cW, cV, fO, bV, eF, eN, gF, dX, eD, dL, cZ, bG, bQ, bT, bU, aR, cX, aU, d2, hin, hci, q2, F6]
  refine call _ ?_
  by_cases h : l[i] = l[0]
  .have e2 : (l[i] != l[0]) = false := by rw [h]; simp
   have hq : ∀ j (hj : j < l.length), j < i + 1 -> l[j] = l[0] := fun j hj hji => by
    by_cases hj2 : j = i
    .subst hj2; exact h
    .exact hall j hj (by omega)
   simp (disch := omega) only [gE, jE, cS, stepR_skip, hO, iA, iO, iM, iJ, iL, jH, iT, gL, iD, iF, iC, iH, hJ, iN, hU, iE, iR, iS, iI, gQ, iQ, iP, iG, kR, kQ, lE, lH, lG, lD, lF, lC, lB, gB, Result.ok.injEq, Next.value.injEq, true_and, and_true, gY, hZ, iV, iW, iU, jG, aoE, gV, gU, gX, gT, gM, gI, gN, gK, fZ, fU, if_true, if_false, aoD, aoH, aoF, aoG, aoJ, aoI, aoC, aoB, fM, fK, eZ, fQ, cU, eQ, eE, dJ, bO, fR, eS, aQ, cY, bF, bP, bJ, aI, cP, cB, eP, aF, gR, aK, cJ, aS, bS, fS, cC, cD, aB, gC, fC, aJ, aD, bH, gO, aP, eU, dT, dV, gG, dH, fH, dB, eH, eT, fD, cF, dF, gJ, dQ, cH, bA, bZ, cG, fP, aE, aG, aO, aV, bD, cL, bN, aA, fE, aM, cO, fI, eY, gH, bK, eK, eL, bW, fW, fF, eJ, dD, cR, dG, aW, bB, aH, gA, aL, dC, dW, aX, cI, fJ, dK, gD, fL, fA, fB, dP, aN, bX, dE, fY, fX, fG, dI, aT, dZ, fT, cQ, eX, fN, bY, bL, dU, aZ, dY, dO, cK, eI, eM, aY, dA, bE, dN, dS, dR, bM, cN, cM, dM, bR, cW, cV, fO, bV, eF, eN, gF, dX, eD, dL, cZ, bG, bQ, bT, bU, aR, cX, aU, e2, e1]
   first
    | exact ⟨l.length - (i + 1), by omega, i + 1, rfl, by omega, rfl, rfl, hq⟩
    | exact ⟨l.length - (i + 1), by omega, i + 1, rfl, by omega, rfl, hq⟩
  .have e2 : (l[i] != l[0]) = true := bne_iff_ne.2 h
   have d3 : decide ((0 : Int) <= (i : Int)) = true := decide_eq_true (by omega)
   simp (disch := omega) only [gE, jE, cS, stepR_skip, hO, iA, iO, iM, iJ, iL, jH, iT, gL, iD, iF, iC, iH, hJ, iN, hU, iE, iR, iS, iI, gQ, iQ, iP, iG, kR, kQ, lE, lH, lG, lD, lF, lC, lB, gB, Result.ok.injEq, Next.value.injEq, true_and, and_true, gY, hZ, iV, iW, iU, jG, aoE, gV, gU, gX, gT, gM, gI, gN, gK, fZ, fU, if_true, if_false, aoD, aoH, aoF, aoG, aoJ, aoI, aoC, aoB, fM, fK, eZ, fQ, cU, eQ, eE, dJ, bO, fR, eS, aQ, cY, bF, bP, bJ, aI, cP, cB, eP, aF, gR, aK, cJ, aS, bS, fS, cC, cD, aB, gC, fC, aJ, aD, bH, gO, aP, eU, dT, dV, gG, dH, fH, dB, eH, eT, fD, cF, dF, gJ, dQ, cH, bA, bZ, cG, fP, aE, aG, aO, aV, bD, cL, bN, aA, fE, aM, cO, fI, eY, gH, bK, eK, eL, bW, fW, fF, eJ, dD, cR, dG, aW, bB, aH, gA, aL, dC, dW, aX, cI, fJ, dK, gD, fL, fA, fB, dP, aN, bX, dE, fY, fX, fG, dI, aT, dZ, fT, cQ, eX, fN, bY, bL, dU, aZ, dY, dO, cK, eI, eM, aY, dA, bE, dN, dS, dR, bM, cN, cM, dM, bR, cW, cV, fO, bV, eF, eN, gF, dX, eD, dL, cZ, bG, bQ, bT, bU, aR, cX, aU, e2, d3]
   rw [hRR, abH hlt h]
   exact ⟨rfl, x1⟩
 .have d2 : decide ((i : Int) < (l.length : Int)) = false := decide_eq_false (by omega)
  have d3 : decide ((0 : Int) <= (-1 : Int)) = false := rfl
  unfold qT
  simp (disch := omega) only [gE, jE, cS, stepR_skip, hO, iA, iO, iM, iJ, iL, jH, iT, gL, iD, iF, iC, iH, hJ, iN, hU, iE, iR, iS, iI, gQ, iQ, iP, iG, kR, kQ, lE, lH, lG, lD, lF, lC, lB, gB, Result.ok.injEq, Next.value.injEq, true_and, and_true, gY, hZ, iV, iW, iU, jG, aoE, gV, gU, gX, gT, gM, gI, gN, gK, fZ, fU, if_true, if_false, aoD, aoH, aoF, aoG, aoJ, aoI, aoC, aoB, fM, fK, eZ, fQ, cU, eQ, eE, dJ, bO, fR, eS, aQ, cY, bF, bP, bJ, aI, cP, cB, eP, aF, gR, aK, cJ, aS, bS, fS, cC, cD, aB, gC, fC, aJ, aD, bH, gO, aP, eU, dT, dV, gG, dH, fH, dB, eH, eT, fD, cF, dF, gJ, dQ, cH, bA, bZ, cG, fP, aE, aG, aO, aV, bD, cL, bN, aA, fE, aM, cO, fI, eY, gH, bK, eK, eL, bW, fW, fF, eJ, dD, cR, dG, aW, bB, aH, gA, aL, dC, dW, aX, cI, fJ, dK, gD, fL, fA, fB, dP, aN, bX, dE, fY, fX, fG, dI, aT, dZ, fT, cQ, eX, fN, bY, bL, dU, aZ, dY, dO, cK, eI, eM, aY, dA, bE, dN, dS, dR, bM, cN, cM, dM, bR, cW, cV, fO, bV, eF, eN, gF, dX, eD, dL, cZ, bG, bQ, bT, bU, aR, cX, aU, d2, d3]
  rw [hRR, ZB h0 fun j hj => hall j hj (by omega)]
  exact ⟨rfl, x1⟩
theorem Za {l : List UInt8} {v : atP} {box lp : Nat} {r0 : Loop} {w : atO} (I : Nat -> atO -> Prop) (S : atO -> Prop)
 (hI : ∀ i W, I i W -> mQ W box [v] /\ Bs W v l /\ W.heap[lp]? = some (.loop r0)) (hp : r0.params.size = 2) (hl : l.length <= 1000000000) (h0 : I l.length w)
 (hs : ∀ i W, (hi : i < l.length) -> I (i + 1) W -> Wj pg lp r0.fn (Vd r0 [.int .i64 i, .int .u8 ((l[i]'hi).toNat : Nat)]) r0.assign r0.body W (fun b W' => (b = .bool true /\ I i W') ∨ (b = .bool false /\ S W'))) :
 jD pg oR #[Iq lp, .pointer (some ⟨box, 0, none⟩)] w (fun r W => r = .tuple #[] /\ (I 0 W ∨ S W)) := by
 refine Gf ?_
 obtain ⟨o, hb, hlp⟩ := hI _ _ h0
 have c0 := o.cell (off := 0)
 simp only [aoB] at c0
 obtain ⟨a, n, c, hv, hn, hc, _⟩ := id hb
 rw [aoK] at hn
 unfold BV rZ sH
 subst hn
 have e1 : (l.length : Int) - 1 = (l.length : Int) - 1 := rfl
 subst hv
 simp (disch := omega) only [gE, fR, c0, gB, true_and, cS, fM, iA, gY]
 unfold sG sI
 refine kE.rule (fun m (t : atP) w' => ∃ i : Nat, m = i /\ t = .int .i64 ((i : Int) - 1) /\ i <= l.length /\ I i w') l.length ⟨l.length, rfl, rfl, aoP _, h0⟩ ?_
 rintro i t w1 ⟨i', rfl, rfl, hi, hIw⟩
 unfold pV
 cases i with
 | zero =>
   have d1 : decide ((0 : Int) <= ((0 : Nat) : Int) - 1) = false := rfl
   simp (disch := omega) only [gE, iE, d1, fR, true_and, iA, gY, cS, fU]
   exact .inl hIw
 | succ j =>
   have e0 : ((j + 1 : Nat) : Int) - 1 = (j : Int) := by omega
   have d1 : decide ((0 : Int) <= (j : Int)) = true := by simp
   obtain ⟨o1, hb1, hlp1⟩ := hI _ _ hIw
   have c1 := o1.cell (off := 0)
   simp only [aoB] at c1
   obtain ⟨b, off, c', hv', hc', hcell⟩ := hb1.openV (by simp; omega)
   simp only [aoK, Value.slice.injEq] at hv'
   obtain ⟨rfl, _, rfl⟩ := hv'
   have g1 := hcell j (by rw [aoK]; omega)
   simp only [List.getElem_map, oZ] at g1
   have q1 := ahD (P := pg) (args := [.int .i64 (j : Nat), .int .u8 ((l[j]'hi).toNat : Nat)]) hlp1 (by rw [hp] <;> rfl)
   rw [e0]
   simp (disch := omega) only [gE, iE, d1, fR, true_and, iA, gY, cS, c1, gB, fQ, aoE, gJ, g1, q1, XE, fZ]
   obtain ⟨b', w2, hret, hR⟩ := hs j w1 hi hIw
   refine ⟨b', w2, hret, ?_⟩
   rcases hR with ⟨rfl, hI2⟩ | ⟨rfl, hS⟩
   .simp (disch := omega) only [iI, aoJ, cS, fU]
    exact ⟨j, by omega, j, rfl, rfl, by omega, hI2⟩
   .simp (disch := omega) only [iI, aoI, cS, fZ]
    exact .inr hS
def Ws (w : atO) (S : Nat -> Prop) (p : Nat) (B : List Bool) : Prop := ¬ S p /\ ∃ v bytes, mQ w p [v, .int .i64 B.length] /\ LF w S 1 v bytes.length (bytes.map oZ) /\ UF B bytes
def Rs (w : atO) (S : Nat -> Prop) (p : Nat) (B : List Bool) : Prop := ¬ S p /\ ∃ v bytes, mQ w p [v, .int .i64 B.length] /\ LF w S 1 v bytes.length (bytes.map oZ) /\
 tI bytes = B ++ List.replicate (8 * bytes.length - B.length) false /\ bytes.length = (B.length + 1 + 7) / 8
theorem Ws.ext {w w' : atO} {S M : Nat -> Prop} {p : Nat} {B : List Bool} (h : Ws w S p B) (hx : jM w w' M) (hp : ¬ M p) (hM : ∀ b, S b -> ¬ M b) : Ws w' S p B := by
 obtain ⟨h0, v, bytes, h1, h2, h3⟩ := h
 exact ⟨h0, v, bytes, h1.ext hx hp, GH h2 hx hM, h3⟩
theorem Ws.turn {w : atO} {S T : Nat -> Prop} {p : Nat} {B : List Bool} (h : Ws w S p B) (hp : ¬ T p) (hT : ∀ b, S b -> b < w.heap.size -> T b) : Ws w T p B := by
 obtain ⟨h0, v, bytes, h1, h2, h3⟩ := h
 refine ⟨hp, v, bytes, h1, ⟨h2.1, ?_⟩, h3⟩
 rcases h2.2 with h2 | ⟨b, c, rest, e, hb, o, hc, hn⟩
 .exact .inl h2
 .exact .inr ⟨b, c, rest, e, hT b hb o.lt, o, hc, hn⟩
theorem afA {S : Nat -> Prop} {p x i : Nat} {B : List Bool} {t17 : atP} {w : atO} (h : Rs w S p B) (hx : x < 2 ^ 64) (hi : i <= 60) (hB : B.length <= 1000000000)
 {kn : atP -> atP -> atP -> atP -> atO -> Prop} (hR : ∀ w', Ws w' S p (B ++ [x.testBit i]) -> jM w w' (fun y => y = p ∨ S y) -> kn (.pointer (some ⟨p, 0, none⟩)) (.int .u64 x) t17 (.int .i64 i) w') :
 oY kn (.pointer (some ⟨p, 0, none⟩)) (.int .u64 x) (.int .i64 i) t17 (.int .i64 i) w := by
 obtain ⟨h0, v, bytes, o, os, hbits, hlen⟩ := h
 obtain ⟨hlt, hheld, hval, hor⟩ := Yn (y := x.testBit i) hbits hlen
 rcases os.2 with ⟨rfl, hz⟩ | ⟨b, c, rest, rfl, hS, ob, hc, hn⟩
 .rw [hlen] at hz; omega
 generalize hq : B.length = q at *
 have hcell : (bytes.map oZ ++ rest)[q / 8]? = some (.int .u8 ((bytes[q / 8]'hlt).toNat : Nat)) := by
  rw [aoX (by rw [aoK]; exact hlt), aoY, aoM hlt] <;> rfl
 have hcl : (bytes[q / 8]'hlt).toNat < 2 ^ 8 := aqU _
 have hset : (bytes.map oZ ++ rest).set (q / 8) (.int .u8 (((bytes[q / 8]'hlt).toNat + 2 ^ (q % 8) * (x.testBit i).toNat : Nat))) = (bytes.set (q / 8) (UInt8.ofNat ((bytes[q / 8]'hlt).toNat + 2 ^ (q % 8) * (x.testBit i).toNat))).map oZ ++ rest := by
  rw [arQ _ _ (by rw [aoK]; exact hlt), asI, oZ, asW (by simpa using hval)]
 have hbl : (bytes.set (q / 8) (UInt8.ofNat ((bytes[q / 8]'hlt).toNat + 2 ^ (q % 8) * (x.testBit i).toNat))).length = bytes.length := arI
 generalize bytes.set (q / 8) (UInt8.ofNat ((bytes[q / 8]'hlt).toNat + 2 ^ (q % 8) * (x.testBit i).toNat)) = bytes' at *
 generalize (bytes[q / 8]'hlt).toNat = y at *
 have e1 : (q : Int).tdiv 8 = ((q / 8 : Nat) : Int) := by rw [arO (by omega)]; omega
 have e2 : (q : Int).tmod 8 = ((q % 8 : Nat) : Int) := by rw [arP (by omega)]; omega
 have e3 := Pf x i (by omega)
 have hxl : x / 2 ^ i < 2 ^ 64 := by have := asV x (2 ^ i); omega
 have e4 := YE hxl
 rw [<- WN] at e4
 have hbt : (x.testBit i).toNat <= 1 := Bool.toNat_le _
 have hp8 : 2 ^ (q % 8) <= 2 ^ 7 := apE (by omega) (by omega)
 have hm : (x.testBit i).toNat * 2 ^ (q % 8) <= 2 ^ (q % 8) := by
  have := apG (2 ^ (q % 8)) hbt
  omega
 have e5 : IntKind.u8.wrap (((x.testBit i).toNat : Int) * 2 ^ (min (q % 8) IntKind.u8.bits)) = (((x.testBit i).toNat * 2 ^ (q % 8) : Nat) : Int) := by
  rw [show min (q % 8) IntKind.u8.bits = q % 8 from aqX (by have h8 : IntKind.u8.bits = 8 := rfl; omega)]
  have e : ((x.testBit i).toNat : Int) * 2 ^ (q % 8) = (((x.testBit i).toNat * 2 ^ (q % 8) : Nat) : Int) := by simp
  rw [e]
  exact jG (by omega) (by omega)
 have e6 := VS (a := y) (b := (x.testBit i).toNat * 2 ^ (q % 8)) hcl (by omega)
 rw [hor] at e6
 have e7 : (q : Int) + 1 = ((q + 1 : Nat) : Int) := by omega
 have od := GB o
 have obd := GB ob
 have c0 := od.cell (off := 0)
 have c1 := od.cell (off := 1)
 have g := obd.cell (off := q / 8)
 rw [hcell] at g
 simp only [aoB, aoC] at c0 c1
 unfold oY
 simp (disch := omega) only [gE, iG, fS, hZ, cS, cW, aoH, gR, c1, gB, iJ, e2, true_and, iF, aoE, e3, iL, e4, dJ, jG, iD, e5, iM, e1, gY, cV, fR, c0, fQ, gJ, g, jH, e6]
 refine X2 obd rfl (by rw [aoL, aoK]; omega) fun w2 o2 x2 s2 => ?_
 rw [hset] at o2
 have op2 := od.ext x2 (fun h => h0 (h ▸ hS))
 have c12 := op2.cell (off := 1)
 simp only [aoB, aoC] at c12
 simp (disch := omega) only [c12, gB, cS, hO, e7, gY]
 refine Lt op2 rfl (by simp) fun w3 o3 x3 s3 => ?_
 simp only [aoZ, apC] at o3
 have hBl : (B ++ [x.testBit i]).length = q + 1 := by rw [aoL, hq] <;> rfl
 refine hR _ ⟨h0, _, bytes', by rw [hBl]; exact o3, ⟨by simp, .inr ⟨b, c, rest, by rw [hbl], hS, o2.ext x3 (fun h => h0 (h ▸ hS)), ?_, by rw [hbl]; exact hn⟩⟩, hheld⟩ ?_
 .rw [aoL, aoK] at hc ⊢; rw [hbl]; exact hc
 .exact ((jM.dr _ _).seq (x2.mono fun z _ h => .inr (h ▸ hS))).seq (x3.mono fun z _ h => .inl h)
theorem ajX {S : Nat -> Prop} {p x i n : Nat} {B : List Bool} {w : atO} (hw : Ws w S p B) (hN : ∀ b, w.heap.size <= b -> S b) (hx : x < 2 ^ 64) (hi : i <= 60) (hB : B.length <= 1000000000)
 {kn : atP -> atP -> atP -> atP -> atO -> Prop} (hR : ∀ w', Ws w' S p (B ++ [x.testBit i]) -> jM w w' (fun y => y = p ∨ S y) -> kn (.pointer (some ⟨p, 0, none⟩)) (.int .u64 x) (.int .i64 n) (.int .i64 i) w') :
 rD kn (.pointer (some ⟨p, 0, none⟩)) (.int .u64 x) (.int .i64 n) (.int .i64 i) w := by
 unfold rD tU
 obtain ⟨h0, v, bytes, o, os, hh⟩ := hw
 have c1 := o.cell (off := 1)
 have c0 := o.cell (off := 0)
 simp only [aoB, aoC] at c0 c1
 have e2 : (B.length : Int).tmod 8 = ((B.length % 8 : Nat) : Int) := by rw [arP (by omega)]; omega
 by_cases h8 : B.length % 8 = 0
 .have d4 : (((B.length % 8 : Nat) : Int) == 0) = true := by rw [h8] <;> rfl
  obtain ⟨hr1, hr2⟩ := Wu hh h8
  have hl2 := hh.len
  have lp := o.lt
  simp (disch := omega) only [gE, iG, cS, cV, fR, cW, aoH, gR, c1, gB, iJ, e2, iC, d4, c0, fZ]
  refine sJ (cells := #[.int .u8 0]) (by decide) (by decide) (by kernel_rfl) fun w2 o2 x2 s2 => ?_
  refine Ae (m := 1) (news := [oZ 0]) (i := Tryz.t5) Tryz.underlying22 Tryz.underlying22 Hx rfl rfl rfl (GH os x2 (fun _ _ h => h)) (o2.cl (off := 0) (l := [oZ 0]) (n := 1) rfl (fun i hi => by rw [aoH] <;> rfl)) (by simp [one, oZ]) (fun b hb => hN b (by omega)) (by omega) (by rw [show Tryz.t5.bytes = 1 from rfl]; omega) (by decide) fun v3 w3 o3 x3 => ?_
  have x13 : jM w w3 S := (x2.mono fun _ _ h => h.elim).seq x3
  have op3 := o.ext x13 h0
  have hv3 : ∃ a n c, v3 = .slice a n c := by
   rcases o3.2 with ⟨rfl, _⟩ | ⟨b, c, rest, rfl, _⟩
   .exact ⟨_, _, _, rfl⟩
   .exact ⟨_, _, _, rfl⟩
  obtain ⟨a3, n3, c3, rfl⟩ := hv3
  refine tN op3 rfl (by simp) fun w4 o4 x4 s4 => ?_
  simp only [aoZ, apC] at o4
  have x14 : jM w w4 (fun y => y = p ∨ S y) := (x13.mono fun y _ h => .inr h).seq (x4.mono fun y _ h => .inl h)
  refine afA (w := w4) ⟨h0, _, bytes ++ [0], o4, ?_, ?_, hr2⟩ hx hi hB fun w5 h5 x5 => hR w5 h5 (x14.seq x5)
  .have := GH o3 x4 (fun b hb h => h0 (h ▸ hb))
   rw [aoL, apN]
   exact this
  .rw [aoL]; exact hr1
 .have d4 : (((B.length % 8 : Nat) : Int) == 0) = false := by simp; omega
  simp (disch := omega) only [gE, iG, cS, cV, fR, cW, aoH, gR, c1, gB, iJ, e2, iC, d4, fU]
  refine afA (w := w) ⟨h0, v, bytes, o, os, hh.bits, ?_⟩ hx hi hB fun w5 h5 x5 => hR w5 h5 x5
  rw [hh.len]; omega
theorem adF {S : Nat -> Prop} {p x n : Nat} {B : List Bool} {w : atO} (h : Ws w S p B) (hN : ∀ b, w.heap.size <= b -> S b) (hx : x < 2 ^ 64) (hn : n <= 56) (hB : B.length <= 100000000) :
 jD pg qE #[.pointer (some ⟨p, 0, none⟩), .int .u64 x, .int .i64 n] w (fun r w' => r = .tuple #[] /\ Ws w' S p (B ++ zU x n) /\ jM w w' (fun y => y = p ∨ S y)) := by
 refine Eb ?_
 unfold Dw tG sZ
 by_cases hn0 : n = 0
 .subst hn0
  have d1 : decide (((0 : Nat) : Int) < 1) = true := rfl
  simp (disch := omega) only [gE, bR, aoF, true_and, cS, gT, gQ, aoD, if_false, gM, hJ, d1, gU, if_true, fZ, gI]
  exact ⟨by rw [Mg, aqR]; exact h, jM.refl _ _⟩
 have d1 : decide ((n : Int) < 1) = false := by simp; omega
 have d2 : decide ((56 : Int) < (n : Int)) = false := by simp; omega
 simp (disch := omega) only [gE, bR, aoF, true_and, cS, gT, gQ, aoD, if_false, gM, hJ, d1, hU, d2, fU]
 unfold tD tP
 refine kE.rule (fun m (t : atP) w' => ∃ i : Nat, m = n - i /\ t = .int .i64 i /\ i <= n /\ Ws w' S p (B ++ zU x i) /\ jM w w' (fun y => y = p ∨ S y)) n
  ⟨0, rfl, rfl, by omega, by rw [Mg, aqR]; exact h, jM.refl _ _⟩ ?_
 rintro m t w1 ⟨i, rfl, rfl, hi, hw, x1⟩
 unfold rA tW
 by_cases hlt : i < n
 .have d3 : decide ((i : Int) < (n : Int)) = true := by simp; omega
  simp (disch := omega) only [gE, hJ, d3, cS, fZ]
  unfold tZ uA
  refine ajX hw (fun b hb => hN b (by have := x1.size; omega)) hx (by omega) (by rw [aoL, DH]; omega) fun w3 hw3 x3 => ?_
  unfold rF
  simp (disch := omega) only [gE, hO, gY, cS]
  refine ⟨n - (i + 1), by omega, i + 1, rfl, rfl, by omega, ?_, x1.seq x3⟩
  rw [Vr, <- apK]
  exact hw3
 .have d3 : decide ((i : Int) < (n : Int)) = false := by simp; omega
  obtain rfl : i = n := by omega
  simp (disch := omega) only [gE, hJ, d3, cS, fU]
  exact ⟨hw, x1⟩
theorem Ws.wr {w : atO} {S : Nat -> Prop} {p : Nat} {B : List Bool} (h : Ws w S p B) : Wr w 0 p B := by
 have h1 := h.turn (T := fun b => 0 <= b /\ b ≠ p) (fun h => h.2 rfl) (fun b hb _ => ⟨atD _, fun e => h.1 (e ▸ hb)⟩)
 obtain ⟨h0, v, bytes, a, b, c⟩ := h1
 exact ⟨atD _, v, bytes, a, b, c⟩
theorem Xk (w : atO) : jD pg AT #[] w (fun r w' => r = .pointer (some ⟨w.heap.size, 0, none⟩) /\ w'.heap.size = w.heap.size + 1 /\ Ws w' (fun _ => False) w.heap.size [] /\ jM w w' mN) := by
 refine Pk ?_
 unfold OH D9
 simp (disch := omega) only [gE, dM, cS]
 refine Cc fun w1 o1 x1 s1 => ?_
 simp only [Value.cells] at o1
 exact ⟨rfl, by omega, ⟨fun h => h, _, [], o1, ⟨rfl, .inl ⟨rfl, rfl⟩⟩, agQ⟩, x1⟩
theorem afQ {lo p : Nat} {B : List Bool} {w : atO} (h : Wr w lo p B) (hB : B.length <= 10000000) :
 jD pg tO #[.pointer (some ⟨p, 0, none⟩)] w (fun r w' => ∃ bytes, Bs w' r bytes /\ UF (B ++ [true]) bytes /\ AtI r w.heap.size w'.heap.size /\ jM w w' mN) := by
 refine KZ ?_
 obtain ⟨h0, v, bytes, o, os, hh⟩ := h
 have c0 := (GB o).cell (off := 0)
 have c1 := (GB o).cell (off := 1)
 simp only [aoB, aoC] at c0 c1
 have hs : Bs w v bytes := by
  have h1 := os.1
  rcases os.2 with ⟨rfl, h2⟩ | ⟨b, c, rest, rfl, h2, h3, h4, h5⟩
  .exact ⟨_, _, _, rfl, by omega, by omega, fun h => by omega⟩
  .refine ⟨_, _, _, rfl, by omega, h5, fun _ => ⟨b, 0, rfl, fun i hi => ?_⟩⟩
   rw [h3.cell, aoH, aoX (by omega)]
 have hl := hh.len
 unfold H0 zE
 simp (disch := omega) only [gE, bR, aoF, iG, jE, Result.ok.injEq, Next.value.injEq, and_true, true_and, cS, cW, aoH, gR, cV, fR, c0, gB, c1, fU]
 refine (UT (hs.ext (jM.dr _ mN) (kJ _)) (by omega)).mono ?_
 rintro r w1 ⟨o1, x1⟩
 have z1 := x1.size
 have x01 : jM w w1 mN := (jM.dr w mN).seq x1
 have c11 := (o.ext x01 (fun h => h)).cell (off := 1)
 simp only [aoB, aoC] at c11
 have hdr : (dr w).heap.size = w.heap.size := rfl
 rw [hdr] at o1 z1
 obtain ⟨a1, cc1, rfl⟩ := o1.len
 simp (disch := omega) only [c11, gB, cS, bV, true_and]
 refine Cc fun w2 o2 x2 s2 => ?_
 simp only [Value.cells] at o2
 have hw : Wr w2 w.heap.size w1.heap.size B := by
  refine ⟨z1, _, bytes, o2, ⟨o1.1, ?_⟩, hh⟩
  rcases o1.2 with h2 | ⟨b, c, rest, h1, h2, h3, h4, h5⟩
  .exact .inl h2
  .have := h3.lt
   exact .inr ⟨b, c, rest, h1, ⟨h2, by omega⟩, h3.ext x2 (fun h => h), h4, h5⟩
 refine (ahS (x := 1) (n := 1) hw (by omega) (by omega) (by omega)).mono ?_
 rintro r w3 ⟨rfl, ⟨h0', v3, bytes3, o3, os3, hh3⟩, x3⟩
 have c03 := o3.cell (off := 0)
 simp only [aoB, aoC] at c03
 simp (disch := omega) only [iG, cS, cV, fR, c03, gB]
 have e1 : zU 1 1 = [true] := by decide
 rw [e1] at hh3
 refine ⟨bytes3, ?_, hh3, ?_, ?_⟩
 .have h1 := os3.1
  rcases os3.2 with ⟨rfl, h2⟩ | ⟨b, c, rest, rfl, h2, h3, h4, h5⟩
  .exact ⟨_, _, _, rfl, by omega, by omega, fun h => by omega⟩
  .refine ⟨_, _, _, rfl, by omega, h5, fun _ => ⟨b, 0, rfl, fun i hi => ?_⟩⟩
   rw [h3.cell, aoH, aoX (by omega)]
 .intro M hM
  rcases os3.2 with ⟨rfl, h2⟩ | ⟨b, c, rest, rfl, h2, h3, h4, h5⟩
  .exact fun h => h
  .exact At.at b 0 _ c M (hM b h2.1 h3.lt)
 .exact (x01.seq x2).trans x3 fun b hb h => by omega
theorem ZV {w : atO} {b i : Nat} {C : List (Nat × Nat)} {e : Nat × Nat} (o : mQ w b (cc C)) (h : C[i]? = some e) :
 w.cell? ⟨b, i * 2, none⟩ = some (.int .i64 (e.1 : Nat)) /\ w.cell? ⟨b, i * 2 + 1, none⟩ = some (.int .i64 (e.2 : Nat)) := by
 have ht := aeK h
 obtain ⟨hi, rfl⟩ := arG.1 h
 have h0 := congrArg (fun l => l[0]?) ht
 have h1 := congrArg (fun l => l[1]?) ht
 simp only [List.getElem?_take, arV, apY, aoB, aoC] at h0 h1
 rw [o.cell, o.cell]
 exact ⟨by simpa using h0, by simpa using h1⟩
def WrC (C : List (Nat × Nat)) : Prop := C.length <= 256 /\ ∀ (s : Nat) (e : Nat × Nat), C[s]? = some e -> e.1 <= 11 /\ (0 < e.1 -> e.2 < 2 ^ 11)
def alJ (w : atO) (base : Nat) (C : List (Nat × Nat)) (l : List UInt8) (r : atP) : Prop :=
 ((∃ s ∈ jZ l, bitsOf C s = 0) /\ r = .tuple #[.slice none 0 0, .int .i64 1]) ∨
 ((∀ s ∈ jZ l, 0 < bitsOf C s) /\ ∃ v bytes, r = .tuple #[v, .int .i64 0] /\ Bs w v bytes /\ UF (KQ C (jZ l) ++ [true]) bytes /\ AtI v base w.heap.size)
theorem aiO : agL jN = #[12, 13] := by kernel_rfl
theorem alM : Tu pg nI = 42 := by kernel_rfl
theorem aaQ {C : List (Nat × Nat)} {l : List Nat} {i s : Nat} (h : l[i]? = some s) : KQ C (l.drop i) = KQ C (l.drop (i + 1)) ++ zU (C.getD s (0, 0)).2 (C.getD s (0, 0)).1 := by
 obtain ⟨hi, rfl⟩ := arG.1 h
 rw [aqP hi, KQ]
theorem Xx {C : List (Nat × Nat)} {l : List UInt8} {b : Nat} {v : atP} {w : atO} (ho : mQ w b (cc C)) (hb : Bs w v l) (hC : WrC C) (hl : l.length <= 200000) :
 jD pg nI #[.slice (some ⟨b, 0, none⟩) C.length C.length, v] w (fun r w' => alJ w' w.heap.size C l r /\ jM w w' mN) := by
 refine TK ?_
 obtain ⟨RR, hRR⟩ : ∃ RR : atP -> atO -> Prop, RR = fun r w' => alJ w' w.heap.size C l r /\ jM w w' mN := ⟨_, rfl⟩
 rw [<- hRR]
 unfold Ui HX Hz
 refine Cc fun w1 o1 x1 s1 => ?_
 simp only [Value.cells] at o1
 refine Uv fun w2 o2 x2 s2 => ?_
 refine W8 fun w3 o3 x3 s3 => ?_
 refine (Xk w3).mono ?_
 rintro r w4 ⟨rfl, s4, hW4, x4⟩
 refine T0 fun w5 o5 x5 s5 => ?_
 refine T5 o5 rfl (by simp) fun w6 o6 x6 s6 => ?_
 simp only [aoZ] at o6
 unfold H9 Ht Ip
 refine IU ?_
 unfold F5 vM
 obtain ⟨va, vn, vc, hv, -⟩ := id hb
 subst hv
 refine Cc fun w7 o7 x7 s7 => ?_
 simp only [Value.cells] at o7
 have q1 := fun w => YT (P := pg) (f := oR) [] [.pointer (some ⟨w6.heap.size, 0, none⟩)] w
 simp (disch := omega) only [gE, q1, cS]
 unfold HV Hv
 intro g g2 g4 g5 g6 g11 gm
 generalize hn0 : w.heap.size = n0 at *
 have e1 : w1.heap.size = n0 + 1 := by omega
 have e2 : w2.heap.size = n0 + 2 := by omega
 have e3 : w3.heap.size = n0 + 3 := by omega
 have e4 : w4.heap.size = n0 + 4 := by omega
 have e6 : w6.heap.size = n0 + 5 := by omega
 have e7 : w7.heap.size = n0 + 6 := by omega
 rw [e1] at o2 g4
 rw [e2] at o3 g5
 rw [e3] at hW4 o6
 rw [e4] at o6 g6
 rw [e6] at o7 g11
 have x06 : jM w w6 mN := ((((x1.seq x2).seq x3).seq x4).seq x5).trans x6 fun y hy h => by omega
 have x07 : jM w w7 mN := x06.seq x7
 have hv7 : Bs w7 (.slice va vn vc) l := hb.ext x07 (kJ _)
 have lb := ho.lt
 have b1 : mQ w7 n0 [.slice (some ⟨b, 0, none⟩) C.length C.length] := ((((((o1.ext x2 (fun h => h)).ext x3 (fun h => h)).ext x4 (fun h => h)).ext x5 (fun h => h)).ext x6 (by omega))).ext x7 (fun h => h)
 have b2 : mQ w7 (n0 + 1) [.slice none 0 0] := (((((o2.ext x3 (fun h => h)).ext x4 (fun h => h)).ext x5 (fun h => h)).ext x6 (by omega))).ext x7 (fun h => h)
 have b3 : mQ w7 (n0 + 2) [.int .i64 0] := ((((o3.ext x4 (fun h => h)).ext x5 (fun h => h)).ext x6 (by omega))).ext x7 (fun h => h)
 have b6 : mQ w7 (n0 + 4) [.pointer (some ⟨n0 + 3, 0, none⟩)] := o6.ext x7 (fun h => h)
 have bC : mQ w7 b (cc C) := ho.ext x07 (fun h => h)
 have hW7 : Ws w7 (fun y => n0 + 7 < y) (n0 + 3) [] :=
  ((hW4.ext x5 (fun h => h) (fun _ h => h.elim)).ext x6 (by omega) (fun _ h => h.elim)).ext x7 (fun h => h) (fun _ h => h.elim) |>.turn (by omega) (fun _ h => h.elim)
 refine adW (fi := oR) (cap := #[.pointer (some ⟨n0 + 5, 0, none⟩)]) (by show noMark (g 1000003) = true; rw [gm] <;> rfl) g11 Tryz.func151 (by kernel_rfl) (by kernel_rfl) ?_
 obtain ⟨x8, s8, d8, l8⟩ := aaP nI (Tu pg nI) (agL jN) (abE jN) (YU jN) g w7
 rw [e7] at s8 d8 l8 ⊢
 generalize rfW nI (Tu pg nI) (agL jN) (abE jN) (YU jN) g w7 = w8 at *
 obtain ⟨r0, hr0⟩ : ∃ r0 : Loop, r0 = { state := .ready, pending := none, fn := nI, tmps := tmpsOf (Tu pg nI) g, params := agL jN, assign := abE jN, body := YU jN, defers := n0 + 6 } := ⟨_, rfl⟩
 rw [<- hr0] at l8
 let I : Nat -> atO -> Prop := fun i W => W.heap[n0 + 7]? = some (.loop r0) /\ jM w8 W (fun y => y = n0 + 7 ∨ y = n0 + 3 ∨ n0 + 7 < y) /\ Ws W (fun y => n0 + 7 < y) (n0 + 3) (KQ C ((jZ l).drop i)) /\ ∀ s ∈ (jZ l).drop i, 0 < bitsOf C s
 let S : atO -> Prop := fun W => (∃ s ∈ jZ l, bitsOf C s = 0) /\ W.heap[n0 + 7]? = some (.loop { r0 with state := .done, pending := some .ret }) /\ mQ W (n0 + 1) [.slice none 0 0] /\ mQ W (n0 + 2) [.int .i64 1] /\ jM w W mN /\ W.heap[n0 + 6]? = some (.deferred (some []))
 have hbits : ∀ s, bitsOf C s <= 11 := fun s => by
  unfold bitsOf
  rw [aoN]
  cases h : C[s]? with
  | none => simp
  | some e => exact (hC.2 s e h).1
 have x08 : jM w w8 mN := x07.seq x8
 have hmain := Za (l := l) (v := .slice va vn vc) (box := n0 + 5) (lp := n0 + 7) (r0 := r0) (w := w8) I S ?hI ?hp (by omega) ?h0 ?hs
 case hI =>
  rintro i W ⟨hlp, hx, _⟩
  exact ⟨(o7.ext x8 (fun h => h)).ext hx (by omega), hb.ext (x08.trans hx fun y hy h => by omega) (kJ _), hlp⟩
 case hp => rw [hr0, aiO] <;> rfl
 case h0 =>
  refine ⟨l8, jM.refl _ _, ?_, ?_⟩
  .rw [arX (by rw [mY]; omega)]; exact hW7.ext x8 (fun h => h) (fun _ _ h => h)
  .rw [arX (by rw [mY]; omega)]; intro s hs; cases hs
 case hs =>
  rintro i W hi ⟨hlp, hx, hW, hall⟩
  have zW := hx.size
  have y08 : jM w W mN := x08.trans hx fun y hy h => by omega
  have hT : Vd r0 [.int .i64 i, .int .u8 ((l[i]'hi).toNat : Nat)] = ((tmpsOf 42 g).setIfInBounds 12 (.int .i64 i)).setIfInBounds 13 (.int .u8 ((l[i]'hi).toNat : Nat)) := by
   exact ahL (by rw [hr0]; exact aiO) (by rw [hr0]; simp only; rw [alM]) _ _
  have hE : ∀ {x : Nat} {u v z : atP}, x < 12 -> g x = u -> MV (((tmpsOf 42 g).setIfInBounds 12 v).setIfInBounds 13 z) x = u := fun {x u v z} h1 h2 => by
   rw [Vj (by simp [tmpsOf]), if_neg (by omega), Vj (by simp [tmpsOf]), if_neg (by omega), abS (by omega), h2]
  have hE13 : ∀ {v z : atP}, MV (((tmpsOf 42 g).setIfInBounds 12 v).setIfInBounds 13 z) 13 = z := fun {v z} => by
   rw [Vj (by simp [tmpsOf]), if_pos rfl]
  rw [hT]
  have a0 := (b1.ext x8 (fun h => h)).ext hx (by omega)
  have a1 := (b2.ext x8 (fun h => h)).ext hx (by omega)
  have a2 := (b3.ext x8 (fun h => h)).ext hx (by omega)
  have a6 := (b6.ext x8 (fun h => h)).ext hx (by omega)
  have aC := (bC.ext x8 (fun h => h)).ext hx (by omega)
  have ad := EK d8 hx (by omega)
  have hlt : n0 + 7 < W.heap.size := by omega
  subst hr0
  refine S3 (by simp [tmpsOf]) ?_
  rw [hE (by omega) g2, hE (by omega) g4, hE (by omega) g5, hE (by omega) g6, hE13]
  unfold My Dp
  refine abW hlp rfl fun W1 l1 y1 z1 => ?_
  have a0 := a0.ext y1 (by omega)
  have a1 := a1.ext y1 (by omega)
  have a2 := a2.ext y1 (by omega)
  have a6 := a6.ext y1 (by omega)
  have aC := aC.ext y1 (by omega)
  have ad := EK ad y1 (by omega)
  have hW := hW.ext y1 (by omega) (fun _ h => by omega)
  have y01 : jM w W1 mN := y08.trans y1 fun y hy h => by omega
  have hs256 : (l[i]'hi).toNat < 256 := aqU _
  have hget : (jZ l)[i]? = some (l[i]'hi).toNat := by unfold jZ; rw [aoY, aoM hi] <;> rfl
  have hmem : (l[i]'hi).toNat ∈ jZ l := aqT hget
  have hdr := aaQ (C := C) hget
  have hcons : (jZ l).drop i = (l[i]'hi).toNat :: (jZ l).drop (i + 1) := by
   obtain ⟨hj, e⟩ := arG.1 hget
   rw [aqP hj, e]
  generalize (l[i]'hi).toNat = s at *
  have c0 := a0.cell (off := 0)
  simp only [aoB] at c0
  have hbad : bitsOf C s = 0 -> ∀ W2, jM W1 W2 (fun y => y = n0 + 1 ∨ y = n0 + 2) -> mQ W2 (n0 + 1) [.slice none 0 0] -> mQ W2 (n0 + 2) [.int .i64 1] -> XT (n0 + 7) (some .ret) (fun b W' => (b = .bool true /\ I i W') ∨ (b = .bool false /\ S W')) W2 := by
   intro h0 W2 y2 k1 k2
   refine VP (EK l1 y2 (by omega)) fun W3 l3 y3 z3 => .inr ⟨rfl, ⟨s, hmem, h0⟩, l3, k1.ext y3 (by omega), k2.ext y3 (by omega), ?_, ?_⟩
   .exact (y01.trans y2 fun y hy h => by omega).trans y3 fun y hy h => by omega
   .exact EK (EK ad y2 (by omega)) y3 (by omega)
  unfold zY
  by_cases hge : C.length <= s
  .have d1 : decide ((C.length : Int) <= (s : Int)) = true := by simp; omega
   simp (disch := omega) only [gE, fK, gY, bT, cX, true_and, cS, c0, gB, bU, iE, d1, gU, gQ, if_true, fZ, gI]
   refine tN a1 rfl (by simp) fun W2 k1 y2 z2 => ?_
   refine Ml (a2.ext y2 (by omega)) rfl (by simp) fun W3 k2 y3 z3 => ?_
   simp only [aoZ] at k1 k2
   refine hbad ?_ W3 ((y2.mono fun _ _ h => .inl h).seq (y3.mono fun _ _ h => .inr h)) (k1.ext y3 (by omega)) k2
   unfold bitsOf; rw [aoN, aoS hge] <;> rfl
  .have d1 : decide ((C.length : Int) <= (s : Int)) = false := by simp; omega
   obtain ⟨e, he⟩ : ∃ e, C[s]? = some e := ⟨_, aoM (by omega)⟩
   obtain ⟨p0, p1⟩ := ZV aC he
   obtain ⟨hc1, hc2⟩ := hC.2 s e he
   have hbo := abV (b := e.1) (c := e.2) he
   by_cases h0 : e.1 = 0
   .have n1 : (((e.1 : Nat) : Int) == 0) = true := by simp; omega
    simp (disch := omega) only [gE, fK, gY, bT, cX, true_and, cS, c0, gB, bU, iE, d1, gT, gQ, aoD, if_false, gM, bQ, aoE, aoH, aR, gR, p0, iC, n1, fZ]
    refine tN a1 rfl (by simp) fun W2 k1 y2 z2 => ?_
    refine Ml (a2.ext y2 (by omega)) rfl (by simp) fun W3 k2 y3 z3 => ?_
    simp only [aoZ] at k1 k2
    exact hbad (by rw [hbo]; exact h0) W3 ((y2.mono fun _ _ h => .inl h).seq (y3.mono fun _ _ h => .inr h)) (k1.ext y3 (by omega)) k2
   .have n1 : (((e.1 : Nat) : Int) == 0) = false := by simp; omega
    have hc2 := hc2 (by omega)
    have c0d := (GB a0).cell (off := 0)
    have c6d := (GB a6).cell (off := 0)
    simp only [aoB] at c0d c6d
    obtain ⟨p0d, p1d⟩ := ZV (GB aC) he
    simp (disch := omega) only [gE, fK, gY, bT, cX, true_and, cS, c0, gB, bU, iE, d1, gT, gQ, aoD, if_false, gM, bQ, aoE, aoH, aR, gR, p0, iC, n1, c6d, c0d, p0d, aU, p1d, eQ, hZ, fU]
    have hlen := rC hbits ((jZ l).drop (i + 1))
    rw [apD, mY] at hlen
    refine (adF (x := e.2) (n := e.1) (hW.ext (jM.dr W1 mN) (fun h => h) (fun _ _ h => h)) (fun y hy => by have : (dr W1).heap.size = W1.heap.size := rfl; omega) (by omega) (by omega) (by omega)).mono ?_
    rintro r W2 ⟨rfl, hW2, y2⟩
    have y12 : jM W1 W2 (fun y => y = n0 + 3 ∨ n0 + 7 < y) := (jM.dr W1 _).seq y2
    refine VP (EK l1 y12 (by omega)) fun W3 l3 y3 z3 => .inl ⟨rfl, l3, ?_, ?_, ?_⟩
    .refine ((hx.trans y1 fun y _ h => by omega).trans y12 fun y _ h => by omega).trans y3 fun y _ h => by omega
    .rw [hdr]
     have hg : C.getD s (0, 0) = e := by rw [aoN, he] <;> rfl
     rw [hg]
     exact hW2.ext y3 (by omega) (fun _ h => by omega)
    .rw [hcons]
     intro t ht
     rcases apZ.1 ht with rfl | ht
     .rw [hbo]; omega
     .exact hall t ht
 refine hmain.mono ?_
 rintro r w9 ⟨rfl, h⟩
 rcases h with ⟨hlp, hx, hW, hall⟩ | ⟨hbad, hlp, k1, k2, hx, hd⟩
 .have a1 := (b2.ext x8 (fun h => h)).ext hx (by omega)
  have a2 := (b3.ext x8 (fun h => h)).ext hx (by omega)
  have a6 := (b6.ext x8 (fun h => h)).ext hx (by omega)
  have ad := EK d8 hx (by omega)
  have y09 : jM w w9 mN := x08.trans hx fun y hy h => by omega
  refine Un hlp (by rw [hr0]; simp) fun wa ya za => ?_
  rw [hr0]
  have hz : put g (some DS) (.pointer (some ⟨n0 + 6, 0, none⟩)) 4 = g 4 := rfl
  have hz5 : put g (some DS) (.pointer (some ⟨n0 + 6, 0, none⟩)) 5 = g 5 := rfl
  have hz6 : put g (some DS) (.pointer (some ⟨n0 + 6, 0, none⟩)) 6 = g 6 := rfl
  have hzm : put g (some DS) (.pointer (some ⟨n0 + 6, 0, none⟩)) 1000003 = .pointer (some ⟨n0 + 6, 0, none⟩) := rfl
  show AD RR (put g (some DS) (.pointer (some ⟨n0 + 6, 0, none⟩)) 4) (put g (some DS) (.pointer (some ⟨n0 + 6, 0, none⟩)) 5) (put g (some DS) (.pointer (some ⟨n0 + 6, 0, none⟩)) 6) (put g (some DS) (.pointer (some ⟨n0 + 6, 0, none⟩)) 1000003) wa
  rw [hz, hz5, hz6, hzm, g4, g5, g6]
  unfold AD
  have a1 := a1.ext ya (by omega)
  have a2 := a2.ext ya (by omega)
  have a6 := a6.ext ya (by omega)
  have ad := EK ad ya (by omega)
  have hW := hW.ext ya (by omega) (fun _ h => by omega)
  have y0a : jM w wa mN := y09.trans ya fun y hy h => by omega
  have c6 := a6.cell (off := 0)
  simp only [aoB] at c6
  simp (disch := omega) only [gE, cX, c6, gB, cS]
  have hlen := rC hbits (jZ l)
  rw [mY] at hlen
  rw [arF] at hW hall
  refine (afQ hW.wr (by omega)).mono ?_
  rintro r wb ⟨bytes, hbs, hheld, hat, yb⟩
  refine tN (a1.ext yb (fun h => h)) ?_ (by simp) fun wc kc yc zc => ?_
  .obtain ⟨a, n, c, rfl, _⟩ := hbs; rfl
  refine Ml ((a2.ext yb (fun h => h)).ext yc (by omega)) rfl (by simp) fun wd kd yd zd => ?_
  simp only [aoZ] at kc kd
  refine VF (EK (EK (EK ad yb (fun h => h)) yc (by omega)) yd (by omega)) fun we ye ze => ?_
  refine Se ((kc.ext yd (by omega)).ext ye (by omega)) rfl ?_
  refine Qy (kd.ext ye (by omega)) rfl ?_
  have y0b : jM w wb mN := y0a.seq yb
  have zb := yb.size
  have z0a := y0a.size
  have z89 := hx.size
  have zcd := yc.size
  have zdd := yd.size
  have zee := ye.size
  rw [hRR]
  refine ⟨.inr ⟨hall, _, bytes, rfl, ?_, hheld, ?_⟩, ((y0b.trans yc fun y hy h => by omega).trans yd fun y hy h => by omega).trans ye fun y hy h => by omega⟩
  .refine ((hbs.ext yc ?_).ext yd ?_).ext ye ?_ <;> exact hat _ fun y h1 h2 => by omega
  .exact fun M hM => hat M fun y h1 h2 => hM y (by omega) (by omega)
 .refine Un hlp (by simp) fun wa ya za => ?_
  show Ey (put g (some DS) (.pointer (some ⟨n0 + 6, 0, none⟩)) 1000003) wa fun w => UE pg 22 (put g (some DS) (.pointer (some ⟨n0 + 6, 0, none⟩)) 4) w fun r0 => UE pg 24 (put g (some DS) (.pointer (some ⟨n0 + 6, 0, none⟩)) 5) w fun r1 => RR (.tuple #[r0, r1]) w
  have hz : put g (some DS) (.pointer (some ⟨n0 + 6, 0, none⟩)) 4 = g 4 := rfl
  have hz5 : put g (some DS) (.pointer (some ⟨n0 + 6, 0, none⟩)) 5 = g 5 := rfl
  have hzm : put g (some DS) (.pointer (some ⟨n0 + 6, 0, none⟩)) 1000003 = .pointer (some ⟨n0 + 6, 0, none⟩) := rfl
  rw [hz, hz5, hzm, g4, g5]
  refine VF (EK hd ya (by omega)) fun we ye ze => ?_
  refine Se ((k1.ext ya (by omega)).ext ye (by omega)) rfl ?_
  refine Qy ((k2.ext ya (by omega)).ext ye (by omega)) rfl ?_
  rw [hRR]
  exact ⟨.inl ⟨hbad, rfl⟩, (hx.trans ya fun y hy h => by omega).trans ye fun y hy h => by omega⟩
theorem aeE {wl : List UInt8} (h : oC (jZ wl) ≠ 0) : WrC (wC wl) := by
 obtain ⟨hF, hm, hC⟩ := WOk.full h
 refine ⟨hC, fun s e he => ?_⟩
 obtain ⟨h1, h2⟩ := hF.le s e.1 e.2 he
 exact ⟨by omega, fun h0 => arL (h2 h0) (apE (by omega) (by omega))⟩
theorem Xd {wl : List UInt8} (h : oC (jZ wl) ≠ 0) (s : Nat) : bitsOf (wC wl) s <= 11 := by
 unfold bitsOf
 rw [aoN]
 cases he : (wC wl)[s]? with
 | none => simp
 | some e => exact ((aeE h).2 s e he).1
theorem Wo {wl l bytes : List UInt8} (h : oC (jZ wl) ≠ 0) (hall : ∀ s ∈ jZ l, 0 < bitsOf (wC wl) s) (hb : UF (KQ (wC wl) (jZ l) ++ [true]) bytes) : SC (wC wl) bytes l.length = .ok (jZ l) := by
 obtain ⟨hF, hm, hC⟩ := WOk.full h
 obtain ⟨h1, h2⟩ := afU hb
 have h3 := Z9 hF (T := tI bytes) hall h2
 rw [mY] at h3
 unfold SC
 rw [h1]
 simp only
 rw [h3]
 simp
theorem afW {wl l bytes : List UInt8} (h : oC (jZ wl) ≠ 0) (hb : UF (KQ (wC wl) (jZ l) ++ [true]) bytes) : bytes.length <= (11 * l.length + 8) / 8 := by
 have h1 := rC (Xd h) (jZ l)
 rw [mY] at h1
 rw [hb.len, aoL, apS]
 omega
def amE (w : atO) (base : Nat) (wl l : List UInt8) (back : List UInt8 -> Except Int (List Nat)) (lim : Nat) (bad : Prop) (r : atP) : Prop :=
 ((oC (jZ wl) = 0 ∨ bad ∨ ∃ s ∈ jZ l, bitsOf (wC wl) s = 0) /\ r = .tuple #[.slice none 0 0, .int .i64 1]) ∨
 (oC (jZ wl) ≠ 0 /\ (∀ s ∈ jZ l, 0 < bitsOf (wC wl) s) /\ ∃ v bytes, r = .tuple #[v, .int .i64 0] /\ Bs w v bytes /\ AtI v base w.heap.size /\ bytes.length <= lim /\ back bytes = .ok (jZ l))
theorem Yw {lv sv : atP} {wl l : List UInt8} {w : atO} (hw : Bs w lv wl) (hwl : wl.length <= 100000) (h : Bs w sv l) (hl : l.length <= 131072) :
 jD pg F1 #[lv, sv] w (fun r w' => amE w' w.heap.size wl l (fun b => akM wl b l.length) ((11 * l.length + 8) / 8) False r /\ jM w w' mN) := by
 refine Tg ?_
 unfold Ud Hn
 by_cases hd : oC (jZ wl) = 0
 .refine (WO hw hwl hd).mono ?_
  rintro r w1 ⟨rfl, rfl⟩
  have n0 : ((1 : Int) != 0) = true := rfl
  simp (disch := omega) only [gE, kR, kQ, cS, iH, n0, fZ]
  exact ⟨.inl ⟨.inl hd, rfl⟩, jM.refl _ _⟩
 .refine (ZW hw rfl hd).mono ?_
  rintro r w1 ⟨b, rfl, hb, ob, x1⟩
  have n0 : ((0 : Int) != 0) = false := rfl
  have h1 := h.ext x1 (kJ _)
  have hv := h1
  obtain ⟨a, c, rfl, hc⟩ := h1.len
  rw [aoK] at hv ⊢
  have d1 : decide ((l.length : Int) > 131072) = false := decide_eq_false (by omega)
  have d2 : decide ((131072 : Int) < (l.length : Int)) = false := decide_eq_false (by omega)
  simp (disch := omega) only [gE, kR, kQ, fM, cS, hU, d1, fU, iH, n0]
  have hcl : wl.length = (wC wl).length := by rw [BU, mY]
  rw [hcl]
  refine (Xx ob hv (aeE hd) (by omega)).mono ?_
  rintro r w2 ⟨he, x2⟩
  have z1 := x1.size
  rcases he with ⟨hbad, rfl⟩ | ⟨hall, v, bytes, rfl, hbs, hheld, hat⟩
  .simp (disch := omega) only [kR, kQ, cS]
   exact ⟨.inl ⟨.inr (.inr hbad), rfl⟩, x1.seq x2⟩
  .simp (disch := omega) only [kR, kQ, cS]
   refine ⟨.inr ⟨hd, hall, _, bytes, rfl, hbs, fun M hM => hat M fun y h1 h2 => hM y (by omega) h2, afW hd hheld, ?_⟩, x1.seq x2⟩
   show akM wl bytes l.length = _
   unfold akM
   rw [if_neg hd]
   exact Wo hd hall hheld
def sg (l : List UInt8) (q i : Nat) : List UInt8 := if i < 3 then (l.drop (i * q)).take q else l.drop (3 * q)
theorem Ow {l : List UInt8} {q i : Nat} (h : 3 * q <= l.length) : (sg l q i).length = if i < 3 then q else l.length - 3 * q := by
 unfold sg
 split
 .rename_i hi
  have : i * q <= 2 * q := apG q (by omega)
  rw [apA, apD]; omega
 .rw [apD]
theorem afM {l : List UInt8} {q : Nat} : sg l q 0 ++ (sg l q 1 ++ (sg l q 2 ++ sg l q 3)) = l := by
 unfold sg
 simp only [show (0 : Nat) < 3 from by omega, show (1 : Nat) < 3 from by omega, show (2 : Nat) < 3 from by omega, if_true, Nat.lt_irrefl, if_false, asF, Nat.one_mul, arF]
 have e2 : l.drop (3 * q) = (l.drop (2 * q)).drop q := by rw [arR]; congr 1; omega
 have e1 : l.drop (2 * q) = (l.drop q).drop q := by rw [arR]; congr 1; omega
 rw [e2, arM, e1, arM, arM]
def Xl (P : List (List UInt8)) : List UInt8 := (P.take 3).flatMap fun s => pB s.length 2
theorem Tc {x n : Nat} {r : List UInt8} : (pB x n ++ r).drop n = r := atN (mC n x)
theorem Td {x n : Nat} {r : List UInt8} : (pB x n ++ r).take n = pB x n := asU (mC n x)
theorem acV {wl l a b c d : List UInt8} (h : oC (jZ wl) ≠ 0) (hq : 3 * ((l.length + 3) / 4) <= l.length) (hl : l.length <= 131072)
 (ha : SC (wC wl) a (sg l ((l.length + 3) / 4) 0).length = .ok (jZ (sg l ((l.length + 3) / 4) 0))) (hb : SC (wC wl) b (sg l ((l.length + 3) / 4) 1).length = .ok (jZ (sg l ((l.length + 3) / 4) 1)))
 (hc : SC (wC wl) c (sg l ((l.length + 3) / 4) 2).length = .ok (jZ (sg l ((l.length + 3) / 4) 2))) (hd : SC (wC wl) d (sg l ((l.length + 3) / 4) 3).length = .ok (jZ (sg l ((l.length + 3) / 4) 3)))
 (la : a.length < 65536) (lb : b.length < 65536) (lc : c.length < 65536) :
 ahN wl (Xl [a, b, c, d] ++ (a ++ (b ++ (c ++ d)))) l.length = .ok (jZ l) := by
 have hs : Xl [a, b, c, d] = pB a.length 2 ++ (pB b.length 2 ++ pB c.length 2) := by unfold Xl; simp
 generalize hq' : (l.length + 3) / 4 = q at *
 have l0 := Ow (i := 0) hq
 have l1 := Ow (i := 1) hq
 have l2 := Ow (i := 2) hq
 have l3 := Ow (i := 3) hq
 simp only [show (0 : Nat) < 3 from by omega, show (1 : Nat) < 3 from by omega, show (2 : Nat) < 3 from by omega, if_true, Nat.lt_irrefl, if_false] at l0 l1 l2 l3
 rw [l0] at ha
 rw [l1] at hb
 rw [l2] at hc
 rw [l3] at hd
 rw [hs, apK, apK]
 generalize hY : a ++ (b ++ (c ++ d)) = Y
 have hYl : Y.length = a.length + (b.length + (c.length + d.length)) := by rw [<- hY]; simp
 have d2 : (pB a.length 2 ++ (pB b.length 2 ++ (pB c.length 2 ++ Y))).drop 2 = pB b.length 2 ++ (pB c.length 2 ++ Y) := Tc
 have d4 : (pB a.length 2 ++ (pB b.length 2 ++ (pB c.length 2 ++ Y))).drop 4 = pB c.length 2 ++ Y := by
  rw [show 4 = 2 + 2 from rfl, <- arR, d2]; exact Tc
 have d6 : (pB a.length 2 ++ (pB b.length 2 ++ (pB c.length 2 ++ Y))).drop 6 = Y := by
  rw [show 6 = 4 + 2 from rfl, <- arR, d4]; exact Tc
 have hlen : (pB a.length 2 ++ (pB b.length 2 ++ (pB c.length 2 ++ Y))).length = 6 + Y.length := by simp [mC]; omega
 have nm : ∀ x, x < 65536 -> Yq (pB x 2) = x := fun x hx => by rw [WE]; exact apX hx
 have eA : nA (pB a.length 2 ++ (pB b.length 2 ++ (pB c.length 2 ++ Y))) = a.length := by unfold nA; rw [Td, nm _ la]
 have eB : nB (pB a.length 2 ++ (pB b.length 2 ++ (pB c.length 2 ++ Y))) = b.length := by unfold nB; rw [d2, Td, nm _ lb]
 have eC : nC (pB a.length 2 ++ (pB b.length 2 ++ (pB c.length 2 ++ Y))) = c.length := by unfold nC; rw [d4, Td, nm _ lc]
 unfold ahN
 rw [if_neg h, hq', if_neg (by omega), if_neg (by rw [hlen]; omega), d6, eA, eB, eC, if_neg (by omega)]
 have ed : Y.length - (a.length + b.length + c.length) = d.length := by omega
 rw [ed, <- hY, YV, asU rfl, ha]
 simp only
 rw [atN rfl, YV, asU rfl, hb]
 simp only
 rw [atN rfl, YV, asU rfl, hc]
 simp only
 rw [atN rfl, YV, aoU (aoP _), hd]
 simp only [YV, aqR]
 have := afM (l := l) (q := q)
 conv => rhs; rw [<- this]
 simp only [jZ, apN]
theorem aiC {l : List UInt8} {q i : Nat} (hi : i < 4) (hq : 3 * q <= l.length) : (l.drop (i * q)).take (if i < 3 then q else l.length - 3 * q) = sg l q i /\
 (l.drop (i * q)).drop (if i < 3 then q else l.length - 3 * q) = if i < 3 then l.drop ((i + 1) * q) else [] := by
 unfold sg
 by_cases h : i < 3
 .simp only [if_pos h]
  refine ⟨trivial, ?_⟩
  rw [arR]; congr 1; rw [apW]; omega
 .simp only [if_neg h]
  obtain rfl : i = 3 := by omega
  refine ⟨aoU (by rw [apD]; omega), arX (by rw [apD]; omega)⟩
structure agE (W : atO) (p n0 : Nat) (C : List (Nat × Nat)) (l : List UInt8) (q : Nat) (av : atP) (P : List (List UInt8)) (SA SW : Nat -> Prop) : Prop where
 a0 : ∀ b, SA b -> n0 <= b /\ b ≠ p /\ ¬ SW b
 aw : ∀ b, SA b -> b < W.heap.size
 s0 : ∀ b, SW b -> n0 <= b /\ b < W.heap.size
 al : LF W SA 1 av P.flatten.length (P.flatten.map oZ)
 wr : Cw W p SW (Xl P)
 held : ∀ j s, P[j]? = some s -> UF (KQ C (jZ (sg l q j)) ++ [true]) s
 all : ∀ j, j < P.length -> ∀ s ∈ jZ (sg l q j), 0 < bitsOf C s
theorem XV {P : List (List UInt8)} {s : List UInt8} : Xl (P ++ [s]) = if P.length < 3 then Xl P ++ pB s.length 2 else Xl P := by
 unfold Xl
 by_cases h : P.length < 3
 .rw [if_pos h, aoU (by simp; omega), aoU (by omega), List.flatMap_append]; simp
 .rw [if_neg h, aqS (by omega)]
theorem Xt (P : List (List UInt8)) : (Xl P).length <= 6 := by
 have : ∀ Q : List (List UInt8), (Q.flatMap fun s => pB s.length 2).length = 2 * Q.length := by
  intro Q
  induction Q with
  | nil => rfl
  | cons s Q ih => rw [List.flatMap_cons, aoL, ih, mC, aoV]; omega
 unfold Xl
 rw [this, apA]; omega
theorem ZT {w : atO} {S T : Nat -> Prop} {sz n : Nat} {v : atP} {l : List atP} (h : LF w S sz v n l) (hT : ∀ b, S b -> b < w.heap.size -> T b) : LF w T sz v n l := by
 refine ⟨h.1, ?_⟩
 rcases h.2 with h2 | ⟨b, c, rest, e, hb, o, hc, hn⟩
 .exact .inl h2
 .exact .inr ⟨b, c, rest, e, hT b hb o.lt, o, hc, hn⟩
theorem TM {a : Option Addr} {n c m c' k : Nat} {M : Nat -> Prop} (h : ¬ Lf (.slice a n c) M) (hm : m <= n) : ¬ Lf (.slice (nL a c k 1) m c') M := by
 have := AtS.sub (a := a) (n := n) (c := c) (m := m) (c' := c') (k := k) (mx := c) (sz := 1) (S := fun y => ¬ M y) (fun N hN hh => h (B3 hh fun b hb => Classical.byContradiction fun hm => hN b hm hb)) hm
 exact this M fun b hb => hb
theorem abT {RR : atP -> atO -> Prop} {l : List UInt8} {q b p n0 : Nat} {C : List (Nat × Nat)} {sv : atP} {w0 : atO} (hC : WrC C) (ho : mQ w0 b (cc C)) (hs : Bs w0 sv l) (hq : 3 * q <= l.length) (hq2 : l.length <= 4 * q) (hq3 : q <= 32768) (hl : l.length <= 131072)
 (hn0 : n0 <= w0.heap.size) (hp : n0 <= p) (hb : b < n0) (hsv : ¬ Lf sv (fun y => n0 <= y)) {SW0 : Nat -> Prop} (hw : Cw w0 p SW0 []) (hSW : ∀ y, SW0 y -> n0 <= y /\ y < w0.heap.size)
 (hbad : ∀ W, (∃ s ∈ jZ l, bitsOf C s = 0) -> jM w0 W (fun y => n0 <= y) -> RR (.tuple #[.slice none 0 0, .int .i64 1]) W)
 (hok : ∀ W v P, P.length = 4 -> (∀ j s, P[j]? = some s -> UF (KQ C (jZ (sg l q j)) ++ [true]) s) -> (∀ s ∈ jZ l, 0 < bitsOf C s) -> Bs W v (Xl P ++ P.flatten) -> AtI v w0.heap.size W.heap.size -> jM w0 W (fun y => n0 <= y) -> RR (.tuple #[v, .int .i64 0]) W) :
 AZ (fun qK kT w => yD RR qK kT w) RR sv (.slice (some ⟨b, 0, none⟩) C.length C.length) (.pointer (some ⟨p, 0, none⟩)) (.slice none 0 0)
  (.agg #[.int .i64 (q : Nat), .int .i64 (q : Nat), .int .i64 (q : Nat), .int .i64 ((l.length : Int) - 3 * (q : Int))]) (.int .i64 0) w0 := by
 unfold AZ Fo
 have hbits : ∀ s, bitsOf C s <= 11 := fun s => by
  unfold bitsOf
  rw [aoN]
  cases h : C[s]? with
  | none => simp
  | some e => exact (hC.2 s e h).1
 refine kE.rule (fun m (t : atP × atP × atP) W => ∃ (i : Nat) (sv' av : atP) (P : List (List UInt8)) (SA SW : Nat -> Prop), m = 4 - i /\ t = (sv', av, .int .i64 i) /\ i <= 4 /\ P.length = i /\ (i < 4 -> Bs W sv' (l.drop (i * q)) /\ ¬ Lf sv' (fun y => n0 <= y)) /\
  agE W p n0 C l q av P SA SW /\ jM w0 W (fun y => n0 <= y)) 4
  ⟨0, sv, .slice none 0 0, [], fun _ => False, SW0, rfl, rfl, by omega, rfl, fun _ => ⟨by rw [asF]; exact hs, hsv⟩, ⟨fun _ h => h.elim, fun _ h => h.elim, hSW, ⟨rfl, .inl ⟨rfl, rfl⟩⟩, hw, fun j s h => by simp at h, fun j h => by simp at h⟩, jM.refl _ _⟩ ?_
 rintro m t W ⟨i, sv', av, P, SA, SW, rfl, rfl, hi, hPl, hsv', hE, hx⟩
 obtain ⟨hA0, hAw, hS0, hal, hwr, hheld, hall⟩ := hE
 have zW := hx.size
 unfold Ci Gv
 have hpW := hwr.lt
 have hal2 := hal
 obtain ⟨aa, ac, rfl⟩ := KH hal
 have hfl : P.flatten.length <= 262144 := by
  have key : ∀ (Q : List (List UInt8)), (∀ s ∈ Q, s.length <= 65536) -> Q.flatten.length <= 65536 * Q.length := by
   intro Q
   induction Q with
   | nil => intro _; simp
   | cons s Q ih =>
     intro h
     have h1 := h s (apL ..)
     have h2 := ih fun t ht => h t (aoR _ ht)
     rw [atC, aoL, aoV]; omega
  have := key P fun s hs => by
   obtain ⟨j, hj⟩ := List.getElem?_of_mem hs
   have h1 := hheld j s hj
   have h2 := rC hbits (jZ (sg l q j))
   have h3 : (sg l q j).length <= 32768 := by rw [Ow hq]; split <;> omega
   rw [mY] at h2
   rw [h1.len, aoL, apS]
   omega
  omega
 by_cases hlt : i < 4
 .have d1 : decide ((i : Int) < 4) = true := decide_eq_true (by omega)
  obtain ⟨hsb, hin⟩ := hsv' hlt
  obtain ⟨z, hz⟩ : ∃ z, z = if i < 3 then q else l.length - 3 * q := ⟨_, rfl⟩
  obtain ⟨hsg, hsd⟩ := aiC hlt hq
  rw [<- hz] at hsg hsd
  have hsl := Ow (i := i) hq
  rw [<- hz] at hsl
  have hzq : z <= 32768 := by rw [hz]; split <;> omega
  have hiq : i * q <= 3 * q := apG q (by omega)
  have hzl : z <= (l.drop (i * q)).length := by
   rw [apD, hz]
   split
   .have : i * q <= 2 * q := apG q (by omega)
    omega
   .omega
  have hix : (#[.int .i64 (q : Nat), .int .i64 (q : Nat), .int .i64 (q : Nat), .int .i64 ((l.length : Int) - 3 * (q : Int))] : Array atP)[i]? = some (.int .i64 (z : Nat)) := by
   rcases (show i = 0 ∨ i = 1 ∨ i = 2 ∨ i = 3 by omega) with rfl | rfl | rfl | rfl
   .rw [hz] <;> rfl
   .rw [hz] <;> rfl
   .rw [hz] <;> rfl
   .rw [hz]
    have : ((l.length : Int) - 3 * (q : Int)) = ((l.length - 3 * q : Nat) : Int) := by omega
    simp [this]
  have hv := hsb
  obtain ⟨a, c, rfl, hc⟩ := hsb.len
  rw [aoK] at hv hc hin
  generalize hn : (l.drop (i * q)).length = n at *
  unfold Gp Gw Mw Gx
  simp (disch := omega) only [gE, hJ, d1, fW, aoE, hix, gB, aoK, hn, cS, eE, eH, fZ]
  have hseg : Bs W (.slice (nL a c 0 1) (z - 0) (c - 0)) (sg l q i) := by
   have := Sl.take' hv (k := z) hzl
   rw [<- asN, hsg] at this
   exact this
  refine (Xx (ho.ext hx (by omega)) hseg hC (by rw [hsl]; omega)).mono ?_
  rintro r W1 ⟨he, x1⟩
  have z1 := x1.size
  have y1 : jM w0 W1 (fun y => n0 <= y) := hx.trans x1 fun _ _ h => h.elim
  rcases he with ⟨⟨s, hs1, hs2⟩, rfl⟩ | ⟨hal1, v, bytes, rfl, hbs, hheld1, hat⟩
  .have n1 : ((1 : Int) != 0) = true := rfl
   simp (disch := omega) only [kR, kQ, cS, iH, n1, fZ]
   refine hbad W1 ⟨s, ?_, hs2⟩ y1
   have hsub : ∀ x ∈ sg l q i, x ∈ l := fun x hx => by
    unfold sg at hx
    split at hx
    .exact asM (aqM hx)
    .exact asM hx
   obtain ⟨x, hx1, hx2⟩ := aqB.1 hs1
   exact aqB.2 ⟨x, hsub x hx1, hx2⟩
  .have n1 : ((0 : Int) != 0) = false := rfl
   have hbl : bytes.length < 65536 := by
    have h1 := rC hbits (jZ (sg l q i))
    rw [mY, hsl] at h1
    rw [hheld1.len, aoL, apS]
    omega
   have hbv := hbs
   obtain ⟨a2, c2, rfl, hc2⟩ := hbs.len
   rw [aoK] at hbv hat
   have e1 : (i : Int) + 1 = ((i + 1 : Nat) : Int) := by omega
   have hszl := Xt P
   have fin : ∀ (W2 : atO) (SW2 : Nat -> Prop), Cw W2 p SW2 (Xl (P ++ [bytes])) -> jM W1 W2 (fun y => y = p ∨ SW y ∨ W1.heap.size <= y) -> (∀ y, SW2 y -> (SW y ∨ W1.heap.size <= y) /\ y < W2.heap.size) →
       gE pg (oD .append #[22, 22] 22 [.slice aa P.flatten.length ac, .slice a2 bytes.length c2]) W2 fun t69 w =>
        gE pg (gW .add 3 iK iK (.int .i64 i) (.int .i64 1)) w fun t70 w =>
         ∃ m, m < 4 - i /\ ∃ (i' : Nat) (sv' av : atP) (P : List (List UInt8)) (SA SW : Nat -> Prop), m = 4 - i' /\ ((.slice (nL a c z 1) (n - z) (c - z) : atP), t69, t70) = (sv', av, .int .i64 i') /\ i' <= 4 /\ P.length = i' /\ (i' < 4 -> Bs w sv' (l.drop (i' * q)) /\ ¬ Lf sv' (fun y => n0 <= y)) /\
           agE w p n0 C l q av P SA SW /\ jM w0 w (fun y => n0 <= y) := by
    intro W2 SW2 hw2 x2 hS2
    have z2 := x2.size
    have hbs2 : Bs W2 (.slice a2 bytes.length c2) bytes := hbv.ext x2 (hat _ fun y h1 h2 h3 => by
     rcases h3 with h3 | h3 | h3
     .omega
     .have := (hS0 y h3).2; omega
     .omega)
    have hcl := hbs2.cl
    rw [aoK] at hcl
    have hal3 : LF W2 (fun y => SA y ∨ W2.heap.size <= y) 1 (.slice aa P.flatten.length ac) P.flatten.length (P.flatten.map oZ) := by
     refine ZT (GH (GH hal2 x1 (fun _ _ h => h)) x2 fun y hy h3 => ?_) fun y hy _ => .inl hy
     have h4 := hA0 y hy
     have h5 := hAw y hy
     rcases h3 with h3 | h3 | h3
     .exact h4.2.1 h3
     .exact h4.2.2 h3
     .omega
    refine Ae (m := bytes.length) (news := bytes.map oZ) (i := Tryz.t5) Tryz.underlying22 Tryz.underlying22 Hx rfl rfl rfl hal3 hcl (DA _) (fun y hy => .inr hy) (by omega) (by rw [show Tryz.t5.bytes = 1 from rfl]; omega) (by decide) fun v3 W3 o3 x3 => ?_
    have z3 := x3.size
    simp (disch := omega) only [gE, hO, e1, gY, cS]
    have y3 : jM w0 W3 (fun y => n0 <= y) := (y1.trans x2 fun y _ h => by
     rcases h with h | h | h
     .omega
     .exact (hS0 y h).1
     .omega).trans x3 fun y _ h => by
     rcases h with h | h
     .exact (hA0 y h).1
     .omega
    refine ⟨4 - (i + 1), by omega, i + 1, _, v3, P ++ [bytes], fun y => (SA y ∨ W2.heap.size <= y) /\ y < W3.heap.size, SW2, rfl, rfl, by omega, by rw [aoL, apS, hPl], ?_, ⟨?_, fun y hy => hy.2, fun y hy => ?_, ?_, ?_, ?_, ?_⟩, y3⟩
    .intro hi4
     have hlt3 : i < 3 := by omega
     rw [if_pos hlt3] at hsd
     refine ⟨?_, TM hin (by omega)⟩
     have := Sl.drop' hv (k := z) hzl
     rw [<- List.map_drop, hsd] at this
     refine Sl.ext (Sl.ext (Sl.ext this x1 (kJ _)) x2 ?_) x3 ?_
     .exact fun h => TM hin (by omega) (B3 h fun y hy => by
       rcases hy with hy | hy | hy
       .omega
       .exact (hS0 y hy).1
       .omega)
     .exact fun h => TM hin (by omega) (B3 h fun y hy => by
       rcases hy with hy | hy
       .exact (hA0 y hy).1
       .omega)
    .rintro y ⟨hy | hy, hy2⟩
     .have h4 := hA0 y hy
      refine ⟨h4.1, h4.2.1, fun h => ?_⟩
      have h5 := hAw y hy
      rcases (hS2 y h).1 with h6 | h6
      .exact h4.2.2 h6
      .omega
     .refine ⟨by omega, fun h => ?_, fun h => ?_⟩
      .have := hw2.lt; omega
      .have := (hS2 y h).2; omega
    .obtain ⟨h1, h2⟩ := hS2 y hy
     refine ⟨?_, by omega⟩
     rcases h1 with h1 | h1
     .exact (hS0 y h1).1
     .omega
    .rw [List.flatten_append, List.flatten_singleton, aoL, apN]
     exact ZT o3 fun y hy h => ⟨hy, h⟩
    .refine hw2.ext x3 (fun h => ?_) fun y hy h => ?_
     .rcases h with h | h
      .exact (hA0 p h).2.1 rfl
      .have := hw2.lt; omega
     .obtain ⟨h1, h2⟩ := hS2 y hy
      rcases h with h | h
      .rcases h1 with h1 | h1
       .exact (hA0 y h).2.2 h1
       .have := hAw y h; omega
      .omega
    .intro j s hj
     rcases aoT j P.length with hjl | hjl
     .rw [aoX hjl] at hj; exact hheld j s hj
     .rw [apF hjl] at hj
      have : j - P.length = 0 := by
       rcases arE (j - P.length) with h | h
       .exact h
       .rw [aoS (by simp; omega)] at hj; cases hj
      rw [this] at hj
      obtain rfl : bytes = s := by simpa using hj
      obtain rfl : j = i := by omega
      exact hheld1
    .intro j hj s hs
     rw [aoL, apS] at hj
     rcases aoT j P.length with hjl | hjl
     .exact hall j hjl s hs
     .obtain rfl : j = i := by omega
      exact hal1 s hs
   have hwr1 : Cw W1 p (fun y => SW y ∨ W1.heap.size <= y) (Xl P) := (hwr.ext x1 (fun h => h) (fun _ _ h => h)).turn (fun y hy _ => .inl hy) (fun h => by
    rcases h with h | h
    .exact hwr.1 h
    .omega)
   by_cases hi3 : i < 3
   .have d3 : decide ((i : Int) < 3) = true := decide_eq_true (by omega)
    have d4 : decide ((65536 : Int) <= (bytes.length : Int)) = false := decide_eq_false (by omega)
    have d5 : decide ((bytes.length : Int) ≥ 65536) = false := decide_eq_false (by omega)
    simp (disch := omega) only [aoK, kR, kQ, d3, fZ, cS, iH, n1, fU, fM, eQ, hZ, iE, d4]
    refine (AE (x := bytes.length) (n := 2) hwr1 (fun y hy => .inr hy) (by omega) (by omega) (by omega)).mono ?_
    rintro r W2 ⟨rfl, hw2, x2⟩
    unfold yE yI
    have hsz : Xl (P ++ [bytes]) = Xl P ++ pB bytes.length 2 := by rw [XV, if_pos (by omega)]
    rw [<- hsz] at hw2
    exact fin W2 (fun y => (SW y ∨ W1.heap.size <= y) /\ y < W2.heap.size) (hw2.turn (fun y hy h => ⟨hy, h⟩) (fun h => hw2.1 h.1)) x2 (fun y hy => hy)
   .have d3 : decide ((i : Int) < 3) = false := decide_eq_false (by omega)
    simp (disch := omega) only [aoK, kR, kQ, d3, fU, cS, iH, n1]
    unfold yE yI
    have hsz : Xl (P ++ [bytes]) = Xl P := by rw [XV, if_neg (by omega)]
    rw [<- hsz] at hwr1
    exact fin W1 (fun y => (SW y ∨ W1.heap.size <= y) /\ y < W1.heap.size) (hwr1.turn (fun y hy h => ⟨hy, h⟩) (fun h => hwr1.1 h.1)) (jM.refl _ _) (fun y hy => hy)
 .have d1 : decide ((i : Int) < 4) = false := decide_eq_false (by omega)
  obtain rfl : i = 4 := by omega
  simp (disch := omega) only [gE, hJ, d1, cS, fU]
  unfold yD
  have hwr1 : Cw W p (fun y => SW y ∨ W.heap.size <= y) (Xl P) := hwr.turn (fun y hy _ => .inl hy) (fun h => by
   rcases h with h | h
   .exact hwr.1 h
   .omega)
  have hszl := Xt P
  refine (Vo hwr1 (fun y hy => .inr hy) (adN hal2) (by omega)).mono ?_
  rintro r W2 ⟨rfl, hw2, x2⟩
  refine (NR hw2 (by rw [aoL]; omega)).mono ?_
  rintro r W3 ⟨o3, x3⟩
  have z2 := x2.size
  have hat := yB.atI o3
  obtain ⟨a3, c3, rfl⟩ := o3.len
  refine hok W3 _ P hPl hheld ?_ o3.sl (fun M hM => hat M fun y h1 h2 => hM y (by omega) h2) ((hx.trans x2 fun y _ h => ?_).trans x3 fun _ _ h => h.elim)
  .intro s hs
   have hall' : ∀ j, j < 4 -> ∀ s ∈ jZ (sg l q j), 0 < bitsOf C s := fun j hj => hall j (by omega)
   have := afM (l := l) (q := q)
   rw [<- this] at hs
   simp only [jZ, apN, aqJ] at hs
   rcases hs with hs | hs | hs | hs
   .exact hall' 0 (by omega) s hs
   .exact hall' 1 (by omega) s hs
   .exact hall' 2 (by omega) s hs
   .exact hall' 3 (by omega) s hs
  .rcases h with h | h | h
   .omega
   .exact (hS0 y h).1
   .omega
theorem Xa {lv sv : atP} {wl l : List UInt8} {w : atO} (hw : Bs w lv wl) (hwl : wl.length <= 100000) (h : Bs w sv l) (hl : l.length <= 131072) :
 jD pg Dj #[lv, sv] w (fun r w' => amE w' w.heap.size wl l (fun b => ahN wl b l.length) (11 * l.length / 8 + 12) (l.length < 3 * ((l.length + 3) / 4)) r /\ jM w w' mN) := by
 refine Sh ?_
 unfold SN EW Fx
 by_cases hd : oC (jZ wl) = 0
 .refine (WO hw hwl hd).mono ?_
  rintro r w1 ⟨rfl, rfl⟩
  have n0 : ((1 : Int) != 0) = true := rfl
  simp (disch := omega) only [gE, kR, kQ, cS, iH, n0, fZ]
  exact ⟨.inl ⟨.inl hd, rfl⟩, jM.refl _ _⟩
 .refine (ZW hw rfl hd).mono ?_
  rintro r w1 ⟨b, rfl, hb, ob, x1⟩
  have n0 : ((0 : Int) != 0) = false := rfl
  have h1 := h.ext x1 (kJ _)
  have hv := h1
  obtain ⟨a, c, rfl, hc⟩ := h1.len
  rw [aoK] at hv ⊢
  obtain ⟨q, hq⟩ : ∃ q, q = (l.length + 3) / 4 := ⟨_, rfl⟩
  simp (disch := omega) only [gE, kR, kQ, fM, cS, iH, n0, fU]
  refine (agM hl hq w1).mono ?_
  rintro r w2 ⟨rfl, x2⟩
  simp (disch := omega) only [kR, kQ, cS, iI, gQ]
  refine VG fun w3 o3 x3 s3 => ?_
  refine Uj o3 rfl (by simp [one]) (by simp) fun w4 o4 x4 s4 => ?_
  simp only [qL, aoZ, apC] at o4
  have x14 : jM w1 w4 mN := (x2.seq x3).trans x4 fun y hy h => by have := x2.size; omega
  have z1 := x1.size
  have z2 := x2.size
  have z14 := x14.size
  by_cases hbad : l.length < 3 * q
  .have d1 : decide (3 * (q : Int) <= (l.length : Int)) = false := decide_eq_false (by omega)
   simp (disch := omega) only [d1, aoI, gU, if_true, fZ, gI]
   exact ⟨.inl ⟨.inr (.inl (by rw [<- hq]; exact hbad)), rfl⟩, x1.seq x14⟩
  .have d1 : decide (3 * (q : Int) <= (l.length : Int)) = true := decide_eq_true (by omega)
   have d2 : decide ((l.length : Int) > 131072) = false := decide_eq_false (by omega)
   have d3 : decide ((131072 : Int) < (l.length : Int)) = false := decide_eq_false (by omega)
   simp (disch := omega) only [d1, aoJ, gT, aoD, if_false, gM, fM, cS, hU, d2, fU]
   refine (ER w4).mono ?_
   rintro r w5 ⟨rfl, hlt5, hw5, x5⟩
   have z5 := x5.size
   unfold EU Fh Fw
   have q1 := XQ (off := 0) (o4.ext x5 (fun h => h)) (by simp)
   simp only [arF, List.take_succ_cons, List.take_zero] at q1
   simp (disch := omega) only [gE, q1, cS]
   have x15 : jM w1 w5 mN := x14.seq x5
   have hlc : wl.length = (wC wl).length := by rw [BU, mY]
   rw [hlc]
   have hb1 := ob.lt
   refine abT (b := b) (n0 := w4.heap.size) (q := q) (aeE hd) (ob.ext x15 (fun h => h)) (hv.ext x15 (kJ _)) (by omega) (by omega) (by omega) hl z5 (aoP _) (by omega) ?_ (SW0 := fun y => w4.heap.size < y /\ y < w5.heap.size) ?_ (fun y hy => ⟨by omega, hy.2⟩) ?_ ?_
   .exact fun hh => (hv.ext x14 (kJ _)).old hh
   .exact hw5.turn (fun y hy h => ⟨hy, h⟩) (fun h => by omega)
   .intro W hbd x6
    exact ⟨.inl ⟨.inr (.inr hbd), rfl⟩, ((x1.seq x15).trans x6 fun y hy h => by omega)⟩
   .intro W v P hP hheld hall hbs hat x6
    have z6 := x6.size
    refine ⟨.inr ⟨hd, hall, v, _, rfl, hbs, fun M hM => hat M fun y h1 h2 => hM y (by omega) h2, ?_, ?_⟩, (x1.seq x15).trans x6 fun y hy h => by omega⟩
    .have hP4 : ∀ (j : Nat) (s : List UInt8), P[j]? = some s -> 8 * s.length <= 11 * (if j < 3 then q else l.length - 3 * q) + 8 := fun j s hj => by
      have h1 := hheld j s hj
      have h2 := rC (Xd hd) (jZ (sg l q j))
      have h3 := Ow (l := l) (q := q) (i := j) (by omega)
      rw [mY, h3] at h2
      rw [h1.len, aoL, apS]
      omega
     have hs6 := Xt P
     match P, hP with
     | [a, b, c, d], _ =>
       have h1 := hP4 0 a rfl
       have h2 := hP4 1 b rfl
       have h3 := hP4 2 c rfl
       have h4 := hP4 3 d rfl
       simp only [show (0 : Nat) < 3 from by omega, show (1 : Nat) < 3 from by omega, show (2 : Nat) < 3 from by omega, if_true, Nat.lt_irrefl, if_false] at h1 h2 h3 h4
       simp only [aoL, atC, List.flatten_nil, List.length_nil]
       omega
    .show ahN wl (Xl P ++ P.flatten) l.length = _
     match P, hP with
     | [a, b, c, d], _ =>
       have e : [a, b, c, d].flatten = a ++ (b ++ (c ++ d)) := by simp
       rw [e]
       have hlen : ∀ (j : Nat) (s : List UInt8), [a, b, c, d][j]? = some s -> s.length < 65536 /\ SC (wC wl) s (sg l q j).length = .ok (jZ (sg l q j)) := fun j s hj => by
        have hj4 : j < 4 := by
         rcases aoT j 4 with h | h
         .exact h
         .rw [aoS (by simpa using h)] at hj; cases hj
        have h1 := hheld j s hj
        have h2 := rC (Xd hd) (jZ (sg l q j))
        have h3 : (sg l q j).length <= 32768 := by rw [Ow (by omega)]; split <;> omega
        rw [mY] at h2
        refine ⟨by rw [h1.len, aoL, apS]; omega, Wo hd (fun x hx => hall x ?_) h1⟩
        have hsub : ∀ x ∈ sg l q j, x ∈ l := fun x hx => by
         unfold sg at hx
         split at hx
         .exact asM (aqM hx)
         .exact asM hx
        obtain ⟨y, hy1, hy2⟩ := aqB.1 hx
        exact aqB.2 ⟨y, hsub y hy1, hy2⟩
       obtain ⟨la, ha⟩ := hlen 0 a rfl
       obtain ⟨lb, hb⟩ := hlen 1 b rfl
       obtain ⟨lc, hc⟩ := hlen 2 c rfl
       obtain ⟨-, hdd⟩ := hlen 3 d rfl
       rw [hq] at ha hb hc hdd hbad
       exact acV hd (by omega) hl ha hb hc hdd la lb lc
end Go.Proofs.YtoecppploooloaaGreatDoor
namespace Go.Pu
open Go Go.En
def MJ (m : List Nat) : List Nat := (List.range ((m.length + 1) / 2)).map fun j => m.getD (2 * j) 0 * 16 + m.getD (2 * j + 1) 0
theorem SM (m : List Nat) : (MJ m).length = (m.length + 1) / 2 := by simp [MJ]
theorem acM {m : List Nat} {j : Nat} (h : j < (m.length + 1) / 2) : (MJ m).getD j 0 = m.getD (2 * j) 0 * 16 + m.getD (2 * j + 1) 0 := by
 rw [aoN]
 unfold MJ
 rw [aoY, asR h] <;> rfl
theorem ahY {m : List Nat} (h : ∀ x ∈ m, x < 16) (i : Nat) : m.getD i 0 < 16 := by
 rcases aoT i m.length with hi | hi
 .exact h _ (DP hi)
 .rw [aoN, aoS hi]; decide
end Go.Pu
namespace Go.Proofs.YtoecppploooloaaGreatDoor
open Go Go.En Go.Pu
set_option maxRecDepth 4000
abbrev On (m : List Nat) : List UInt8 := m.map UInt8.ofNat
theorem Zf {x : Nat} (h : x < 256) : oZ (UInt8.ofNat x) = .int .u8 (x : Nat) := by
 unfold oZ; rw [asW h]
end Go.Proofs.YtoecppploooloaaGreatDoor
namespace Go.Pu
theorem YZ {B : Nat} : ∀ {l : List Nat}, (∀ n ∈ l, n <= B) -> l.sum <= l.length * B
 | [], _ => by simp
 | n :: l, h => by
   have h1 := h n (apL ..)
   have h2 := YZ (l := l) fun m hm => h m (aoR _ hm)
   rw [arT, aoV, Nat.succ_mul]; omega
theorem aeV {n : Nat} : ∀ {l : List Nat}, n ∈ l -> n <= l.sum
 | [], h => by cases h
 | m :: l, h => by
   rw [arT]
   rcases apZ.1 h with rfl | h
   .omega
   .have := aeV h; omega
def Em (n : Nat) : Bool := decide (0 < n)
def RG (ns : List Nat) (i last : Nat) : Prop := (last = 0 /\ ∀ j, j < i -> ns.getD j 0 = 0) ∨ (last < i /\ 0 < ns.getD last 0 /\ ∀ j, last < j -> j < i -> ns.getD j 0 = 0)
theorem RG.step {ns : List Nat} {i last : Nat} (h : RG ns i last) : RG ns (i + 1) (if 0 < ns.getD i 0 then i else last) := by
 split
 .rename_i h0
  exact .inr ⟨by omega, h0, fun j h1 h2 => by omega⟩
 .rename_i h0
  rcases h with ⟨rfl, h⟩ | ⟨h1, h2, h3⟩
  .refine .inl ⟨rfl, fun j hj => ?_⟩
   rcases aoT j i with h' | h'
   .exact h j h'
   .have : j = i := by omega
    subst this; omega
  .refine .inr ⟨by omega, h2, fun j hj hj2 => ?_⟩
   rcases aoT j i with h' | h'
   .exact h3 j hj h'
   .have : j = i := by omega
    subst this; omega
theorem RG.one {ns : List Nat} {i a b : Nat} (ha : RG ns i a) (hb : RG ns i b) : a = b := by
 rcases ha with ⟨rfl, h⟩ | ⟨h1, h2, h3⟩
 .rcases hb with ⟨rfl, _⟩ | ⟨k1, k2, _⟩
  .rfl
  .have := h b k1; omega
 .rcases hb with ⟨rfl, k⟩ | ⟨k1, k2, k3⟩
  .have := k a h1; omega
  .rcases atB a b with h | h | h
   .have := h3 b h k1; omega
   .exact h
   .have := k3 a h h1; omega
theorem pG {ns : List Nat} {i : Nat} (h : i < ns.length) : ns.getD i 0 = ns[i] := by rw [aoN, aoM h] <;> rfl
theorem acS {α : Type} {ns : List α} {i : Nat} (h : i < ns.length) : ns.take (i + 1) = ns.take i ++ [ns[i]] := by
 rw [arZ, aoM h] <;> rfl
theorem C1 {ns : List Nat} {i : Nat} (h : i < ns.length) : ns.take (i + 1) = ns.take i ++ [ns.getD i 0] := by rw [acS h, pG h]
theorem Tr : ∀ {l : List Nat}, (∀ n ∈ l, n = 0) -> l.sum = 0
 | [], _ => rfl
 | n :: l, h => by rw [arT, h n (apL ..), Tr fun m hm => h m (aoR _ hm)]
theorem Tt : ∀ {l : List Nat}, (∀ n ∈ l, n = 0) -> l.countP Em = 0
 | [], _ => rfl
 | n :: l, h => by
   rw [List.countP_cons, h n (apL ..), Tt fun m hm => h m (aoR _ hm)] <;> rfl
theorem La {P : List Nat} {gr i : Nat} (x : Nat) (hg : gr < P.length) (hi : i < P.length) : (P.set gr x).getD i 0 = if i = gr then x else P.getD i 0 := by
 rw [aoN, aoN, List.getElem?_set]
 by_cases h : i = gr
 .subst h; simp [hi]
 .rw [if_neg (fun e => h e.symm), if_neg h]
end Go.Pu
namespace Go.Pu
open Go Go.En
theorem Ul (f : Nat -> Nat) : ∀ {l : List Nat} {i : Nat} (o : Nat) (h : i < l.length), ((l.set i o).map f).sum + f l[i] = (l.map f).sum + f o
 | [], i, o, h => by simp at h
 | x :: l, 0, o, h => by rw [aoZ, apJ, apJ, arT, arT, atE]; omega
 | x :: l, i + 1, o, h => by
   rw [apC, apJ, apJ, arT, arT, aqZ]
   have := Ul f (l := l) (i := i) o (by simpa using h)
   omega
def Ys (out : List Nat) : Nat := (out.map fun o => 11 - o).sum
structure Mo (ns out : List Nat) : Prop where
 len : out.length = ns.length
 off : ∀ i, i < ns.length -> ns.getD i 0 = 0 -> out.getD i 0 = 0
 on : ∀ i, i < ns.length -> 0 < ns.getD i 0 -> 1 <= out.getD i 0 /\ out.getD i 0 <= 11
theorem Mo.set {ns out : List Nat} {i o : Nat} (h : Mo ns out) (hi : i < ns.length) (hn : 0 < ns.getD i 0) (h1 : 1 <= o) (h2 : o <= 11) : Mo ns (out.set i o) := by
 have hl := h.len
 refine ⟨by rw [arI]; exact hl, fun j hj h0 => ?_, fun j hj h0 => ?_⟩
 .rw [La _ (by omega) (by omega)]
  split
  .rename_i e; subst e; omega
  .exact h.off j hj h0
 .rw [La _ (by omega) (by omega)]
  split
  .exact ⟨h1, h2⟩
  .exact h.on j hj h0
theorem Mo.le {ns out : List Nat} (h : Mo ns out) {i : Nat} (hi : i < out.length) : out[i] <= 11 := by
 rw [<- pG hi]
 have hl := h.len
 rcases arE (ns.getD i 0) with h0 | h0
 .rw [h.off i (by omega) h0]; omega
 .exact (h.on i (by omega) h0).2
theorem X0 {ns out : List Nat} (h : Mo ns out) (hl : ns.length <= 256) (hno : ∀ j, j < ns.length -> ¬ (0 < ns.getD j 0 /\ out.getD j 0 < 11)) : mR out <= 256 := by
 have hlen := h.len
 refine aqC (RN fun o ho => ?_) (by omega)
 obtain ⟨i, hi, rfl⟩ := aqF ho
 rw [<- pG hi]
 rcases arE (ns.getD i 0) with h0 | h0
 .exact .inl (h.off i (by omega) h0)
 .have := hno i (by omega)
  have := h.on i (by omega) h0
  omega
theorem Xe {ns out : List Nat} (h : Mo ns out) {there : Nat} (hth : there < ns.length) (hth0 : 0 < ns.getD there 0) (hroom : mR out < 2048) : ∃ j, j < ns.length /\ 0 < ns.getD j 0 /\ 2 ^ (11 - out.getD j 0) <= 2048 - mR out := by
 have hlen := h.len
 have hmax : ∀ k, k <= ns.length -> (∃ j, j < k /\ 0 < ns.getD j 0) -> ∃ j, j < k /\ 0 < ns.getD j 0 /\ ∀ i, i < k -> 0 < ns.getD i 0 -> out.getD i 0 <= out.getD j 0 := by
  intro k
  induction k with
  | zero => rintro _ ⟨j, hj, _⟩; omega
  | succ k ih =>
    intro hk hex
    by_cases hex2 : ∃ j, j < k /\ 0 < ns.getD j 0
    .obtain ⟨j, h1, h2, h3⟩ := ih (by omega) hex2
     by_cases hb : 0 < ns.getD k 0 /\ out.getD j 0 < out.getD k 0
     .refine ⟨k, by omega, hb.1, fun i hi hi0 => ?_⟩
      by_cases hik : i = k
      .subst hik; omega
      .have := h3 i (by omega) hi0; omega
     .refine ⟨j, by omega, h2, fun i hi hi0 => ?_⟩
      by_cases hik : i = k
      .subst hik; omega
      .exact h3 i (by omega) hi0
    .obtain ⟨j, h1, h2⟩ := hex
     have hjk : j = k := by
      rcases aoT j k with h' | h'
      .exact absurd ⟨j, h', h2⟩ hex2
      .omega
     subst hjk
     refine ⟨j, by omega, h2, fun i hi hi0 => ?_⟩
     rcases aoT i j with h' | h'
     .exact absurd ⟨i, h', hi0⟩ hex2
     .have : i = j := by omega
      subst this; omega
 obtain ⟨j, hj, hj0, hjm⟩ := hmax ns.length (aoP _) ⟨there, hth, hth0⟩
 obtain ⟨q1, q2⟩ := h.on j hj hj0
 refine ⟨j, hj, hj0, ?_⟩
 have hd := WR (M := out.getD j 0) q2 (l := out) fun o ho => by
  obtain ⟨i, hi, rfl⟩ := aqF ho
  rw [<- pG hi]
  rcases arE (ns.getD i 0) with h0 | h0
  .rw [h.off i (by omega) h0]; omega
  .exact hjm i (by omega) h0
 have h2048 : 2 ^ (11 - out.getD j 0) ∣ 2048 := by
  rw [show (2048 : Nat) = 2 ^ 11 from rfl]
  exact atM 2 (by omega)
 have hd2 := Nat.dvd_sub h2048 hd
 exact Nat.le_of_dvd (by omega) hd2
theorem abO {ns out : List Nat} (h : Mo ns out) {a b : Nat} (ha : a < ns.length) (hb : b < ns.length) (hab : a ≠ b) (ha0 : 0 < ns.getD a 0) (hb0 : 0 < ns.getD b 0) (hr : 2 ^ (11 - out.getD a 0) <= 2048 - mR out) (hk : mR out <= 2048) : 2 <= out.getD a 0 := by
 have hlen := h.len
 obtain ⟨q1, q2⟩ := h.on a ha ha0
 obtain ⟨r1, r2⟩ := h.on b hb hb0
 rcases aoT (out.getD a 0) 2 with h1 | h1
 .exfalso
  have ea : out.getD a 0 = 1 := by omega
  rw [ea] at hr
  have hka : tY (out[a]'(by omega)) = 1024 := by rw [<- pG (by omega), ea] <;> rfl
  have hkb : 1 <= tY (out[b]'(by omega)) := aaL (by rw [<- pG (by omega)]; omega)
  have : tY (out[a]'(by omega)) + tY (out[b]'(by omega)) <= mR out := by
   rcases Nat.lt_or_gt_of_ne hab with h | h
   .exact T4 (by omega) (by omega) h
   .have := T4 (l := out) (i := b) (j := a) (by omega) (by omega) h; omega
  have : (2 : Nat) ^ (11 - 1) = 1024 := rfl
  omega
 .exact h1
theorem agO {ns : List Nat} : ∀ {c : Nat}, 2 <= ns.countP Em -> ∃ b, b < ns.length /\ 0 < ns.getD b 0 /\ b ≠ c := by
 intro c h
 induction ns generalizing c with
 | nil => simp at h
 | cons x ns ih =>
   rw [List.countP_cons] at h
   by_cases hx : 0 < x
   .cases c with
    | succ c => exact ⟨0, by simp, by simpa using hx, by omega⟩
    | zero =>
      have h1 : 1 <= ns.countP Em := by
       split at h <;> omega
      have : ∃ y ∈ ns, Em y = true := by
       rw [<- List.countP_pos_iff]; omega
      obtain ⟨y, hy, hy0⟩ := this
      obtain ⟨i, hi, rfl⟩ := aqF hy
      refine ⟨i + 1, by simpa using hi, ?_, by omega⟩
      rw [pG (by simpa using hi)]
      simpa [Em] using hy0
   .have hon : Em x = false := by unfold Em; simpa using hx
    rw [hon] at h
    simp only [aoD, if_false, apY] at h
    obtain ⟨b, h1, h2, h3⟩ := ih (c := c - 1) h
    cases c with
    | zero => exact ⟨b + 1, by simpa using h1, by simpa using h2, by omega⟩
    | succ c => exact ⟨b + 1, by simpa using h1, by simpa using h2, by simp at h3; omega⟩
end Go.Pu
namespace Go.Proofs.YtoecppploooloaaGreatDoor
open Go Go.En Go.Pu
set_option maxRecDepth 4000
abbrev oc (out : List Nat) : List atP := out.map fun (n : Nat) => Value.int .i64 n
theorem Jv {out : List Nat} {i : Nat} (h : i < out.length) : (oc out)[i]? = some (.int .i64 (out.getD i 0 : Nat)) := by
 rw [aoY, aoM h, <- pG h] <;> rfl
theorem Zg (out : List Nat) (i x : Nat) : (oc out).set i (.int .i64 x) = oc (out.set i x) := by unfold oc; rw [asI]
abbrev Oo (ns : List Nat) : List atP := ns.map fun (n : Nat) => Value.int .u32 n
theorem LM {ns : List Nat} {i : Nat} (h : i < ns.length) : (Oo ns)[i]? = some (.int .u32 (ns.getD i 0 : Nat)) := by
 rw [aoY, aoM h, <- pG h] <;> rfl
theorem acG {pb S : Nat} {ov : atP} {ns : List Nat} {w : atO} (hs : Sl w ov (Oo ns)) (hn : ∀ n ∈ ns, n <= 4294967295) (hl : ns.length <= 256) (hS0 : 0 < S) (hS : S <= 2147483647) (ob : mQ w pb (oc (List.replicate ns.length 0))) (hat : ¬ Lf ov (fun y => y = pb)) {RR : atP -> atO -> Prop}
 (hK : ∀ out w', Mo ns out -> mQ w' pb (oc out) -> jM w w' (fun y => y = pb) -> rR RR ov (.slice (some ⟨pb, 0, none⟩) ns.length ns.length) (.int .i64 (2048 - (mR out : Nat))) w') :
 uW RR ov (.int .u64 S) (.slice (some ⟨pb, 0, none⟩) ns.length ns.length) (.int .i64 2048) w := by
 unfold uW Bf BJ
 obtain ⟨a, c, hv, hc⟩ := hs.len
 rw [aoK] at hv
 subst hv
 simp (disch := omega) only [gE, fJ, cS]
 unfold BB BS
 refine kE.rule (fun m (t : atP × atP) w' => ∃ (i : Nat) (out : List Nat), m = ns.length - i /\ t = (.int .i64 (2048 - (mR out : Nat)), .int .i64 i) /\ i <= ns.length /\ out.length = ns.length /\ (∀ j, i <= j -> out.getD j 0 = 0) /\
  (∀ j, j < i -> ns.getD j 0 = 0 -> out.getD j 0 = 0) /\ (∀ j, j < i -> 0 < ns.getD j 0 -> 1 <= out.getD j 0 /\ out.getD j 0 <= 11) /\ mR out <= 1024 * i /\ mQ w' pb (oc out) /\ jM w w' (fun y => y = pb)) ns.length
  ⟨0, List.replicate ns.length 0, rfl, ?_, by omega, by simp, ?_, fun j h => by omega, fun j h => by omega, ?_, ob, jM.refl _ _⟩ ?_
 .have : mR (List.replicate ns.length 0) = 0 := by
   unfold mR
   rw [List.map_replicate]
   exact Tr fun n hn => by rw [asY hn] <;> rfl
  rw [this] <;> rfl
 .intro j _
  rw [aoN, arS]
  split <;> rfl
 .unfold mR
  rw [List.map_replicate, Tr fun n hn => by rw [asY hn] <;> rfl]; omega
 rintro m t w1 ⟨i, out, rfl, rfl, hi, hlen, hz, hoff, hon, hkr, ob1, x1⟩
 unfold uQ BG
 by_cases hlt : i < ns.length
 .have d1 : decide ((i : Int) < (ns.length : Int)) = true := by simp; omega
  obtain ⟨b1, off1, rfl, hcell1⟩ := slA (hs.ext x1 hat) (by omega)
  have g1 := hcell1 i hlt
  rw [LM hlt] at g1
  have hni : ns.getD i 0 <= 4294967295 := by rw [pG hlt]; exact hn _ (aqE hlt)
  generalize hnv : ns.getD i 0 = n at *
  unfold vE
  by_cases h0 : 0 < n
  .have d2 : decide ((0 : Int) < (n : Int)) = true := by simp; omega
   have e1 : (S : Int) - 1 = ((S - 1 : Nat) : Int) := by omega
   have e2 : ((S - 1 : Nat) : Int).tdiv (n : Int) = (((S - 1) / n : Nat) : Int) := by rw [arO (by omega)]; simp
   have n2 : ((n : Int) == 0) = false := beq_eq_false_iff_ne.2 (by omega)
   have hq : (S - 1) / n <= S - 1 := asV _ _
   generalize (S - 1) / n = qv at *
   simp (disch := omega) only [gE, hJ, d1, fI, aoE, iA, e1, hZ, gA, aoH, hO, gY, cS, gR, gC, g1, gB, hU, d2, cU, iM, e2, fZ]
   refine (ZM qv (by omega) w1).mono ?_
   rintro r w2 ⟨rfl, rfl⟩
   have hbl : bl qv <= 32 := OR (by omega)
   generalize bl qv = y at *
   have hmx : (if (1 : Int) > (y : Int) then (1 : Int) else (y : Int)) = ((max y 1 : Nat) : Int) := by split <;> omega
   have hmn : (if (11 : Int) < ((max y 1 : Nat) : Int) then (11 : Int) else ((max y 1 : Nat) : Int)) = ((min (max y 1) 11 : Nat) : Int) := by split <;> omega
   have hxb : 1 <= min (max y 1) 11 /\ min (max y 1) 11 <= 11 := by omega
   generalize min (max y 1) 11 = x at *
   have hks := Pc (l := out) (i := i) x (by omega)
   have hoi : out[i]'(by omega) = 0 := by rw [<- pG (by omega)]; exact hz i (aoP _)
   rw [hoi] at hks
   have hk0 : tY 0 = 0 := rfl
   have hkx : tY x = 2 ^ (11 - x) := by unfold tY; rw [if_neg (by omega)]
   have hpx : 2 ^ (11 - x) <= 2 ^ 10 := apE (by omega) (by omega)
   rw [hk0, hkx, apY] at hks
   simp only [gt_iff_lt] at hmx
   simp (disch := omega) only [iP, gt_iff_lt, hmx, cS, iQ, hmn]
   refine Lt ob1 rfl (by rw [aoK]; omega) fun w3 ob3 x3 s3 => ?_
   rw [Zg] at ob3
   have f1 := ob3.cell (off := i)
   rw [Jv (by rw [arI]; omega), La x (by omega) (by omega), if_pos rfl] at f1
   have e3 : (11 : Int) - (x : Int) = ((11 - x : Nat) : Int) := by omega
   have hsh := acU (n := 11 - x) (by omega)
   have e4 : (2048 : Int) - ((mR out : Nat) : Int) - ((2 ^ (11 - x) : Nat) : Int) = 2048 - ((mR (out.set i x) : Nat) : Int) := by omega
   simp (disch := omega) only [f1, gB, cS, iA, e3, gY, iD, aoE, hsh, e4]
   refine ⟨ns.length - (i + 1), by omega, i + 1, out.set i x, rfl, rfl, by omega, by rw [arI]; exact hlen, ?_, ?_, ?_, by omega, ob3, x1.trans x3 fun _ _ h => h⟩
   .intro j hj
    rcases aoT j out.length with h | h
    .rw [La x (by omega) h, if_neg (by omega)]; exact hz j (by omega)
    .rw [aoN, aoS (by rw [arI]; exact h)] <;> rfl
   .intro j hj h0'
    rw [La x (by omega) (by omega)]
    split
    .rename_i e; subst e; omega
    .exact hoff j (by omega) h0'
   .intro j hj h0'
    rw [La x (by omega) (by omega)]
    split
    .exact hxb
    .exact hon j (by omega) h0'
  .have d2 : decide ((0 : Int) < (n : Int)) = false := by simp; omega
   simp (disch := omega) only [gE, hJ, d1, fI, aoE, iA, hZ, gA, aoH, hO, gY, cS, gR, gC, g1, gB, hU, d2, cU, fU, fZ]
   refine ⟨ns.length - (i + 1), by omega, i + 1, out, rfl, rfl, by omega, hlen, fun j hj => hz j (by omega), ?_, ?_, by omega, ob1, x1⟩
   .intro j hj h0'
    rcases aoT j i with h | h
    .exact hoff j h h0'
    .exact hz j h
   .intro j hj h0'
    rcases aoT j i with h | h
    .exact hon j h h0'
    .have : j = i := by omega
     subst this; omega
 .have d1 : decide ((i : Int) < (ns.length : Int)) = false := by simp; omega
  obtain rfl : i = ns.length := by omega
  simp (disch := omega) only [gE, hJ, d1, iA, hZ, cS, fU]
  exact hK out w1 ⟨hlen, hoff, hon⟩ ob1 x1
theorem RS (b : Bool) : kP undef b = false := by cases b <;> rfl
def Yc (ns out : List Nat) (i : Nat) (at' : Int) : Prop := (at' = -1 /\ ∀ j, j < i -> ¬ (0 < ns.getD j 0 /\ out.getD j 0 < 11)) ∨ (∃ a : Nat, at' = a /\ a < ns.length /\ 0 < ns.getD a 0 /\ out.getD a 0 < 11)
theorem acA {pb : Nat} {ov : atP} {room : Int} {ns out : List Nat} {w : atO} (hs : Sl w ov (Oo ns)) (hn : ∀ n ∈ ns, n <= 4294967295) (hl : ns.length <= 256) (h : Mo ns out) (ob : mQ w pb (oc out)) {kn : atP -> atP -> atP -> atP -> atO -> Prop}
 (hK : ∀ at' w', Yc ns out ns.length at' -> jM w w' mN -> kn ov (.slice (some ⟨pb, 0, none⟩) ns.length ns.length) (.int .i64 room) (.int .i64 at') w') :
 vD kn ov (.slice (some ⟨pb, 0, none⟩) ns.length ns.length) (.int .i64 room) (.int .i64 (-1)) w := by
 unfold vD BP
 obtain ⟨a, c, hv, hc⟩ := hs.len
 rw [aoK] at hv
 subst hv
 have hlen := h.len
 simp (disch := omega) only [gE, fJ, cS]
 unfold Bd BE
 refine kE.rule (fun m (t : atP × atP) w' => ∃ (i : Nat) (at' : Int), m = ns.length - i /\ t = (.int .i64 at', .int .i64 i) /\ i <= ns.length /\ Yc ns out i at' /\ jM w w' mN) ns.length
  ⟨0, -1, rfl, rfl, by omega, .inl ⟨rfl, fun j h => by omega⟩, jM.refl _ _⟩ ?_
 rintro m t w1 ⟨i, at', rfl, rfl, hi, hp, x1⟩
 unfold uX Bx
 by_cases hlt : i < ns.length
 .have d1 : decide ((i : Int) < (ns.length : Int)) = true := by simp; omega
  have x1d : jM w (dr w1) mN := x1.seq (jM.dr _ _)
  obtain ⟨b1, off1, rfl, hcell1⟩ := slA (hs.ext x1 (kJ _)) (by omega)
  have g1 := hcell1 i hlt
  rw [LM hlt] at g1
  have g1d : (dr w1).cell? ⟨b1, off1 + i, none⟩ = _ := g1
  have f1 := (ob.ext x1d (fun h => h)).cell (off := i)
  rw [Jv (by omega)] at f1
  have keep : ¬ (0 < ns.getD i 0 /\ out.getD i 0 < 11) -> Yc ns out (i + 1) at' := fun hb => by
   rcases hp with ⟨q1, q2⟩ | q
   .refine .inl ⟨q1, fun j hj => ?_⟩
    rcases aoT j i with h' | h'
    .exact q2 j h'
    .have : j = i := by omega
     subst this; exact hb
   .exact .inr q
  have keep2 : (0 : Int) <= at' -> Yc ns out (i + 1) at' := fun hb => by
   rcases hp with ⟨q1, q2⟩ | q
   .omega
   .exact .inr q
  have new : 0 < ns.getD i 0 -> out.getD i 0 < 11 -> Yc ns out (i + 1) (i : Int) := fun q1 q2 => .inr ⟨i, rfl, hlt, q1, q2⟩
  unfold uY
  by_cases h0 : 0 < ns.getD i 0
  .have d2 : decide ((0 : Int) < ((ns.getD i 0 : Nat) : Int)) = true := by simp only [decide_eq_true_eq]; omega
   by_cases h11 : out.getD i 0 < 11
   .have d3 : decide (((out.getD i 0 : Nat) : Int) < (11 : Int)) = true := by simp only [decide_eq_true_eq]; omega
    rcases hp with ⟨rfl, q2⟩ | ⟨a, rfl, ha, ha0, ha11⟩
    .have d4 : decide ((-1 : Int) < 0) = true := rfl
     simp (disch := omega) only [gE, hJ, d1, fI, aoE, hO, gY, cS, true_and, gC, g1, gB, hU, d2, gV, gQ, if_true, gM, gA, aoH, gR, f1, d3, d4, gU, fZ, gI, RS]
     exact ⟨ns.length - (i + 1), by omega, i + 1, _, rfl, rfl, by omega, new h0 h11, x1d⟩
    .have d4 : decide ((a : Int) < 0) = false := by simp
     have f2 := (ob.ext x1d (fun h => h)).cell (off := a)
     rw [Jv (by omega)] at f2
     have g2 : (dr w1).cell? ⟨b1, off1 + a, none⟩ = _ := hcell1 a ha
     rw [LM ha] at g2
     by_cases h5 : out.getD a 0 < out.getD i 0
     .have d5 : decide (((out.getD a 0 : Nat) : Int) < ((out.getD i 0 : Nat) : Int)) = true := by simp only [decide_eq_true_eq]; omega
      simp (disch := omega) only [gE, hJ, d1, fI, aoE, hO, gY, cS, true_and, gC, g1, gB, hU, d2, gV, gQ, if_true, gM, gA, aoH, gR, f1, d3, d4, gT, aoD, if_false, f2, d5, gU, fZ, gI, RS]
      exact ⟨ns.length - (i + 1), by omega, i + 1, _, rfl, rfl, by omega, new h0 h11, x1d⟩
     .have d5 : decide (((out.getD a 0 : Nat) : Int) < ((out.getD i 0 : Nat) : Int)) = false := by simp only [decide_eq_false_iff_not]; omega
      by_cases h6 : out.getD i 0 = out.getD a 0
      .have d6 : (((out.getD i 0 : Nat) : Int) == ((out.getD a 0 : Nat) : Int)) = true := by rw [h6]; simp
       by_cases h7 : ns.getD i 0 < ns.getD a 0
       .have d7 : decide (((ns.getD i 0 : Nat) : Int) < ((ns.getD a 0 : Nat) : Int)) = true := by simp only [decide_eq_true_eq]; omega
        simp (maxSteps := 4000000) (disch := omega) only [gE, jE, cS, stepR_skip, hO, iA, iO, iM, iJ, iL, jH, iT, gL, iD, iF, iC, iH, hJ, iN, hU, iE, iR, iS, iI, gQ, iQ, iP, iG, kR, kQ, lE, lH, lG, lD, lF, lC, lB, gB, Result.ok.injEq, Next.value.injEq, true_and, and_true, gY, hZ, iV, iW, iU, jG, aoE, gV, gU, gX, gT, gM, gI, gN, gK, fZ, fU, if_true, if_false, aoD, aoH, aoF, aoG, aoJ, aoI, aoC, aoB, fM, fS, fL, fQ, gJ, fK, bG, bQ, gF, eH, eE, fJ, fI, gC, cU, dK, gD, gA, gR, eF, eP, dL, dJ, RS, d1, g1, g1d, d2, f1, d3, d4, f2, g2, d5, d6, d7]
        exact ⟨ns.length - (i + 1), by omega, i + 1, _, rfl, rfl, by omega, new h0 h11, x1d⟩
       .have d7 : decide (((ns.getD i 0 : Nat) : Int) < ((ns.getD a 0 : Nat) : Int)) = false := by simp only [decide_eq_false_iff_not]; omega
        simp (maxSteps := 4000000) (disch := omega) only [gE, jE, cS, stepR_skip, hO, iA, iO, iM, iJ, iL, jH, iT, gL, iD, iF, iC, iH, hJ, iN, hU, iE, iR, iS, iI, gQ, iQ, iP, iG, kR, kQ, lE, lH, lG, lD, lF, lC, lB, gB, Result.ok.injEq, Next.value.injEq, true_and, and_true, gY, hZ, iV, iW, iU, jG, aoE, gV, gU, gX, gT, gM, gI, gN, gK, fZ, fU, if_true, if_false, aoD, aoH, aoF, aoG, aoJ, aoI, aoC, aoB, fM, fS, fL, fQ, gJ, fK, bG, bQ, gF, eH, eE, fJ, fI, gC, cU, dK, gD, gA, gR, eF, eP, dL, dJ, RS, d1, g1, g1d, d2, f1, d3, d4, f2, g2, d5, d6, d7]
        exact ⟨ns.length - (i + 1), by omega, i + 1, _, rfl, rfl, by omega, .inr ⟨a, rfl, ha, ha0, ha11⟩, x1d⟩
      .have d6 : (((out.getD i 0 : Nat) : Int) == ((out.getD a 0 : Nat) : Int)) = false := beq_eq_false_iff_ne.2 (by omega)
       simp (maxSteps := 4000000) (disch := omega) only [gE, jE, cS, stepR_skip, hO, iA, iO, iM, iJ, iL, jH, iT, gL, iD, iF, iC, iH, hJ, iN, hU, iE, iR, iS, iI, gQ, iQ, iP, iG, kR, kQ, lE, lH, lG, lD, lF, lC, lB, gB, Result.ok.injEq, Next.value.injEq, true_and, and_true, gY, hZ, iV, iW, iU, jG, aoE, gV, gU, gX, gT, gM, gI, gN, gK, fZ, fU, if_true, if_false, aoD, aoH, aoF, aoG, aoJ, aoI, aoC, aoB, fM, fS, fL, fQ, gJ, fK, bG, bQ, gF, eH, eE, fJ, fI, gC, cU, dK, gD, gA, gR, eF, eP, dL, dJ, RS, d1, g1, g1d, d2, f1, d3, d4, f2, g2, d5, d6]
       exact ⟨ns.length - (i + 1), by omega, i + 1, _, rfl, rfl, by omega, .inr ⟨a, rfl, ha, ha0, ha11⟩, x1d⟩
   .have d3 : decide (((out.getD i 0 : Nat) : Int) < (11 : Int)) = false := by simp only [decide_eq_false_iff_not]; omega
    simp (disch := omega) only [gE, hJ, d1, fI, aoE, hO, gY, cS, true_and, gC, g1, gB, hU, d2, gV, gQ, if_true, gM, gA, aoH, gR, f1, d3, gX, aoD, if_false, fU, gI, RS, fZ]
    exact ⟨ns.length - (i + 1), by omega, i + 1, _, rfl, rfl, by omega, keep (by omega), x1d⟩
  .have d2 : decide ((0 : Int) < ((ns.getD i 0 : Nat) : Int)) = false := by simp only [decide_eq_false_iff_not]; omega
   simp (disch := omega) only [gE, hJ, d1, fI, aoE, hO, gY, cS, true_and, gC, g1, gB, hU, d2, gX, gQ, aoD, if_false, fU, gI, RS, fZ]
   exact ⟨ns.length - (i + 1), by omega, i + 1, _, rfl, rfl, by omega, keep (by omega), x1d⟩
 .have d1 : decide ((i : Int) < (ns.length : Int)) = false := by simp; omega
  obtain rfl : i = ns.length := by omega
  simp (disch := omega) only [gE, hJ, d1, true_and, cS, fU]
  exact hK at' w1 hp x1
theorem aaV {pb : Nat} {ov : atP} {ns out : List Nat} {w : atO} (hs : Sl w ov (Oo ns)) (hn : ∀ n ∈ ns, n <= 4294967295) (hl : ns.length <= 256) (h : Mo ns out) (ob : mQ w pb (oc out)) (hat : ¬ Lf ov (fun y => y = pb)) {RR : atP -> atO -> Prop}
 (hK : ∀ out w', Mo ns out -> mR out <= 2048 -> mQ w' pb (oc out) -> jM w w' (fun y => y = pb) -> rP RR ov (.slice (some ⟨pb, 0, none⟩) ns.length ns.length) (.int .i64 (2048 - (mR out : Nat))) w') :
 rR RR ov (.slice (some ⟨pb, 0, none⟩) ns.length ns.length) (.int .i64 (2048 - (mR out : Nat))) w := by
 unfold rR By Bt
 refine kE.rule (fun m (t : atP) w' => ∃ out : List Nat, m = Ys out /\ t = .int .i64 (2048 - (mR out : Nat)) /\ Mo ns out /\ mQ w' pb (oc out) /\ jM w w' (fun y => y = pb)) (Ys out) ⟨out, rfl, rfl, h, ob, jM.refl _ _⟩ ?_
 rintro m t w1 ⟨out, rfl, rfl, h1, ob1, x1⟩
 have hlen := h1.len
 have hkb : mR out <= 1024 * ns.length := by
  rw [<- hlen]
  have : ∀ l : List Nat, mR l <= 1024 * l.length := fun l => by
   induction l with
   | nil => simp [mR]
   | cons x l ih =>
     rw [sO, aoV]
     have : tY x <= 1024 := by
      unfold tY
      split
      .omega
      .have : 2 ^ (11 - x) <= 2 ^ 10 := apE (by omega) (by omega)
       omega
     omega
  exact this out
 unfold uS Bn
 by_cases hneg : 2048 < mR out
 .have d1 : decide ((2048 : Int) - ((mR out : Nat) : Int) < 0) = true := by simp only [decide_eq_true_eq]; omega
  simp (disch := omega) only [gE, hJ, d1, cS, fZ]
  unfold Bc GJ Bq BD
  refine acA (room := 2048 - ((mR out : Nat) : Int)) (hs.ext x1 hat) hn hl h1 ob1 fun at' w2 hp x2 => ?_
  rcases hp with ⟨_, q⟩ | ⟨a, rfl, ha, ha0, ha11⟩
  .exfalso
   have := X0 h1 hl q
   omega
  have ob2 := ob1.ext x2 (fun h => h)
  have f1 := ob2.cell (off := a)
  rw [Jv (by omega)] at f1
  have hon := h1.on a ha ha0
  have hks := Pc (l := out) (i := a) (out.getD a 0 + 1) (by omega)
  have hsl := Ul (fun o => 11 - o) (l := out) (i := a) (out.getD a 0 + 1) (by omega)
  have hset := h1.set (o := out.getD a 0 + 1) ha ha0 (by omega) (by omega)
  rw [<- pG (by omega)] at hks hsl
  have hk1 : tY (out.getD a 0) = 2 * 2 ^ (10 - out.getD a 0) := by
   unfold tY
   rw [if_neg (by omega), <- Nat.pow_succ', show (10 - out.getD a 0).succ = 11 - out.getD a 0 from by omega]
  have hk2 : tY (out.getD a 0 + 1) = 2 ^ (10 - out.getD a 0) := by
   unfold tY
   rw [if_neg (by omega)]
   congr 1; omega
  rw [hk1, hk2] at hks
  have hsl2 : Ys (out.set a (out.getD a 0 + 1)) + (11 - out.getD a 0) = Ys out + (11 - (out.getD a 0 + 1)) := hsl
  generalize hov : out.getD a 0 = o at *
  have e1 : (11 : Int) - (o : Int) = ((11 - o : Nat) : Int) := by omega
  have e2 : ((11 - o : Nat) : Int) - 1 = ((10 - o : Nat) : Int) := by omega
  have hsh := acU (n := 10 - o) (by omega)
  have hp10 : 2 ^ (10 - o) <= 2 ^ 10 := apE (by omega) (by omega)
  have e3 : (2048 : Int) - ((mR out : Nat) : Int) + ((2 ^ (10 - o) : Nat) : Int) = 2048 - ((mR (out.set a (o + 1)) : Nat) : Int) := by omega
  have e4 : (o : Int) + 1 = ((o + 1 : Nat) : Int) := by omega
  unfold uT
  simp (disch := omega) only [gE, gA, aoE, aoH, cS, gR, f1, gB, iA, e1, gY, e2, iD, hsh, hO, e3, e4]
  refine Lt ob2 rfl (by rw [aoK]; omega) fun w3 ob3 x3 s3 => ?_
  rw [Zg] at ob3
  exact ⟨Ys (out.set a (o + 1)), by omega, _, rfl, rfl, hset, ob3, (x1.seq (x2.mono fun _ _ h => h.elim)).trans x3 fun _ _ h => h⟩
 .have d1 : decide ((2048 : Int) - ((mR out : Nat) : Int) < 0) = false := by simp only [decide_eq_false_iff_not]; omega
  simp (disch := omega) only [gE, hJ, d1, cS, fU]
  exact hK out w1 h1 (by omega) ob1 x1
def YC (r : Nat) (ns out : List Nat) (i : Nat) (at' : Int) : Prop := (at' = -1 /\ ∀ j, j < i -> ¬ (0 < ns.getD j 0 /\ 2 ^ (11 - out.getD j 0) <= r)) ∨ (∃ a : Nat, at' = a /\ a < ns.length /\ 0 < ns.getD a 0 /\ 2 ^ (11 - out.getD a 0) <= r)
theorem abZ {pb : Nat} {ov : atP} {r : Nat} {ns out : List Nat} {w : atO} (hs : Sl w ov (Oo ns)) (hn : ∀ n ∈ ns, n <= 4294967295) (hl : ns.length <= 256) (h : Mo ns out) (hr : r <= 2048) (ob : mQ w pb (oc out)) {kn : atP -> atP -> atP -> atP -> atO -> Prop}
 (hK : ∀ at' w', YC r ns out ns.length at' -> jM w w' mN -> kn ov (.slice (some ⟨pb, 0, none⟩) ns.length ns.length) (.int .i64 r) (.int .i64 at') w') :
 wV kn ov (.slice (some ⟨pb, 0, none⟩) ns.length ns.length) (.int .i64 r) (.int .i64 (-1)) w := by
 unfold wV CV
 obtain ⟨a, c, hv, hc⟩ := hs.len
 rw [aoK] at hv
 subst hv
 have hlen := h.len
 simp (disch := omega) only [gE, fJ, cS]
 unfold Cp CK
 refine kE.rule (fun m (t : atP × atP) w' => ∃ (i : Nat) (at' : Int), m = ns.length - i /\ t = (.int .i64 at', .int .i64 i) /\ i <= ns.length /\ YC r ns out i at' /\ jM w w' mN) ns.length
  ⟨0, -1, rfl, rfl, by omega, .inl ⟨rfl, fun j h => by omega⟩, jM.refl _ _⟩ ?_
 rintro m t w1 ⟨i, at', rfl, rfl, hi, hp, x1⟩
 unfold wQ CQ
 by_cases hlt : i < ns.length
 .have d1 : decide ((i : Int) < (ns.length : Int)) = true := by simp; omega
  have x1d : jM w (dr w1) mN := x1.seq (jM.dr _ _)
  obtain ⟨b1, off1, rfl, hcell1⟩ := slA (hs.ext x1 (kJ _)) (by omega)
  have g1 := hcell1 i hlt
  rw [LM hlt] at g1
  have g1d : (dr w1).cell? ⟨b1, off1 + i, none⟩ = _ := g1
  have f1 := (ob.ext x1d (fun h => h)).cell (off := i)
  rw [Jv (by omega)] at f1
  have keep : ¬ (0 < ns.getD i 0 /\ 2 ^ (11 - out.getD i 0) <= r) -> YC r ns out (i + 1) at' := fun hb => by
   rcases hp with ⟨q1, q2⟩ | q
   .refine .inl ⟨q1, fun j hj => ?_⟩
    rcases aoT j i with h' | h'
    .exact q2 j h'
    .have : j = i := by omega
     subst this; exact hb
   .exact .inr q
  have keep2 : (0 : Int) <= at' -> YC r ns out (i + 1) at' := fun hb => by
   rcases hp with ⟨q1, q2⟩ | q
   .omega
   .exact .inr q
  have new : 0 < ns.getD i 0 -> 2 ^ (11 - out.getD i 0) <= r -> YC r ns out (i + 1) (i : Int) := fun q1 q2 => .inr ⟨i, rfl, hlt, q1, q2⟩
  have hoi := h.le (i := i) (by omega)
  rw [<- pG (by omega)] at hoi
  have e8 : (11 : Int) - ((out.getD i 0 : Nat) : Int) = ((11 - out.getD i 0 : Nat) : Int) := by omega
  have hsh := acU (n := 11 - out.getD i 0) (by omega)
  unfold xZ
  by_cases h0 : 0 < ns.getD i 0
  .have d2 : decide ((0 : Int) < ((ns.getD i 0 : Nat) : Int)) = true := by simp only [decide_eq_true_eq]; omega
   by_cases h11 : 2 ^ (11 - out.getD i 0) <= r
   .have d3 : decide (((2 ^ (11 - out.getD i 0) : Nat) : Int) <= (r : Int)) = true := by simp only [decide_eq_true_eq]; omega
    rcases hp with ⟨rfl, q2⟩ | ⟨a, rfl, ha, ha0, har⟩
    .have d4 : decide ((-1 : Int) < 0) = true := rfl
     simp (disch := omega) only [gE, hJ, d1, fI, aoE, hO, gY, cS, true_and, gC, g1, gB, hU, d2, gV, gQ, if_true, gM, gA, aoH, gR, f1, iA, e8, iD, hsh, iN, d3, d4, gU, fZ, gI, RS]
     exact ⟨ns.length - (i + 1), by omega, i + 1, _, rfl, rfl, by omega, new h0 h11, x1d⟩
    .have d4 : decide ((a : Int) < 0) = false := by simp
     have f2 := (ob.ext x1d (fun h => h)).cell (off := a)
     rw [Jv (by omega)] at f2
     have g2 : (dr w1).cell? ⟨b1, off1 + a, none⟩ = _ := hcell1 a ha
     rw [LM ha] at g2
     by_cases h5 : out.getD a 0 < out.getD i 0
     .have d5 : decide (((out.getD a 0 : Nat) : Int) < ((out.getD i 0 : Nat) : Int)) = true := by simp only [decide_eq_true_eq]; omega
      simp (maxSteps := 4000000) (disch := omega) only [gE, jE, cS, stepR_skip, hO, iA, iO, iM, iJ, iL, jH, iT, gL, iD, iF, iC, iH, hJ, iN, hU, iE, iR, iS, iI, gQ, iQ, iP, iG, kR, kQ, lE, lH, lG, lD, lF, lC, lB, gB, Result.ok.injEq, Next.value.injEq, true_and, and_true, gY, hZ, iV, iW, iU, jG, aoE, gV, gU, gX, gT, gM, gI, gN, gK, fZ, fU, if_true, if_false, aoD, aoH, aoF, aoG, aoJ, aoI, aoC, aoB, fM, fS, fL, fQ, gJ, fK, bG, bQ, gF, eH, eE, fJ, fI, gC, cU, dK, gD, gA, gR, eF, eP, dL, dJ, RS, d1, g1, g1d, d2, f1, e8, hsh, d3, d4, f2, g2, d5]
      exact ⟨ns.length - (i + 1), by omega, i + 1, _, rfl, rfl, by omega, new h0 h11, x1d⟩
     .have d5 : decide (((out.getD a 0 : Nat) : Int) < ((out.getD i 0 : Nat) : Int)) = false := by simp only [decide_eq_false_iff_not]; omega
      by_cases h6 : out.getD i 0 = out.getD a 0
      .have d6 : (((out.getD i 0 : Nat) : Int) == ((out.getD a 0 : Nat) : Int)) = true := by rw [h6]; simp
       by_cases h7 : ns.getD a 0 < ns.getD i 0
       .have d7 : decide (((ns.getD a 0 : Nat) : Int) < ((ns.getD i 0 : Nat) : Int)) = true := by simp only [decide_eq_true_eq]; omega
        simp (maxSteps := 4000000) (disch := omega) only [gE, jE, cS, stepR_skip, hO, iA, iO, iM, iJ, iL, jH, iT, gL, iD, iF, iC, iH, hJ, iN, hU, iE, iR, iS, iI, gQ, iQ, iP, iG, kR, kQ, lE, lH, lG, lD, lF, lC, lB, gB, Result.ok.injEq, Next.value.injEq, true_and, and_true, gY, hZ, iV, iW, iU, jG, aoE, gV, gU, gX, gT, gM, gI, gN, gK, fZ, fU, if_true, if_false, aoD, aoH, aoF, aoG, aoJ, aoI, aoC, aoB, fM, fS, fL, fQ, gJ, fK, bG, bQ, gF, eH, eE, fJ, fI, gC, cU, dK, gD, gA, gR, eF, eP, dL, dJ, RS, d1, g1, g1d, d2, f1, e8, hsh, d3, d4, f2, g2, d5, d6, d7]
        exact ⟨ns.length - (i + 1), by omega, i + 1, _, rfl, rfl, by omega, new h0 h11, x1d⟩
       .have d7 : decide (((ns.getD a 0 : Nat) : Int) < ((ns.getD i 0 : Nat) : Int)) = false := by simp only [decide_eq_false_iff_not]; omega
        simp (maxSteps := 4000000) (disch := omega) only [gE, jE, cS, stepR_skip, hO, iA, iO, iM, iJ, iL, jH, iT, gL, iD, iF, iC, iH, hJ, iN, hU, iE, iR, iS, iI, gQ, iQ, iP, iG, kR, kQ, lE, lH, lG, lD, lF, lC, lB, gB, Result.ok.injEq, Next.value.injEq, true_and, and_true, gY, hZ, iV, iW, iU, jG, aoE, gV, gU, gX, gT, gM, gI, gN, gK, fZ, fU, if_true, if_false, aoD, aoH, aoF, aoG, aoJ, aoI, aoC, aoB, fM, fS, fL, fQ, gJ, fK, bG, bQ, gF, eH, eE, fJ, fI, gC, cU, dK, gD, gA, gR, eF, eP, dL, dJ, RS, d1, g1, g1d, d2, f1, e8, hsh, d3, d4, f2, g2, d5, d6, d7]
        exact ⟨ns.length - (i + 1), by omega, i + 1, _, rfl, rfl, by omega, .inr ⟨a, rfl, ha, ha0, har⟩, x1d⟩
      .have d6 : (((out.getD i 0 : Nat) : Int) == ((out.getD a 0 : Nat) : Int)) = false := beq_eq_false_iff_ne.2 (by omega)
       simp (maxSteps := 4000000) (disch := omega) only [gE, jE, cS, stepR_skip, hO, iA, iO, iM, iJ, iL, jH, iT, gL, iD, iF, iC, iH, hJ, iN, hU, iE, iR, iS, iI, gQ, iQ, iP, iG, kR, kQ, lE, lH, lG, lD, lF, lC, lB, gB, Result.ok.injEq, Next.value.injEq, true_and, and_true, gY, hZ, iV, iW, iU, jG, aoE, gV, gU, gX, gT, gM, gI, gN, gK, fZ, fU, if_true, if_false, aoD, aoH, aoF, aoG, aoJ, aoI, aoC, aoB, fM, fS, fL, fQ, gJ, fK, bG, bQ, gF, eH, eE, fJ, fI, gC, cU, dK, gD, gA, gR, eF, eP, dL, dJ, RS, d1, g1, g1d, d2, f1, e8, hsh, d3, d4, f2, g2, d5, d6]
       exact ⟨ns.length - (i + 1), by omega, i + 1, _, rfl, rfl, by omega, .inr ⟨a, rfl, ha, ha0, har⟩, x1d⟩
   .have d3 : decide (((2 ^ (11 - out.getD i 0) : Nat) : Int) <= (r : Int)) = false := by simp only [decide_eq_false_iff_not]; omega
    simp (disch := omega) only [gE, hJ, d1, fI, aoE, hO, gY, cS, true_and, gC, g1, gB, hU, d2, gV, gQ, if_true, gM, gA, aoH, gR, f1, iA, e8, iD, hsh, iN, d3, gX, aoD, if_false, fU, gI, RS, fZ]
    exact ⟨ns.length - (i + 1), by omega, i + 1, _, rfl, rfl, by omega, keep (by omega), x1d⟩
  .have d2 : decide ((0 : Int) < ((ns.getD i 0 : Nat) : Int)) = false := by simp only [decide_eq_false_iff_not]; omega
   simp (disch := omega) only [gE, hJ, d1, fI, aoE, hO, gY, cS, true_and, gC, g1, gB, hU, d2, gX, gQ, aoD, if_false, fU, gI, RS, fZ]
   exact ⟨ns.length - (i + 1), by omega, i + 1, _, rfl, rfl, by omega, keep (by omega), x1d⟩
 .have d1 : decide ((i : Int) < (ns.length : Int)) = false := by simp; omega
  obtain rfl : i = ns.length := by omega
  simp (disch := omega) only [gE, hJ, d1, true_and, cS, fU]
  exact hK at' w1 hp x1
theorem abU {pb : Nat} {ov : atP} {ns out : List Nat} {w : atO} (hs : Sl w ov (Oo ns)) (hn : ∀ n ∈ ns, n <= 4294967295) (hl : ns.length <= 256) (h2 : 2 <= ns.countP Em) (h : Mo ns out) (hk : mR out <= 2048) (ob : mQ w pb (oc out)) (hat : ¬ Lf ov (fun y => y = pb)) {RR : atP -> atO -> Prop}
 (hK : ∀ out w', Mo ns out -> mR out = 2048 -> mQ w' pb (oc out) -> jM w w' (fun y => y = pb) -> RR (.slice (some ⟨pb, 0, none⟩) ns.length ns.length) w') :
 rP RR ov (.slice (some ⟨pb, 0, none⟩) ns.length ns.length) (.int .i64 (2048 - (mR out : Nat))) w := by
 unfold rP Bo BI
 refine kE.rule (fun m (t : atP) w' => ∃ out : List Nat, m = 2048 - mR out /\ t = .int .i64 (2048 - (mR out : Nat)) /\ Mo ns out /\ mR out <= 2048 /\ mQ w' pb (oc out) /\ jM w w' (fun y => y = pb)) (2048 - mR out) ⟨out, rfl, rfl, h, hk, ob, jM.refl _ _⟩ ?_
 rintro m t w1 ⟨out, rfl, rfl, h1, hk1, ob1, x1⟩
 have hlen := h1.len
 have e0 : (2048 : Int) - ((mR out : Nat) : Int) = ((2048 - mR out : Nat) : Int) := by omega
 rw [e0]
 unfold uZ Bg
 by_cases hpos : mR out < 2048
 .have d1 : decide ((0 : Int) < ((2048 - mR out : Nat) : Int)) = true := by simp only [decide_eq_true_eq]; omega
  simp (disch := omega) only [gE, hU, d1, cS, fZ]
  unfold BF GP Bb Bj
  refine abZ (r := 2048 - mR out) (hs.ext x1 hat) hn hl h1 (by omega) ob1 fun at' w2 hp x2 => ?_
  obtain ⟨t0, ht0, ht1, _⟩ := agO (c := ns.length) h2
  rcases hp with ⟨_, q⟩ | ⟨a, rfl, ha, ha0, har⟩
  .exfalso
   obtain ⟨j, j1, j2, j3⟩ := Xe h1 ht0 ht1 hpos
   exact q j j1 ⟨j2, j3⟩
  obtain ⟨b, hb, hb0, hba⟩ := agO (c := a) h2
  have hge2 := abO h1 ha hb (fun e => hba e.symm) ha0 hb0 har hk1
  have ob2 := ob1.ext x2 (fun h => h)
  have f1 := ob2.cell (off := a)
  rw [Jv (by omega)] at f1
  have hon := h1.on a ha ha0
  have hks := Pc (l := out) (i := a) (out.getD a 0 - 1) (by omega)
  have hset := h1.set (o := out.getD a 0 - 1) ha ha0 (by omega) (by omega)
  rw [<- pG (by omega)] at hks
  have hk3 : tY (out.getD a 0) = 2 ^ (11 - out.getD a 0) := by unfold tY; rw [if_neg (by omega)]
  have hk2 : tY (out.getD a 0 - 1) = 2 * 2 ^ (11 - out.getD a 0) := by
   unfold tY
   rw [if_neg (by omega), <- Nat.pow_succ']
   congr 1; omega
  rw [hk3, hk2] at hks
  generalize hov : out.getD a 0 = o at *
  have e1 : (11 : Int) - (o : Int) = ((11 - o : Nat) : Int) := by omega
  have hsh := acU (n := 11 - o) (by omega)
  have hp10 := apR (11 - o)
  have e3 : ((2048 - mR out : Nat) : Int) - ((2 ^ (11 - o) : Nat) : Int) = 2048 - ((mR (out.set a (o - 1)) : Nat) : Int) := by omega
  have e4 : (o : Int) - 1 = ((o - 1 : Nat) : Int) := by omega
  unfold wX
  simp (disch := omega) only [gE, gA, aoE, aoH, cS, gR, f1, gB, iA, e1, gY, iD, hsh, e3, e4]
  refine Lt ob2 rfl (by rw [aoK]; omega) fun w3 ob3 x3 s3 => ?_
  rw [Zg] at ob3
  exact ⟨2048 - mR (out.set a (o - 1)), by omega, _, rfl, rfl, hset, by omega, ob3, (x1.seq (x2.mono fun _ _ h => h.elim)).trans x3 fun _ _ h => h⟩
 .have d1 : decide ((0 : Int) < ((2048 - mR out : Nat) : Int)) = false := by simp only [decide_eq_false_iff_not]; omega
  unfold xR
  simp (disch := omega) only [gE, hU, d1, cS, fU]
  exact hK out w1 h1 (by omega) ob1 x1
theorem aaY {ov : atP} {S : Nat} {ns : List Nat} {w : atO} (hs : Sl w ov (Oo ns)) (hn : ∀ n ∈ ns, n <= 4294967295) (hl : ns.length <= 256) (h2 : 2 <= ns.countP Em) (hS0 : 0 < S) (hS : S <= 2147483647) :
 jD pg zH #[ov, .int .u64 S] w (fun r w' => ∃ pb out, r = .slice (some ⟨pb, 0, none⟩) ns.length ns.length /\ w.heap.size <= pb /\ mQ w' pb (oc out) /\ Mo ns out /\ mR out = 2048 /\ jM w w' mN) := by
 refine OB ?_
 obtain ⟨a, c, hv, hc⟩ := hs.len
 rw [aoK] at hv hc
 subst hv
 unfold Mt BH BQ
 simp (disch := omega) only [gE, fJ, cS]
 refine Tq (by omega) (by omega) fun w1 o1 x1 s1 => ?_
 rw [aoE] at o1 ⊢
 have ho1 : mQ w1 w.heap.size (oc (List.replicate ns.length 0)) := by
  unfold oc; rw [List.map_replicate]; exact o1
 have hat : ¬ Lf (.slice a ns.length c) (fun y => y = w.heap.size) := fun h => hs.old (B3 h fun b hb => by omega)
 have hs1 := hs.ext x1 (kJ _)
 refine acG hs1 hn hl hS0 hS ho1 hat fun out w2 h2' ob2 x2 => ?_
 refine aaV (hs1.ext x2 hat) hn hl h2' ob2 hat fun out w3 h3 hk3 ob3 x3 => ?_
 refine abU ((hs1.ext x2 hat).ext x3 hat) hn hl h2 h3 hk3 ob3 hat fun out w4 h4 hk4 ob4 x4 => ?_
 exact ⟨_, out, rfl, aoP _, ob4, h4, hk4, ((x1.trans x2 fun b hb h => by omega).trans x3 fun b hb h => by omega).trans x4 fun b hb h => by omega⟩
theorem ajI {pb : Nat} {out : List Nat} {w : atO} (ob : mQ w pb (oc out)) (h0 : 0 < out.length) (hl : out.length <= 100000) (hb : ∀ o ∈ out, o <= 1000000) :
 jD pg zT #[.slice (some ⟨pb, 0, none⟩) out.length out.length] w (fun r w' => (∃ m : Nat, r = .int .i64 m /\ (∀ x ∈ out, x <= m) /\ m ∈ out) /\ w' = w) := by
 refine NQ ?_
 unfold Mq BR Bl
 have d0 : decide ((out.length : Int) < 1) = false := by simp; omega
 have g0 := ob.cell (off := 0)
 rw [Jv h0] at g0
 have t0 : (0 : Int).toNat = 0 := rfl
 simp (disch := omega) only [gE, gD, cS, hJ, d0, fU]
 unfold CU CX
 simp (disch := omega) only [gE, gA, t0, aoH, cS, gR, g0, gB]
 unfold CY C2 CJ CS CF
 refine kE.rule (fun m (t : atP × atP) w' => ∃ i q : Nat, m = out.length - i /\ t = (.int .i64 q, .int .i64 i) /\ 1 <= i /\ i <= out.length /\ (∀ x ∈ out.take i, x <= q) /\ q ∈ out.take i /\ w' = w) (out.length - 1)
  ⟨1, out.getD 0 0, by omega, rfl, by omega, by omega, ?_, ?_, rfl⟩ ?_
 .intro x hx
  rw [C1 (i := 0) h0] at hx
  simp at hx; simp; omega
 .rw [C1 (i := 0) h0]; simp
 rintro m t w1 ⟨i, q, rfl, rfl, hi1, hi, hle, hmem, rfl⟩
 unfold xH
 by_cases hlt : i < out.length
 .have d1 : decide ((i : Int) < (out.length : Int)) = true := by simp; omega
  have g1 := ob.cell (off := i)
  rw [Jv hlt] at g1
  have ht := C1 hlt
  have hxb : out.getD i 0 <= 1000000 := by rw [pG hlt]; exact hb _ (aqE hlt)
  have hqb : q <= 1000000 := hb q (aqM hmem)
  generalize out.getD i 0 = x at *
  have hmx : (if (q : Int) < (x : Int) then (x : Int) else (q : Int)) = ((max q x : Nat) : Int) := by split <;> omega
  have hmx2 : (if (x : Int) > (q : Int) then (x : Int) else (q : Int)) = ((max q x : Nat) : Int) := by split <;> omega
  simp (disch := omega) only [gE, gD, gA, aoE, aoH, hO, gY, cS, gR, hJ, d1, g1, gB, iP, hmx, and_true, fZ]
  refine ⟨out.length - (i + 1), by omega, i + 1, max q x, rfl, rfl, by omega, by omega, ?_, ?_⟩
  .intro y hy
   rw [ht] at hy
   rcases aqJ.1 hy with hy | hy
   .have := hle y hy; omega
   .rw [asX.1 hy]; omega
  .rw [ht, aqJ]
   rcases atH q x with h | h
   .rw [Nat.max_eq_right h]; exact .inr (asX.2 rfl)
   .rw [Nat.max_eq_left h]; exact .inl hmem
 .have d1 : decide ((i : Int) < (out.length : Int)) = false := by simp; omega
  obtain rfl : i = out.length := by omega
  rw [asK] at *
  unfold yA
  simp (disch := omega) only [gE, gD, hO, gY, cS, hJ, d1, and_true, fU]
  exact ⟨q, rfl, hle, hmem⟩
def Wl (ns : List Nat) : Bool := decide (ns.length <= 256 /\ 2 <= ns.countP Em /\ ns.sum <= 2147483647)
theorem acR {ov : atP} {ns : List Nat} {w : atO} (hs : Sl w ov (Oo ns)) (hn : ∀ n ∈ ns, n <= 4294967295) (hl : ns.length <= 300) {RR : atP -> atO -> Prop}
 (hK : ∀ last, RG ns ns.length last -> Dm RR ov (.int .u64 ns.sum) (.int .i64 (ns.countP Em : Nat)) (.int .i64 last) w) :
 Dv RR ov (.int .u64 0) (.int .i64 0) (.int .i64 0) w := by
 unfold Dv Hk HD
 obtain ⟨a, c, hv, hc⟩ := hs.len
 rw [aoK] at hv
 subst hv
 simp (disch := omega) only [gE, fJ, cS]
 unfold Ho Hw
 refine kE.rule (fun m (t : atP × atP × atP × atP) w' => ∃ i last : Nat, m = ns.length - i /\ t = (.int .u64 (ns.take i).sum, .int .i64 ((ns.take i).countP Em : Nat), .int .i64 last, .int .i64 i) /\ i <= ns.length /\ RG ns i last /\ last <= i /\ w' = w) ns.length
  ⟨0, 0, rfl, by simp, by omega, .inl ⟨rfl, fun j h => by omega⟩, by omega, rfl⟩ ?_
 rintro m t w1 ⟨i, last, rfl, rfl, hi, hla, hli, rfl⟩
 unfold D7 Hu
 by_cases hlt : i < ns.length
 .have d1 : decide ((i : Int) < (ns.length : Int)) = true := by simp; omega
  obtain ⟨b, off, rfl, hcell⟩ := slA hs (by omega)
  have g1 := hcell i hlt
  rw [LM hlt] at g1
  have hni : ns.getD i 0 <= 4294967295 := by rw [pG hlt]; exact hn _ (aqE hlt)
  have hsl := YZ (B := 4294967295) (l := ns.take i) fun n hn' => hn n (aqM hn')
  rw [apA, aqX (by omega)] at hsl
  have hsl2 : i * 4294967295 <= 300 * 4294967295 := apG _ (by omega)
  have hct : (ns.take i).countP Em <= i := by
   have := atG (l := ns.take i) (p := Em)
   rw [apA] at this; omega
  have hsum : (ns.take (i + 1)).sum = (ns.take i).sum + ns.getD i 0 := by rw [C1 hlt, List.sum_append]; simp
  have hcnt : (ns.take (i + 1)).countP Em = (ns.take i).countP Em + (if 0 < ns.getD i 0 then 1 else 0) := by
   rw [C1 hlt, List.countP_append, List.countP_singleton]
   unfold Em; simp only [decide_eq_true_eq]
  have hstep := hla.step
  generalize ns.getD i 0 = n at *
  have e1 : (((ns.take i).sum : Nat) : Int) + (n : Int) = (((ns.take i).sum + n : Nat) : Int) := by omega
  by_cases h0 : 0 < n
  .have d2 : decide ((0 : Int) < (n : Int)) = true := by simp; omega
   rw [if_pos h0] at hcnt hstep
   unfold An
   simp (disch := omega) only [gE, hJ, d1, fI, aoE, hO, gY, cS, gC, g1, gB, cU, hZ, hU, d2, fZ, e1, and_true]
   exact ⟨ns.length - (i + 1), by omega, i + 1, i, rfl, by rw [hsum, hcnt] <;> rfl, by omega, hstep, by omega⟩
  .have d2 : decide ((0 : Int) < (n : Int)) = false := by simp; omega
   rw [if_neg h0] at hcnt hstep
   unfold An
   simp (disch := omega) only [gE, hJ, d1, fI, aoE, hO, gY, cS, gC, g1, gB, cU, hZ, hU, d2, fU, e1, and_true, fZ]
   exact ⟨ns.length - (i + 1), by omega, i + 1, last, rfl, by rw [hsum, hcnt] <;> rfl, by omega, hstep, by omega⟩
 .have d1 : decide ((i : Int) < (ns.length : Int)) = false := by simp; omega
  obtain rfl : i = ns.length := by omega
  rw [aoU (aoP _)]
  simp (disch := omega) only [gE, hJ, d1, hO, cS, fU]
  exact hK last hla
def akN (w : atO) (base : Nat) (ns : List Nat) (r : atP) : Prop :=
 (Wl ns = false /\ r = .tuple #[.slice none 0 0, .int .i64 1]) ∨
 (Wl ns = true /\ ∃ (last : Nat) (v : atP) (wl : List Nat), RG ns ns.length last /\ last < ns.length /\ wl.length = last + 1 /\ oC wl ≠ 0 /\ (∀ x ∈ wl, x <= 11) /\ (∀ i, i < last + 1 -> (0 < wl.getD i 0 ↔ 0 < ns.getD i 0)) /\
  r = .tuple #[v, .int .i64 0] /\ yB w base 1 v (last + 1) ((On wl).map oZ))
theorem Zm {ns out : List Nat} {d last : Nat} (h : Mo (ns.take (last + 1)) out) (hk : mR out = 2048) (hd : ∀ o ∈ out, o <= d) (hdm : d ∈ out) (hl : last < ns.length) (hl2 : ns.length <= 256) (hlast : 0 < ns.getD last 0) (h2 : 2 <= (ns.take (last + 1)).countP Em) :
 oC (out.map (YQ d)) = d /\ d ≠ 0 /\ d <= 11 /\ ∀ i, i < last + 1 -> (0 < (out.map (YQ d)).getD i 0 ↔ 0 < ns.getD i 0) := by
 have hlen := h.len
 have htl : (ns.take (last + 1)).length = last + 1 := by rw [apA]; omega
 have htd : ∀ i, i < last + 1 -> (ns.take (last + 1)).getD i 0 = ns.getD i 0 := fun i hi => by
  rw [aoN, aoN, aqD hi]
 have hd11 : d <= 11 := by
  obtain ⟨i, hi, rfl⟩ := aqF hdm
  exact h.le hi
 have hon := h.on last (by omega) (by rw [htd last (by omega)]; exact hlast)
 have hd0 : 1 <= d := by
  have := hd (out.getD last 0) (by rw [pG (by omega)]; exact aqE _)
  omega
 have hW := aeC hd11 hd hk
 have hget : ∀ i, i < last + 1 -> (out.map (YQ d)).getD i 0 = YQ d (out.getD i 0) := fun i hi => by
  rw [pG (by rw [aoK]; omega), List.getElem_map, pG (by omega)]
 have hiff : ∀ i, i < last + 1 -> (0 < (out.map (YQ d)).getD i 0 ↔ 0 < ns.getD i 0) := fun i hi => by
  rw [hget i hi, <- htd i hi]
  have hdi := hd (out.getD i 0) (by rw [pG (by omega)]; exact aqE _)
  constructor
  .intro h0
   rcases arE ((ns.take (last + 1)).getD i 0) with h' | h'
   .rw [h.off i (by omega) h'] at h0
    simp [YQ] at h0
   .exact h'
  .intro h0
   have := h.on i (by omega) h0
   unfold YQ
   rw [if_neg (by omega)]; omega
 have hlast2 : 2 <= last + 1 := by
  have := atG (l := ns.take (last + 1)) (p := Em)
  omega
 refine ⟨acF ?_ hd11 (by rw [aoK]; omega) (by rw [aoK]; omega) ?_ hW, by omega, hd11, hiff⟩
 .intro w hw
  obtain ⟨o, ho, rfl⟩ := aqB.1 hw
  have := hd o ho
  unfold YQ
  split <;> omega
 .intro hq
  rw [asT, aoK, hlen, htl, arW] at hq
  have := (hiff last (by omega)).2 hlast
  rw [aoN, hq] at this
  simp at this
theorem Z6 {base i x : Nat} {d10 v' t51 t52 t53 : atP} {cells : List atP} {w : atO} (o : yB w base 1 v' i cells) (hb : base <= w.heap.size) (hi : i <= 100000) (hx : x < 256) {kn : atP -> atP -> atP -> atP -> atP -> atO -> Prop}
 (hK : ∀ v2 w2, yB w2 base 1 v2 (i + 1) (cells ++ [.int .u8 x]) -> jM w w2 (fun y => base <= y) -> kn d10 v2 t51 t52 t53 w2) : B4 kn d10 v' (.int .i64 x) t51 t52 t53 w := by
 unfold B4
 obtain ⟨av, cv, rfl⟩ := o.len
 have e8 : IntKind.u8.wrap (x : Int) = (x : Int) := jG (by omega) (by omega)
 simp (disch := omega) only [gE, fL, e8, cS]
 refine sJ (cells := #[.int .u8 x]) (by decide) (by decide) (by kernel_rfl) fun w5 o5 x5 s5 => ?_
 have z5 := x5.size
 refine lZ (m := 1) (news := [.int .u8 x]) (o.ext x5 (fun _ _ h => h)) (o5.cl (off := 0) (l := [.int .u8 x]) (n := 1) rfl (fun i hi => by rw [aoH])) (by simp [one]) (by omega) (by omega) fun v6 w6 o6 x6 => ?_
 exact hK v6 w6 o6 ((x5.mono fun _ _ h => h.elim).seq x6)
theorem alZ {ov : atP} {ns : List Nat} {w : atO} (hs : Sl w ov (Oo ns)) (hn : ∀ n ∈ ns, n <= 4294967295) (hl : ns.length <= 300) :
 jD pg GY #[ov] w (fun r w' => akN w' w.heap.size ns r /\ jM w w' mN) := by
 refine UO ?_
 unfold VA Il Hd
 refine acR hs hn hl fun last hlast => ?_
 unfold Dm H3
 obtain ⟨a, c, hv, hc⟩ := hs.len
 rw [aoK] at hv hc
 subst hv
 have no : ¬ (ns.length <= 256 /\ 2 <= ns.countP Em /\ ns.sum <= 2147483647) -> Wl ns = false := fun h => by unfold Wl; exact decide_eq_false h
 have hcl : ns.countP Em <= ns.length := atG
 have hsl := YZ (B := 4294967295) hn
 have hsl2 : ns.length * 4294967295 <= 300 * 4294967295 := apG _ (by omega)
 by_cases h4 : 256 < ns.length
 .have d4 : decide ((256 : Int) < (ns.length : Int)) = true := by simp; omega
  simp (disch := omega) only [gE, fJ, hO, cS, hU, d4, gU, gQ, if_true, fZ, gI]
  exact ⟨.inl ⟨no (by omega), rfl⟩, jM.refl _ _⟩
 have d4 : decide ((256 : Int) < (ns.length : Int)) = false := by simp; omega
 by_cases h5 : ns.countP Em < 2
 .have d5 : decide (((ns.countP Em : Nat) : Int) < 2) = true := by simp only [decide_eq_true_eq]; omega
  simp (disch := omega) only [gE, fJ, hO, cS, hU, d4, gT, gQ, aoD, if_false, gM, hJ, d5, gU, if_true, fZ, gI]
  exact ⟨.inl ⟨no (by omega), rfl⟩, jM.refl _ _⟩
 have d5 : decide (((ns.countP Em : Nat) : Int) < 2) = false := by simp only [decide_eq_false_iff_not]; omega
 by_cases h7 : 2147483647 < ns.sum
 .have d7 : decide ((2147483647 : Int) < ((ns.sum : Nat) : Int)) = true := by simp only [decide_eq_true_eq]; omega
  simp (disch := omega) only [gE, fJ, hO, cS, hU, d4, gT, gQ, aoD, if_false, gM, hJ, d5, d7, fZ]
  exact ⟨.inl ⟨no (by omega), rfl⟩, jM.refl _ _⟩
 have d7 : decide ((2147483647 : Int) < ((ns.sum : Nat) : Int)) = false := by simp only [decide_eq_false_iff_not]; omega
 have hok : Wl ns = true := by unfold Wl; exact decide_eq_true (by omega)
 have hl2 : last < ns.length /\ 0 < ns.getD last 0 /\ ∀ j, last < j -> j < ns.length -> ns.getD j 0 = 0 := by
  rcases hlast with ⟨rfl, h⟩ | h
  .exfalso
   have : ns.countP Em = 0 := Tt fun n hn => by
    obtain ⟨i, hi, rfl⟩ := aqF hn
    rw [<- pG hi]; exact h i hi
   omega
  .exact h
 obtain ⟨l1, l2, l3⟩ := hl2
 have hS0 : 0 < ns.sum := by
  have := aeV (l := ns) (n := ns.getD last 0) (by rw [pG l1]; exact aqE _)
  omega
 have hz : ∀ n ∈ ns.drop (last + 1), n = 0 := fun n hn => by
  obtain ⟨i, hi, rfl⟩ := aqF hn
  rw [apD] at hi
  rw [List.getElem_drop, <- pG (by omega)]
  exact l3 _ (by omega) (by omega)
 have hcnt : 2 <= (ns.take (last + 1)).countP Em := by
  have : ns.countP Em = (ns.take (last + 1) ++ ns.drop (last + 1)).countP Em := by rw [arM]
  rw [List.countP_append, Tt hz] at this
  omega
 have htl : (ns.take (last + 1)).length = last + 1 := by rw [apA]; omega
 have e1 : (last : Int) + 1 = ((last + 1 : Nat) : Int) := by omega
 obtain ⟨b0, off0, rfl, _⟩ := slA hs (by omega)
 have e2 : nL (some ⟨b0, off0, none⟩) c 0 1 = some ⟨b0, off0, none⟩ := by have := VQ (b := b0) (o := off0) (m := c) (l := 0) (by omega); simpa using this
 have hsub : Sl w (.slice (some ⟨b0, off0, none⟩) (last + 1) c) (Oo (ns.take (last + 1))) := by
  have := akB hs (k := last + 1) (by omega)
  rw [<- asN] at this
  exact this
 simp (disch := omega) only [gE, fJ, hO, e1, gY, cS, dK, e2, aoE, asE, hU, d4, gT, gQ, aoD, if_false, gM, hJ, d5, d7, fU]
 refine (aaY hsub (fun n h => hn n (aqM h)) (by omega) hcnt hS0 (by omega)).mono ?_
 rintro r w1 ⟨pb, out, rfl, hpb, ob, hLen, hkr, x1⟩
 rw [htl]
 have hol : out.length = last + 1 := by rw [hLen.len, htl]
 have hm := ajI (w := w1) (pb := pb) (out := out) ob (by omega) (by omega) (fun o ho => by
  obtain ⟨i, hi, rfl⟩ := aqF ho
  have := hLen.le hi; omega)
 rw [hol] at hm
 refine hm.mono ?_
 rintro r w2 ⟨⟨d, rfl, hd1, hd2⟩, rfl⟩
 obtain ⟨hdep, hd0, hd11, hiff⟩ := Zm hLen hkr hd1 hd2 l1 (by omega) l2 hcnt
 obtain ⟨wl, hwl⟩ : ∃ wl, out.map (YQ d) = wl := ⟨_, rfl⟩
 have hwll : wl.length = last + 1 := by rw [<- hwl, aoK, hol]
 have hwget : ∀ i, i < last + 1 -> wl.getD i 0 = YQ d (out.getD i 0) := fun i hi => by
  rw [<- hwl, pG (by rw [aoK]; omega), List.getElem_map, pG (by omega)]
 rw [hwl] at hdep hiff
 have hw11 := (KD hdep hd0).1
 unfold Iu Ix Ig
 simp (disch := omega) only [gE, gD, cS]
 unfold Hp Iz
 refine kE.rule (fun m (t : atP × atP) w' => ∃ (i : Nat) (v' : atP), m = last + 1 - i /\ t = (v', .int .i64 i) /\ i <= last + 1 /\ yB w' w2.heap.size 1 v' i ((On (wl.take i)).map oZ) /\ jM w2 w' mN) (last + 1)
  ⟨0, _, rfl, rfl, by omega, yB.nil _ _ _, jM.refl _ _⟩ ?_
 rintro m t w3 ⟨i, v', rfl, rfl, hi, o3, x3⟩
 have z3 := x3.size
 have z1 := x1.size
 unfold FT J8
 by_cases hlt : i < last + 1
 .have d1 : decide ((i : Int) < ((last + 1 : Nat) : Int)) = true := by simp only [decide_eq_true_eq]; omega
  have f1 := (ob.ext x3 (fun h => h)).cell (off := i)
  rw [Jv (by omega)] at f1
  have hs1 := C1 (ns := wl) (i := i) (by omega)
  rw [hwget i hlt] at hs1
  have hod := hd1 (out.getD i 0) (by rw [pG (by omega)]; exact aqE _)
  have hwo : YQ d (out.getD i 0) = if out.getD i 0 = 0 then 0 else d + 1 - out.getD i 0 := rfl
  generalize out.getD i 0 = o at *
  have hcells : ∀ x : Nat, YQ d o = x -> x < 256 -> ((On (wl.take i)).map oZ ++ [.int .u8 x]) = (On (wl.take (i + 1))).map oZ := fun x hx hx2 => by
   rw [hs1, hx]
   simp only [On, apN, apJ, atL, Zf hx2]
  unfold J6 J2 Qu Ju
  by_cases h0 : 0 < o
  .have d2 : decide ((0 : Int) < (o : Int)) = true := by simp; omega
   have e3 : (d : Int) + 1 - (o : Int) = ((d + 1 - o : Nat) : Int) := by omega
   rw [if_neg (by omega)] at hwo
   simp (disch := omega) only [gE, hJ, d1, gA, aoE, aoH, hO, gY, cS, gR, f1, gB, hU, d2, iA, e3, fZ]
   refine Z6 o3 z3 (by omega) (by omega) fun v4 w4 o4 x4 => ?_
   rw [hcells _ hwo (by omega)] at o4
   unfold B1
   simp (disch := omega) only [gE, hO, gY, cS]
   exact ⟨last + 1 - (i + 1), by omega, i + 1, _, rfl, rfl, by omega, o4, x3.trans x4 fun b hb h => by omega⟩
  .have d2 : decide ((0 : Int) < (o : Int)) = false := by simp; omega
   rw [if_pos (by omega)] at hwo
   simp (disch := omega) only [gE, hJ, d1, gA, aoE, aoH, hO, gY, cS, gR, f1, gB, hU, d2, iA, fU, fZ]
   refine Z6 (x := 0) o3 z3 (by omega) (by omega) fun v4 w4 o4 x4 => ?_
   rw [hcells _ hwo (by omega)] at o4
   unfold B1
   simp (disch := omega) only [gE, hO, gY, cS]
   exact ⟨last + 1 - (i + 1), by omega, i + 1, _, rfl, rfl, by omega, o4, x3.trans x4 fun b hb h => by omega⟩
 .have d1 : decide ((i : Int) < ((last + 1 : Nat) : Int)) = false := by simp only [decide_eq_false_iff_not]; omega
  obtain rfl : i = last + 1 := by omega
  rw [aoU (by omega)] at o3
  unfold FW
  simp (disch := omega) only [gE, hJ, d1, cS, fU]
  refine ⟨.inr ⟨hok, last, v', wl, hlast, l1, hwll, by omega, fun x hx => by have := hw11 x hx; omega, hiff, rfl, o3.1, ?_⟩, x1.seq x3⟩
  rcases o3.2 with h | ⟨b, c, rest', q1, q2, q3⟩
  .exact .inl h
  .exact .inr ⟨b, c, rest', q1, by omega, q3⟩
def wrB (l : List Nat) : List Nat := (126 + l.length) :: MJ (l.take (l.length - 1))
theorem ZA (l : List Nat) : (wrB l).length = 1 + (l.length - 1 + 1) / 2 := by
 unfold wrB
 rw [aoV, SM, apA, aqX (by omega)]; omega
theorem Vn {base i x : Nat} {l0 n4 v' i6 : atP} {cells : List atP} {w : atO} (o : yB w base 1 v' i cells) (hb : base <= w.heap.size) (hi : i <= 100000) (hx : x < 256) {kn : atP -> atP -> atP -> atP -> atO -> Prop}
 (hK : ∀ v2 w2, yB w2 base 1 v2 (i + 1) (cells ++ [.int .u8 x]) -> jM w w2 (fun y => base <= y) -> kn l0 n4 v2 i6 w2) : vQ kn l0 n4 v' i6 (.int .u8 x) w := by
 unfold vQ
 obtain ⟨av, cv, rfl⟩ := o.len
 refine sJ (cells := #[.int .u8 x]) (by decide) (by decide) (by kernel_rfl) fun w5 o5 x5 s5 => ?_
 have z5 := x5.size
 refine lZ (m := 1) (news := [.int .u8 x]) (o.ext x5 (fun _ _ h => h)) (o5.cl (off := 0) (l := [.int .u8 x]) (n := 1) rfl (fun i hi => by rw [aoH])) (by simp [one]) (by omega) (by omega) fun v6 w6 o6 x6 => ?_
 exact hK v6 w6 o6 ((x5.mono fun _ _ h => h.elim).seq x6)
theorem Y0 {v : atP} {l : List UInt8} {w : atO} (h : Bs w v l) (hl : l.length <= 100000) (hd : oC (jZ l) = 0 ∨ 129 < l.length) :
 jD pg yK #[v] w (fun r w' => r = .tuple #[.slice none 0 0, .int .i64 (if oC (jZ l) = 0 then 1 else 12)] /\ w' = w) := by
 refine HK ?_
 obtain ⟨a, n, c, rfl, hn, hc, hh⟩ := id h
 rw [aoK] at hn
 subst hn
 unfold JM zO zQ
 refine (U1 h hl).mono ?_
 rintro r w1 ⟨rfl, rfl⟩
 by_cases h0 : oC (jZ l) = 0
 .have n1 : (((oC (jZ l) : Nat) : Int) == 0) = true := by rw [h0] <;> rfl
  simp (disch := omega) only [gE, iC, n1, fM, cS, iA, gY, hO, fL, hU, and_true, fZ]
  rw [if_pos h0]
 .have n1 : (((oC (jZ l) : Nat) : Int) == 0) = false := beq_eq_false_iff_ne.2 (by omega)
  have d1 : decide ((129 : Int) < (l.length : Int)) = true := by simp; omega
  simp (disch := omega) only [gE, iC, n1, fM, cS, iA, gY, hO, fL, hU, d1, fZ, and_true, fU]
  rw [if_neg h0]
theorem aeW {v : atP} {l : List UInt8} {d : Nat} {w : atO} (h : Bs w v l) (hd : oC (jZ l) = d) (hd0 : d ≠ 0) (hl : l.length <= 129) :
 jD pg yK #[v] w (fun r w' => ∃ v', r = .tuple #[v', .int .i64 0] /\ yB w' w.heap.size 1 v' (wrB (jZ l)).length ((On (wrB (jZ l))).map oZ) /\ jM w w' mN) := by
 refine HK ?_
 obtain ⟨hall, hd11, hl2, hl256, hlast, hsum⟩ := KD hd hd0
 have hnl := mY l
 obtain ⟨b, off, c, rfl, hc, hcell⟩ := Vc h (by omega)
 unfold JM zO zQ
 refine (U1 h (by omega)).mono ?_
 rintro r w1 ⟨rfl, rfl⟩
 rw [hd]
 have n1 : ((d : Int) == 0) = false := beq_eq_false_iff_ne.2 (by omega)
 have d1 : decide ((129 : Int) < (l.length : Int)) = false := by simp; omega
 have e1 : (l.length : Int) - 1 = ((l.length - 1 : Nat) : Int) := by omega
 have e2 : (127 : Int) + ((l.length - 1 : Nat) : Int) = ((126 + l.length : Nat) : Int) := by omega
 have e8 : IntKind.u8.wrap ((126 + l.length : Nat) : Int) = ((126 + l.length : Nat) : Int) := jG (by omega) (by omega)
 simp (disch := omega) only [gE, iC, n1, fM, cS, iA, e1, gY, hO, e2, fL, e8, hU, d1, fU]
 refine sJ (cells := #[.int .u8 (126 + l.length : Nat)]) (by decide) (by decide) (by kernel_rfl) fun w2 o2 x2 s2 => ?_
 obtain ⟨m, hm⟩ : ∃ m, m = (jZ l).take (l.length - 1) := ⟨_, rfl⟩
 have hml : m.length = l.length - 1 := by rw [hm, apA, hnl]; omega
 have hmg : ∀ i, i < l.length - 1 -> m.getD i 0 = (jZ l).getD i 0 := fun i hi => by
  rw [hm, aoN, aoN, aqD hi]
 have hm11 : ∀ x ∈ m, x <= 11 := fun x hx => by rw [hm] at hx; have := hall x (aqM hx); omega
 have hm16 : ∀ x ∈ m, x < 16 := fun x hx => by have := hm11 x hx; omega
 have hwr : wrB (jZ l) = (126 + l.length) :: MJ m := by unfold wrB; rw [hnl, hm]
 have hpl := SM m
 have ho2 : yB w2 w1.heap.size 1 (.slice (some ⟨w1.heap.size, 0, none⟩) 1 1) (0 + 1) ((On ((126 + l.length) :: (MJ m).take 0)).map oZ) := by
  refine ⟨by simp, .inr ⟨_, 1, [], rfl, aoP _, ?_, rfl, aoP _⟩⟩
  simp only [On, List.take_zero, apJ, atL, Zf (show 126 + l.length < 256 by omega), aqR]
  exact o2
 unfold Dx D4 Ea D8 DX
 refine kE.rule (fun q (t : atP × atP) w' => ∃ (j : Nat) (v' : atP), q = l.length - 1 + 1 - j /\ t = (v', .int .i64 (2 * j : Nat)) /\ j <= (m.length + 1) / 2 /\ yB w' w1.heap.size 1 v' (j + 1) ((On ((126 + l.length) :: (MJ m).take j)).map oZ) /\ jM w1 w' mN) (l.length - 1 + 1)
  ⟨0, _, rfl, rfl, by omega, ho2, x2⟩ ?_
 rintro q t w3 ⟨j, v', rfl, rfl, hj, o3, x3⟩
 have z3 := x3.size
 unfold AR Ft
 by_cases hlt : 2 * j < l.length - 1
 .have d2 : decide (((2 * j : Nat) : Int) < ((l.length - 1 : Nat) : Int)) = true := by simp only [decide_eq_true_eq]; omega
  obtain ⟨_, _, _, he, _, hcell3⟩ := Vc (h.ext x3 (kJ _)) (by omega)
  cases he
  have g1 := hcell3 (2 * j) (by omega)
  have hg1 := agN (l := l) (i := 2 * j) (by omega)
  rw [<- hg1, <- hmg (2 * j) hlt] at g1
  have hs1 := C1 (ns := MJ m) (i := j) (by omega)
  rw [acM (by omega)] at hs1
  have hx11 : m.getD (2 * j) 0 <= 11 := hm11 _ (DP (by omega))
  have hy11 := ahY hm16 (2 * j + 1)
  have e3 : ((2 * j : Nat) : Int) + 1 = ((2 * j + 1 : Nat) : Int) := by omega
  have hcells : ∀ z : Nat, z = m.getD (2 * j) 0 * 16 + m.getD (2 * j + 1) 0 -> z < 256 -> ((On ((126 + l.length) :: (MJ m).take j)).map oZ ++ [.int .u8 z]) = (On ((126 + l.length) :: (MJ m).take (j + 1))).map oZ := fun z hz hz2 => by
   rw [hs1, <- hz]
   simp only [On, apN, apJ, atL, Zf hz2, arB]
  have hodd : ¬ 2 * j + 1 < l.length - 1 -> m.getD (2 * j + 1) 0 = 0 := fun h => by
   rw [aoN, aoS (by omega)] <;> rfl
  have g2 : 2 * j + 1 < l.length - 1 -> w3.cell? ⟨b, off + (2 * j + 1), none⟩ = some (.int .u8 (m.getD (2 * j + 1) 0 : Nat)) := fun h => by
   have := hcell3 (2 * j + 1) (by omega)
   rw [<- agN (l := l) (i := 2 * j + 1) (by omega), <- hmg (2 * j + 1) h] at this
   exact this
  generalize m.getD (2 * j) 0 = x at *
  generalize m.getD (2 * j + 1) 0 = y at *
  have t4 : (4 : Int).toNat = 4 := rfl
  have e4 : IntKind.u8.wrap ((x : Int) * 2 ^ (min 4 IntKind.u8.bits)) = ((x * 16 : Nat) : Int) := by
   rw [show min 4 IntKind.u8.bits = 4 from rfl]
   have : (x : Int) * 2 ^ 4 = ((x * 16 : Nat) : Int) := by omega
   rw [this]
   exact jG (by omega) (by omega)
  unfold FG ES Kr FH
  by_cases h2 : 2 * j + 1 < l.length - 1
  .have d3 : decide (((2 * j + 1 : Nat) : Int) < ((l.length - 1 : Nat) : Int)) = true := by simp only [decide_eq_true_eq]; omega
   have g2 := g2 h2
   have e5 := VS (a := x * 16) (b := y) (by omega) (by omega)
   have e6 : x * 16 ||| y = x * 16 + y := by
    rw [Nat.or_comm]
    have := agK (x := y) (i := 4) (by omega) x
    rw [show x * 2 ^ 4 = x * 16 from rfl] at this
    rw [this]; omega
   rw [e6] at e5
   simp (disch := omega) only [gE, hJ, d2, fQ, aoE, hO, e3, gY, cS, gJ, d3, fZ, g1, gB, iD, t4, e4, g2, jH, e5]
   refine Vn (x := x * 16 + y) o3 (by omega) (by omega) (by omega) fun v4 w4 o4 x4 => ?_
   rw [hcells _ rfl (by omega)] at o4
   unfold vJ
   have e7 : ((2 * j : Nat) : Int) + 2 = ((2 * (j + 1) : Nat) : Int) := by omega
   simp (disch := omega) only [gE, hO, e7, gY, cS]
   exact ⟨l.length - 1 + 1 - (j + 1), by omega, j + 1, _, rfl, rfl, by omega, o4, x3.trans x4 fun b hb h => by omega⟩
  .have d3 : decide (((2 * j + 1 : Nat) : Int) < ((l.length - 1 : Nat) : Int)) = false := by simp only [decide_eq_false_iff_not]; omega
   have hy0 := hodd h2
   simp (disch := omega) only [gE, hJ, d2, fQ, aoE, hO, e3, gY, cS, gJ, d3, fU, g1, gB, iD, t4, e4, fZ]
   refine Vn (x := x * 16) o3 (by omega) (by omega) (by omega) fun v4 w4 o4 x4 => ?_
   rw [hcells _ (by omega) (by omega)] at o4
   unfold vJ
   have e7 : ((2 * j : Nat) : Int) + 2 = ((2 * (j + 1) : Nat) : Int) := by omega
   simp (disch := omega) only [gE, hO, e7, gY, cS]
   exact ⟨l.length - 1 + 1 - (j + 1), by omega, j + 1, _, rfl, rfl, by omega, o4, x3.trans x4 fun b hb h => by omega⟩
 .have d2 : decide (((2 * j : Nat) : Int) < ((l.length - 1 : Nat) : Int)) = false := by simp only [decide_eq_false_iff_not]; omega
  have hjE : j = (MJ m).length := by omega
  rw [aoU (by omega), <- hwr] at o3
  have hwl : (wrB (jZ l)).length = j + 1 := by rw [hwr, aoV]; omega
  unfold AN
  simp (disch := omega) only [gE, hJ, d2, cS, fU]
  exact ⟨v', rfl, by rw [hwl]; exact o3, x3⟩
end Go.Proofs.YtoecppploooloaaGreatDoor

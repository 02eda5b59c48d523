/- Parts of the proof of StoreSafe: merged and given short names by a program of ours. -/
import Derived.Test.YteelnmpbnaohpaaDoorZvD
set_option linter.unusedVariables false
set_option linter.unusedSimpArgs false
open Bool renaming false_eq_true → acK, not_false → acO, not_true → acP, and_eq_true → acV, or_false → afO, and_eq_false_iff → agS
open Int renaming toNat_natCast → acM
open List renaming getElem?_cons_zero → acI, getElem?_cons_succ → acJ, length_map → acR, getElem?_eq_getElem → acS, length_append → acT, getD_eq_getElem?_getD → acU, length_replicate → adI, length_eq_zero_iff → adK, getElem?_map → adQ, mem_append → adV, length_singleton → aeB, toList_toArray → aeC, mem_singleton → aeK, length_nil → aeN, nodup_cons → afG, length_set → afH, map_drop → afM, map_take → agB, map_replicate → agH, map_set → agY
open Nat renaming zero_add → acQ, le_refl → acY, add_sub_cancel_left → aeR, le_trans → aeV, mul_one → afE, mod_lt → afX, mul_add → agE, le_succ → agM
open Option renaming isNone_some → acL, isNone_none → acN, getD_some → adH, getD_none → afZ
open Option.some renaming injEq → adT
namespace Go.Proofs.YteelnmpbnaohpaaDoor
open Go Go.En Go.Pu
set_option maxRecDepth 4000
def Qt : List UInt8 := [97, 98, 99, 100, 101]
theorem XZ : gU [120, 121] ≠ gU [97, 98] := by decide +kernel
theorem Qx (r : Int) : Calm (Jg r) := ⟨rfl, rfl⟩
theorem Rw {r : Int} (h : 0 <= r /\ r <= 16777216) {n : Nat} (hn : n <= 100) : Bg n (Jg r) := ⟨⟨by show -1 <= (-1 : Int) /\ (-1 : Int) <= 9223372036854775807; decide, by show 0 <= _; omega, by simp [Jg], h⟩, by show 0 <= _; omega, by show 0 + n <= _; omega⟩
def noN : Nat -> Prop := fun _ => False
theorem Sm {w0 w : ahA} {room : Int} (x0 : gV w0 w jN) (h0 : 0 <= room) (h1 : room <= 16777216) : gT pg BQ #[.int .i64 room] w (fun r w' => ∃ p, r = .tuple #[dP p, .int .i64 0] /\ wG w0 noN w' p (Jg room) /\ gV w w' jN) := by
 refine (Zv h0 h1).mono ?_
 rintro r w' ⟨p, X, rfl, h, hX, x⟩
 exact ⟨p, rfl, ⟨X, X, h, fun b hb => ⟨by have := hX b hb; have := x0.size; omega, fun h => h⟩, x0.seq x, fun b h => h.elim⟩, x⟩
theorem Yz {w0 w : ahA} {y n c : Nat} (hy : w.heap.size <= y) : ¬ vO (.slice (some ⟨y, 0, none⟩) n c) (fun y => w0.heap.size <= y /\ y < w.heap.size) := by
 intro hi
 unfold vO at hi
 split at hi
 .rename_i e
  simp only [Value.slice.injEq, adT] at e
  obtain ⟨rfl, _⟩ := e
  have hi : w0.heap.size <= y /\ y < w.heap.size := hi
  omega
 .exact hi
theorem Wc {f : List UInt8} {k : Nat} {S : jL} (h : jC sF S.seen = none) : MC gU f k S = false := by
 unfold MC
 rw [h] <;> rfl
theorem UU {f : List UInt8} {k : Nat} {F0 : Option (List UInt8)} {recs : List (Nat × Nat)} {P : List UInt8} {S : jL} {s : nG} (h : Xc gU iA f k F0 recs P S s) {i : Nat} (hi : i < mA f.length k) (hv : s.hv.getD i false = false) {b : List UInt8} (hb : gU b ≠ gU (nW f.length k i f)) : pU gU iA S s i b = (S, s, 13) := by
 unfold pU
 have hw : BR gU s.man i b = false := by
  unfold BR
  rw [h.man, Sg gU hi, agS]
  exact .inr (beq_eq_false_iff_ne.2 hb)
 rw [h.err, h.hvl, if_neg (by decide), if_neg (by omega), acM, h.fin, hv, hw, if_neg (by decide), if_pos rfl]
theorem R4 {f : List UInt8} {k : Nat} {F0 : Option (List UInt8)} {recs : List (Nat × Nat)} {P : List UInt8} {S : jL} {s : nG} (h : Xc gU iA f k F0 recs P S s) {i : Nat} (hi : i < mA f.length k) (hv : s.hv.getD i false = false) : jK gU S s = (S, s, 30) := by
 unfold jK
 have ha : Ct s.hv = false := by
  cases hq : Ct s.hv with
  | false => rfl
  | true => rw [F3] at hq; rw [hq i (by rw [h.hvl]; exact hi)] at hv; cases hv
 rw [h.err, if_neg (by decide), h.fin, if_neg (by decide), ha, if_pos rfl]
theorem zZ {l : List Bool} {i j : Nat} (hi : i < l.length) : (l.set i true).getD j false = if j = i then true else l.getD j false := by
 rw [acU, List.getElem?_set]
 by_cases h : i = j
 .rw [if_pos h, if_pos hi, if_pos h.symm] <;> rfl
 .rw [if_neg h, if_neg (fun e => h e.symm), acU]
theorem YJ {n : Nat} {ps : List (Nat × ahB)} {l : List UInt8} {w : ahA} {K : ahB -> ahA -> Prop} (hl : l.length = n) (h1 : ¬ n * 1 > 2 ^ 24) (h0 : ¬ n * 1 = 0)
 (hf : Go.Instr.fill (fun j => some (j * 1, 1)) ((Array.range (n * 1)).map ((Tryd.t5.zero.get!).cells[· % (Tryd.t5.zero.get!).cells.size]!)) ps = some (l.map pG).toArray)
 (hk : ∀ w', Bs w' (.slice (some ⟨w.heap.size, 0, none⟩) n n) l -> gV w w' jN -> w'.heap.size = w.heap.size + 1 -> K (.slice (some ⟨w.heap.size, 0, none⟩) n n) w') :
 eY pg (iL 22 n ps) w fun t w => eY pg (lL 22 22 t) w K := by
 refine EN h1 h0 hf fun w1 o1 x1 s1 => ?_
 rw [aeC] at o1
 refine Rx o1 fun w2 o2 x2 s2 => ?_
 refine hk w2 ?_ (x1.trans x2 fun y hy h => by omega) (by omega)
 have := o2.whole (c := n) (by omega)
 rw [hl] at this
 exact this
theorem UW {w : ahA} (hg : qK w) : gT pg BU #[] w (fun r w' => r = .bool true /\ gV w w' jN) := by
 refine Nh ?_
 obtain ⟨RR, hRR⟩ : ∃ RR : ahB -> ahA -> Prop, RR = fun r w' => r = .bool true /\ gV w w' jN := ⟨_, rfl⟩
 rw [<- hRR]
 obtain ⟨S1, s1, hO, g1, r1, p1, v1⟩ := Wy (lf := gU) (cf := iA) (f := Qt) (k := 2) (F0 := none) (S := Jg 1000) (Qx _) (by decide) rfl rfl rfl (by simp [Jg]) rfl ⟨by show (0 : Int) <= 1000; decide, by show (1000 : Int) <= _; decide⟩ (Wc rfl) (by show ¬ (1000 : Int) < ((0 + 13 + 5 : Nat) : Int); decide)
 have hc : mA Qt.length 2 = 3 := by decide
 have e0 : nW Qt.length 2 0 Qt = [97, 98] := by decide
 have e1 : nW Qt.length 2 1 Qt = [99, 100] := by decide
 have e2 : nW Qt.length 2 2 Qt = [101] := by decide
 have rr1 : S1.room = 1000 := r1
 have z1 := g1.sz
 obtain ⟨S2, s2, hP1, g2, r2, p2, v2⟩ := (RE g1 (by decide) (by decide) (i := 1) (by rw [hc]; decide) (v1 1)).1 (by rw [rr1, z1]; decide)
 rw [e1] at hP1
 have hl1 := g1.hvl
 rw [hc] at hl1
 have v20 : s2.hv.getD 0 false = false := by rw [v2, zZ (by omega), if_neg (by decide)]; exact v1 0
 have hP2 := UU g2 (i := 0) (by rw [hc]; decide) v20 (b := [120, 121]) (by rw [e0]; exact XZ)
 have hC1 := R4 g2 (i := 0) (by rw [hc]; decide) v20
 have z2 := g2.sz
 have rr2 : S2.room = 1000 := r2.trans rr1
 obtain ⟨S3, s3, hP3, g3, r3, p3, v3⟩ := (RE g2 (by decide) (by decide) (i := 0) (by rw [hc]; decide) v20).1 (by rw [rr2, z2]; decide)
 rw [e0] at hP3
 have hl2 := g2.hvl
 have hl3 := g3.hvl
 rw [hc] at hl2 hl3
 have v32 : s3.hv.getD 2 false = false := by rw [v3, zZ (by omega), if_neg (by decide), v2, zZ (by omega), if_neg (by decide)]; exact v1 2
 have z3 := g3.sz
 have rr3 : S3.room = 1000 := r3.trans rr2
 obtain ⟨S4, s4, hP4, g4, r4, p4, v4⟩ := (RE g3 (by decide) (by decide) (i := 2) (by rw [hc]; decide) v32).1 (by rw [rr3, z3]; decide)
 rw [e2] at hP4
 have hall : ∀ i, i < mA Qt.length 2 -> s4.hv.getD i false = true := fun i hi => by
  rw [hc] at hi
  rw [v4, zZ (by omega), v3, zZ (by omega), v2, zZ (by omega)]
  match i, hi with
  | 0, _ => rfl
  | 1, _ => rfl
  | 2, _ => rfl
 obtain ⟨S5, s5, hC2, f5, er5, ep5, nm5, mn5, c5, r5, gf5, gl5, gp5, fz5, un5, hl5, lg5⟩ := Tj g4 (by decide) hall
 have hl4 := g4.hvl
 have z4 := g4.sz
 have hgx : ∀ {w' : ahA}, gV w w' jN -> qK w' := fun x => hg.ext x
 unfold Oe Dl
 refine (Sm (w0 := w) (gV.refl _ _) (by decide) (by decide)).mono ?_
 rintro r w1 ⟨p, rfl, h1, x1⟩
 simp (disch := omega) only [eY, gN, dX, stepR_skip, fO, fW, fN, fZ, fX, fY, gQ, gG, eT, fT, fS, gE, fR, fL, fV, fQ, fU, gB, gC, fP, fC, gI, gA, fK, iR, iO, iP, iU, iM, iS, iQ, iT, iN, eP, Result.ok.injEq, Next.value.injEq, true_and, and_true, fI, fJ, gH, fM, gD, gR, acM, fE, fF, fG, fD, eZ, eU, fB, eX, eQ, eH, if_true, if_false, acK, acQ, acL, acN, acP, acO, acJ, acI, eA, dV, aB, dM, dO, cB, eB, eS, eE, dK, eF, fA, dJ, eJ, bP, dS, bE, dN, aL, aH, eL, aX, cI, eM, aE, eN, dE, aR, bF, eD, bB, bC, bJ, aO, aI, cF, fH, dY, cJ, cC, dA, cH, dT, bD, eK, bT, dF, bR, aT, bV, aC, bY, bQ, cA, bX, aY, aU, bA, bU, dL, cP, bO, aV, aJ, aM, bG, aF, dC, dW, aK, aN, aZ, aG, cY, aD, cL, bW, bH, aP, cM, bZ, aA, dD, cO, cU, cG, dI, cD, dG, dU, cQ, eC, eI, bN, aS, dZ, bS, aQ, bL, dH, cZ, cV, cN, cS, bK, bM, cX, dR, cR, dQ, dB]
 refine YJ (l := Qt) rfl (by decide) (by decide) (by kernel_rfl) fun w2 b2 x2 zz2 => ?_
 refine (Po (f := Qt) (k := 2) (hgx (x1.seq x2)) b2 (by decide) ⟨by decide, by decide⟩).mono ?_
 rintro r w3 ⟨lv, rfl, hlv, x3⟩
 simp (disch := omega) only [eY, gN, dX, stepR_skip, fO, fW, fN, fZ, fX, fY, gQ, gG, eT, fT, fS, gE, fR, fL, fV, fQ, fU, gB, gC, fP, fC, gI, gA, fK, iR, iO, iP, iU, iM, iS, iQ, iT, iN, eP, Result.ok.injEq, Next.value.injEq, true_and, and_true, fI, fJ, gH, fM, gD, gR, acM, fE, fF, fG, fD, eZ, eU, fB, eX, eQ, eH, if_true, if_false, acK, acQ, acL, acN, acP, acO, acJ, acI, eA, dV, aB, dM, dO, cB, eB, eS, eE, dK, eF, fA, dJ, eJ, bP, dS, bE, dN, aL, aH, eL, aX, cI, eM, aE, eN, dE, aR, bF, eD, bB, bC, bJ, aO, aI, cF, fH, dY, cJ, cC, dA, cH, dT, bD, eK, bT, dF, bR, aT, bV, aC, bY, bQ, cA, bX, aY, aU, bA, bU, dL, cP, bO, aV, aJ, aM, bG, aF, dC, dW, aK, aN, aZ, aG, cY, aD, cL, bW, bH, aP, cM, bZ, aA, dD, cO, cU, cG, dI, cD, dG, dU, cQ, eC, eI, bN, aS, dZ, bS, aQ, bL, dH, cZ, cV, cN, cS, bK, bM, cX, dR, cR, dQ, dB]
 refine sK fun w4 o4 x4 zz4 => ?_
 have lv1 : one lv = true := by rcases hlv.2 with ⟨rfl, _⟩ | ⟨_, _, _, rfl, _⟩ <;> rfl
 refine qQ o4 rfl (by simp [one]; exact lv1) (by simp) fun w5 o5 x5 zz5 => ?_
 have o5 : jI w5 w3.heap.size (O3 (kO gU Qt 2) lv) := o5
 have lm := qR (off := 0) o5 (by simp)
 have lm : (gJ 28 (.pointer (some ⟨w3.heap.size, 0, none⟩))).run pg w5 = .ok (.value (.agg (O3 (kO gU Qt 2) lv).toArray)) w5 := lm
 have z3 := x3.size
 have z2' := x2.size
 have x15 : gV w1 w5 jN := ((x2.seq x3).seq x4).trans x5 fun y hy h => by omega
 have h5 := h1.new x15
 have hlv5 : Cl w5 32 lv (kO gU Qt 2).leaves.length (Vt (kO gU Qt 2).leaves) := Ro (wM (wM (OL (show Jv w3 (fun b => w2.heap.size <= b) 32 lv _ _ from hlv)) x4 (fun _ _ h => h)) x5 (fun b hb h => by omega))
 have hO5 := Nw h5 hg (Rw ⟨by decide, by decide⟩ (by decide)) (Tp ⟨by decide, by decide⟩ (by decide)) hlv5 (nm := sF) ⟨by decide, by decide⟩ (by show 0 <= _; omega) hO
 have n0' : ((0 : Int) != 0) = false := rfl
 simp (disch := omega) only [eY, gN, dX, stepR_skip, fO, fW, fN, fZ, fX, fY, gQ, gG, eT, fT, fS, gE, fR, fL, fV, fQ, fU, gB, gC, fP, fC, gI, gA, fK, iR, iO, iP, iU, iM, iS, iQ, iT, iN, eP, Result.ok.injEq, Next.value.injEq, true_and, and_true, fI, fJ, gH, fM, gD, gR, acM, fE, fF, fG, fD, eZ, eU, fB, eX, eQ, eH, if_true, if_false, acK, acQ, acL, acN, acP, acO, acJ, acI, eA, dV, aB, dM, dO, cB, eB, eS, eE, dK, eF, fA, dJ, eJ, bP, dS, bE, dN, aL, aH, eL, aX, cI, eM, aE, eN, dE, aR, bF, eD, bB, bC, bJ, aO, aI, cF, fH, dY, cJ, cC, dA, cH, dT, bD, eK, bT, dF, bR, aT, bV, aC, bY, bQ, cA, bX, aY, aU, bA, bU, dL, cP, bO, aV, aJ, aM, bG, aF, dC, dW, aK, aN, aZ, aG, cY, aD, cL, bW, bH, aP, cM, bZ, aA, dD, cO, cU, cG, dI, cD, dG, dU, cQ, eC, eI, bN, aS, dZ, bS, aQ, bL, dH, cZ, cV, cN, cS, bK, bM, cX, dR, cR, dQ, dB, lm]
 refine hO5.mono ?_
 rintro r w6 ⟨⟨q, rfl, _, h6⟩, -⟩
 have n3 : ((0 : Int) == 0) = true := rfl
 simp (disch := omega) only [eY, gN, dX, stepR_skip, fO, fW, fN, fZ, fX, fY, gQ, gG, eT, fT, fS, gE, fR, fL, fV, fQ, fU, gB, gC, fP, fC, gI, gA, fK, iR, iO, iP, iU, iM, iS, iQ, iT, iN, eP, Result.ok.injEq, Next.value.injEq, true_and, and_true, fI, fJ, gH, fM, gD, gR, acM, fE, fF, fG, fD, eZ, eU, fB, eX, eQ, eH, if_true, if_false, acK, acQ, acL, acN, acP, acO, acJ, acI, eA, dV, aB, dM, dO, cB, eB, eS, eE, dK, eF, fA, dJ, eJ, bP, dS, bE, dN, aL, aH, eL, aX, cI, eM, aE, eN, dE, aR, bF, eD, bB, bC, bJ, aO, aI, cF, fH, dY, cJ, cC, dA, cH, dT, bD, eK, bT, dF, bR, aT, bV, aC, bY, bQ, cA, bX, aY, aU, bA, bU, dL, cP, bO, aV, aJ, aM, bG, aF, dC, dW, aK, aN, aZ, aG, cY, aD, cL, bW, bH, aP, cM, bZ, aA, dD, cO, cU, cG, dI, cD, dG, dU, cQ, eC, eI, bN, aS, dZ, bS, aQ, bL, dH, cZ, cV, cN, cS, bK, bM, cX, dR, cR, dQ, dB, n0']
 have BD : ∀ {w' : ahA} {S S' : jL} {s s' : nG} {i e : Int} {n : Nat} {ps : List (Nat × ahB)} {l : List UInt8} {F0 : Option (List UInt8)} {recs : List (Nat × Nat)} {P : List UInt8} {K : ahB -> ahA -> Prop}, Ey w noN w' q p S s -> Xc gU iA Qt 2 F0 recs P S s -> recs.length <= 100 -> pU gU iA S s i l = (S', s', e) -> l.length = n -> l.length <= 100 -> ¬ n * 1 > 2 ^ 24 -> ¬ n * 1 = 0 -> (0 <= i /\ i <= 100) →
     Go.Instr.fill (fun j => some (j * 1, 1)) ((Array.range (n * 1)).map ((Tryd.t5.zero.get!).cells[· % (Tryd.t5.zero.get!).cells.size]!)) ps = some (l.map pG).toArray →
     (∀ w'', Ey w noN w'' q p S' s' -> K (.int .i64 e) w'') →
     eY pg (iL 22 n ps) w' fun t w => eY pg (lL 22 22 t) w fun t w => gT pg kI #[dP q, .int .i64 i, t] w K := by
  intro w' S S' s s' i e n ps l F0 recs P K hs hgot hrl hput hl hl2 k1 k2 hi hf hK
  refine YJ (l := l) hl k1 k2 hf fun w2 b2 x2 s2 => ?_
  refine (UE (b := l) hs x2 (hgot.bk (by omega)) (by rw [hgot.hvl, hgot.man, vR]) b2 (by omega) (Yz (acY _)) (by rw [hgot.log]; omega) (by omega)).mono ?_
  rintro r w3 ⟨rfl, h3, -⟩
  rw [hput] at h3 ⊢
  exact hK w3 h3
 refine BD h6 g1 (by decide) hP1 rfl (by decide) (by decide) (by decide) (by decide) (by kernel_rfl) fun w7 h7 => ?_
 refine BD h7 g2 (by decide) hP2 rfl (by decide) (by decide) (by decide) (by decide) (by kernel_rfl) fun w8 h8 => ?_
 have hsm : ∀ {S : jL} {n : Nat}, iJ S.seen = n -> n <= 1000 -> ∀ b, ∀ k, jC k S.seen = some b -> b.length <= 1000000 := fun {S n} hz hn b k hb => by
  have h1 := BJ (k := k) (c := S.seen)
  rw [hb] at h1
  have h1 : b.length <= iJ S.seen := h1
  omega
 refine (Ld h8 (g2.bk (by decide)) (fun b hb => hsm z2 (by decide) b _ hb)).mono ?_
 rintro r w9 ⟨rfl, h9, -⟩
 rw [hC1] at h9 ⊢
 refine BD h9 g2 (by decide) hP3 rfl (by decide) (by decide) (by decide) (by decide) (by kernel_rfl) fun w10 h10 => ?_
 refine BD h10 g3 (by decide) hP4 rfl (by decide) (by decide) (by decide) (by decide) (by kernel_rfl) fun w11 h11 => ?_
 refine (Ld h11 (g4.bk (by decide)) (fun b hb => hsm z4 (by decide) b _ hb)).mono ?_
 rintro r w12 ⟨rfl, h12, -⟩
 rw [hC2] at h12 ⊢
 have hz4 : iJ S4.seen = 57 := by rw [z4] <;> rfl
 have B5 : Bg 0 S5 := ⟨⟨by rw [c5.left]; omega, by omega, by rw [un5]; simp, by rw [r5, r4, rr3]; decide⟩, by omega, by rw [un5]; simp⟩
 refine (St (n := sF) h12 B5 c5.up).mono ?_
 rintro r w13 ⟨hr, h13, x13⟩
 rw [gf5] at hr
 rcases hr with ⟨h, _⟩ | ⟨b, v, hb, rfl, ho⟩
 .cases h
 cases hb
 simp (disch := omega) only [eY, gN, dX, stepR_skip, fO, fW, fN, fZ, fX, fY, gQ, gG, eT, fT, fS, gE, fR, fL, fV, fQ, fU, gB, gC, fP, fC, gI, gA, fK, iR, iO, iP, iU, iM, iS, iQ, iT, iN, eP, Result.ok.injEq, Next.value.injEq, true_and, and_true, fI, fJ, gH, fM, gD, gR, acM, fE, fF, fG, fD, eZ, eU, fB, eX, eQ, eH, if_true, if_false, acK, acQ, acL, acN, acP, acO, acJ, acI, eA, dV, aB, dM, dO, cB, eB, eS, eE, dK, eF, fA, dJ, eJ, bP, dS, bE, dN, aL, aH, eL, aX, cI, eM, aE, eN, dE, aR, bF, eD, bB, bC, bJ, aO, aI, cF, fH, dY, cJ, cC, dA, cH, dT, bD, eK, bT, dF, bR, aT, bV, aC, bY, bQ, cA, bX, aY, aU, bA, bU, dL, cP, bO, aV, aJ, aM, bG, aF, dC, dW, aK, aN, aZ, aG, cY, aD, cL, bW, bH, aP, cM, bZ, aA, dD, cO, cU, cG, dI, cD, dG, dU, cQ, eC, eI, bN, aS, dZ, bS, aQ, bL, dH, cZ, cV, cN, cS, bK, bM, cX, dR, cR, dQ, dB]
 refine (Kc h13).mono ?_
 rintro r w14 ⟨rfl, hw⟩
 rw [hw]; clear hw w14
 have pe : s5.epoch = 1 := by rw [ep5, p4, p3, p2, p1]
 rw [pe]
 obtain ⟨va, vc, rfl⟩ := ho.len
 have hv := rU (show Bs w13 (.slice va Qt.length vc) Qt from ho.sl)
 have k1 : (((1 : Nat) : Int) == 1) = true := rfl
 have k2 : ((13 : Int) == 13) = true := rfl
 have k3 : ((30 : Int) == 30) = true := rfl
 have k4 : ((⟨Qt.toArray⟩ : ByteArray).toList == (⟨#[97, 98, 99, 100, 101]⟩ : ByteArray).toList) = true := by
  rw [show (⟨Qt.toArray⟩ : ByteArray) = ⟨#[97, 98, 99, 100, 101]⟩ from rfl]
  simp
 simp (disch := omega) only [eY, gN, dX, stepR_skip, fO, fW, fN, fZ, fX, fY, gQ, gG, eT, fT, fS, gE, fR, fL, fV, fQ, fU, gB, gC, fP, fC, gI, gA, fK, iR, iO, iP, iU, iM, iS, iQ, iT, iN, eP, Result.ok.injEq, Next.value.injEq, true_and, and_true, fI, fJ, gH, fM, gD, gR, acM, fE, fF, fG, fD, eZ, eU, fB, eX, eQ, eH, if_true, if_false, acK, acQ, acL, acN, acP, acO, acJ, acI, eA, dV, aB, dM, dO, cB, eB, eS, eE, dK, eF, fA, dJ, eJ, bP, dS, bE, dN, aL, aH, eL, aX, cI, eM, aE, eN, dE, aR, bF, eD, bB, bC, bJ, aO, aI, cF, fH, dY, cJ, cC, dA, cH, dT, bD, eK, bT, dF, bR, aT, bV, aC, bY, bQ, cA, bX, aY, aU, bA, bU, dL, cP, bO, aV, aJ, aM, bG, aF, dC, dW, aK, aN, aZ, aG, cY, aD, cL, bW, bH, aP, cM, bZ, aA, dD, cO, cU, cG, dI, cD, dG, dU, cQ, eC, eI, bN, aS, dZ, bS, aQ, bL, dH, cZ, cV, cN, cS, bK, bM, cX, dR, cR, dQ, dB, k1, n3, k2, k3, hv, ZA, k4]
 refine (Xt h13).mono ?_
 rintro r w14 ⟨rfl, hw⟩
 rw [hw]; clear hw w14
 rw [f5]
 simp (disch := omega) only [eY, gN, dX, stepR_skip, fO, fW, fN, fZ, fX, fY, gQ, gG, eT, fT, fS, gE, fR, fL, fV, fQ, fU, gB, gC, fP, fC, gI, gA, fK, iR, iO, iP, iU, iM, iS, iQ, iT, iN, eP, Result.ok.injEq, Next.value.injEq, true_and, and_true, fI, fJ, gH, fM, gD, gR, acM, fE, fF, fG, fD, eZ, eU, fB, eX, eQ, eH, if_true, if_false, acK, acQ, acL, acN, acP, acO, acJ, acI, eA, dV, aB, dM, dO, cB, eB, eS, eE, dK, eF, fA, dJ, eJ, bP, dS, bE, dN, aL, aH, eL, aX, cI, eM, aE, eN, dE, aR, bF, eD, bB, bC, bJ, aO, aI, cF, fH, dY, cJ, cC, dA, cH, dT, bD, eK, bT, dF, bR, aT, bV, aC, bY, bQ, cA, bX, aY, aU, bA, bU, dL, cP, bO, aV, aJ, aM, bG, aF, dC, dW, aK, aN, aZ, aG, cY, aD, cL, bW, bH, aP, cM, bZ, aA, dD, cO, cU, cG, dI, cD, dG, dU, cQ, eC, eI, bN, aS, dZ, bS, aQ, bL, dH, cZ, cV, cN, cS, bK, bM, cX, dR, cR, dQ, dB]
 refine (SJ h13).mono ?_
 rintro r w14 ⟨hh, h14, x14⟩
 obtain ⟨ha, hcc, rfl⟩ := hh.len
 rw [hl5, hc]
 have k5 : (((3 : Nat) : Int) == 3) = true := rfl
 simp (disch := omega) only [eY, gN, dX, stepR_skip, fO, fW, fN, fZ, fX, fY, gQ, gG, eT, fT, fS, gE, fR, fL, fV, fQ, fU, gB, gC, fP, fC, gI, gA, fK, iR, iO, iP, iU, iM, iS, iQ, iT, iN, eP, Result.ok.injEq, Next.value.injEq, true_and, and_true, fI, fJ, gH, fM, gD, gR, acM, fE, fF, fG, fD, eZ, eU, fB, eX, eQ, eH, if_true, if_false, acK, acQ, acL, acN, acP, acO, acJ, acI, eA, dV, aB, dM, dO, cB, eB, eS, eE, dK, eF, fA, dJ, eJ, bP, dS, bE, dN, aL, aH, eL, aX, cI, eM, aE, eN, dE, aR, bF, eD, bB, bC, bJ, aO, aI, cF, fH, dY, cJ, cC, dA, cH, dT, bD, eK, bT, dF, bR, aT, bV, aC, bY, bQ, cA, bX, aY, aU, bA, bU, dL, cP, bO, aV, aJ, aM, bG, aF, dC, dW, aK, aN, aZ, aG, cY, aD, cL, bW, bH, aP, cM, bZ, aA, dD, cO, cU, cG, dI, cD, dG, dU, cQ, eC, eI, bN, aS, dZ, bS, aQ, bL, dH, cZ, cV, cN, cS, bK, bM, cX, dR, cR, dQ, dB, k5]
 rw [hRR]
 exact ⟨rfl, h14.x⟩
theorem Xp {f : List UInt8} {a : Option Addr} {c k i : Nat} {w : ahA} (hb : Bs w (.slice a f.length c) f) (hi : k * i < f.length) : Bs w (.slice (kA a c (k * i) 1) (k * i + Kq f.length k i - k * i) (c - k * i)) (nW f.length k i f) := by
 have hse := Db hi
 have := Sl.mid hb (i := k * i) (j := k * i + Kq f.length k i) (by omega) (by omega)
 rw [<- afM, <- agB, aeR] at this
 rw [aeR]
 exact this
theorem U7 {L k i : Nat} (hi : k * i < L) : (k * (i + 1) <= L -> k * i + Kq L k i = k * (i + 1)) /\ (L < k * (i + 1) -> k * i + Kq L k i = L) := by
 have : k * (i + 1) = k * i + k := by rw [agE, afE]
 unfold Kq
 constructor
 .intro h; omega
 .intro h; omega
theorem Zl {w0 w : ahA} {v : ahB} {l : List ahB} (h : Sl w0 v l) : ¬ vO v (fun y => w0.heap.size <= y /\ y < w.heap.size) := fun hi => h.old (vG hi fun y hy => hy.1)
theorem wG.hold {w0 : ahA} {N : Nat -> Prop} {w wa : ahA} {p : Nat} {S : jL} {v : ahB} {b : List UInt8} (h : wG w0 N w p S) (x : gV w wa jN) (ho : Ac wa w.heap.size 1 v b.length (b.map pG)) : ∃ N', wG w0 N' wa p S /\ (∀ y, N y -> N' y) /\ ∀ w', gV wa w' (VY w0 N') -> Bs w' v b := by
 have hs : Bs wa v b := ho.sl
 rcases ho.2 with ⟨rfl, h0⟩ | ⟨bb, c, rest, rfl, g2, g3, _⟩
 .have : b = [] := adK.1 h0
  subst this
  exact ⟨N, h.new x, fun _ h => h, fun w' _ => Sl.nil _⟩
 .refine ⟨_, h.add x g2 g3.lt, fun _ h => .inl h, fun w' x' => hs.ext x' fun hi => ?_⟩
  unfold vO at hi
  split at hi
  .rename_i e
   simp only [Value.slice.injEq, adT] at e
   obtain ⟨rfl, _⟩ := e
   exact hi.2 (.inr rfl)
  .exact hi
theorem Ey.hold {w0 : ahA} {N : Nat -> Prop} {w wa : ahA} {q p : Nat} {S : jL} {s : nG} {v : ahB} {b : List UInt8} (h : Ey w0 N w q p S s) (x : gV w wa jN) (ho : Ac wa w.heap.size 1 v b.length (b.map pG)) : ∃ N', Ey w0 N' wa q p S s /\ (∀ y, N y -> N' y) /\ ∀ w', gV wa w' (VY w0 N') -> Bs w' v b := by
 have hs : Bs wa v b := ho.sl
 rcases ho.2 with ⟨rfl, h0⟩ | ⟨bb, c, rest, rfl, g2, g3, _⟩
 .have : b = [] := adK.1 h0
  subst this
  exact ⟨N, h.new x, fun _ h => h, fun w' _ => Sl.nil _⟩
 .refine ⟨_, h.add x g2 g3.lt, fun _ h => .inl h, fun w' x' => hs.ext x' fun hi => ?_⟩
  unfold vO at hi
  split at hi
  .rename_i e
   simp only [Value.slice.injEq, adT] at e
   obtain ⟨rfl, _⟩ := e
   exact hi.2 (.inr rfl)
  .exact hi
theorem Ta {w0 : ahA} {N : Nat -> Prop} {w : ahA} {p : Nat} {S : jL} {name : ByteArray} {a : Int} {bv : ahB} {l : List UInt8} (h : wG w0 N w p S) (hB : Yu S) (hb : Bs w bv l) (hl : l.length <= 1000000000) (ha : 0 <= a /\ a <= 1000000000) :
 gT pg kY #[dP p, .string name, .int .i64 a, bv] w (fun r w' => r = .int .i64 (Da S name a l).2 /\ wG w0 N w' p (Da S name a l).1 /\ gV w w' (VY w0 N)) := by
 obtain ⟨X, D, h, hX, x0, hN⟩ := h
 refine (MR h hB hb hl (by omega) (by omega)).mono ?_
 rintro r w' ⟨rfl, hp⟩
 exact ⟨rfl, wG.post h hX x0 hN hp⟩
theorem Vr {w0 : ahA} {N : Nat -> Prop} {w : ahA} {p : Nat} {S : jL} (h : wG w0 N w p S) (hB : Yu S) :
 gT pg jJ #[dP p] w (fun r w' => r = .int .i64 (Ab S).2 /\ wG w0 N w' p (Ab S).1 /\ gV w w' (VY w0 N)) := by
 obtain ⟨X, D, h, hX, x0, hN⟩ := h
 refine (V6 h hB).mono ?_
 rintro r w' ⟨rfl, hp⟩
 exact ⟨rfl, wG.post h hX x0 hN hp⟩
theorem Xj {n : Nat} {S : jL} {s : nG} {i : Nat} {b : List UInt8} (hB : Bg (n + 2) S) : Bg n (kC iA S s i b).1 := by
 have h1 : Bg (n + 1) (Da S (gZ s.nm) (s.man.part * i : Nat) b).1 := QC hB
 have h2 := WB h1
 have h3 : Bg n (jQ iA (Ab (Da S (gZ s.nm) (s.man.part * i : Nat) b).1).1 s 2 i).1 := Tx h2
 have h4 := WB h3
 unfold kC
 simp only
 split
 .exact h1.le (by omega)
 split
 .exact h2.le (by omega)
 split
 .exact h3
 .exact h4
theorem Zi {n : Nat} {S : jL} {s : nG} {i : Int} {b : List UInt8} (hB : Bg (n + 2) S) : Bg n (pU gU iA S s i b).1 := by
 unfold pU
 split
 .exact hB.le (by omega)
 split
 .exact hB.le (by omega)
 split
 .exact hB.le (by omega)
 split
 .exact hB.le (by omega)
 exact Xj hB
theorem T2 {S : jL} {o : NT} : (pW S o).1.seen = S.seen ∨ (pW S o).1.seen = CV o S.seen := by
 unfold pW
 split
 .exact .inl rfl
 .exact .inr rfl
theorem Ul {S : jL} {k : ByteArray} {a : Nat} {l : List UInt8} : iJ (Da S k a l).1.seen <= iJ S.seen + (a + l.length) := by
 unfold Da
 split
 .rcases T2 (S := S) (o := ⟨0, k, ⟨#[]⟩, (a : Int).toNat, l⟩) with h | h
  .rw [h]; omega
  .have e : CV ⟨0, k, ⟨#[]⟩, (a : Int).toNat, l⟩ S.seen = nB k (over (oD S k) (a : Int).toNat l) S.seen := rfl
   have hs := nR k (over (oD S k) (a : Int).toNat l) S.seen
   rw [B2, acM] at hs
   rw [h, e, acM]
   unfold oD at *
   generalize ((jC k S.seen).getD []).length = q at *
   omega
 .exact Nat.le_add_right _ _
theorem T6 {S : jL} : (Ab S).1.seen = S.seen := by
 unfold Ab
 split
 .rfl
 .split
  .rfl
  .rfl
theorem Wl {S : jL} {s : nG} {k v : Nat} : iJ (jQ iA S s k v).1.seen <= iJ S.seen + (s.log + 13) := by
 have h := Ul (S := S) (k := jH s.nm) (a := s.log) (l := rT iA k v)
 rw [nJ] at h
 unfold jQ
 simp only
 split
 .exact h
 .exact h
theorem Td {S : jL} {s : nG} {i : Nat} {b : List UInt8} : iJ (kC iA S s i b).1.seen <= iJ S.seen + (s.man.part * i + b.length) + (s.log + 13) := by
 have h1 := Ul (S := S) (k := gZ s.nm) (a := s.man.part * i) (l := b)
 have h2 := T6 (S := (Da S (gZ s.nm) (s.man.part * i : Nat) b).1)
 have h3 := Wl (S := (Ab (Da S (gZ s.nm) (s.man.part * i : Nat) b).1).1) (s := s) (k := 2) (v := i)
 have h4 := T6 (S := (jQ iA (Ab (Da S (gZ s.nm) (s.man.part * i : Nat) b).1).1 s 2 i).1)
 rw [h2] at h3
 unfold kC
 simp only
 split
 .exact aeV h1 (by omega)
 split
 .rw [h2]; exact aeV h1 (by omega)
 split
 .exact aeV h3 (by omega)
 .rw [h4]; exact aeV h3 (by omega)
theorem Xq {S : jL} {s : nG} {i : Int} {b : List UInt8} : iJ (pU gU iA S s i b).1.seen <= iJ S.seen + (s.man.part * i.toNat + b.length) + (s.log + 13) := by
 unfold pU
 split
 .show iJ S.seen <= _; omega
 split
 .show iJ S.seen <= _; omega
 split
 .show iJ S.seen <= _; omega
 split
 .show iJ S.seen <= _; omega
 exact Td
theorem TG {S : jL} {s : nG} (h : s.err ≠ 0) : jK gU S s = (S, s, s.err) := by unfold jK; rw [if_pos h]
def Rs (r : Int) (old : List UInt8) : jL := { Jg r with sure := [(sF, old)], seen := [(sF, old)], under := [] }
theorem WX {r : Int} {old : List UInt8} (h : ¬ r < ((old.length : Nat) : Int)) : Da (Jg r) sF 0 old = ({ Jg r with under := [⟨0, sF, ⟨#[]⟩, 0, old⟩], seen := [(sF, old)] }, 0) := by
 have e := ON (S := Jg r) (k := sF) (a := 0) (l := old) (Qx r) WD (Nat.zero_le _)
 have e1 : iJ (Jg r).seen + (0 + old.length - (oD (Jg r) sF).length) = old.length := by
  show 0 + (0 + old.length - 0) = _
  omega
 rw [e1, if_neg (show ¬ (Jg r).room < ((old.length : Nat) : Int) from h)] at e
 rw [show ((0 : Nat) : Int) = 0 from rfl] at e
 rw [e]
 have e2 : over (oD (Jg r) sF) 0 old = old := by
  have := Pf (old := ([] : List UInt8)) (b := old)
  exact this
 rw [e2]
 rfl
theorem Zn {r : Int} {old : List UInt8} : Ab ({ Jg r with under := [⟨0, sF, ⟨#[]⟩, 0, old⟩], seen := [(sF, old)] } : jL) = (Rs r old, 0) := by
 rw [Hd ⟨rfl, rfl⟩]
 rfl
theorem WS {r : Int} {old : List UInt8} : Calm (Rs r old) := ⟨rfl, rfl⟩
theorem Pb {r : Int} {old : List UInt8} : iJ (Rs r old).seen = old.length := by
 show (([(sF, old)] : oR).map fun p => p.2.length).sum = _
 simp
theorem aaK {r : Int} {old : List UInt8} : jC sF (Rs r old).seen = some old := by
 show jC sF [(sF, old)] = _
 unfold jC
 rw [if_pos rfl]
theorem Z5 {r : Int} {old : List UInt8} : jC (gZ sF) (Rs r old).seen = none := by
 show jC (gZ sF) [(sF, old)] = _
 unfold jC
 rw [if_neg (Ne.symm Re)]
 rfl
theorem aaA {r : Int} {old : List UInt8} : jC (jH sF) (Rs r old).seen = none := by
 show jC (jH sF) [(sF, old)] = _
 unfold jC
 rw [if_neg (Ne.symm UZ)]
 rfl
theorem Ze {r : Int} {old : List UInt8} (h : 0 <= r /\ r <= 16777216) (hl : old.length <= 1000) {n : Nat} (hn : n <= 1000) : Bg n (Rs r old) := by
 have hz := Pb (r := r) (old := old)
 exact ⟨⟨by show -1 <= (-1 : Int) /\ (-1 : Int) <= 9223372036854775807; decide, by omega, by show 0 <= _; omega, h⟩, by omega, by show 0 + n <= _; omega⟩
end Go.Proofs.YteelnmpbnaohpaaDoor
namespace Go.Proofs.YteelnmpbnaohpaaDoor
open Go Go.En Go.Pu
set_option maxRecDepth 4000
set_option maxHeartbeats 2000000
theorem Wp (l : List UInt8) : (⟨l.toArray⟩ : ByteArray).toList = l := by
 rw [ByteArray.toList_eq]
theorem ZB {a b : List UInt8} (h : a ≠ b) : ((⟨a.toArray⟩ : ByteArray).toList == (⟨b.toArray⟩ : ByteArray).toList) = false := by
 rw [Wp, Wp]; exact beq_eq_false_iff_ne.2 h
theorem Xn (a : List UInt8) : ((⟨a.toArray⟩ : ByteArray).toList == (⟨a.toArray⟩ : ByteArray).toList) = true := beq_self_eq_true _
theorem wG.turn {w0 : ahA} {N : Nat -> Prop} {w w' : ahA} {p b : Nat} {S : jL} (h : wG w0 N w p S) (hb : N b) (hb0 : w0.heap.size <= b) (x : gV w w' (fun y => y = b)) : wG w0 N w' p S := by
 obtain ⟨X, D, h, hX, x0, hN⟩ := h
 exact ⟨X, D, h.ext x fun y hy => by subst hy; exact ⟨hN _ hb, fun hx => (hX _ hx).2 hb⟩, hX, x0.trans x fun y hy hm => by omega, hN⟩
end Go.Proofs.YteelnmpbnaohpaaDoor
namespace Go.Proofs.YteelnmpbnaohpaaDoor
open Go Go.En Go.Pu
set_option maxHeartbeats 1000000
def LD (f : List UInt8) (k : Nat) (F0 : List UInt8) : Bool := F0.length == f.length && Ct (iV gU (kO gU f k) F0)
theorem YW {f F0 : List UInt8} {k : Nat} {S : jL} (h : jC sF S.seen = some F0) : MC gU f k S = LD f k F0 := by
 unfold MC LD
 rw [h, Option.isSome_some, adH, Bool.true_and]
theorem Nc {f : List UInt8} {k : Nat} (hk : 0 < k) : LD f k f = true := by
 unfold LD
 rw [G2 gU hk]
 simp
structure qG (old f : List UInt8) (k : Nat) (T : Nat -> Prop) (e n : Nat) (c : oR) (F0 : List UInt8) (recs : List (Nat × Nat)) (P : Option (List UInt8)) : Prop where
 gF : jC sF c = some F0
 of : F0 = old ∨ F0 = f
 gL : (jC (jH sF) c).getD [] = mS iA recs
 gP : jC (gZ sF) c = P
 Pl : ∀ p, P = some p -> p.length = f.length
 ok : ∀ r ∈ recs, S6 r
 la : jY 1 recs = e
 rn : recs.length <= n
 nd : (c.map (·.1)).Nodup
 sz : iJ c = F0.length + (P.getD []).length + 13 * recs.length
 pc : LD f k F0 = true ∨ ∀ i, i < mA f.length k -> ((2, i) ∈ recs -> ∃ p, P = some p /\ nW f.length k i p = nW f.length k i f) /\ (T i -> (2, i) ∈ recs)
def Good (old f : List UInt8) (k : Nat) (T : Nat -> Prop) (e n : Nat) (c : oR) : Prop := ∃ F0 recs P, qG old f k T e n c F0 recs P
theorem qG.mono {old f : List UInt8} {k : Nat} {T T' : Nat -> Prop} {e n n' : Nat} {c : oR} {F0 : List UInt8} {recs : List (Nat × Nat)} {P : Option (List UInt8)} (h : qG old f k T e n c F0 recs P) (hT : ∀ i, T' i -> T i) (hn : n <= n') : qG old f k T' e n' c F0 recs P :=
 ⟨h.gF, h.of, h.gL, h.gP, h.Pl, h.ok, h.la, aeV h.rn hn, h.nd, h.sz, h.pc.imp id fun hh i hi => ⟨(hh i hi).1, fun t => (hh i hi).2 (hT i t)⟩⟩
section
variable {old f : List UInt8} {k : Nat} {T : Nat -> Prop} {e n : Nat} {c : oR} {F0 : List UInt8} {recs : List (Nat × Nat)} {P : Option (List UInt8)}
theorem qG.len (h : qG old f k T e n c F0 recs P) (ho : old.length <= 200) (hf : f.length <= 200) (hn : n <= 200) : iJ c <= 400 + 13 * 200 /\ F0.length <= 200 := by
 have h1 : F0.length <= 200 := by rcases h.of with h | h <;> rw [h] <;> assumption
 have h2 : (P.getD []).length <= 200 := by
  cases hp : P with
  | none => exact Nat.zero_le _
  | some p => have := h.Pl p hp; rw [adH]; omega
 have := h.sz
 have := h.rn
 omega
theorem qG.addR (h : qG old f k T e n c F0 recs P) {r : Nat × Nat} (hr : S6 r) (T' : Nat -> Prop) (e' : Nat) (he : jY 1 (recs ++ [r]) = e')
 (hp : LD f k F0 = true ∨ ∀ i, i < mA f.length k -> (r = (2, i) -> ∃ p, P = some p /\ nW f.length k i p = nW f.length k i f) /\ (T' i -> T i ∨ r = (2, i))) : qG old f k T' e' (n + 1) (nB (jH sF) (mS iA (recs ++ [r])) c) F0 (recs ++ [r]) P := by
 refine ⟨by rw [kG UZ]; exact h.gF, h.of, by rw [qD] <;> rfl, by rw [kG RH]; exact h.gP, h.Pl, fun x hx => ?_, he, ?_, sC h.nd, ?_, ?_⟩
 .rcases adV.1 hx with hx | hx
  .exact h.ok x hx
  .rw [aeK] at hx
   rw [hx]; exact hr
 .have := h.rn
  rw [acT, aeB]; omega
 .have h1 := nR (jH sF) (mS iA (recs ++ [r])) c
  rw [h.gL, lM, lM, acT, aeB] at h1
  have := h.sz
  rw [acT, aeB]
  omega
 .rcases hp with hp | hp
  .exact .inl hp
  rcases h.pc with h1 | h1
  .exact .inl h1
  .refine .inr fun i hi => ⟨fun hm => ?_, fun ht => ?_⟩
   .rcases adV.1 hm with hm | hm
    .exact (h1 i hi).1 hm
    .rw [aeK] at hm
     exact (hp i hi).1 hm.symm
   .rcases (hp i hi).2 ht with h2 | h2
    .exact adV.2 (.inl ((h1 i hi).2 h2))
    .exact adV.2 (.inr (aeK.2 h2.symm))
theorem qG.part {p : List UInt8} (h : qG old f k T e n c F0 recs (some p)) (hk : 0 < k) {i : Nat} (hi : i < mA f.length k) (hm : (2, i) ∉ recs) : qG old f k T e n (nB (gZ sF) (over p (k * i) (nW f.length k i f)) c) F0 recs (some (over p (k * i) (nW f.length k i f))) := by
 have hpl := h.Pl p rfl
 have hki := (Av hk).1 hi
 have hse := Db hki
 have hlen : (over p (k * i) (nW f.length k i f)).length = f.length := by
  rw [B2, hpl, BF rfl]; omega
 refine ⟨by rw [kG Re]; exact h.gF, h.of, by rw [kG (Ne.symm RH)]; exact h.gL, qD, fun q hq => by cases hq; exact hlen, h.ok, h.la, h.rn, sC h.nd, ?_, ?_⟩
 .have h1 := nR (gZ sF) (over p (k * i) (nW f.length k i f)) c
  rw [h.gP, adH, hpl, hlen] at h1
  have := h.sz
  rw [adH] at this ⊢
  omega
 .rcases h.pc with h1 | h1
  .exact .inl h1
  .refine .inr fun j hj => ⟨fun hmj => ?_, (h1 j hj).2⟩
   obtain ⟨q, hq, he⟩ := (h1 j hj).1 hmj
   cases hq
   refine ⟨_, rfl, ?_⟩
   rw [Jx hpl rfl hki (fun e => hm (by rw [<- e]; exact hmj))]
   exact he
theorem qG.fill (h : qG old f k T e n c F0 recs none) : qG old f k T e n (nB (gZ sF) (List.replicate f.length 0) c) F0 recs (some (List.replicate f.length 0)) := by
 refine ⟨by rw [kG Re]; exact h.gF, h.of, by rw [kG (Ne.symm RH)]; exact h.gL, qD, fun q hq => by cases hq; simp, h.ok, h.la, h.rn, sC h.nd, ?_, ?_⟩
 .have h1 := nR (gZ sF) (List.replicate f.length (0 : UInt8)) c
  rw [h.gP, afZ, aeN, adI] at h1
  have := h.sz
  rw [afZ, aeN] at this
  rw [adH, adI]
  omega
 .rcases h.pc with h1 | h1
  .exact .inl h1
  .refine .inr fun j hj => ⟨fun hmj => ?_, (h1 j hj).2⟩
   obtain ⟨q, hq, he⟩ := (h1 j hj).1 hmj
   cases hq
theorem qG.name (h : qG old f k T e n c F0 recs (some f)) (hk : 0 < k) : qG old f k T e n (nB sF f (zB (gZ sF) c)) f recs none := by
 have hd : ∀ j, jC j (zB (gZ sF) c) = if j = gZ sF then none else jC j c := fun j => OU h.nd
 refine ⟨qD, .inr rfl, by rw [kG (Ne.symm UZ), hd, if_neg (Ne.symm RH)]; exact h.gL, by rw [kG (Ne.symm Re), hd, if_pos rfl], (fun q hq => by cases hq), h.ok, h.la, h.rn, sC (TC h.nd), ?_, .inl (Nc hk)⟩
 have h1 := nR sF f (zB (gZ sF) c)
 have h2 := Di (gZ sF) c
 rw [hd, if_neg Re, h.gF, adH] at h1
 rw [h.gP, adH] at h2
 have := h.sz
 rw [adH] at this
 rw [afZ, aeN]
 omega
structure VE (old f : List UInt8) (k : Nat) (T : Nat -> Prop) (e n : Nat) (S : jL) : Prop where
 rm : S.room = 100000
 gs : Good old f k T e n S.sure
 un : S.under = [] ∨ ∃ o, S.under = [o] /\ (o.at' <= 1000000 /\ o.bytes.length <= 1000000) /\ Good old f k T e n (CV o S.sure)
structure M4 (old f : List UInt8) (k : Nat) (T : Nat -> Prop) (e n : Nat) (S : jL) (s : nG) (F0 : List UInt8) (recs : List (Nat × Nat)) (P : Option (List UInt8)) : Prop where
 dn : S.down = false
 lf : -1 <= S.left /\ S.left <= 100
 rm : S.room = 100000
 un : S.under = []
 ss : S.sure = S.seen
 gd : qG old f k T e n S.seen F0 recs P
 nm : s.nm = sF
 man : s.man = kO gU f k
 err : s.err = 0
 ep : s.epoch = e
 log : s.log = 13 * recs.length
 fin : s.fin = LD f k F0
 hvl : s.hv.length = mA f.length k
 hv : LD f k F0 = true -> ∀ i, i < mA f.length k -> s.hv.getD i false = true
 hp : LD f k F0 = false -> ∃ p, P = some p /\ ∀ i, i < mA f.length k -> (s.hv.getD i false = true ↔ (2, i) ∈ recs)
theorem M4.saf {S : jL} {s : nG} (h : M4 old f k T e n S s F0 recs P) : VE old f k T e n S := ⟨h.rm, ⟨_, _, _, h.ss ▸ h.gd⟩, .inl h.un⟩
theorem M4.mono {T' : Nat -> Prop} {n' : Nat} {S : jL} {s : nG} (h : M4 old f k T e n S s F0 recs P) (hT : ∀ i, T' i -> T i) (hn : n <= n') : M4 old f k T' e n' S s F0 recs P :=
 ⟨h.dn, h.lf, h.rm, h.un, h.ss, h.gd.mono hT hn, h.nm, h.man, h.err, h.ep, h.log, h.fin, h.hvl, h.hv, h.hp⟩
theorem VE.crash {S : jL} (h : VE old f k T e n S) (ks : List Bool) : Calm (XM S ks) /\ (XM S ks).under = [] /\ (XM S ks).sure = (XM S ks).seen /\ (XM S ks).room = 100000 /\ Good old f k T e n (XM S ks).seen := by
 refine ⟨⟨rfl, rfl⟩, rfl, rfl, h.rm, ?_⟩
 show Good _ _ _ _ _ _ (S7 S.under ks S.sure S.under.length)
 rcases h.un with h1 | ⟨o, h1, _, h2⟩
 .rw [h1]; exact h.gs
 .rw [h1]
  show Good _ _ _ _ _ _ (match ([o] : List NT)[0]?, ks[0]? with | some o, some true => CV o S.sure | _, _ => S.sure)
  split
  .rename_i o' ho _
   simp at ho
   rw [<- ho]; exact h2
  .exact h.gs
theorem Up {S : jL} (hk : 0 < k) (ho : old.length <= 200) (hf : f.length <= 200) (hn : n <= 150) (he : e <= 1000) (c1 : Calm S) (un : S.under = []) (ss : S.sure = S.seen) (rm : S.room = 100000) (h : qG old f k T e n S.seen F0 recs P) :
 ∃ S' s' recs' P', DF gU iA S sF (kO gU f k) = (S', some s', 0) /\ M4 old f k T (e + 1) (n + 1) S' s' F0 recs' P' /\ Calm S' := by
 obtain ⟨hz, hF⟩ := h.len ho hf (by omega)
 have hlast : jY 1 recs < 18446744073709551615 := by rw [h.la]; omega
 have hr : ¬ S.room < ((iJ S.seen + 13 : Nat) : Int) := by rw [rm]; omega
 have hp2 := (Pj (lf := gU) (cf := iA) (f := f) (k := k) c1 h.gL h.ok hlast).2 hr
 have hrec : qG old f k T (e + 1) (n + 1) (KH iA recs S).seen F0 (recs ++ [(1, jY 1 recs + 1)]) P := by
  refine h.addR ⟨.inl rfl, by show jY 1 recs + 1 < _; omega⟩ T (e + 1) ?_ (.inr fun i hi => ⟨fun hh => ?_, fun t => .inl t⟩)
  .rw [Hr, if_pos rfl, h.la]
   show max (e + 1) e = e + 1
   omega
  .exact absurd (congrArg Prod.fst hh) (show ¬ (1 : Nat) = 2 by decide)
 have hfin := YW (f := f) (k := k) h.gF
 have hlr : 13 * recs.length + 13 = 13 * (recs ++ [(1, jY 1 recs + 1)]).length := by rw [acT, aeB]; omega
 have hmem : ∀ i, (2, i) ∈ recs ++ [(1, jY 1 recs + 1)] ↔ (2, i) ∈ recs := fun i => by
  rw [adV, aeK]
  exact ⟨fun hh => hh.elim id fun h => absurd (congrArg Prod.fst h) (show ¬ (2 : Nat) = 1 by decide), .inl⟩
 have hany : ∀ i, (recs.any fun r => r.1 == 2 && r.2 == i) = true ↔ (2, i) ∈ recs := fun i => by
  rw [List.any_eq_true]
  constructor
  .rintro ⟨⟨a, b⟩, hr, hh⟩
   simp at hh
   obtain ⟨rfl, rfl⟩ := hh
   exact hr
  .intro hm
   exact ⟨_, hm, by simp⟩
 cases hb : LD f k F0 with
 | true =>
   rw [hfin, hb, if_pos rfl] at hp2
   refine ⟨_, _, _, _, hp2, ⟨c1.up, ⟨by show -1 <= S.left; rw [c1.left]; omega, by show S.left <= 100; rw [c1.left]; omega⟩, rm, rfl, rfl, hrec, rfl, rfl, rfl, by show jY 1 recs + 1 = _; rw [h.la], hlr, ?_, ?_, fun _ i hi => ?_, fun hh => ?_⟩, ⟨c1.up, c1.left⟩⟩
   .exact hfin
   .show (iV gU (kO gU f k) _).length = _
    rw [Bt, vR]
   .show (iV gU (kO gU f k) ((jC sF S.seen).getD [])).getD i false = true
    rw [h.gF, adH]
    unfold LD at hb
    rw [acV] at hb
    exact F3.1 hb.2 i (by rw [Bt, vR]; exact hi)
   .rw [hb] at hh; cases hh
 | false =>
   have hpc := h.pc.resolve_left (by rw [hb]; decide)
   have htl : ∀ {p : List UInt8} {i}, i < mA f.length k -> (oS recs (iV gU (kO gU f k) p) (mA f.length k)).getD i false = ((recs.any fun r => r.1 == 2 && r.2 == i) && (iV gU (kO gU f k) p).getD i false) := fun hi => by
    unfold oS
    exact PJ _ _ _ hi
   have htn : ∀ {p : List UInt8}, (oS recs (iV gU (kO gU f k) p) (mA f.length k)).length = mA f.length k := fun {p} => by unfold oS; simp
   cases hP : P with
   | some p =>
     have hpl := h.Pl p hP
     have hO := U9 (lf := gU) (cf := iA) (f := f) (k := k) (P := p) c1 h.gL h.ok hlast hr (by rw [hfin, hb]) (by rw [h.gP, hP]) hpl
     refine ⟨_, _, _, _, hO, ⟨c1.up, ⟨by show -1 <= S.left; rw [c1.left]; omega, by show S.left <= 100; rw [c1.left]; omega⟩, rm, rfl, rfl, hrec, rfl, rfl, rfl, by show jY 1 recs + 1 = _; rw [h.la], hlr, ?_, htn, fun hh => ?_, fun _ => ⟨p, hP, fun i hi => ?_⟩⟩, ⟨c1.up, c1.left⟩⟩
     .show MC gU f k S = _
      rw [hfin]
     .rw [hb] at hh; cases hh
     .show (oS recs (iV gU (kO gU f k) p) (mA f.length k)).getD i false = true ↔ _
      rw [htl hi, hmem, acV, hany]
      refine ⟨And.left, fun hm => ⟨hm, ?_⟩⟩
      obtain ⟨q, hq, hpe⟩ := (hpc i hi).1 hm
      rw [hP] at hq
      cases hq
      exact Oc gU hk hpl hi hpe
   | none =>
     rw [hP] at hrec h
     obtain ⟨S1, hO, hS1⟩ := (QW (lf := gU) (cf := iA) (f := f) (k := k) c1 h.gL h.ok hlast hr (by rw [hfin, hb]) h.gP).2 (by rw [rm]; omega)
     have s1 : S1.seen = nB (gZ sF) (List.replicate f.length 0) (KH iA recs S).seen := by rw [hS1]
     have c2 : Calm S1 := by rw [hS1]; exact ⟨c1.up, c1.left⟩
     have r2 : S1.room = 100000 := by rw [hS1]; exact rm
     refine ⟨_, _, _, some (List.replicate f.length 0), hO, ⟨c2.up, ⟨by show -1 <= S1.left; rw [c2.left]; omega, by show S1.left <= 100; rw [c2.left]; omega⟩, r2, rfl, rfl, ?_, rfl, rfl, rfl, by show jY 1 recs + 1 = _; rw [h.la], hlr, ?_, htn, fun hh => ?_, fun _ => ⟨_, rfl, fun i hi => ?_⟩⟩, ⟨c2.up, c2.left⟩⟩
     .show qG _ _ _ _ _ _ S1.seen _ _ _
      rw [s1]
      exact hrec.fill
     .show MC gU f k S = _
      rw [hfin]
     .rw [hb] at hh; cases hh
     .show (oS recs (iV gU (kO gU f k) []) (mA f.length k)).getD i false = true ↔ _
      rw [htl hi, hmem, acV, hany]
      refine ⟨And.left, fun hm => ?_⟩
      obtain ⟨q, hq, _⟩ := (hpc i hi).1 hm
      rw [hP] at hq
      cases hq
end
theorem Nd {S : jL} {o : NT} (h : LM S = true) : pW S o = ({ S with left := pO S.left, down := true }, 20) := by
 unfold pW
 rw [if_pos h, h]
theorem Q6 {S : jL} {o : NT} (h : LM S = false) : pW S o = ({ S with left := pO S.left, down := false, under := S.under ++ [o], seen := CV o S.seen }, 0) := by
 unfold pW
 rw [if_neg (by rw [h]; decide), h]
theorem Rk {S : jL} (hd : S.down = false) (h : LM S = true) : Ab S = ({ S with left := pO S.left, down := true }, 20) := by
 unfold Ab
 rw [if_neg (by rw [hd]; decide), if_pos h, h]
theorem WZ {S : jL} (hd : S.down = false) (h : LM S = false) : Ab S = ({ S with left := pO S.left, down := false, sure := S.seen, under := [] }, 0) := by
 unfold Ab
 rw [if_neg (by rw [hd]; decide), if_neg (by rw [h]; decide), h]
theorem J3 {S : jL} (h : -1 <= S.left /\ S.left <= 100) : -1 <= pO S.left /\ pO S.left <= 100 := by
 unfold pO
 split <;> omega
theorem YE {S : jL} {k : ByteArray} {a : Nat} {l : List UInt8} (h : S.down = false) (hk : Lw k = true) (ha : a <= (oD S k).length) (hr : iJ S.seen + (a + l.length) <= 100000) (rm : S.room = 100000) :
 Da S k a l = pW S ⟨0, k, ⟨#[]⟩, a, l⟩ := by
 have e : Yn S k a l.length = 0 := by
  unfold Yn
  rw [h, if_neg (by decide), hk, if_neg (by rintro (h | h); cases h; omega), if_neg (by omega), if_neg (by rw [rm]; omega)]
 unfold Da
 rw [e, if_pos rfl, acM]
section
variable {old f : List UInt8} {k : Nat} {T : Nat -> Prop} {e n : Nat} {F0 : List UInt8} {recs : List (Nat × Nat)} {P : Option (List UInt8)}
theorem Y8 {S : jL} {s : nG} {i : Nat} (h : M4 old f k T e n S s F0 recs P) (hk : 0 < k) (ho : old.length <= 200) (hf : f.length <= 200) (hn : n <= 150) (hi : i < mA f.length k) :
 ((pU gU iA S s i (nW f.length k i f)).2.2 = 0 -> ∃ recs' P', M4 old f k (fun x => T x ∨ x = i) e (n + 1) (pU gU iA S s i (nW f.length k i f)).1 (pU gU iA S s i (nW f.length k i f)).2.1 F0 recs' P') /\
 ((pU gU iA S s i (nW f.length k i f)).2.2 ≠ 0 -> (pU gU iA S s i (nW f.length k i f)).2.1.err ≠ 0 /\ VE old f k T e (n + 1) (pU gU iA S s i (nW f.length k i f)).1) := by
 obtain ⟨hz, hF⟩ := h.gd.len ho hf (by omega)
 have hin : ((i : Nat) : Int).toNat = i := acM _
 have hcn := Hk (L := f.length) hk
 have hok : S6 (2, i) := ⟨.inr rfl, by show i < _; omega⟩
 cases hb : LD f k F0 with
 | true =>
   have e0 : pU gU iA S s i (nW f.length k i f) = (S, s, 0) := by
    unfold pU
    rw [h.err, h.hvl, if_neg (by decide), if_neg (by omega), h.fin, hb, Bool.true_or, if_pos rfl]
   rw [e0]
   refine ⟨fun _ => ⟨recs, P, ?_⟩, fun hh => absurd rfl hh⟩
   have g := h.gd
   exact ⟨h.dn, h.lf, h.rm, h.un, h.ss, ⟨g.gF, g.of, g.gL, g.gP, g.Pl, g.ok, g.la, by have := g.rn; omega, g.nd, g.sz, .inl hb⟩, h.nm, h.man, h.err, h.ep, h.log, h.fin, h.hvl, h.hv, h.hp⟩
 | false =>
 obtain ⟨p, hP, hiff⟩ := h.hp hb
 subst hP
 have hpc := h.gd.pc.resolve_left (by rw [hb]; decide)
 cases hv : s.hv.getD i false with
 | true =>
   have e0 : pU gU iA S s i (nW f.length k i f) = (S, s, 0) := by
    unfold pU
    rw [h.err, h.hvl, if_neg (by decide), if_neg (by omega), hin, hv, Bool.or_true, if_pos rfl]
   rw [e0]
   refine ⟨fun _ => ⟨recs, some p, ?_⟩, fun hh => absurd rfl hh⟩
   have g := h.gd
   refine ⟨h.dn, h.lf, h.rm, h.un, h.ss, ⟨g.gF, g.of, g.gL, g.gP, g.Pl, g.ok, g.la, by have := g.rn; omega, g.nd, g.sz, .inr fun x hx => ⟨(hpc x hx).1, fun ht => ?_⟩⟩, h.nm, h.man, h.err, h.ep, h.log, h.fin, h.hvl, h.hv, h.hp⟩
   rcases ht with ht | ht
   .exact (hpc x hx).2 ht
   .rw [ht]; exact (hiff i hi).1 hv
 | false =>
 have hnm : (2, i) ∉ recs := fun hm => by rw [(hiff i hi).2 hm] at hv; cases hv
 have hput : pU gU iA S s i (nW f.length k i f) = ((kC iA S s i (nW f.length k i f)).1, { (kC iA S s i (nW f.length k i f)).2.1 with err := (kC iA S s i (nW f.length k i f)).2.2, hv := (kC iA S s i (nW f.length k i f)).2.1.hv.set i ((kC iA S s i (nW f.length k i f)).2.2 == 0) }, (kC iA S s i (nW f.length k i f)).2.2) := by
  unfold pU
  rw [h.err, h.hvl, if_neg (by decide), if_neg (by omega), hin, h.fin, hb, hv, afO, if_neg (by decide), h.man, NA gU hi, if_neg (by decide)]
 have bad : ∀ S' s', kC iA S s i (nW f.length k i f) = (S', s', 20) -> VE old f k T e (n + 1) S' -> (((pU gU iA S s i (nW f.length k i f)).2.2 = 0 -> ∃ recs' P', M4 old f k (fun x => T x ∨ x = i) e (n + 1) (pU gU iA S s i (nW f.length k i f)).1 (pU gU iA S s i (nW f.length k i f)).2.1 F0 recs' P') /\
  ((pU gU iA S s i (nW f.length k i f)).2.2 ≠ 0 -> (pU gU iA S s i (nW f.length k i f)).2.1.err ≠ 0 /\ VE old f k T e (n + 1) (pU gU iA S s i (nW f.length k i f)).1)) := fun S' s' hc hs => by
  rw [hc] at hput
  rw [hput]
  exact ⟨fun hh => absurd hh (show ¬ (20 : Int) = 0 by decide), fun _ => ⟨show (20 : Int) ≠ 0 by decide, hs⟩⟩
 have hpart : s.man.part = k := by rw [h.man] <;> rfl
 have hki := (Av hk).1 hi
 have hse := Db hki
 have hpl := h.gd.Pl p rfl
 have hpcl : (nW f.length k i f).length = Kq f.length k i := BF rfl
 have gd1 := (h.gd.mono (T' := T) (fun _ t => t) (agM n))
 have gsure : Good old f k T e (n + 1) S.sure := ⟨_, _, _, h.ss ▸ gd1⟩
 have hPB : (oD S (gZ sF)).length = f.length := by unfold oD; rw [h.gd.gP, adH, hpl]
 obtain ⟨o1, ho1⟩ : ∃ o1 : NT, o1 = ⟨0, gZ sF, ⟨#[]⟩, k * i, nW f.length k i f⟩ := ⟨_, rfl⟩
 have w1 : Da S (gZ sF) ((k * i : Nat) : Int) (nW f.length k i f) = pW S o1 := by rw [ho1]; exact YE h.dn SI (by omega) (by omega) h.rm
 have d1 : CV o1 S.seen = nB (gZ sF) (over p (k * i) (nW f.length k i f)) S.seen := by
  rw [ho1]
  show nB (gZ sF) (over ((jC (gZ sF) S.seen).getD []) (k * i) _) S.seen = _
  rw [h.gd.gP, adH]
 have g1 : qG old f k T e n (CV o1 S.seen) F0 recs (some (over p (k * i) (nW f.length k i f))) := by
  rw [d1]; exact h.gd.part hk hi hnm
 by_cases q1 : LM S = true
 .rw [Nd q1] at w1
  refine bad { S with left := pO S.left, down := true } s ?_ ⟨h.rm, gsure, .inl h.un⟩
  unfold kC
  simp only [hpart, h.nm, w1, ne_eq, show ¬ (20 : Int) = 0 by decide, not_false_eq_true, if_true]
 rw [Q6 (by cases hq : LM S with | true => exact absurd hq q1 | false => rfl)] at w1
 obtain ⟨S1, hS1⟩ : ∃ S1 : jL, S1 = { S with left := pO S.left, down := false, under := S.under ++ [o1], seen := CV o1 S.seen } := ⟨_, rfl⟩
 rw [<- hS1] at w1
 have s1d : S1.down = false := by rw [hS1]
 have s1u : S1.under = [o1] := by rw [hS1]; show S.under ++ [o1] = _; rw [h.un] <;> rfl
 have s1s : S1.sure = S.sure := by rw [hS1]
 have s1n : S1.seen = CV o1 S.seen := by rw [hS1]
 have s1r : S1.room = 100000 := by rw [hS1]; exact h.rm
 have s1l : -1 <= S1.left /\ S1.left <= 100 := by rw [hS1]; exact J3 h.lf
 have o1b : o1.at' <= 1000000 /\ o1.bytes.length <= 1000000 := by rw [ho1]; exact ⟨by show k * i <= _; omega, by show (nW f.length k i f).length <= _; omega⟩
 by_cases q2 : LM S1 = true
 .have w2 := Rk s1d q2
  refine bad { S1 with left := pO S1.left, down := true } s ?_ ⟨s1r, by show Good _ _ _ _ _ _ S1.sure; rw [s1s]; exact gsure, .inr ⟨o1, s1u, o1b, ?_⟩⟩
  .unfold kC
   simp only [hpart, h.nm, w1, w2, ne_eq, not_true_eq_false, if_false, show ¬ (20 : Int) = 0 by decide, not_false_eq_true, if_true]
  .show Good _ _ _ _ _ _ (CV o1 S1.sure)
   rw [s1s, h.ss]
   exact ⟨_, _, _, g1.mono (fun _ t => t) (agM n)⟩
 have w2 := WZ s1d (by cases hq : LM S1 with | true => exact absurd hq q2 | false => rfl)
 obtain ⟨S2, hS2⟩ : ∃ S2 : jL, S2 = { S1 with left := pO S1.left, down := false, sure := S1.seen, under := [] } := ⟨_, rfl⟩
 rw [<- hS2] at w2
 have s2d : S2.down = false := by rw [hS2]
 have s2u : S2.under = [] := by rw [hS2]
 have s2n : S2.seen = CV o1 S.seen := by rw [hS2]; exact s1n
 have s2s : S2.sure = CV o1 S.seen := by rw [hS2]; exact s1n
 have s2r : S2.room = 100000 := by rw [hS2]; exact s1r
 have s2l : -1 <= S2.left /\ S2.left <= 100 := by rw [hS2]; exact J3 s1l
 have gsure2 : Good old f k T e (n + 1) S2.sure := by rw [s2s]; exact ⟨_, _, _, g1.mono (fun _ t => t) (agM n)⟩
 obtain ⟨hz2, _⟩ := g1.len ho hf (by omega)
 obtain ⟨o2, ho2⟩ : ∃ o2 : NT, o2 = ⟨0, jH sF, ⟨#[]⟩, 13 * recs.length, rT iA 2 i⟩ := ⟨_, rfl⟩
 have hlb : (oD S2 (jH sF)).length = 13 * recs.length := by unfold oD; rw [s2n, g1.gL, lM]
 have hrn := h.gd.rn
 have w3 : Da S2 (jH sF) ((13 * recs.length : Nat) : Int) (rT iA 2 i) = pW S2 o2 := by
  rw [ho2]; exact YE s2d YN (by omega) (by rw [nJ, s2n]; omega) s2r
 have d2 : CV o2 S2.seen = nB (jH sF) (mS iA (recs ++ [(2, i)])) S2.seen := by
  rw [ho2]
  show nB (jH sF) (over ((jC (jH sF) S2.seen).getD []) (13 * recs.length) _) S2.seen = _
  rw [s2n, g1.gL, <- lM iA recs, Pf, PD]
 have g2 : qG old f k (fun x => T x ∨ x = i) e (n + 1) (CV o2 S2.seen) F0 (recs ++ [(2, i)]) (some (over p (k * i) (nW f.length k i f))) := by
  rw [d2, s2n]
  refine g1.addR hok _ _ ?_ (.inr fun x hx => ⟨fun hh => ?_, fun ht => ?_⟩)
  .rw [Hr, if_neg (show ¬ (2 : Nat) = 1 by decide)]
   exact h.gd.la
  .cases hh
   exact ⟨_, rfl, KW hpl rfl hki⟩
  .rcases ht with ht | ht
   .exact .inl ht
   .rw [ht]; exact .inr rfl
 by_cases q3 : LM S2 = true
 .rw [Nd q3] at w3
  have hrec : jQ iA S2 s 2 i = ({ S2 with left := pO S2.left, down := true }, s, 20) := by
   unfold jQ
   simp only [h.nm, h.log, w3, show ¬ (20 : Int) = 0 by decide, if_false]
  refine bad { S2 with left := pO S2.left, down := true } s ?_ ⟨s2r, gsure2, .inl s2u⟩
  unfold kC
  simp only [hpart, h.nm, w1, w2, hrec, ne_eq, not_true_eq_false, if_false, show ¬ (20 : Int) = 0 by decide, not_false_eq_true, if_true]
 rw [Q6 (by cases hq : LM S2 with | true => exact absurd hq q3 | false => rfl)] at w3
 obtain ⟨S3, hS3⟩ : ∃ S3 : jL, S3 = { S2 with left := pO S2.left, down := false, under := S2.under ++ [o2], seen := CV o2 S2.seen } := ⟨_, rfl⟩
 rw [<- hS3] at w3
 have hrec : jQ iA S2 s 2 i = (S3, { s with log := s.log + 13 }, 0) := by
  unfold jQ
  simp only [h.nm, h.log, w3, if_true]
 have s3d : S3.down = false := by rw [hS3]
 have s3u : S3.under = [o2] := by rw [hS3]; show S2.under ++ [o2] = _; rw [s2u] <;> rfl
 have s3s : S3.sure = S2.sure := by rw [hS3]
 have s3n : S3.seen = CV o2 S2.seen := by rw [hS3]
 have s3r : S3.room = 100000 := by rw [hS3]; exact s2r
 have s3l : -1 <= S3.left /\ S3.left <= 100 := by rw [hS3]; exact J3 s2l
 have o2b : o2.at' <= 1000000 /\ o2.bytes.length <= 1000000 := by rw [ho2]; exact ⟨by show 13 * recs.length <= _; omega, by show (rT iA 2 i).length <= _; rw [nJ]; omega⟩
 by_cases q4 : LM S3 = true
 .have w4 := Rk s3d q4
  refine bad { S3 with left := pO S3.left, down := true } { s with log := s.log + 13 } ?_ ⟨s3r, by show Good _ _ _ _ _ _ S3.sure; rw [s3s]; exact gsure2, .inr ⟨o2, s3u, o2b, ?_⟩⟩
  .unfold kC
   simp only [hpart, h.nm, w1, w2, hrec, w4, ne_eq, not_true_eq_false, if_false]
  .show Good _ _ _ _ _ _ (CV o2 S3.sure)
   rw [s3s, s2s, <- s2n]
   exact ⟨_, _, _, g2.mono (fun _ t => .inl t) (acY _)⟩
 have w4 := WZ s3d (by cases hq : LM S3 with | true => exact absurd hq q4 | false => rfl)
 have hch : kC iA S s i (nW f.length k i f) = ({ S3 with left := pO S3.left, down := false, sure := S3.seen, under := [] }, { s with log := s.log + 13 }, 0) := by
  unfold kC
  simp only [hpart, h.nm, w1, w2, hrec, w4, ne_eq, not_true_eq_false, if_false]
 rw [hch] at hput
 rw [hput]
 refine ⟨fun _ => ⟨_, _, ⟨rfl, J3 s3l, s3r, rfl, rfl, by show qG _ _ _ _ _ _ S3.seen _ _ _; rw [s3n]; exact g2, h.nm, h.man, rfl, h.ep, ?_, h.fin, ?_, fun hh => ?_, fun _ => ⟨_, rfl, fun j hj => ?_⟩⟩⟩, fun hh => absurd rfl hh⟩
 .show s.log + 13 = _
  rw [h.log, acT, aeB]; omega
 .show (s.hv.set i _).length = _
  rw [afH, h.hvl]
 .rw [hb] at hh; cases hh
 .show (s.hv.set i true).getD j false = true ↔ _
  have hl := h.hvl
  rw [zZ (by omega), adV, aeK]
  by_cases hji : j = i
  .rw [if_pos hji, hji]; exact ⟨fun _ => .inr rfl, fun _ => rfl⟩
  .rw [if_neg hji, hiff j hj]
   exact ⟨.inl, fun hh => hh.elim id fun e => absurd (congrArg Prod.snd e) hji⟩
theorem Va {S : jL} {s : nG} (h : M4 old f k T e n S s F0 recs P) (hk : 0 < k) (ho : old.length <= 200) (hf : f.length <= 200) (hn : n <= 150) :
 ((jK gU S s).2.1.err = 0 -> ∃ F1 recs' P', M4 old f k T e n (jK gU S s).1 (jK gU S s).2.1 F1 recs' P') /\ VE old f k T e n (jK gU S s).1 := by
 cases hb : LD f k F0 with
 | true =>
   have e0 : jK gU S s = (S, s, 0) := by
    unfold jK
    rw [h.err, if_neg (by decide), h.fin, hb, if_pos rfl]
   rw [e0]
   exact ⟨fun _ => ⟨_, _, _, h⟩, h.saf⟩
 | false =>
 obtain ⟨p, hP, hiff⟩ := h.hp hb
 subst hP
 have hpc := h.gd.pc.resolve_left (by rw [hb]; decide)
 cases ha : Ct s.hv with
 | false =>
   have e0 : jK gU S s = (S, s, 30) := by
    unfold jK
    rw [h.err, if_neg (by decide), h.fin, hb, if_neg (by decide), ha, if_pos rfl]
   rw [e0]
   exact ⟨fun _ => ⟨_, _, _, h⟩, h.saf⟩
 | true =>
 have hpl := h.gd.Pl p rfl
 have hpf : p = f := QB hk hpl rfl fun i hi => by
  obtain ⟨q, hq, he⟩ := (hpc i hi).1 ((hiff i hi).1 (F3.1 ha i (by rw [h.hvl]; exact hi)))
  cases hq
  exact he
 subst hpf
 have hw := G2 gU (f := p) hk
 obtain ⟨o1, ho1⟩ : ∃ o1 : NT, o1 = ⟨1, gZ sF, sF, 0, []⟩ := ⟨_, rfl⟩
 have w1 : MX S (gZ sF) sF = pW S o1 := by
  unfold MX
  rw [if_neg (by rw [h.dn]; decide), if_neg (by rw [SI, WD]; decide), if_neg (by rw [h.gd.gP]; simp), ho1]
 have d1 : CV o1 S.seen = nB sF p (zB (gZ sF) S.seen) := by
  rw [ho1]
  unfold CV
  rw [if_neg (show ¬ (1 : Nat) = 0 by decide), if_pos (show (1 : Nat) = 1 from rfl)]
  simp only [h.gd.gP]
 have g1 : qG old p k T e n (CV o1 S.seen) p recs none := by rw [d1]; exact h.gd.name hk
 have gsure : Good old p k T e n S.sure := ⟨_, _, _, h.ss ▸ h.gd⟩
 have o1b : o1.at' <= 1000000 /\ o1.bytes.length <= 1000000 := by rw [ho1]; exact ⟨by show 0 <= _; omega, by show 0 <= _; omega⟩
 by_cases q1 : LM S = true
 .rw [Nd q1] at w1
  have hc : jK gU S s = ({ S with left := pO S.left, down := true }, { s with hv := iV gU s.man p, err := 20, fin := false }, 20) := by
   unfold jK
   rw [h.err, if_neg (by decide), h.fin, hb, if_neg (by decide), ha, if_neg (by decide), h.dn, if_neg (by decide), h.nm, h.gd.gP]
   simp only [h.man, hw, if_neg (show ¬ true = false by decide), w1, ne_eq, show ¬ (20 : Int) = 0 by decide, not_false_eq_true, if_true]
  rw [hc]
  exact ⟨fun hh => absurd hh (show ¬ (20 : Int) = 0 by decide), ⟨h.rm, gsure, .inl h.un⟩⟩
 rw [Q6 (by cases hq : LM S with | true => exact absurd hq q1 | false => rfl)] at w1
 obtain ⟨S1, hS1⟩ : ∃ S1 : jL, S1 = { S with left := pO S.left, down := false, under := S.under ++ [o1], seen := CV o1 S.seen } := ⟨_, rfl⟩
 rw [<- hS1] at w1
 have s1d : S1.down = false := by rw [hS1]
 have s1u : S1.under = [o1] := by rw [hS1]; show S.under ++ [o1] = _; rw [h.un] <;> rfl
 have s1s : S1.sure = S.sure := by rw [hS1]
 have s1n : S1.seen = CV o1 S.seen := by rw [hS1]
 have s1r : S1.room = 100000 := by rw [hS1]; exact h.rm
 have s1l : -1 <= S1.left /\ S1.left <= 100 := by rw [hS1]; exact J3 h.lf
 have hc : jK gU S s = ((Ab S1).1, { s with hv := iV gU s.man p, err := (Ab S1).2, fin := (Ab S1).2 == 0 }, (Ab S1).2) := by
  unfold jK
  rw [h.err, if_neg (by decide), h.fin, hb, if_neg (by decide), ha, if_neg (by decide), h.dn, if_neg (by decide), h.nm, h.gd.gP]
  simp only [h.man, hw, if_neg (show ¬ true = false by decide), w1, ne_eq, not_true_eq_false, if_false]
 by_cases q2 : LM S1 = true
 .have w2 := Rk s1d q2
  rw [w2] at hc
  rw [hc]
  refine ⟨fun hh => absurd hh (show ¬ (20 : Int) = 0 by decide), ⟨s1r, by show Good _ _ _ _ _ _ S1.sure; rw [s1s]; exact gsure, .inr ⟨o1, s1u, o1b, ?_⟩⟩⟩
  show Good _ _ _ _ _ _ (CV o1 S1.sure)
  rw [s1s, h.ss]
  exact ⟨_, _, _, g1⟩
 have w2 := WZ s1d (by cases hq : LM S1 with | true => exact absurd hq q2 | false => rfl)
 rw [w2] at hc
 rw [hc]
 have hst : M4 old p k T e n { S1 with left := pO S1.left, down := false, sure := S1.seen, under := [] } { s with hv := iV gU s.man p, err := 0, fin := (0 : Int) == 0 } p recs none := by
  refine ⟨rfl, J3 s1l, s1r, rfl, rfl, by show qG _ _ _ _ _ _ S1.seen _ _ _; rw [s1n]; exact g1, h.nm, h.man, rfl, h.ep, h.log, ?_, ?_, fun _ i hi => ?_, fun hh => ?_⟩
  .show ((0 : Int) == 0) = LD p k p
   rw [Nc hk] <;> rfl
  .show (iV gU s.man p).length = _
   rw [Bt, h.man, vR]
  .show (iV gU s.man p).getD i false = true
   rw [h.man]
   exact F3.1 hw i (by rw [Bt, vR]; exact hi)
  .rw [Nc hk] at hh; cases hh
 exact ⟨fun _ => ⟨_, _, _, hst⟩, hst.saf⟩
end
end Go.Proofs.YteelnmpbnaohpaaDoor
namespace Go.Proofs.YteelnmpbnaohpaaDoor
open Go Go.En Go.Pu
set_option maxRecDepth 4000
theorem Wd {w0 : ahA} {N : Nat -> Prop} {w : ahA} {q p : Nat} {S : jL} {s : nG} {a : Int} (h : Ey w0 N w q p S s) :
 gT pg rP #[dP p, .int .i64 a] w (fun r w' => r = .tuple #[] /\ Ey w0 N w' q p { S with left := max a (-1) } s /\ gV w w' (VY w0 N)) := by
 obtain ⟨X, D, Y, lv, hv, h, x0, hN⟩ := h
 refine (Y0 h.dsk).mono ?_
 rintro r w' ⟨rfl, hp⟩
 obtain ⟨X', D', h1, h2, h3, x⟩ := h.disk hp
 exact ⟨rfl, Ey.post h x0 hN ⟨X', D', Y, lv, hv, h1, h2, h3, fun _ hy => .inl hy, x.mono fun _ _ hb => .inl hb⟩⟩
section
variable {old f : List UInt8} {k : Nat} {T : Nat -> Prop} {e n : Nat} {F0 : List UInt8} {recs : List (Nat × Nat)} {P : Option (List UInt8)}
theorem Good.sz {c : oR} (h : Good old f k T e n c) (ho : old.length <= 200) (hf : f.length <= 200) (hn : n <= 200) : iJ c <= 3000 := by
 obtain ⟨_, _, _, h⟩ := h
 have := (h.len ho hf hn).1
 omega
theorem VE.sz {S : jL} (h : VE old f k T e n S) (ho : old.length <= 200) (hf : f.length <= 200) (hn : n <= 200) (ks : List Bool) : ∀ i, i <= S.under.length -> iJ (S7 S.under ks S.sure i) <= 1099511627776 := by
 have h0 := h.gs.sz ho hf hn
 intro i hi
 rcases h.un with h1 | ⟨o, h1, _, h2⟩
 .rw [h1] at hi ⊢
  have hi : i <= 0 := hi
  obtain rfl : i = 0 := by omega
  show iJ S.sure <= _
  omega
 .have h3 := h2.sz ho hf hn
  rw [h1] at hi ⊢
  have hi : i <= 1 := hi
  rcases Nat.le_one_iff_eq_zero_or_eq_one.1 hi with rfl | rfl
  .show iJ S.sure <= _
   omega
  .show iJ (match ([o] : List NT)[0]?, ks[0]? with | some o, some true => CV o S.sure | _, _ => S.sure) <= _
   split
   .rename_i o' hq _
    simp at hq
    rw [<- hq]; omega
   .omega
theorem To {w0 : ahA} {N : Nat -> Prop} {w : ahA} {p : Nat} {S : jL} {kv : ahB} {ks : List Bool} (h : wG w0 N w p S) (hs : VE old f k T e n S) (ho : old.length <= 200) (hf : f.length <= 200) (hn : n <= 200) (hk : Sl w0 kv (ks.map Value.bool)) (hkl : ks.length <= 9223372036854775807) :
 gT pg qE #[dP p, kv] w (fun r w' => r = .tuple #[] /\ wG w0 N w' p (XM S ks) /\ gV w w' (VY w0 N)) := by
 obtain ⟨X, D, h, hX, x0, hN⟩ := h
 refine (Yl h (hk.ext x0 (jG _)) (fun hi => hk.old (vG hi fun y hy => (hX y hy).1)) hkl ?_ (hs.sz ho hf hn ks) ?_).mono ?_
 .rcases hs.un with h1 | ⟨o, h1, _⟩
  .rw [h1]; show 0 <= _; omega
  .rw [h1]; show 1 <= _; omega
 .intro o hm
  rcases hs.un with h1 | ⟨o', h1, h2, _⟩
  .rw [h1] at hm; cases hm
  .rw [h1, aeK] at hm
   rw [hm]; omega
 rintro r w' ⟨rfl, hp⟩
 exact ⟨rfl, wG.post h hX x0 hN hp⟩
theorem M4.bk {S : jL} {s : nG} (h : M4 old f k T e n S s F0 recs P) (ho : old.length <= 200) (hf : f.length <= 200) (hn : n <= 200) {m : Nat} (hm : m <= 100) : Bg m S := by
 obtain ⟨hz, _⟩ := h.gd.len ho hf hn
 have := h.lf
 exact ⟨⟨by omega, by omega, by rw [h.un]; show 0 <= _; omega, by rw [h.rm]; decide⟩, by omega, by rw [h.un]; show 0 + m <= _; omega⟩
theorem M4.stop {S : jL} {s : nG} (h : M4 old f k T e n S s F0 recs P) {a : Int} (ha : 0 <= a /\ a <= 15) : M4 old f k T e n { S with left := max a (-1) } s F0 recs P :=
 ⟨h.dn, by show -1 <= max a (-1) /\ max a (-1) <= 100; omega, h.rm, h.un, h.ss, h.gd, h.nm, h.man, h.err, h.ep, h.log, h.fin, h.hvl, h.hv, h.hp⟩
theorem M4.log_le {S : jL} {s : nG} (h : M4 old f k T e n S s F0 recs P) : s.log <= 13 * n := by
 have := h.log
 have := h.gd.rn
 omega
theorem We (hn : old.length <= 200) : qG old f k (fun _ => False) 0 0 (Rs 100000 old).seen old [] none :=
 ⟨aaK, .inl rfl, (by rw [aaA] <;> rfl), Z5, (fun p hp => by cases hp), (by simp), rfl, acY _, afG.2 ⟨List.not_mem_nil, List.nodup_nil⟩, (by rw [Pb] <;> rfl), .inr fun i hi => ⟨fun hm => by simp at hm, fun h => h.elim⟩⟩
end
theorem aaM (c : UInt8) : ∃ a : Nat, a <= 15 /\ PY .u8 (c.toNat : Int) 15 = (a : Int) := by
 have : ∀ k : Fin 256, ((PY .u8 (k.val : Int) 15).toNat <= 15 /\ PY .u8 (k.val : Int) 15 = ((PY .u8 (k.val : Int) 15).toNat : Int)) := by decide +kernel
 exact ⟨_, this ⟨c.toNat, c.toNat_lt⟩⟩
theorem Us {w : ahA} {a : Option Addr} {c i : Nat} {l : List UInt8} (h : Bs w (.slice a l.length c) l) (hi : i < l.length) : ∃ ca coff, a = some ⟨ca, coff, none⟩ /\ ∀ {w'}, gV w w' jN -> w'.cell? ⟨ca, coff + i, none⟩ = some (.int .u8 ((l[i]).toNat : Nat)) := by
 obtain ⟨ac', n', cc', he, hn', hc', hh⟩ := h
 simp only [Value.slice.injEq] at he
 obtain ⟨rfl, rfl, rfl⟩ := he
 obtain ⟨ca, coff, rfl, h2⟩ := hh (by omega)
 refine ⟨ca, coff, rfl, fun x => Br ?_ x (fun h => h)⟩
 rw [h2 i hi, adQ, acS hi]
 rfl
end Go.Proofs.YteelnmpbnaohpaaDoor
namespace Go.Proofs.YteelnmpbnaohpaaDoor
open Go Go.En Go.Pu
set_option maxRecDepth 4000
set_option maxHeartbeats 4000000
abbrev VQ (tl : List Bool) : Nat -> Prop := fun x => tl.getD x false = true
abbrev YG (pb : Nat) : Nat -> Prop := fun y => noN y ∨ y = pb
theorem VO {kn : HQ} {R : K1} {w0 w : ahA} {ao a : Option Addr} {co c k n m e j q p pb mb : Nat} {vr kv lv : ahB} {ast : Option Addr} {cs : Nat} {old f stops : List UInt8} {ks tl : List Bool} {S : jL} {s : nG}
 (hbo : Bs w0 (.slice ao old.length co) old) (hb : Bs w0 (.slice a f.length c) f) (hk : Sl w0 kv (ks.map Value.bool)) (hkl : ks.length <= 9223372036854775807) (hlo : old.length <= 200) (hlf : f.length <= 200) (hsl : stops.length <= 8) (hg : qK w0)
 (lm : ∀ {w'}, gV w0 w' jN -> (gJ 28 (.pointer (some ⟨mb, 0, none⟩))).run pg w' = .ok (.value (.agg (O3 (kO gU f k) lv).toArray)) w')
 (hlv : Cl w0 32 lv (kO gU f k).leaves.length (Vt (kO gU f k).leaves)) (hk0 : 0 < k) (hk1 : k <= 300) (hj : j <= 30) (hm : m <= 100) (he : e <= 100) (hn : n = mA f.length k) (hpb : w0.heap.size <= pb)
 (h : Ey w0 (YG pb) w q p S s) (o : jI w pb (tl.map Value.bool)) (tll : tl.length = n) (hB : Bg 2 S) (hz : iJ S.seen <= 1000000)
 (hst : (∃ F0 recs P, M4 old f k (VQ tl) e m S s F0 recs P) ∨ (s.err ≠ 0 /\ VE old f k (VQ tl) e m S))
 (hkn : ∀ w' q' e' S' s' F0 recs P, Ey w0 (YG pb) w' q' p S' s' -> M4 old f k (VQ tl) e' (m + 1) S' s' F0 recs P -> jI w' pb (tl.map Value.bool) -> e' <= e + 1 -> kn (.slice ao old.length co) (.slice a f.length c) vr (.slice ast stops.length cs) kv (.int .i64 (k : Nat)) (.pointer (some ⟨mb, 0, none⟩)) (dP p) (dP q') (.slice (some ⟨pb, 0, none⟩) n n) (.int .u64 (e' : Nat)) (.int .i64 (j : Nat)) w') :
 sI kn kn R (.slice ao old.length co) (.slice a f.length c) vr (.slice ast stops.length cs) kv (.int .i64 (k : Nat)) (.pointer (some ⟨mb, 0, none⟩)) (dP p) (dP q) (.slice (some ⟨pb, 0, none⟩) n n) (.int .u64 (e : Nat)) (.int .i64 (j : Nat)) w := by
 unfold sI yO
 have hcn := Hk (L := f.length) hk0
 have n1 : ((0 : Int) != 0) = false := rfl
 have n3 : ((0 : Int) == 0) = true := rfl
 have key : ((jK gU S s).2.1.err = 0 -> ∃ F0 recs P, M4 old f k (VQ tl) e m (jK gU S s).1 (jK gU S s).2.1 F0 recs P) /\ VE old f k (VQ tl) e m (jK gU S s).1 := by
  rcases hst with ⟨F0, recs, P, hst⟩ | ⟨h1, h2⟩
  .exact Va hst hk0 hlo hlf (by omega)
  .rw [TG h1]
   exact ⟨fun hh => absurd hh h1, h2⟩
 refine (Ld h hB (fun b hb => ?_)).mono ?_
 .have h1 := BJ (k := gZ s.nm) (c := S.seen)
  rw [hb] at h1
  have h1 : b.length <= iJ S.seen := h1
  omega
 rintro r w9 ⟨rfl, h9, x9⟩
 obtain ⟨S3, hS3⟩ : ∃ S3, S3 = (jK gU S s).1 := ⟨_, rfl⟩
 obtain ⟨s3, hs3⟩ : ∃ s3, s3 = (jK gU S s).2.1 := ⟨_, rfl⟩
 rw [<- hS3, <- hs3] at key h9
 obtain ⟨hgo, hsaf⟩ := key
 have o9 : jI w9 pb (tl.map Value.bool) := o.ext x9 (fun hm => hm.2 (.inr rfl))
 have hcr : (stops.length <= j /\ s3.err = 0) ∨ (j < stops.length ∨ (stops.length <= j /\ s3.err ≠ 0)) := by
  by_cases h1 : stops.length <= j
  .by_cases h2 : s3.err = 0
   .exact .inl ⟨h1, h2⟩
   .exact .inr (.inr ⟨h1, h2⟩)
  .exact .inr (.inl (by omega))
 rcases hcr with ⟨h1, h2⟩ | hcr
 .have d1 : decide ((stops.length : Int) <= (j : Int)) = true := by simp; omega
  simp (disch := omega) only [eY, gN, dX, stepR_skip, fO, fW, fN, fZ, fX, fY, gQ, gG, eT, fT, fS, gE, fR, fL, fV, fQ, fU, gB, gC, fP, fC, gI, gA, fK, iR, iO, iP, iU, iM, iS, iQ, iT, iN, eP, Result.ok.injEq, Next.value.injEq, true_and, and_true, fI, fJ, gH, fM, gD, gR, acM, fE, fF, fG, fD, eZ, eU, fB, eX, eQ, eH, if_true, if_false, acK, acQ, acL, acN, acP, acO, acJ, acI, eA, dV, aB, dM, dO, cB, eB, eS, eE, dK, eF, fA, dJ, eJ, bP, dS, bE, dN, aL, aH, eL, aX, cI, eM, aE, eN, dE, aR, bF, eD, bB, bC, bJ, aO, aI, cF, fH, dY, cJ, cC, dA, cH, dT, bD, eK, bT, dF, bR, aT, bV, aC, bY, bQ, cA, bX, aY, aU, bA, bU, dL, cP, bO, aV, aJ, aM, bG, aF, dC, dW, aK, aN, aZ, aG, cY, aD, cL, bW, bH, aP, cM, bZ, aA, dD, cO, cU, cG, dI, cD, dG, dU, cQ, eC, eI, bN, aS, dZ, bS, aQ, bL, dH, cZ, cV, cN, cS, bK, bM, cX, dR, cR, dQ, dB, d1]
  refine (Ue h9).mono ?_
  rintro r wa ⟨rfl, hw⟩
  rw [hw]; clear hw wa
  rw [h2]
  simp (disch := omega) only [eY, gN, dX, stepR_skip, fO, fW, fN, fZ, fX, fY, gQ, gG, eT, fT, fS, gE, fR, fL, fV, fQ, fU, gB, gC, fP, fC, gI, gA, fK, iR, iO, iP, iU, iM, iS, iQ, iT, iN, eP, Result.ok.injEq, Next.value.injEq, true_and, and_true, fI, fJ, gH, fM, gD, gR, acM, fE, fF, fG, fD, eZ, eU, fB, eX, eQ, eH, if_true, if_false, acK, acQ, acL, acN, acP, acO, acJ, acI, eA, dV, aB, dM, dO, cB, eB, eS, eE, dK, eF, fA, dJ, eJ, bP, dS, bE, dN, aL, aH, eL, aX, cI, eM, aE, eN, dE, aR, bF, eD, bB, bC, bJ, aO, aI, cF, fH, dY, cJ, cC, dA, cH, dT, bD, eK, bT, dF, bR, aT, bV, aC, bY, bQ, cA, bX, aY, aU, bA, bU, dL, cP, bO, aV, aJ, aM, bG, aF, dC, dW, aK, aN, aZ, aG, cY, aD, cL, bW, bH, aP, cM, bZ, aA, dD, cO, cU, cG, dI, cD, dG, dU, cQ, eC, eI, bN, aS, dZ, bS, aQ, bL, dH, cZ, cV, cN, cS, bK, bM, cX, dR, cR, dQ, dB, n3]
  obtain ⟨F0, recs, P, hst⟩ := hgo h2
  exact hkn w9 q e S3 s3 F0 recs P h9 (hst.mono (fun _ t => t) (agM m)) o9 (agM e)
 obtain ⟨c1, un1, ss1, rm1, F0, recs, P, g1⟩ := hsaf.crash ks
 obtain ⟨S5, s5, recs5, P5, hO, st5, c5⟩ := Up hk0 hlo hlf (by omega) (by omega) c1 un1 ss1 rm1 g1
 have hz1 := (g1.len hlo hlf (by omega)).1
 have Bk : Bg 5 (XM S3 ks) := ⟨⟨by rw [c1.left]; omega, by omega, by rw [un1]; show 0 <= _; omega, by rw [rm1]; decide⟩, by omega, by rw [un1]; show 0 + 5 <= _; omega⟩
 rcases hcr with h1 | ⟨h1, h2⟩
 case' inl =>
  have d1 : decide ((stops.length : Int) <= (j : Int)) = false := by simp; omega
  simp (disch := omega) only [eY, gN, dX, stepR_skip, fO, fW, fN, fZ, fX, fY, gQ, gG, eT, fT, fS, gE, fR, fL, fV, fQ, fU, gB, gC, fP, fC, gI, gA, fK, iR, iO, iP, iU, iM, iS, iQ, iT, iN, eP, Result.ok.injEq, Next.value.injEq, true_and, and_true, fI, fJ, gH, fM, gD, gR, acM, fE, fF, fG, fD, eZ, eU, fB, eX, eQ, eH, if_true, if_false, acK, acQ, acL, acN, acP, acO, acJ, acI, eA, dV, aB, dM, dO, cB, eB, eS, eE, dK, eF, fA, dJ, eJ, bP, dS, bE, dN, aL, aH, eL, aX, cI, eM, aE, eN, dE, aR, bF, eD, bB, bC, bJ, aO, aI, cF, fH, dY, cJ, cC, dA, cH, dT, bD, eK, bT, dF, bR, aT, bV, aC, bY, bQ, cA, bX, aY, aU, bA, bU, dL, cP, bO, aV, aJ, aM, bG, aF, dC, dW, aK, aN, aZ, aG, cY, aD, cL, bW, bH, aP, cM, bZ, aA, dD, cO, cU, cG, dI, cD, dG, dU, cQ, eC, eI, bN, aS, dZ, bS, aQ, bL, dH, cZ, cV, cN, cS, bK, bM, cX, dR, cR, dQ, dB, d1]
 case' inr =>
  have d1 : decide ((stops.length : Int) <= (j : Int)) = true := by simp; omega
  have d2 : (s3.err == 0) = false := beq_eq_false_iff_ne.2 h2
  simp (disch := omega) only [eY, gN, dX, stepR_skip, fO, fW, fN, fZ, fX, fY, gQ, gG, eT, fT, fS, gE, fR, fL, fV, fQ, fU, gB, gC, fP, fC, gI, gA, fK, iR, iO, iP, iU, iM, iS, iQ, iT, iN, eP, Result.ok.injEq, Next.value.injEq, true_and, and_true, fI, fJ, gH, fM, gD, gR, acM, fE, fF, fG, fD, eZ, eU, fB, eX, eQ, eH, if_true, if_false, acK, acQ, acL, acN, acP, acO, acJ, acI, eA, dV, aB, dM, dO, cB, eB, eS, eE, dK, eF, fA, dJ, eJ, bP, dS, bE, dN, aL, aH, eL, aX, cI, eM, aE, eN, dE, aR, bF, eD, bB, bC, bJ, aO, aI, cF, fH, dY, cJ, cC, dA, cH, dT, bD, eK, bT, dF, bR, aT, bV, aC, bY, bQ, cA, bX, aY, aU, bA, bU, dL, cP, bO, aV, aJ, aM, bG, aF, dC, dW, aK, aN, aZ, aG, cY, aD, cL, bW, bH, aP, cM, bZ, aA, dD, cO, cU, cG, dI, cD, dG, dU, cQ, eC, eI, bN, aS, dZ, bS, aQ, bL, dH, cZ, cV, cN, cS, bK, bM, cX, dR, cR, dQ, dB, d1]
  refine (Ue h9).mono ?_
  rintro r wa ⟨rfl, hw⟩
  rw [hw]; clear hw wa
  simp (disch := omega) only [eY, gN, dX, stepR_skip, fO, fW, fN, fZ, fX, fY, gQ, gG, eT, fT, fS, gE, fR, fL, fV, fQ, fU, gB, gC, fP, fC, gI, gA, fK, iR, iO, iP, iU, iM, iS, iQ, iT, iN, eP, Result.ok.injEq, Next.value.injEq, true_and, and_true, fI, fJ, gH, fM, gD, gR, acM, fE, fF, fG, fD, eZ, eU, fB, eX, eQ, eH, if_true, if_false, acK, acQ, acL, acN, acP, acO, acJ, acI, eA, dV, aB, dM, dO, cB, eB, eS, eE, dK, eF, fA, dJ, eJ, bP, dS, bE, dN, aL, aH, eL, aX, cI, eM, aE, eN, dE, aR, bF, eD, bB, bC, bJ, aO, aI, cF, fH, dY, cJ, cC, dA, cH, dT, bD, eK, bT, dF, bR, aT, bV, aC, bY, bQ, cA, bX, aY, aU, bA, bU, dL, cP, bO, aV, aJ, aM, bG, aF, dC, dW, aK, aN, aZ, aG, cY, aD, cL, bW, bH, aP, cM, bZ, aA, dD, cO, cU, cG, dI, cD, dG, dU, cQ, eC, eI, bN, aS, dZ, bS, aQ, bL, dH, cZ, cV, cN, cS, bK, bM, cX, dR, cR, dQ, dB, d2]
 all_goals
  refine (To h9.dses hsaf hlo hlf (by omega) hk hkl).mono ?_
  rintro r wa ⟨rfl, ha, xa⟩
  have lma := lm ha.x
  simp (disch := omega) only [eY, gN, dX, stepR_skip, fO, fW, fN, fZ, fX, fY, gQ, gG, eT, fT, fS, gE, fR, fL, fV, fQ, fU, gB, gC, fP, fC, gI, gA, fK, iR, iO, iP, iU, iM, iS, iQ, iT, iN, eP, Result.ok.injEq, Next.value.injEq, true_and, and_true, fI, fJ, gH, fM, gD, gR, acM, fE, fF, fG, fD, eZ, eU, fB, eX, eQ, eH, if_true, if_false, acK, acQ, acL, acN, acP, acO, acJ, acI, eA, dV, aB, dM, dO, cB, eB, eS, eE, dK, eF, fA, dJ, eJ, bP, dS, bE, dN, aL, aH, eL, aX, cI, eM, aE, eN, dE, aR, bF, eD, bB, bC, bJ, aO, aI, cF, fH, dY, cJ, cC, dA, cH, dT, bD, eK, bT, dF, bR, aT, bV, aC, bY, bQ, cA, bX, aY, aU, bA, bU, dL, cP, bO, aV, aJ, aM, bG, aF, dC, dW, aK, aN, aZ, aG, cY, aD, cL, bW, bH, aP, cM, bZ, aA, dD, cO, cU, cG, dI, cD, dG, dU, cQ, eC, eI, bN, aS, dZ, bS, aQ, bL, dH, cZ, cV, cN, cS, bK, bM, cX, dR, cR, dQ, dB, lma]
  refine (Nw ha hg (Bk.le (by decide)) (Tp ⟨hk0, by omega⟩ (by omega)) (JQ hlv ha.x (jG _)) (nm := sF) ⟨by decide, by decide⟩ (by omega) hO).mono ?_
  rintro r wb ⟨⟨qq, rfl, _, hb5⟩, xb⟩
  simp (disch := omega) only [eY, gN, dX, stepR_skip, fO, fW, fN, fZ, fX, fY, gQ, gG, eT, fT, fS, gE, fR, fL, fV, fQ, fU, gB, gC, fP, fC, gI, gA, fK, iR, iO, iP, iU, iM, iS, iQ, iT, iN, eP, Result.ok.injEq, Next.value.injEq, true_and, and_true, fI, fJ, gH, fM, gD, gR, acM, fE, fF, fG, fD, eZ, eU, fB, eX, eQ, eH, if_true, if_false, acK, acQ, acL, acN, acP, acO, acJ, acI, eA, dV, aB, dM, dO, cB, eB, eS, eE, dK, eF, fA, dJ, eJ, bP, dS, bE, dN, aL, aH, eL, aX, cI, eM, aE, eN, dE, aR, bF, eD, bB, bC, bJ, aO, aI, cF, fH, dY, cJ, cC, dA, cH, dT, bD, eK, bT, dF, bR, aT, bV, aC, bY, bQ, cA, bX, aY, aU, bA, bU, dL, cP, bO, aV, aJ, aM, bG, aF, dC, dW, aK, aN, aZ, aG, cY, aD, cL, bW, bH, aP, cM, bZ, aA, dD, cO, cU, cG, dI, cD, dG, dU, cQ, eC, eI, bN, aS, dZ, bS, aQ, bL, dH, cZ, cV, cN, cS, bK, bM, cX, dR, cR, dQ, dB]
  refine (St (n := sF) hb5 (st5.bk hlo hlf (by omega) (by decide)) st5.dn).mono ?_
  rintro r wc ⟨hr, hc5, xc⟩
  rw [st5.gd.gF] at hr
  rcases hr with ⟨hr, _⟩ | ⟨b, vv, hbb, rfl, hoo⟩
  .cases hr
  cases hbb
  obtain ⟨va, vc, rfl⟩ := hoo.len
  have oc : jI wc pb (tl.map Value.bool) := ((o9.ext xa (fun hm => hm.2 (.inr rfl))).ext xb (fun hm => hm.2 (.inr rfl))).ext xc (fun h => h)
  simp (disch := omega) only [eY, gN, dX, stepR_skip, fO, fW, fN, fZ, fX, fY, gQ, gG, eT, fT, fS, gE, fR, fL, fV, fQ, fU, gB, gC, fP, fC, gI, gA, fK, iR, iO, iP, iU, iM, iS, iQ, iT, iN, eP, Result.ok.injEq, Next.value.injEq, true_and, and_true, fI, fJ, gH, fM, gD, gR, acM, fE, fF, fG, fD, eZ, eU, fB, eX, eQ, eH, if_true, if_false, acK, acQ, acL, acN, acP, acO, acJ, acI, eA, dV, aB, dM, dO, cB, eB, eS, eE, dK, eF, fA, dJ, eJ, bP, dS, bE, dN, aL, aH, eL, aX, cI, eM, aE, eN, dE, aR, bF, eD, bB, bC, bJ, aO, aI, cF, fH, dY, cJ, cC, dA, cH, dT, bD, eK, bT, dF, bR, aT, bV, aC, bY, bQ, cA, bX, aY, aU, bA, bU, dL, cP, bO, aV, aJ, aM, bG, aF, dC, dW, aK, aN, aZ, aG, cY, aD, cL, bW, bH, aP, cM, bZ, aA, dD, cO, cU, cG, dI, cD, dG, dU, cQ, eC, eI, bN, aS, dZ, bS, aQ, bL, dH, cZ, cV, cN, cS, bK, bM, cX, dR, cR, dQ, dB, n1]
  refine (Kc hc5).mono ?_
  rintro r wd ⟨rfl, hw⟩
  rw [hw]; clear hw wd
  rw [st5.ep]
  have d3 : decide (((e + 1 : Nat) : Int) <= (e : Int)) = false := by simp only [decide_eq_false_iff_not]; omega
  have hv := rU (show Bs wc (.slice va F0.length vc) F0 from hoo.sl)
  have hvo := rU (hbo.ext hc5.x (jG _))
  have hvf := rU (hb.ext hc5.x (jG _))
  have hFF : F0 = old ∨ (F0 ≠ old /\ F0 = f) := by
   rcases g1.of with h | h
   .exact .inl h
   .by_cases h' : F0 = old
    .exact .inl h'
    .exact .inr ⟨h', h⟩
  rcases hFF with hF | ⟨hF, hF2⟩
  case' inl =>
   have k2 : ((⟨F0.toArray⟩ : ByteArray).toList == (⟨old.toArray⟩ : ByteArray).toList) = true := by rw [hF]; exact Xn old
   simp (disch := omega) only [eY, gN, dX, stepR_skip, fO, fW, fN, fZ, fX, fY, gQ, gG, eT, fT, fS, gE, fR, fL, fV, fQ, fU, gB, gC, fP, fC, gI, gA, fK, iR, iO, iP, iU, iM, iS, iQ, iT, iN, eP, Result.ok.injEq, Next.value.injEq, true_and, and_true, fI, fJ, gH, fM, gD, gR, acM, fE, fF, fG, fD, eZ, eU, fB, eX, eQ, eH, if_true, if_false, acK, acQ, acL, acN, acP, acO, acJ, acI, eA, dV, aB, dM, dO, cB, eB, eS, eE, dK, eF, fA, dJ, eJ, bP, dS, bE, dN, aL, aH, eL, aX, cI, eM, aE, eN, dE, aR, bF, eD, bB, bC, bJ, aO, aI, cF, fH, dY, cJ, cC, dA, cH, dT, bD, eK, bT, dF, bR, aT, bV, aC, bY, bQ, cA, bX, aY, aU, bA, bU, dL, cP, bO, aV, aJ, aM, bG, aF, dC, dW, aK, aN, aZ, aG, cY, aD, cL, bW, bH, aP, cM, bZ, aA, dD, cO, cU, cG, dI, cD, dG, dU, cQ, eC, eI, bN, aS, dZ, bS, aQ, bL, dH, cZ, cV, cN, cS, bK, bM, cX, dR, cR, dQ, dB, d3, hv, hvo, hvf, Xu, k2]
  case' inr =>
   have k2 := ZB hF
   have k3 : ((⟨F0.toArray⟩ : ByteArray).toList == (⟨f.toArray⟩ : ByteArray).toList) = true := by rw [hF2]; exact Xn f
   simp (disch := omega) only [eY, gN, dX, stepR_skip, fO, fW, fN, fZ, fX, fY, gQ, gG, eT, fT, fS, gE, fR, fL, fV, fQ, fU, gB, gC, fP, fC, gI, gA, fK, iR, iO, iP, iU, iM, iS, iQ, iT, iN, eP, Result.ok.injEq, Next.value.injEq, true_and, and_true, fI, fJ, gH, fM, gD, gR, acM, fE, fF, fG, fD, eZ, eU, fB, eX, eQ, eH, if_true, if_false, acK, acQ, acL, acN, acP, acO, acJ, acI, eA, dV, aB, dM, dO, cB, eB, eS, eE, dK, eF, fA, dJ, eJ, bP, dS, bE, dN, aL, aH, eL, aX, cI, eM, aE, eN, dE, aR, bF, eD, bB, bC, bJ, aO, aI, cF, fH, dY, cJ, cC, dA, cH, dT, bD, eK, bT, dF, bR, aT, bV, aC, bY, bQ, cA, bX, aY, aU, bA, bU, dL, cP, bO, aV, aJ, aM, bG, aF, dC, dW, aK, aN, aZ, aG, cY, aD, cL, bW, bH, aP, cM, bZ, aA, dD, cO, cU, cG, dI, cD, dG, dU, cQ, eC, eI, bN, aS, dZ, bS, aQ, bL, dH, cZ, cV, cN, cS, bK, bM, cX, dR, cR, dQ, dB, d3, hv, hvo, hvf, Xu, k2, k3]
  all_goals
   refine (Kc hc5).mono ?_
   rintro r wd ⟨rfl, hw⟩
   rw [hw]; clear hw wd
   rw [st5.ep]
   refine (SJ hc5).mono ?_
   rintro r wd ⟨hho, hd5, xd⟩
   have od := oc.ext xd (fun h => h)
   obtain ⟨hha, hcp, rfl⟩ := hho.len
   have hhs := hho.sl
   have hhl := st5.hvl
   rw [hhl, <- hn] at hhs ⊢
   unfold yZ xS
   refine kJ.rule (fun l (t : ahB) w' => ∃ (i : Nat), l = n - i /\ i <= n /\ t = .int .i64 (i : Nat) /\ gV wd w' jN) n
    ⟨0, rfl, by omega, rfl, gV.refl _ _⟩ ?_
   rintro l t we ⟨i, rfl, hi, rfl, xe⟩
   unfold sR
   by_cases hlt : i < n
   .have d5 : decide ((i : Int) < (n : Int)) = true := by simp; omega
    have inn : (i : Int).toNat = i := acM _
    have q4 : (i : Int) + 1 = ((i + 1 : Nat) : Int) := by omega
    obtain ⟨hab, hoff, hha', hcl⟩ : ∃ hab hoff, hha = some ⟨hab, hoff, none⟩ /\ we.cell? ⟨hab, hoff + i, none⟩ = some (.bool (s5.hv.getD i false)) := by
     obtain ⟨a', n', c', he', hn', hc', hh⟩ := hhs
     simp only [Value.slice.injEq] at he'
     obtain ⟨rfl, rfl, rfl⟩ := he'
     obtain ⟨hab, hoff, rfl, h2⟩ := hh (by omega)
     refine ⟨hab, hoff, rfl, ?_⟩
     have := h2 i (by omega)
     rw [adQ, acS (by omega)] at this
     rw [acU, acS (by omega)]
     exact Br this xe (fun h => h)
    subst hha'
    have hpc : we.cell? ⟨pb, i, none⟩ = some (.bool (tl.getD i false)) := by
     have := (od.ext xe (fun h => h)).cell (off := i)
     rw [adQ, acS (by omega)] at this
     rw [acU, acS (by omega)]
     exact this
    cases hv' : tl.getD i false with
    | false =>
      rw [hv'] at hpc
      simp (disch := omega) only [eY, gN, dX, stepR_skip, fO, fW, fN, fZ, fX, fY, gQ, gG, eT, fT, fS, gE, fR, fL, fV, fQ, fU, gB, gC, fP, fC, gI, gA, fK, iR, iO, iP, iU, iM, iS, iQ, iT, iN, eP, Result.ok.injEq, Next.value.injEq, true_and, and_true, fI, fJ, gH, fM, gD, gR, acM, fE, fF, fG, fD, eZ, eU, fB, eX, eQ, eH, if_true, if_false, acK, acQ, acL, acN, acP, acO, acJ, acI, eA, dV, aB, dM, dO, cB, eB, eS, eE, dK, eF, fA, dJ, eJ, bP, dS, bE, dN, aL, aH, eL, aX, cI, eM, aE, eN, dE, aR, bF, eD, bB, bC, bJ, aO, aI, cF, fH, dY, cJ, cC, dA, cH, dT, bD, eK, bT, dF, bR, aT, bV, aC, bY, bQ, cA, bX, aY, aU, bA, bU, dL, cP, bO, aV, aJ, aM, bG, aF, dC, dW, aK, aN, aZ, aG, cY, aD, cL, bW, bH, aP, cM, bZ, aA, dD, cO, cU, cG, dI, cD, dG, dU, cQ, eC, eI, bN, aS, dZ, bS, aQ, bL, dH, cZ, cV, cN, cS, bK, bM, cX, dR, cR, dQ, dB, d5, inn, hpc, q4, acQ]
      exact ⟨n - (i + 1), by omega, i + 1, rfl, by omega, rfl, xe⟩
    | true =>
      rw [hv'] at hpc
      have hhv : s5.hv.getD i false = true := by
       cases hfb : LD f k F0 with
       | true => exact st5.hv hfb i (by omega)
       | false =>
         obtain ⟨p5, _, hif⟩ := st5.hp hfb
         have hpp := st5.gd.pc.resolve_left (by rw [hfb]; decide)
         exact (hif i (by omega)).2 ((hpp i (by omega)).2 hv')
      rw [hhv] at hcl
      simp (disch := omega) only [eY, gN, dX, stepR_skip, fO, fW, fN, fZ, fX, fY, gQ, gG, eT, fT, fS, gE, fR, fL, fV, fQ, fU, gB, gC, fP, fC, gI, gA, fK, iR, iO, iP, iU, iM, iS, iQ, iT, iN, eP, Result.ok.injEq, Next.value.injEq, true_and, and_true, fI, fJ, gH, fM, gD, gR, acM, fE, fF, fG, fD, eZ, eU, fB, eX, eQ, eH, if_true, if_false, acK, acQ, acL, acN, acP, acO, acJ, acI, eA, dV, aB, dM, dO, cB, eB, eS, eE, dK, eF, fA, dJ, eJ, bP, dS, bE, dN, aL, aH, eL, aX, cI, eM, aE, eN, dE, aR, bF, eD, bB, bC, bJ, aO, aI, cF, fH, dY, cJ, cC, dA, cH, dT, bD, eK, bT, dF, bR, aT, bV, aC, bY, bQ, cA, bX, aY, aU, bA, bU, dL, cP, bO, aV, aJ, aM, bG, aF, dC, dW, aK, aN, aZ, aG, cY, aD, cL, bW, bH, aP, cM, bZ, aA, dD, cO, cU, cG, dI, cD, dG, dU, cQ, eC, eI, bN, aS, dZ, bS, aQ, bL, dH, cZ, cV, cN, cS, bK, bM, cX, dR, cR, dQ, dB, d5, inn, hpc, hcl, q4, acQ]
      exact ⟨n - (i + 1), by omega, i + 1, rfl, by omega, rfl, xe⟩
   .have d5 : decide ((i : Int) < (n : Int)) = false := by simp; omega
    simp (disch := omega) only [eY, gN, dX, stepR_skip, fO, fW, fN, fZ, fX, fY, gQ, gG, eT, fT, fS, gE, fR, fL, fV, fQ, fU, gB, gC, fP, fC, gI, gA, fK, iR, iO, iP, iU, iM, iS, iQ, iT, iN, eP, Result.ok.injEq, Next.value.injEq, true_and, and_true, fI, fJ, gH, fM, gD, gR, acM, fE, fF, fG, fD, eZ, eU, fB, eX, eQ, eH, if_true, if_false, acK, acQ, acL, acN, acP, acO, acJ, acI, eA, dV, aB, dM, dO, cB, eB, eS, eE, dK, eF, fA, dJ, eJ, bP, dS, bE, dN, aL, aH, eL, aX, cI, eM, aE, eN, dE, aR, bF, eD, bB, bC, bJ, aO, aI, cF, fH, dY, cJ, cC, dA, cH, dT, bD, eK, bT, dF, bR, aT, bV, aC, bY, bQ, cA, bX, aY, aU, bA, bU, dL, cP, bO, aV, aJ, aM, bG, aF, dC, dW, aK, aN, aZ, aG, cY, aD, cL, bW, bH, aP, cM, bZ, aA, dD, cO, cU, cG, dI, cD, dG, dU, cQ, eC, eI, bN, aS, dZ, bS, aQ, bL, dH, cZ, cV, cN, cS, bK, bM, cX, dR, cR, dQ, dB, d5]
    exact hkn we qq (e + 1) S5 s5 F0 recs5 P5 (hd5.new xe) st5 (od.ext xe (fun h => h)) (acY _)
theorem Wq {kn : HQ} {w0 w : ahA} {ar a : Option Addr} {c k n m e j q p pb mb : Nat} {vo vs kv ve : ahB} {la : Option Addr} {lc cr : Nat} {old f order : List UInt8} {tl : List Bool} {S : jL} {s : nG} {F0 : List UInt8} {recs : List (Nat × Nat)} {P : Option (List UInt8)}
 (hb : Bs w0 (.slice a f.length c) f) (hbr : Bs w0 (.slice ar order.length cr) order) (hlo : old.length <= 200) (hlf : f.length <= 200) (hj : j < order.length) (hj2 : j <= 30)
 (c6 : ∀ {w'}, gV w0 w' jN -> w'.cell? ⟨mb, 2, none⟩ = some (.slice la n lc)) (hk0 : 0 < k) (hk1 : k <= 300) (hm : m <= 100) (hn : n = mA f.length k) (hpb : w0.heap.size <= pb)
 (h : Ey w0 (YG pb) w q p S s) (o : jI w pb (tl.map Value.bool)) (tll : tl.length = n) (st : M4 old f k (VQ tl) e m S s F0 recs P)
 (hkn : ∀ w' S' s' tl', Ey w0 (YG pb) w' q p S' s' -> tl'.length = n -> jI w' pb (tl'.map Value.bool) -> Bg 2 S' -> iJ S'.seen <= 1000000 -> ((∃ F0 recs P, M4 old f k (VQ tl') e (m + 1) S' s' F0 recs P) ∨ (s'.err ≠ 0 /\ VE old f k (VQ tl') e (m + 1) S')) →
  kn vo (.slice a f.length c) (.slice ar order.length cr) vs kv (.int .i64 (k : Nat)) (.pointer (some ⟨mb, 0, none⟩)) (dP p) (dP q) (.slice (some ⟨pb, 0, none⟩) n n) ve (.int .i64 (j : Nat)) w') :
 qT kn vo (.slice a f.length c) (.slice ar order.length cr) vs kv (.int .i64 (k : Nat)) (.pointer (some ⟨mb, 0, none⟩)) (dP p) (dP q) (.slice (some ⟨pb, 0, none⟩) n n) ve (.int .i64 (j : Nat)) w := by
 unfold qT wE xA
 have hcap : f.length <= c := by
  obtain ⟨a', n', c', he', hn', hc', _⟩ := hb
  simp only [Value.slice.injEq] at he'
  obtain ⟨rfl, rfl, rfl⟩ := he'
  exact hc'
 have hcn := Hk (L := f.length) hk0
 have hz := (st.gd.len hlo hlf (by omega)).1
 have n3 : ((0 : Int) == 0) = true := rfl
 have c6w := c6 h.x
 by_cases hn0 : n = 0
 .have d1 : decide ((0 : Int) < (n : Int)) = false := by simp; omega
  unfold wY
  simp (disch := omega) only [eY, gN, dX, stepR_skip, fO, fW, fN, fZ, fX, fY, gQ, gG, eT, fT, fS, gE, fR, fL, fV, fQ, fU, gB, gC, fP, fC, gI, gA, fK, iR, iO, iP, iU, iM, iS, iQ, iT, iN, eP, Result.ok.injEq, Next.value.injEq, true_and, and_true, fI, fJ, gH, fM, gD, gR, acM, fE, fF, fG, fD, eZ, eU, fB, eX, eQ, eH, if_true, if_false, acK, acQ, acL, acN, acP, acO, acJ, acI, eA, dV, aB, dM, dO, cB, eB, eS, eE, dK, eF, fA, dJ, eJ, bP, dS, bE, dN, aL, aH, eL, aX, cI, eM, aE, eN, dE, aR, bF, eD, bB, bC, bJ, aO, aI, cF, fH, dY, cJ, cC, dA, cH, dT, bD, eK, bT, dF, bR, aT, bV, aC, bY, bQ, cA, bX, aY, aU, bA, bU, dL, cP, bO, aV, aJ, aM, bG, aF, dC, dW, aK, aN, aZ, aG, cY, aD, cL, bW, bH, aP, cM, bZ, aA, dD, cO, cU, cG, dI, cD, dG, dU, cQ, eC, eI, bN, aS, dZ, bS, aQ, bL, dH, cZ, cV, cN, cS, bK, bM, cX, dR, cR, dQ, dB, c6w, d1]
  exact hkn w S s tl h tll o (st.bk hlo hlf (by omega) (by decide)) (by omega) (.inl ⟨_, _, _, st.mono (fun _ t => t) (agM m)⟩)
 have d1 : decide ((0 : Int) < (n : Int)) = true := by simp; omega
 unfold C4 zE
 have hd : Ey w0 (YG pb) (dr w) q p S s := h.new (gV.dr _ _)
 have od := kR o
 obtain ⟨ca, coff, hca, hccell⟩ := Us hbr hj
 subst hca
 have hcc := hccell hd.x
 obtain ⟨z, hz'⟩ : ∃ z, z = (order[j]).toNat := ⟨_, rfl⟩
 have hzl : z < 256 := by rw [hz']; exact (order[j]).toNat_lt
 rw [<- hz'] at hcc
 have e3 : IntKind.i64.wrap ((z : Nat) : Int) = ((z : Nat) : Int) := fI (by omega) (by omega)
 have e4 : ((z : Nat) : Int).tmod (n : Int) = ((z % n : Nat) : Int) := rfl
 have hzn : z % n < n := afX _ (by omega)
 obtain ⟨i, hi⟩ : ∃ i, i = z % n := ⟨_, rfl⟩
 rw [<- hi] at e4 hzn
 have c8 := c6 hd.x
 have hkx := (Av (L := f.length) hk0 (i := i)).1 (by omega)
 obtain ⟨pe1, pe2⟩ := U7 hkx
 have q1 : (i : Int) + 1 = ((i + 1 : Nat) : Int) := by omega
 have q2 : (k : Int) * ((i + 1 : Nat) : Int) = ((k * (i + 1) : Nat) : Int) := by rw [Int.natCast_mul]
 have q3 : (k : Int) * ((i : Nat) : Int) = ((k * i : Nat) : Int) := by rw [Int.natCast_mul]
 have hb' : k * (i + 1) <= 100000 := by rw [agE, afE]; omega
 obtain ⟨T, hT⟩ : ∃ T, T = k * (i + 1) := ⟨_, rfl⟩
 rw [<- hT] at q2 hb' pe1 pe2
 have jn : (j : Int).toNat = j := acM _
 have inn : (i : Int).toNat = i := acM _
 have put2 : ∀ (to : Nat), to = k * i + Kq f.length k i -> pA kn vo (.slice a f.length c) (.slice (some ⟨ca, coff, none⟩) order.length cr) vs kv (.int .i64 (k : Nat)) (.pointer (some ⟨mb, 0, none⟩)) (dP p) (dP q) (.slice (some ⟨pb, 0, none⟩) n n) ve (.int .i64 (j : Nat)) (.int .i64 (i : Nat)) (.int .i64 (to : Nat)) (dr w) := by
  intro to hto
  unfold pA
  have hse := Db hkx
  have hbi := Xp (k := k) (i := i) hb hkx
  have hpl := Lh f.length k i f
  have hput := UE (i := ((i : Nat) : Int)) (b := nW f.length k i f) hd (gV.refl _ _) (st.bk hlo hlf (by omega) (m := 2) (by decide)) (by rw [st.hvl, st.man, vR]) (hbi.ext hd.x (jG _)) (by omega) (Zl hbi) (by have := st.log_le; omega) (by omega)
  obtain ⟨p1, p2⟩ := Y8 st hk0 hlo hlf (by omega) (i := i) (by omega)
  have hsz := Xq (S := S) (s := s) (i := ((i : Nat) : Int)) (b := nW f.length k i f)
  have hbk := Zi (s := s) (i := ((i : Nat) : Int)) (b := nW f.length k i f) (st.bk hlo hlf (by omega) (m := 4) (by decide))
  rw [st.man] at hsz
  have hsz : iJ (pU gU iA S s (i : Nat) (nW f.length k i f)).1.seen <= iJ S.seen + (k * i + (nW f.length k i f).length) + (s.log + 13) := hsz
  have hll := st.log_le
  rw [<- hto] at hput hse
  obtain ⟨Q, hQ⟩ : ∃ Q, Q = pU gU iA S s (i : Nat) (nW f.length k i f) := ⟨_, rfl⟩
  rw [<- hQ] at hput p1 p2 hsz hbk
  obtain ⟨P0, hP0⟩ : ∃ P0, P0 = k * i := ⟨_, rfl⟩
  rw [<- hP0] at hput q3 hto hkx hsz
  have hle : P0 <= to := by omega
  simp (disch := omega) only [eY, gN, dX, stepR_skip, fO, fW, fN, fZ, fX, fY, gQ, gG, eT, fT, fS, gE, fR, fL, fV, fQ, fU, gB, gC, fP, fC, gI, gA, fK, iR, iO, iP, iU, iM, iS, iQ, iT, iN, eP, Result.ok.injEq, Next.value.injEq, true_and, and_true, fI, fJ, gH, fM, gD, gR, acM, fE, fF, fG, fD, eZ, eU, fB, eX, eQ, eH, if_true, if_false, acK, acQ, acL, acN, acP, acO, acJ, acI, eA, dV, aB, dM, dO, cB, eB, eS, eE, dK, eF, fA, dJ, eJ, bP, dS, bE, dN, aL, aH, eL, aX, cI, eM, aE, eN, dE, aR, bF, eD, bB, bC, bJ, aO, aI, cF, fH, dY, cJ, cC, dA, cH, dT, bD, eK, bT, dF, bR, aT, bV, aC, bY, bQ, cA, bX, aY, aU, bA, bU, dL, cP, bO, aV, aJ, aM, bG, aF, dC, dW, aK, aN, aZ, aG, cY, aD, cL, bW, bH, aP, cM, bZ, aA, dD, cO, cU, cG, dI, cD, dG, dU, cQ, eC, eI, bN, aS, dZ, bS, aQ, bL, dH, cZ, cV, cN, cS, bK, bM, cX, dR, cR, dQ, dB, q3]
  refine hput.mono ?_
  rintro r w9 ⟨rfl, h9, x9⟩
  have o9 : jI w9 pb (tl.map Value.bool) := od.ext x9 (fun hm => hm.2 (.inr rfl))
  by_cases hq0 : Q.2.2 = 0
  .rw [hq0]
   obtain ⟨recs', P', st'⟩ := p1 hq0
   simp (disch := omega) only [eY, gN, dX, stepR_skip, fO, fW, fN, fZ, fX, fY, gQ, gG, eT, fT, fS, gE, fR, fL, fV, fQ, fU, gB, gC, fP, fC, gI, gA, fK, iR, iO, iP, iU, iM, iS, iQ, iT, iN, eP, Result.ok.injEq, Next.value.injEq, true_and, and_true, fI, fJ, gH, fM, gD, gR, acM, fE, fF, fG, fD, eZ, eU, fB, eX, eQ, eH, if_true, if_false, acK, acQ, acL, acN, acP, acO, acJ, acI, eA, dV, aB, dM, dO, cB, eB, eS, eE, dK, eF, fA, dJ, eJ, bP, dS, bE, dN, aL, aH, eL, aX, cI, eM, aE, eN, dE, aR, bF, eD, bB, bC, bJ, aO, aI, cF, fH, dY, cJ, cC, dA, cH, dT, bD, eK, bT, dF, bR, aT, bV, aC, bY, bQ, cA, bX, aY, aU, bA, bU, dL, cP, bO, aV, aJ, aM, bG, aF, dC, dW, aK, aN, aZ, aG, cY, aD, cL, bW, bH, aP, cM, bZ, aA, dD, cO, cU, cG, dI, cD, dG, dU, cQ, eC, eI, bN, aS, dZ, bS, aQ, bL, dH, cZ, cV, cN, cS, bK, bM, cX, dR, cR, dQ, dB, n3, inn]
   refine Dc o9 rfl (by rw [acR]; omega) fun wa oa xa sa => ?_
   have oset : (tl.map Value.bool).set i (.bool true) = (tl.set i true).map Value.bool := by rw [agY]
   rw [oset] at oa
   refine hkn wa Q.1 Q.2.1 (tl.set i true) (h9.turn o9 (.inr rfl) hpb xa) (by rw [afH]; exact tll) oa hbk (by omega) (.inl ⟨_, _, _, st'.mono (fun x hx => ?_) (acY _)⟩)
   have hx : (tl.set i true).getD x false = true := hx
   rw [zZ (by omega)] at hx
   by_cases hxi : x = i
   .exact .inr hxi
   .rw [if_neg hxi] at hx
    exact .inl hx
  .have d2 : (Q.2.2 == 0) = false := beq_eq_false_iff_ne.2 hq0
   simp (disch := omega) only [eY, gN, dX, stepR_skip, fO, fW, fN, fZ, fX, fY, gQ, gG, eT, fT, fS, gE, fR, fL, fV, fQ, fU, gB, gC, fP, fC, gI, gA, fK, iR, iO, iP, iU, iM, iS, iQ, iT, iN, eP, Result.ok.injEq, Next.value.injEq, true_and, and_true, fI, fJ, gH, fM, gD, gR, acM, fE, fF, fG, fD, eZ, eU, fB, eX, eQ, eH, if_true, if_false, acK, acQ, acL, acN, acP, acO, acJ, acI, eA, dV, aB, dM, dO, cB, eB, eS, eE, dK, eF, fA, dJ, eJ, bP, dS, bE, dN, aL, aH, eL, aX, cI, eM, aE, eN, dE, aR, bF, eD, bB, bC, bJ, aO, aI, cF, fH, dY, cJ, cC, dA, cH, dT, bD, eK, bT, dF, bR, aT, bV, aC, bY, bQ, cA, bX, aY, aU, bA, bU, dL, cP, bO, aV, aJ, aM, bG, aF, dC, dW, aK, aN, aZ, aG, cY, aD, cL, bW, bH, aP, cM, bZ, aA, dD, cO, cU, cG, dI, cD, dG, dU, cQ, eC, eI, bN, aS, dZ, bS, aQ, bL, dH, cZ, cV, cN, cS, bK, bM, cX, dR, cR, dQ, dB, d2]
   exact hkn w9 Q.1 Q.2.1 tl h9 tll o9 hbk (by omega) (.inr (p2 hq0))
 by_cases hT2 : f.length < T
 .have d5 : decide ((f.length : Int) < (T : Int)) = true := by simp; omega
  have := put2 f.length (pe2 hT2).symm
  simp (disch := omega) only [eY, gN, dX, stepR_skip, fO, fW, fN, fZ, fX, fY, gQ, gG, eT, fT, fS, gE, fR, fL, fV, fQ, fU, gB, gC, fP, fC, gI, gA, fK, iR, iO, iP, iU, iM, iS, iQ, iT, iN, eP, Result.ok.injEq, Next.value.injEq, true_and, and_true, fI, fJ, gH, fM, gD, gR, acM, fE, fF, fG, fD, eZ, eU, fB, eX, eQ, eH, if_true, if_false, acK, acQ, acL, acN, acP, acO, acJ, acI, eA, dV, aB, dM, dO, cB, eB, eS, eE, dK, eF, fA, dJ, eJ, bP, dS, bE, dN, aL, aH, eL, aX, cI, eM, aE, eN, dE, aR, bF, eD, bB, bC, bJ, aO, aI, cF, fH, dY, cJ, cC, dA, cH, dT, bD, eK, bT, dF, bR, aT, bV, aC, bY, bQ, cA, bX, aY, aU, bA, bU, dL, cP, bO, aV, aJ, aM, bG, aF, dC, dW, aK, aN, aZ, aG, cY, aD, cL, bW, bH, aP, cM, bZ, aA, dD, cO, cU, cG, dI, cD, dG, dU, cQ, eC, eI, bN, aS, dZ, bS, aQ, bL, dH, cZ, cV, cN, cS, bK, bM, cX, dR, cR, dQ, dB, c6w, d1, jn, hcc, e3, c8, e4, q1, q2, d5]
  exact this
 .have d5 : decide ((f.length : Int) < (T : Int)) = false := by simp; omega
  have := put2 T (pe1 (by omega)).symm
  simp (disch := omega) only [eY, gN, dX, stepR_skip, fO, fW, fN, fZ, fX, fY, gQ, gG, eT, fT, fS, gE, fR, fL, fV, fQ, fU, gB, gC, fP, fC, gI, gA, fK, iR, iO, iP, iU, iM, iS, iQ, iT, iN, eP, Result.ok.injEq, Next.value.injEq, true_and, and_true, fI, fJ, gH, fM, gD, gR, acM, fE, fF, fG, fD, eZ, eU, fB, eX, eQ, eH, if_true, if_false, acK, acQ, acL, acN, acP, acO, acJ, acI, eA, dV, aB, dM, dO, cB, eB, eS, eE, dK, eF, fA, dJ, eJ, bP, dS, bE, dN, aL, aH, eL, aX, cI, eM, aE, eN, dE, aR, bF, eD, bB, bC, bJ, aO, aI, cF, fH, dY, cJ, cC, dA, cH, dT, bD, eK, bT, dF, bR, aT, bV, aC, bY, bQ, cA, bX, aY, aU, bA, bU, dL, cP, bO, aV, aJ, aM, bG, aF, dC, dW, aK, aN, aZ, aG, cY, aD, cL, bW, bH, aP, cM, bZ, aA, dD, cO, cU, cG, dI, cD, dG, dU, cQ, eC, eI, bN, aS, dZ, bS, aQ, bL, dH, cZ, cV, cN, cS, bK, bM, cX, dR, cR, dQ, dB, c6w, d1, jn, hcc, e3, c8, e4, q1, q2, d5]
  exact this
structure abF (w0 : ahA) (p pb : Nat) (old f : List UInt8) (k n : Nat) (w : ahA) (q e j : Nat) (S : jL) (s : nG) (F0 : List UInt8) (recs : List (Nat × Nat)) (P : Option (List UInt8)) (tl : List Bool) : Prop where
 ses : Ey w0 (YG pb) w q p S s
 st : M4 old f k (VQ tl) e (1 + 2 * j) S s F0 recs P
 own : jI w pb (tl.map Value.bool)
 tll : tl.length = n
 el : e <= 1 + j
def SfI (w0 : ahA) (p pb : Nat) (old f : List UInt8) (k n j : Nat) (t : ahB × ahB × ahB) (w : ahA) : Prop :=
 ∃ (q e : Nat) (S : jL) (s : nG) (F0 : List UInt8) (recs : List (Nat × Nat)) (P : Option (List UInt8)) (tl : List Bool), t = (dP q, .int .u64 (e : Nat), .int .i64 (j : Nat)) /\ abF w0 p pb old f k n w q e j S s F0 recs P tl
theorem RP {vo v vr vs kv : ahB} {old f order stops : List UInt8} {ks : List Bool} {part : Nat} {w : ahA} (hg : qK w) (hbo : Bs w vo old) (hlo : old.length <= 9223372036854775807) (hb : Bs w v f) (hl : f.length <= 9223372036854775807) (hp : part < 256)
 (hbr : Bs w vr order) (hlr : order.length <= 9223372036854775807) (hbs : Bs w vs stops) (hls : stops.length <= 9223372036854775807) (hk : Sl w kv (ks.map Value.bool)) (hkl : ks.length <= 9223372036854775807) :
 gT pg AV #[vo, v, .int .u8 (part : Nat), vr, vs, kv] w (fun r w' => r = .bool true /\ gV w w' jN) := by
 refine JC ?_
 obtain ⟨RR, hRR⟩ : ∃ RR : ahB -> ahA -> Prop, RR = fun r w' => r = .bool true /\ gV w w' jN := ⟨_, rfl⟩
 rw [<- hRR]
 have hR : ∀ w', gV w w' jN -> RR (.bool true) w' := fun w' x => by rw [hRR]; exact ⟨rfl, x⟩
 obtain ⟨a, c, rfl, hc⟩ := hb.len
 obtain ⟨ao, co, rfl, hco⟩ := hbo.len
 obtain ⟨ar, cr, rfl, hcr⟩ := hbr.len
 obtain ⟨ast, cs, rfl, hcs⟩ := hbs.len
 rw [acR] at hb hc hbo hco hbr hcr hbs hcs ⊢
 rw [acR, acR, acR]
 unfold HO wJ wC
 refine (UW hg).mono ?_
 rintro r w1 ⟨rfl, x1⟩
 by_cases h1 : 200 < old.length
 .have d1 : decide ((200 : Int) < (old.length : Int)) = true := by simp; omega
  simp (disch := omega) only [eY, gN, dX, stepR_skip, fO, fW, fN, fZ, fX, fY, gQ, gG, eT, fT, fS, gE, fR, fL, fV, fQ, fU, gB, gC, fP, fC, gI, gA, fK, iR, iO, iP, iU, iM, iS, iQ, iT, iN, eP, Result.ok.injEq, Next.value.injEq, true_and, and_true, fI, fJ, gH, fM, gD, gR, acM, fE, fF, fG, fD, eZ, eU, fB, eX, eQ, eH, if_true, if_false, acK, acQ, acL, acN, acP, acO, acJ, acI, eA, dV, aB, dM, dO, cB, eB, eS, eE, dK, eF, fA, dJ, eJ, bP, dS, bE, dN, aL, aH, eL, aX, cI, eM, aE, eN, dE, aR, bF, eD, bB, bC, bJ, aO, aI, cF, fH, dY, cJ, cC, dA, cH, dT, bD, eK, bT, dF, bR, aT, bV, aC, bY, bQ, cA, bX, aY, aU, bA, bU, dL, cP, bO, aV, aJ, aM, bG, aF, dC, dW, aK, aN, aZ, aG, cY, aD, cL, bW, bH, aP, cM, bZ, aA, dD, cO, cU, cG, dI, cD, dG, dU, cQ, eC, eI, bN, aS, dZ, bS, aQ, bL, dH, cZ, cV, cN, cS, bK, bM, cX, dR, cR, dQ, dB, d1]
  exact hR _ x1
 have d1 : decide ((200 : Int) < (old.length : Int)) = false := by simp; omega
 by_cases h2 : 200 < f.length
 .have d2 : decide ((200 : Int) < (f.length : Int)) = true := by simp; omega
  simp (disch := omega) only [eY, gN, dX, stepR_skip, fO, fW, fN, fZ, fX, fY, gQ, gG, eT, fT, fS, gE, fR, fL, fV, fQ, fU, gB, gC, fP, fC, gI, gA, fK, iR, iO, iP, iU, iM, iS, iQ, iT, iN, eP, Result.ok.injEq, Next.value.injEq, true_and, and_true, fI, fJ, gH, fM, gD, gR, acM, fE, fF, fG, fD, eZ, eU, fB, eX, eQ, eH, if_true, if_false, acK, acQ, acL, acN, acP, acO, acJ, acI, eA, dV, aB, dM, dO, cB, eB, eS, eE, dK, eF, fA, dJ, eJ, bP, dS, bE, dN, aL, aH, eL, aX, cI, eM, aE, eN, dE, aR, bF, eD, bB, bC, bJ, aO, aI, cF, fH, dY, cJ, cC, dA, cH, dT, bD, eK, bT, dF, bR, aT, bV, aC, bY, bQ, cA, bX, aY, aU, bA, bU, dL, cP, bO, aV, aJ, aM, bG, aF, dC, dW, aK, aN, aZ, aG, cY, aD, cL, bW, bH, aP, cM, bZ, aA, dD, cO, cU, cG, dI, cD, dG, dU, cQ, eC, eI, bN, aS, dZ, bS, aQ, bL, dH, cZ, cV, cN, cS, bK, bM, cX, dR, cR, dQ, dB, d1, d2]
  exact hR _ x1
 have d2 : decide ((200 : Int) < (f.length : Int)) = false := by simp; omega
 by_cases h3 : 30 < order.length
 .have d3 : decide ((30 : Int) < (order.length : Int)) = true := by simp; omega
  simp (disch := omega) only [eY, gN, dX, stepR_skip, fO, fW, fN, fZ, fX, fY, gQ, gG, eT, fT, fS, gE, fR, fL, fV, fQ, fU, gB, gC, fP, fC, gI, gA, fK, iR, iO, iP, iU, iM, iS, iQ, iT, iN, eP, Result.ok.injEq, Next.value.injEq, true_and, and_true, fI, fJ, gH, fM, gD, gR, acM, fE, fF, fG, fD, eZ, eU, fB, eX, eQ, eH, if_true, if_false, acK, acQ, acL, acN, acP, acO, acJ, acI, eA, dV, aB, dM, dO, cB, eB, eS, eE, dK, eF, fA, dJ, eJ, bP, dS, bE, dN, aL, aH, eL, aX, cI, eM, aE, eN, dE, aR, bF, eD, bB, bC, bJ, aO, aI, cF, fH, dY, cJ, cC, dA, cH, dT, bD, eK, bT, dF, bR, aT, bV, aC, bY, bQ, cA, bX, aY, aU, bA, bU, dL, cP, bO, aV, aJ, aM, bG, aF, dC, dW, aK, aN, aZ, aG, cY, aD, cL, bW, bH, aP, cM, bZ, aA, dD, cO, cU, cG, dI, cD, dG, dU, cQ, eC, eI, bN, aS, dZ, bS, aQ, bL, dH, cZ, cV, cN, cS, bK, bM, cX, dR, cR, dQ, dB, d1, d2, d3]
  exact hR _ x1
 have d3 : decide ((30 : Int) < (order.length : Int)) = false := by simp; omega
 by_cases h4 : 8 < stops.length
 .have d4 : decide ((8 : Int) < (stops.length : Int)) = true := by simp; omega
  simp (disch := omega) only [eY, gN, dX, stepR_skip, fO, fW, fN, fZ, fX, fY, gQ, gG, eT, fT, fS, gE, fR, fL, fV, fQ, fU, gB, gC, fP, fC, gI, gA, fK, iR, iO, iP, iU, iM, iS, iQ, iT, iN, eP, Result.ok.injEq, Next.value.injEq, true_and, and_true, fI, fJ, gH, fM, gD, gR, acM, fE, fF, fG, fD, eZ, eU, fB, eX, eQ, eH, if_true, if_false, acK, acQ, acL, acN, acP, acO, acJ, acI, eA, dV, aB, dM, dO, cB, eB, eS, eE, dK, eF, fA, dJ, eJ, bP, dS, bE, dN, aL, aH, eL, aX, cI, eM, aE, eN, dE, aR, bF, eD, bB, bC, bJ, aO, aI, cF, fH, dY, cJ, cC, dA, cH, dT, bD, eK, bT, dF, bR, aT, bV, aC, bY, bQ, cA, bX, aY, aU, bA, bU, dL, cP, bO, aV, aJ, aM, bG, aF, dC, dW, aK, aN, aZ, aG, cY, aD, cL, bW, bH, aP, cM, bZ, aA, dD, cO, cU, cG, dI, cD, dG, dU, cQ, eC, eI, bN, aS, dZ, bS, aQ, bL, dH, cZ, cV, cN, cS, bK, bM, cX, dR, cR, dQ, dB, d1, d2, d3, d4]
  exact hR _ x1
 have d4 : decide ((8 : Int) < (stops.length : Int)) = false := by simp; omega
 have e1 : IntKind.i64.wrap ((part : Nat) : Int) = ((part : Nat) : Int) := fI (by omega) (by omega)
 have e2 : (part : Int) + 1 = ((part + 1 : Nat) : Int) := by omega
 simp (disch := omega) only [eY, gN, dX, stepR_skip, fO, fW, fN, fZ, fX, fY, gQ, gG, eT, fT, fS, gE, fR, fL, fV, fQ, fU, gB, gC, fP, fC, gI, gA, fK, iR, iO, iP, iU, iM, iS, iQ, iT, iN, eP, Result.ok.injEq, Next.value.injEq, true_and, and_true, fI, fJ, gH, fM, gD, gR, acM, fE, fF, fG, fD, eZ, eU, fB, eX, eQ, eH, if_true, if_false, acK, acQ, acL, acN, acP, acO, acJ, acI, eA, dV, aB, dM, dO, cB, eB, eS, eE, dK, eF, fA, dJ, eJ, bP, dS, bE, dN, aL, aH, eL, aX, cI, eM, aE, eN, dE, aR, bF, eD, bB, bC, bJ, aO, aI, cF, fH, dY, cJ, cC, dA, cH, dT, bD, eK, bT, dF, bR, aT, bV, aC, bY, bQ, cA, bX, aY, aU, bA, bU, dL, cP, bO, aV, aJ, aM, bG, aF, dC, dW, aK, aN, aZ, aG, cY, aD, cL, bW, bH, aP, cM, bZ, aA, dD, cO, cU, cG, dI, cD, dG, dU, cQ, eC, eI, bN, aS, dZ, bS, aQ, bL, dH, cZ, cV, cN, cS, bK, bM, cX, dR, cR, dQ, dB, d1, d2, d3, d4, e1, e2]
 obtain ⟨k, hkk⟩ : ∃ k, k = part + 1 := ⟨_, rfl⟩
 rw [<- hkk]
 have hk0 : 0 < k := by omega
 refine (Po (k := k) (hg.ext x1) (hb.ext x1 (jG _)) (by omega) ⟨by omega, by omega⟩).mono ?_
 rintro r w2 ⟨lv, rfl, hlv, x2⟩
 simp (disch := omega) only [eY, gN, dX, stepR_skip, fO, fW, fN, fZ, fX, fY, gQ, gG, eT, fT, fS, gE, fR, fL, fV, fQ, fU, gB, gC, fP, fC, gI, gA, fK, iR, iO, iP, iU, iM, iS, iQ, iT, iN, eP, Result.ok.injEq, Next.value.injEq, true_and, and_true, fI, fJ, gH, fM, gD, gR, acM, fE, fF, fG, fD, eZ, eU, fB, eX, eQ, eH, if_true, if_false, acK, acQ, acL, acN, acP, acO, acJ, acI, eA, dV, aB, dM, dO, cB, eB, eS, eE, dK, eF, fA, dJ, eJ, bP, dS, bE, dN, aL, aH, eL, aX, cI, eM, aE, eN, dE, aR, bF, eD, bB, bC, bJ, aO, aI, cF, fH, dY, cJ, cC, dA, cH, dT, bD, eK, bT, dF, bR, aT, bV, aC, bY, bQ, cA, bX, aY, aU, bA, bU, dL, cP, bO, aV, aJ, aM, bG, aF, dC, dW, aK, aN, aZ, aG, cY, aD, cL, bW, bH, aP, cM, bZ, aA, dD, cO, cU, cG, dI, cD, dG, dU, cQ, eC, eI, bN, aS, dZ, bS, aQ, bL, dH, cZ, cV, cN, cS, bK, bM, cX, dR, cR, dQ, dB]
 refine sK fun w3 o3 x3 s3 => ?_
 have lv1 : one lv = true := by rcases hlv.2 with ⟨rfl, _⟩ | ⟨_, _, _, rfl, _⟩ <;> rfl
 obtain ⟨mb, hmb⟩ : ∃ mb, mb = w2.heap.size := ⟨_, rfl⟩
 rw [<- hmb] at o3 ⊢
 refine qQ o3 rfl (by simp [one]; exact lv1) (by simp) fun w4 o4 x4 s4 => ?_
 have o4 : jI w4 mb (O3 (kO gU f k) lv) := o4
 have z1 := x1.size
 have z2 := x2.size
 have hlv4 : Cl w4 32 lv (kO gU f k).leaves.length (Vt (kO gU f k).leaves) := Ro (wM (wM (OL (show Jv w2 (fun b => w1.heap.size <= b) 32 lv _ _ from hlv)) x3 (fun _ _ h => h)) x4 (fun b hb h => by omega))
 have x04 : gV w w4 jN := ((x1.seq x2).seq x3).trans x4 fun y hy h => by omega
 have hb4 := hb.ext x04 (jG _)
 have hbo4 := hbo.ext x04 (jG _)
 have hbr4 := hbr.ext x04 (jG _)
 have hbs4 := hbs.ext x04 (jG _)
 have hk4 := hk.ext x04 (jG _)
 have hg4 := hg.ext x04
 clear x3 s3 o3 s4 x4 hlv
 refine (Sm (w0 := w4) (gV.refl _ _) (room := 100000) (by decide) (by decide)).mono ?_
 rintro r w5 ⟨p, rfl, h5, x5⟩
 simp (disch := omega) only [eY, gN, dX, stepR_skip, fO, fW, fN, fZ, fX, fY, gQ, gG, eT, fT, fS, gE, fR, fL, fV, fQ, fU, gB, gC, fP, fC, gI, gA, fK, iR, iO, iP, iU, iM, iS, iQ, iT, iN, eP, Result.ok.injEq, Next.value.injEq, true_and, and_true, fI, fJ, gH, fM, gD, gR, acM, fE, fF, fG, fD, eZ, eU, fB, eX, eQ, eH, if_true, if_false, acK, acQ, acL, acN, acP, acO, acJ, acI, eA, dV, aB, dM, dO, cB, eB, eS, eE, dK, eF, fA, dJ, eJ, bP, dS, bE, dN, aL, aH, eL, aX, cI, eM, aE, eN, dE, aR, bF, eD, bB, bC, bJ, aO, aI, cF, fH, dY, cJ, cC, dA, cH, dT, bD, eK, bT, dF, bR, aT, bV, aC, bY, bQ, cA, bX, aY, aU, bA, bU, dL, cP, bO, aV, aJ, aM, bG, aF, dC, dW, aK, aN, aZ, aG, cY, aD, cL, bW, bH, aP, cM, bZ, aA, dD, cO, cU, cG, dI, cD, dG, dU, cQ, eC, eI, bN, aS, dZ, bS, aQ, bL, dH, cZ, cV, cN, cS, bK, bM, cX, dR, cR, dQ, dB]
 refine (Ta (name := sF) (a := 0) h5 (Rw (n := 0) ⟨by decide, by decide⟩ (by decide)).bd (hbo4.ext x5 (jG _)) (by omega) (by decide)).mono ?_
 rintro r w6 ⟨rfl, h6, -⟩
 rw [WX (by omega)] at h6 ⊢
 have b6 : Yu ({ Jg 100000 with under := [⟨0, sF, ⟨#[]⟩, 0, old⟩], seen := [(sF, old)] } : jL) := by
  have := QC (n := 3) (k := sF) (a := 0) (l := old) (Rw (r := 100000) (n := 4) ⟨by decide, by decide⟩ (by decide))
  rw [WX (by omega)] at this
  exact this.bd
 refine (Vr h6 b6).mono ?_
 rintro r w7 ⟨rfl, h7, -⟩
 rw [Zn] at h7 ⊢
 have lm : ∀ {w'}, gV w4 w' jN -> (gJ 28 (.pointer (some ⟨mb, 0, none⟩))).run pg w' = .ok (.value (.agg (O3 (kO gU f k) lv).toArray)) w' := fun x => qR (off := 0) (o4.ext x (fun h => h)) (by simp)
 have lm7 := lm h7.x
 simp (disch := omega) only [eY, gN, dX, stepR_skip, fO, fW, fN, fZ, fX, fY, gQ, gG, eT, fT, fS, gE, fR, fL, fV, fQ, fU, gB, gC, fP, fC, gI, gA, fK, iR, iO, iP, iU, iM, iS, iQ, iT, iN, eP, Result.ok.injEq, Next.value.injEq, true_and, and_true, fI, fJ, gH, fM, gD, gR, acM, fE, fF, fG, fD, eZ, eU, fB, eX, eQ, eH, if_true, if_false, acK, acQ, acL, acN, acP, acO, acJ, acI, eA, dV, aB, dM, dO, cB, eB, eS, eE, dK, eF, fA, dJ, eJ, bP, dS, bE, dN, aL, aH, eL, aX, cI, eM, aE, eN, dE, aR, bF, eD, bB, bC, bJ, aO, aI, cF, fH, dY, cJ, cC, dA, cH, dT, bD, eK, bT, dF, bR, aT, bV, aC, bY, bQ, cA, bX, aY, aU, bA, bU, dL, cP, bO, aV, aJ, aM, bG, aF, dC, dW, aK, aN, aZ, aG, cY, aD, cL, bW, bH, aP, cM, bZ, aA, dD, cO, cU, cG, dI, cD, dG, dU, cQ, eC, eI, bN, aS, dZ, bS, aQ, bL, dH, cZ, cV, cN, cS, bK, bM, cX, dR, cR, dQ, dB, lm7]
 have g0 : qG old f k (VQ (List.replicate (mA f.length k) false)) 0 0 (Rs 100000 old).seen old [] none := (We (old := old) (f := f) (k := k) (by omega)).mono (fun i hi => by
  have hi : (List.replicate (mA f.length k) false).getD i false = true := hi
  rw [acU, List.getElem?_replicate] at hi
  split at hi <;> cases hi) (acY _)
 obtain ⟨S1, s1, recs1, P1, hO, st1, -⟩ := Up hk0 (by omega) (by omega) (by omega) (by omega) WS rfl rfl rfl g0
 refine (Nw h7 hg4 (Ze ⟨by decide, by decide⟩ (by omega) (by decide)) (Tp ⟨hk0, by omega⟩ (by omega)) (JQ hlv4 h7.x (jG _)) (nm := sF) ⟨by decide, by decide⟩ (by rw [Pb]; omega) hO).mono ?_
 rintro r w8 ⟨⟨q, rfl, _, h8⟩, -⟩
 have n1 : ((0 : Int) != 0) = false := rfl
 have hmn : (kO gU f k).leaves.length = mA f.length k := vR gU f k
 have hcn := Hk (L := f.length) hk0
 have hlvn : ∃ la lc, lv = .slice la (mA f.length k) lc := by
  obtain ⟨la, lc, h, _⟩ := hlv4
  rw [hmn] at h
  exact ⟨la, lc, h⟩
 obtain ⟨la, lc, hlve⟩ := hlvn
 obtain ⟨n, hn⟩ : ∃ n, n = mA f.length k := ⟨_, rfl⟩
 rw [<- hn] at hlve hmn hcn g0 st1
 have c6 : ∀ {w'}, gV w4 w' jN -> w'.cell? ⟨mb, 2, none⟩ = some (.slice la n lc) := fun x => by
  have := (o4.ext x (fun h => h)).cell (off := 2)
  simp only [acI, acJ] at this
  rw [<- hlve]
  exact this
 have c68 := c6 h8.x
 simp (disch := omega) only [eY, gN, dX, stepR_skip, fO, fW, fN, fZ, fX, fY, gQ, gG, eT, fT, fS, gE, fR, fL, fV, fQ, fU, gB, gC, fP, fC, gI, gA, fK, iR, iO, iP, iU, iM, iS, iQ, iT, iN, eP, Result.ok.injEq, Next.value.injEq, true_and, and_true, fI, fJ, gH, fM, gD, gR, acM, fE, fF, fG, fD, eZ, eU, fB, eX, eQ, eH, if_true, if_false, acK, acQ, acL, acN, acP, acO, acJ, acI, eA, dV, aB, dM, dO, cB, eB, eS, eE, dK, eF, fA, dJ, eJ, bP, dS, bE, dN, aL, aH, eL, aX, cI, eM, aE, eN, dE, aR, bF, eD, bB, bC, bJ, aO, aI, cF, fH, dY, cJ, cC, dA, cH, dT, bD, eK, bT, dF, bR, aT, bV, aC, bY, bQ, cA, bX, aY, aU, bA, bU, dL, cP, bO, aV, aJ, aM, bG, aF, dC, dW, aK, aN, aZ, aG, cY, aD, cL, bW, bH, aP, cM, bZ, aA, dD, cO, cU, cG, dI, cD, dG, dU, cQ, eC, eI, bN, aS, dZ, bS, aQ, bL, dH, cZ, cV, cN, cS, bK, bM, cX, dR, cR, dQ, dB, n1, c68]
 refine Lt (by omega) (by omega) fun w9 o9 x9 s9 => ?_
 rw [acM] at o9 ⊢
 obtain ⟨pb, hpb⟩ : ∃ pb, pb = w8.heap.size := ⟨_, rfl⟩
 rw [<- hpb] at o9 ⊢
 have h9 := h8.add (b := pb) x9 (by omega) (by omega)
 have hpb0 : w4.heap.size <= pb := by have := h8.x.size; omega
 refine (Kc h9).mono ?_
 rintro r wa ⟨rfl, hw⟩
 rw [hw]; clear hw wa
 rw [st1.ep]
 have start : SfI w4 p pb old f k n 0 (dP q, .int .u64 ((0 + 1 : Nat) : Int), .int .i64 ((0 : Nat) : Int)) w9 := ⟨q, 0 + 1, S1, s1, old, recs1, P1, List.replicate n false, rfl, ⟨h9, st1, by rw [agH]; exact o9, adI, by omega⟩⟩
 clear h5 h6 h7 lm7 x5 h8 c68 hO st1 o9 x9 s9 h9 hpb g0
 unfold wP wK wV wW wL
 refine kJ.rule (fun l (t : ahB × ahB × ahB) w' => ∃ j, l = order.length - j /\ j <= order.length /\ SfI w4 p pb old f k n j t w') order.length
  ⟨0, rfl, by omega, start⟩ ?_
 clear start s1 S1
 rintro l t wb ⟨j, rfl, hj, q, e, S, s, F0, recs, P, tl, rfl, hI⟩
 unfold qV wD
 by_cases hlt : j < order.length
 rotate_left
 .have d5 : decide ((j : Int) < (order.length : Int)) = false := by simp; omega
  unfold sJ
  simp (disch := omega) only [eY, gN, dX, stepR_skip, fO, fW, fN, fZ, fX, fY, gQ, gG, eT, fT, fS, gE, fR, fL, fV, fQ, fU, gB, gC, fP, fC, gI, gA, fK, iR, iO, iP, iU, iM, iS, iQ, iT, iN, eP, Result.ok.injEq, Next.value.injEq, true_and, and_true, fI, fJ, gH, fM, gD, gR, acM, fE, fF, fG, fD, eZ, eU, fB, eX, eQ, eH, if_true, if_false, acK, acQ, acL, acN, acP, acO, acJ, acI, eA, dV, aB, dM, dO, cB, eB, eS, eE, dK, eF, fA, dJ, eJ, bP, dS, bE, dN, aL, aH, eL, aX, cI, eM, aE, eN, dE, aR, bF, eD, bB, bC, bJ, aO, aI, cF, fH, dY, cJ, cC, dA, cH, dT, bD, eK, bT, dF, bR, aT, bV, aC, bY, bQ, cA, bX, aY, aU, bA, bU, dL, cP, bO, aV, aJ, aM, bG, aF, dC, dW, aK, aN, aZ, aG, cY, aD, cL, bW, bH, aP, cM, bZ, aA, dD, cO, cU, cG, dI, cD, dG, dU, cQ, eC, eI, bN, aS, dZ, bS, aQ, bL, dH, cZ, cV, cN, cS, bK, bM, cX, dR, cR, dQ, dB, d5]
  exact hR _ (x04.seq hI.ses.x)
 have d5 : decide ((j : Int) < (order.length : Int)) = true := by simp; omega
 have el := hI.el
 unfold wH wZ CX wX
 obtain ⟨KN, hKN⟩ : ∃ KN : HQ, KN = fun iX hU gY gW hZ jX jP jU jM t23 gS jV w => pC (fun _ _ _ _ _ _ _ _ jM _ gS jV w => ∃ l, l < order.length - j /\ ∃ j', l = order.length - j' /\ j' <= order.length /\ SfI w4 p pb old f k n j' (jM, gS, jV) w) iX hU gY gW hZ jX jP jU jM t23 gS jV w := ⟨_, rfl⟩
 have hkn : ∀ tl', tl'.length = n -> ∀ w' q' e' S' s' F0 recs P, Ey w4 (YG pb) w' q' p S' s' -> M4 old f k (VQ tl') e' (1 + 2 * (j + 1)) S' s' F0 recs P -> jI w' pb (tl'.map Value.bool) -> e' <= e + 1 -> KN (.slice ao old.length co) (.slice a f.length c) (.slice ar order.length cr) (.slice ast stops.length cs) kv (.int .i64 (k : Nat)) (.pointer (some ⟨mb, 0, none⟩)) (dP p) (dP q') (.slice (some ⟨pb, 0, none⟩) n n) (.int .u64 (e' : Nat)) (.int .i64 (j : Nat)) w' := by
  intro tl' htl w' q' e' S' s' F0 recs P hs hst ho he
  rw [hKN]
  have q4 : (j : Int) + 1 = ((j + 1 : Nat) : Int) := by omega
  unfold pC
  simp (disch := omega) only [eY, gN, dX, stepR_skip, fO, fW, fN, fZ, fX, fY, gQ, gG, eT, fT, fS, gE, fR, fL, fV, fQ, fU, gB, gC, fP, fC, gI, gA, fK, iR, iO, iP, iU, iM, iS, iQ, iT, iN, eP, Result.ok.injEq, Next.value.injEq, true_and, and_true, fI, fJ, gH, fM, gD, gR, acM, fE, fF, fG, fD, eZ, eU, fB, eX, eQ, eH, if_true, if_false, acK, acQ, acL, acN, acP, acO, acJ, acI, eA, dV, aB, dM, dO, cB, eB, eS, eE, dK, eF, fA, dJ, eJ, bP, dS, bE, dN, aL, aH, eL, aX, cI, eM, aE, eN, dE, aR, bF, eD, bB, bC, bJ, aO, aI, cF, fH, dY, cJ, cC, dA, cH, dT, bD, eK, bT, dF, bR, aT, bV, aC, bY, bQ, cA, bX, aY, aU, bA, bU, dL, cP, bO, aV, aJ, aM, bG, aF, dC, dW, aK, aN, aZ, aG, cY, aD, cL, bW, bH, aP, cM, bZ, aA, dD, cO, cU, cG, dI, cD, dG, dU, cQ, eC, eI, bN, aS, dZ, bS, aQ, bL, dH, cZ, cV, cN, cS, bK, bM, cX, dR, cR, dQ, dB, q4]
  exact ⟨order.length - (j + 1), by omega, j + 1, rfl, by omega, q', e', S', s', F0, recs, P, tl', rfl, ⟨hs, hst, ho, htl, by omega⟩⟩
 have body : ∀ (W : ahA) (S2 : jL), Ey w4 (YG pb) W q p S2 s -> M4 old f k (VQ tl) e (1 + 2 * j) S2 s F0 recs P -> jI W pb (tl.map Value.bool) →
     qP KN KN RR (.slice ao old.length co) (.slice a f.length c) (.slice ar order.length cr) (.slice ast stops.length cs) kv (.int .i64 (k : Nat)) (.pointer (some ⟨mb, 0, none⟩)) (dP p) (dP q) (.slice (some ⟨pb, 0, none⟩) n n) (.int .u64 (e : Nat)) (.int .i64 (j : Nat)) W := by
  intro W S2 hs hst ho
  unfold qP
  refine Wq (old := old) (m := 1 + 2 * j) (e := e) hb4 hbr4 (by omega) (by omega) hlt (by omega) c6 hk0 (by omega) (by omega) hn hpb0 hs ho hI.tll hst ?_
  intro w' S' s' tl' hs' htl' ho' hB' hz' hst'
  refine VO (m := 1 + 2 * j + 1) (e := e) hbo4 hb4 hk4 hkl (by omega) (by omega) (by omega) hg4 lm hlv4 hk0 (by omega) (by omega) (by omega) (by omega) hn hpb0 hs' ho' htl' hB' hz' hst' ?_
  intro w'' q' e' S'' s'' F0' recs' P' a1 a2 a3 a4
  exact hkn tl' htl' w'' q' e' S'' s'' F0' recs' P' a1 a2 a3 a4
 rw [hKN] at body
 by_cases hjs : j < stops.length
 .have d6 : decide ((j : Int) < (stops.length : Int)) = true := by simp; omega
  obtain ⟨ca, coff, hca, hccell⟩ := Us hbs4 hjs
  subst hca
  have hcc := hccell hI.ses.x
  obtain ⟨z, hz, hand⟩ := aaM stops[j]
  have e3 : IntKind.i64.wrap ((z : Nat) : Int) = ((z : Nat) : Int) := fI (by omega) (by omega)
  have jn : (j : Int).toNat = j := acM _
  simp (disch := omega) only [eY, gN, dX, stepR_skip, fO, fW, fN, fZ, fX, fY, gQ, gG, eT, fT, fS, gE, fR, fL, fV, fQ, fU, gB, gC, fP, fC, gI, gA, fK, iR, iO, iP, iU, iM, iS, iQ, iT, iN, eP, Result.ok.injEq, Next.value.injEq, true_and, and_true, fI, fJ, gH, fM, gD, gR, acM, fE, fF, fG, fD, eZ, eU, fB, eX, eQ, eH, if_true, if_false, acK, acQ, acL, acN, acP, acO, acJ, acI, eA, dV, aB, dM, dO, cB, eB, eS, eE, dK, eF, fA, dJ, eJ, bP, dS, bE, dN, aL, aH, eL, aX, cI, eM, aE, eN, dE, aR, bF, eD, bB, bC, bJ, aO, aI, cF, fH, dY, cJ, cC, dA, cH, dT, bD, eK, bT, dF, bR, aT, bV, aC, bY, bQ, cA, bX, aY, aU, bA, bU, dL, cP, bO, aV, aJ, aM, bG, aF, dC, dW, aK, aN, aZ, aG, cY, aD, cL, bW, bH, aP, cM, bZ, aA, dD, cO, cU, cG, dI, cD, dG, dU, cQ, eC, eI, bN, aS, dZ, bS, aQ, bL, dH, cZ, cV, cN, cS, bK, bM, cX, dR, cR, dQ, dB, d5, d6, jn, hcc, hand, e3]
  refine (Wd (a := ((z : Nat) : Int)) hI.ses).mono ?_
  rintro r wc ⟨rfl, hs, xs⟩
  exact body wc _ hs (hI.st.stop ⟨by omega, by omega⟩) (hI.own.ext xs (fun hm => hm.2 (.inr rfl)))
 .have d6 : decide ((j : Int) < (stops.length : Int)) = false := by simp; omega
  simp (disch := omega) only [eY, gN, dX, stepR_skip, fO, fW, fN, fZ, fX, fY, gQ, gG, eT, fT, fS, gE, fR, fL, fV, fQ, fU, gB, gC, fP, fC, gI, gA, fK, iR, iO, iP, iU, iM, iS, iQ, iT, iN, eP, Result.ok.injEq, Next.value.injEq, true_and, and_true, fI, fJ, gH, fM, gD, gR, acM, fE, fF, fG, fD, eZ, eU, fB, eX, eQ, eH, if_true, if_false, acK, acQ, acL, acN, acP, acO, acJ, acI, eA, dV, aB, dM, dO, cB, eB, eS, eE, dK, eF, fA, dJ, eJ, bP, dS, bE, dN, aL, aH, eL, aX, cI, eM, aE, eN, dE, aR, bF, eD, bB, bC, bJ, aO, aI, cF, fH, dY, cJ, cC, dA, cH, dT, bD, eK, bT, dF, bR, aT, bV, aC, bY, bQ, cA, bX, aY, aU, bA, bU, dL, cP, bO, aV, aJ, aM, bG, aF, dC, dW, aK, aN, aZ, aG, cY, aD, cL, bW, bH, aP, cM, bZ, aA, dD, cO, cU, cG, dI, cD, dG, dU, cQ, eC, eI, bN, aS, dZ, bS, aQ, bL, dH, cZ, cV, cN, cS, bK, bM, cX, dR, cR, dQ, dB, d5, d6]
  exact body wb S hI.ses hI.st hI.own
end Go.Proofs.YteelnmpbnaohpaaDoor

/- Parts of the proof of SequencesSame: merged and given short names by a program of ours. -/
import Derived.Test.YtaggdjhhmbnhoaaDoorSsB
set_option linter.unusedVariables false
set_option linter.unusedSimpArgs false
open Array renaming length_toList → alQ, getElem?_eq_none → amP
open Bool renaming false_eq_true → aiS, not_true → akS
open Int renaming toNat_natCast → aiM, tmod_eq_emod_of_nonneg → ajZ, tdiv_eq_ediv_of_nonneg → alU, fdiv_eq_ediv_of_nonneg → amG
open List renaming getElem?_eq_getElem → aiN, length_append → aiO, getElem?_cons_zero → aiP, getElem?_cons_succ → aiQ, take_succ_cons → aiT, set_cons_zero → aiV, set_cons_succ → aiW, length_map → aiX, drop_zero → aiY, take_zero → aiZ, append_assoc → ajB, getD_eq_getElem?_getD → ajD, mem_cons_of_mem → ajE, getElem?_append_left → ajF, getElem?_eq_none → ajJ, length_cons → ajK, length_take → ajL, getElem_mem → ajM, getElem?_map → ajO, getElem?_take_of_lt → ajR, getElem_of_mem → ajT, length_eq_zero_iff → ajV, getElem?_append_right → ajY, drop_eq_getElem_cons → akA, nil_append → akC, mem_range → akD, mem_cons → akE, mem_map → akF, length_drop → akG, getElem_map → akH, mem_singleton → akK, append_nil → akM, map_append → akN, getElem_range → akU, replicate_succ → akV, take_add_one → akW, getElem?_toArray → akX, length_replicate → akY, mem_cons_self → akZ, getElem?_drop → alB, mem_of_getElem? → alD, cons_append → alE, ext_getElem → alF, take_of_length_le → alG, count_append → alH, length_singleton → alJ, mem_append → alO, map_congr_left → alP, toList_toArray → alR, length_pos_iff → alS, drop_of_length_le → alT, take_append_drop → alX, eq_of_mem_replicate → amC, map_cons → amE, set_append_right → amF, take_length → amK, map_set → amL, drop_succ_cons → amM, getElem?_replicate → amN, length_set → amO, getElem_cons_zero → amS, length_range → amT, count_singleton → anA, drop_left → anI, takeWhile_sublist → anL, getElem_set → anN, getElem_set_self → anP, set_append_left → anT, mem_of_mem_drop → anU
open Nat renaming zero_add → aiR, le_refl → aiU, pow_le_pow_right → ajA, lt_or_ge → ajI, mod_eq_of_lt → ajP, pow_succ → ajS, two_pow_pos → ajU, mul_le_mul_right → ajX, add_zero → akJ, min_eq_left → akO, add_mul → akQ, mul_comm → akT, add_sub_cancel → alC, eq_zero_or_pos → alK, add_assoc → alL, zero_le → alM, testBit_eq_decide_div_mod_eq → alV, div_lt_iff_lt_mul → alY, mod_lt → amA, lt_trichotomy → amD, le_trans → amJ, pow_add → amR, sub_self → amV, le_div_iff_mul_le → amX, div_mul_le_self → anB, succ_mul → anF, sub_zero → anG, div_div_eq_div_mul → anK, div_le_self → anS
open Option renaming isNone_some → ajN, map_some → akB
open Option.some renaming inj → ajG
open UInt8 renaming toNat_lt → akI
namespace Go.Proofs.YtaggdjhhmbnhoaaDoor
open Go Go.En Go.Pu
set_option maxRecDepth 4000
def Vj (v : anW) (S : Nat -> Prop) : Prop := ∀ M : Nat -> Prop, (∀ b, S b -> ¬ M b) -> ¬ U4 v M
theorem VK.toS {v : anW} {lo hi : Nat} {S : Nat -> Prop} (h : VK v lo hi) (hS : ∀ b, lo <= b -> b < hi -> S b) : Vj v S := fun M hM => h M fun b h1 h2 => hM b (hS b h1 h2)
theorem Vj.mono {v : anW} {S T : Nat -> Prop} (h : Vj v S) (hT : ∀ b, S b -> T b) : Vj v T := fun M hM => h M fun b hb => hM b (hT b hb)
theorem Vj.toI {v : anW} {S : Nat -> Prop} {lo hi : Nat} (h : Vj v S) (hS : ∀ b, S b -> lo <= b /\ b < hi) : VK v lo hi := fun M hM => h M fun b hb => hM b (hS b hb).1 (hS b hb).2
theorem Vj.nil (S : Nat -> Prop) : Vj (.slice none 0 0) S := fun M _ h => h
theorem Vj.sub {a : Option Addr} {n c m c' k mx sz : Nat} {S : Nat -> Prop} (h : Vj (.slice a n c) S) (hm : m <= n) : Vj (.slice (gU a mx k sz) m c') S := by
 intro M hM hin
 cases m with
 | zero => unfold U4 at hin; split at hin <;> simp_all
 | succ m =>
   obtain ⟨n', rfl⟩ : ∃ n', n = n' + 1 := ⟨n - 1, by omega⟩
   have h1 := h M hM
   cases a with
   | none => unfold gU at hin; split at hin <;> exact hin
   | some x =>
     unfold gU at hin
     have h2 : M x.block := by
      split at hin
      .exact hin
      .rw [akB] at hin
       have e : (x.add (k * sz)).block = x.block := by unfold Addr.add; split <;> rfl
       have h3 : M (x.add (k * sz)).block := hin
       rwa [e] at h3
     exact h1 h2
theorem agJ {w : anV} {a : Option Addr} {n c : Nat} {l : List anW} (h : Sl w (.slice a n c) l) {k : Nat} (hk : k <= n) : Sl w (.slice (gU a k 0 1) (k - 0) (k - 0)) (l.take k) := by
 obtain ⟨a', n', c', e, hn, hc, h⟩ := h
 cases e
 refine ⟨_, _, _, rfl, by rw [ajL]; omega, aiU _, fun h0 => ?_⟩
 obtain ⟨b, off, rfl, h2⟩ := h (by omega)
 have hs : gU (some ⟨b, off, none⟩) k 0 1 = some ⟨b, off + 0 * 1, none⟩ := by unfold gU; rw [if_neg (by omega)] <;> rfl
 refine ⟨b, off, by rw [hs]; simp, fun i hi => ?_⟩
 rw [ajR (by omega)]
 exact h2 i (by omega)
def Rb (w : anV) (lo hi p : Nat) (l : List UInt8) (e : Int) : Prop := lo <= p /\ p < hi /\ ∃ v, cG w p [v, .int .i64 e] /\ Bs w v l /\ Vj v (fun b => lo <= b /\ b < hi /\ b ≠ p)
theorem Rb.ext {w w' : anV} {lo hi p : Nat} {l : List UInt8} {e : Int} {M : Nat -> Prop} (h : Rb w lo hi p l e) (x : aX w w' M) (hM : ∀ b, lo <= b -> b < hi -> ¬ M b) : Rb w' lo hi p l e := by
 obtain ⟨h0, h0', v, h1, h2, h3⟩ := h
 exact ⟨h0, h0', v, h1.ext x (hM _ h0 h0'), h2.ext x (h3 M fun b hb => hM b hb.1 hb.2.1), h3⟩
theorem Rb.lt {w : anV} {lo hi p : Nat} {l : List UInt8} {e : Int} (h : Rb w lo hi p l e) : p < w.heap.size := by
 obtain ⟨_, _, v, h1, _⟩ := h; exact h1.lt
theorem Rb.up {w : anV} {lo hi hi' p : Nat} {l : List UInt8} {e : Int} (h : Rb w lo hi p l e) (hh : hi <= hi') : Rb w lo hi' p l e := by
 obtain ⟨h0, h0', v, h1, h2, h3⟩ := h
 exact ⟨h0, by omega, v, h1, h2, h3.mono fun b hb => ⟨hb.1, by omega, hb.2.2⟩⟩
theorem QG {v : anW} {l : List UInt8} {w : anV} (h : Bs w v l) (hl : l.length <= 1000000000) :
 aU pg lT #[v] w (fun r w' => ∃ p, r = .pointer (some ⟨p, 0, none⟩) /\ Rb w' w.heap.size w'.heap.size p l 0 /\ aX w w' dG) := by
 refine JQ ?_
 unfold G6 tM
 refine (Lo h hl).mono ?_
 rintro r w1 ⟨ho, x1⟩
 have hat := uK.atI ho
 have hs := ho.sl
 obtain ⟨va, vc, rfl⟩ := ho.len
 simp (disch := omega) only [aC, Nd, aA]
 refine hY fun w2 o2 x2 s2 => ?_
 have o2 : cG w2 w1.heap.size [.slice va l.length vc, .int .i64 0] := o2
 have hz := o2.lt
 exact ⟨w1.heap.size, rfl, ⟨x1.size, hz, _, o2, hs.ext x2 (bY _), hat.toS fun b h1 h2 => ⟨h1, by omega, by omega⟩⟩, x1.seq x2⟩
def OJ (l : List UInt8) (e : Int) (n : Nat) : List UInt8 × List UInt8 × Int := if e ≠ 0 then ([], l, e) else if l.length < n then ([], l, 10) else (l.take n, l.drop n, 0)
theorem Vc {lo hi p n : Nat} {l : List UInt8} {e : Int} {w : anV} (h : Rb w lo hi p l e) (hl : l.length <= 1000000000) (hn : n <= 1000000000) :
 aU pg jP #[.pointer (some ⟨p, 0, none⟩), .int .i64 n, .bool true] w (fun r w' => Bs w' r (OJ l e n).1 /\ Vj r (fun b => lo <= b /\ b < hi /\ b ≠ p) /\ Rb w' lo hi p (OJ l e n).2.1 (OJ l e n).2.2 /\ aX w w' (fun y => y = p)) := by
 refine GQ ?_
 unfold CS qI
 have h' := h
 obtain ⟨h0, h0', v, o, hb, hat⟩ := h'
 obtain ⟨va, vc, rfl, hvc⟩ := hb.len
 rw [aiX] at hb hat o hvc
 have c0 := o.cell (off := 0)
 have c1 := o.cell (off := 1)
 simp only [aiP, aiQ] at c0 c1
 by_cases he : e = 0
 rotate_left
 .have n1 : (e != 0) = true := by simpa using he
  have ht : OJ l e n = ([], l, e) := by unfold OJ; rw [if_pos he]
  rw [ht]
  simp (disch := omega) only [aC, nA, Qr, akS, aA, pH, aiR, pM, eL, aD, Cu, c1, aI, fU, n1, aG]
  exact ⟨Sl.nil _, Vj.nil _, h, aX.refl _ _⟩
 subst he
 have n1 : ((0 : Int) != 0) = false := rfl
 by_cases hsh : l.length < n
 .have d1 : decide ((l.length : Int) < (n : Int)) = true := by simp; omega
  have ht : OJ l 0 n = ([], l, 10) := by unfold OJ; rw [if_neg (by decide), if_pos hsh]
  rw [ht]
  simp (disch := omega) only [aC, nA, Qr, akS, aA, pH, aiR, pM, eL, aD, Cu, c1, aI, fU, n1, c0, eT, fD, d1, aG]
  refine Un o rfl (by simp) fun w1 o1 x1 s1 => ?_
  simp only [aiV, aiW] at o1
  exact ⟨Sl.nil _, Vj.nil _, ⟨h0, h0', _, o1, hb.ext x1 (hat _ fun b hb => hb.2.2), hat⟩, x1⟩
 .have d1 : decide ((l.length : Int) < (n : Int)) = false := by simp; omega
  have ht : OJ l 0 n = (l.take n, l.drop n, 0) := by unfold OJ; rw [if_neg (by decide), if_neg hsh]
  rw [ht]
  simp (disch := omega) only [aC, nA, Qr, akS, aA, pH, aiR, pM, eL, aD, Cu, c1, aI, fU, n1, c0, eT, fD, d1, SL, aiM, rI]
  refine Bg o rfl (by simp [one]) fun w1 o1 x1 s1 => ?_
  simp only [aiV, aiW] at o1
  have hbn : Bs w (.slice (gU va n 0 1) (n - 0) (n - 0)) (l.take n) := by
   have := agJ hb (k := n) (by omega)
   rwa [<- List.map_take] at this
  have hbd : Bs w (.slice (gU va vc n 1) (l.length - n) (vc - n)) (l.drop n) := by
   have := hb.drop' (k := n) (by omega)
   rwa [<- List.map_drop] at this
  have hn1 := hat.sub (mx := n) (k := 0) (sz := 1) (m := n - 0) (c' := n - 0) (by omega)
  have hn2 := hat.sub (mx := vc) (k := n) (sz := 1) (m := l.length - n) (c' := vc - n) (by omega)
  exact ⟨hbn.ext x1 (hn1 _ fun b hb => hb.2.2), hn1, ⟨h0, h0', _, o1, hbd.ext x1 (hn2 _ fun b hb => hb.2.2), hn2⟩, x1⟩
theorem SD {lo hi p : Nat} {l : List UInt8} {e : Int} {w : anV} (h : Rb w lo hi p l e) :
 aU pg iE #[.pointer (some ⟨p, 0, none⟩)] w (fun r w' => r = .int .i64 l.length /\ w' = w) := by
 refine Gp ?_
 unfold C6 qL
 obtain ⟨h0, h0', v, o, hb, hat⟩ := h
 obtain ⟨va, vc, rfl, hvc⟩ := hb.len
 rw [aiX] at hb hat o hvc
 have c0 := o.cell (off := 0)
 simp only [aiP, aiQ] at c0
 simp (disch := omega) only [aC, mK, ajN, nA, aA, pM, eL, and_true, c0, aI, eT, aD]
theorem Lu {lo hi p : Nat} {l : List UInt8} {e : Int} {w : anV} (h : Rb w lo hi p l e) :
 aU pg gS #[.pointer (some ⟨p, 0, none⟩)] w (fun r w' => r = .int .i64 e /\ w' = w) := by
 refine HO ?_
 unfold EK sL
 obtain ⟨h0, h0', v, o, hb, hat⟩ := h
 have c1 := o.cell (off := 1)
 simp only [aiP, aiQ] at c1
 simp (disch := omega) only [aC, mK, ajN, nA, aA, pH, aiR, Cu, and_true, c1, aI, aD]
theorem TS {lo hi p n : Nat} {l : List UInt8} {e : Int} {w : anV} (h : Rb w lo hi p l e) (hl : l.length <= 1000000000) (hn : n <= 1000000000) :
 aU pg jA #[.pointer (some ⟨p, 0, none⟩), .int .i64 n] w (fun r w' => Bs w' r (OJ l e n).1 /\ Vj r (fun b => lo <= b /\ b < hi /\ b ≠ p) /\ Rb w' lo hi p (OJ l e n).2.1 (OJ l e n).2.2 /\ aX w w' (fun y => y = p)) := by
 refine F6 ?_
 unfold Cd pF
 have d1 : decide ((0 : Int) <= (n : Int)) = true := by simp
 simp (disch := omega) only [aC, mK, ajN, rX, d1, aA, aD]
 refine (Vc h hl hn).mono ?_
 rintro r w1 hr
 exact hr
theorem Ir {lo hi p n : Nat} {l : List UInt8} {e : Int} {w : anV} (h : Rb w lo hi p l e) (hl : l.length <= 1000000000) (hn : 1 <= n /\ n <= 8) :
 aU pg fX #[.pointer (some ⟨p, 0, none⟩), .int .i64 n] w (fun r w' => r = .int .u64 (AI (OJ l e n).1 : Nat) /\ Rb w' lo hi p (OJ l e n).2.1 (OJ l e n).2.2 /\ aX w w' (fun y => y = p)) := by
 refine Ed ?_
 unfold Bu nY nS nW oC nM
 have d1 : decide ((1 : Int) <= (n : Int)) = true := by simp; omega
 have d2 : decide ((n : Int) <= 8) = true := by simp; omega
 simp (disch := omega) only [aC, mK, ajN, rX, d1, aA, BL, cD, if_true, cB, agU, d2, aD]
 refine (Vc h hl (by omega)).mono ?_
 rintro r w1 ⟨hb, hat, hr, x1⟩
 obtain ⟨t, ht⟩ : ∃ t, t = (OJ l e n).1 := ⟨_, rfl⟩
 have htl : t.length <= 8 := by
  rw [ht]; unfold OJ
  split
  .simp
  .split
   .simp
   .simp; omega
 rw [<- ht] at hb ⊢
 obtain ⟨va, vc, rfl, hvc⟩ := hb.len
 rw [aiX] at hb hvc hat
 simp (disch := omega) only [aiX, eT, aA]
 unfold nZ oA
 refine cO.rule (fun m s w' => ∃ i : Nat, m = t.length - i /\ i <= t.length /\ s = (.int .u64 (AI (t.take i) : Nat), .int .i64 i) /\ w' = w1) t.length ⟨0, rfl, by omega, rfl, rfl⟩ ?_
 rintro m s w2 ⟨i, rfl, hi, rfl, hw⟩
 rw [hw]; clear hw w2
 unfold kJ
 by_cases hlt : i < t.length
 .have d3 : decide ((i : Int) < (t.length : Int)) = true := by simp; omega
  obtain ⟨c, hc⟩ : ∃ c, c = t[i]'hlt := ⟨_, rfl⟩
  have htk : t.take (i + 1) = t.take i ++ [c] := by rw [akW, aiN hlt, <- hc] <;> rfl
  have hor := abQ (t.take i) c
  rw [<- htk, ajL, akO (by omega)] at hor
  have hcl : c.toNat < 256 := akI c
  obtain ⟨b, off, c', hv, hcc, hcell⟩ := hb.openV (by rw [aiX]; omega)
  have g1 := hcell i (by rw [aiX]; exact hlt)
  rw [aiX] at hv
  cases hv
  rw [akH, <- hc] at g1
  simp only [D8] at g1
  generalize c.toNat = cx at *
  have hp : 2 ^ (8 * i) <= 2 ^ 56 := ajA (by omega) (by omega)
  have hm : cx * 2 ^ (8 * i) <= 255 * 2 ^ 56 := Nat.mul_le_mul (by omega) hp
  have hb0 := RD (t.take i)
  have hb1 := RD (t.take (i + 1))
  rw [ajL, akO (by omega)] at hb0 hb1
  have hq : 256 ^ i <= 256 ^ 7 := ajA (by omega) (by omega)
  have e0 : ((8 : Int) * (i : Int)) = ((8 * i : Nat) : Int) := by omega
  have e5 : IntKind.u64.wrap ((cx : Int) * 2 ^ (min (8 * i) IntKind.u64.bits)) = ((cx * 2 ^ (8 * i) : Nat) : Int) := by
   rw [show min (8 * i) IntKind.u64.bits = 8 * i from akO (by have : IntKind.u64.bits = 64 := rfl
                                                              omega)]
   have e : (cx : Int) * 2 ^ (8 * i) = ((cx * 2 ^ (8 * i) : Nat) : Int) := by simp
   rw [e]
   exact jC (by omega) (by omega)
  have e6 := XK (a := AI (t.take i)) (b := cx * 2 ^ (8 * i)) (by omega) (by omega)
  rw [hor] at e6
  have e7 : IntKind.u64.wrap (cx : Int) = (cx : Int) := jC (by omega) (by omega)
  simp (disch := omega) only [aC, bD, d3, mC, aiM, Dc, e0, aW, bK, aA, iR, jC, jY, g1, aI, II, e7, iX, e5, WS, e6, and_true, aG]
  exact ⟨t.length - (i + 1), by omega, i + 1, rfl, by omega, rfl⟩
 .have d3 : decide ((i : Int) < (t.length : Int)) = false := by simp; omega
  obtain rfl : i = t.length := by omega
  simp (disch := omega) only [aC, bD, d3, Dc, aW, bK, aA, iR, jC, aD]
  unfold kK
  rw [amK]
  exact ⟨rfl, hr, x1⟩
def m3 (L : List Int) : List T3 := L.map fun x => (x, 0, 0)
theorem aeY (L : List Int) (i : Nat) (h : i < L.length) (x : Int) : (m3 L).set i (x, ((m3 L)[i]'(by simpa [m3] using h)).2) = m3 (L.set i x) := by
 unfold m3; rw [amL]; simp
theorem Vt {k : IntKind} {L : List Int} {i : Nat} (h : i < L.length) (x : Int) : (fe k (m3 L)).set (i * 3) (.int k x) = fe k (m3 (L.set i x)) := by
 rw [(Uj k (m3 L) i (by simpa [m3] using h) x).1, aeY L i h x]
theorem WW (n high s : Nat) (r : List Nat) (a : Nat) (arr : List Int) : place n high (s :: r) a arr = place n high r (OT n high n (adv n a)) (arr.set a s) := rfl
theorem YE {ps : List Int} {i : Nat} (h : i < ps.length) : nB (ps.drop i) i = List.replicate ps[i].toNat i ++ nB (ps.drop (i + 1)) (i + 1) := by
 rw [akA h, nB]
theorem aeH {w0 w : anV} {N high j : Nat} (hN : 0 < N) (hN2 : N <= 32768) (hh : 0 < high) (hhN : high <= N) (hx : aX w0 w dG)
 {ov sv a b c d e : anW} {k : anW -> anW -> anW -> anW -> anW -> anW -> anW -> anW -> anW -> anW -> anV -> Prop}
 (hk : ∃ j', OT N high N (adv N (pos N j)) = pos N j' /\ k (.int .i64 N) ov (.int .i64 high) (.int .i64 (pos N j' : Nat)) sv a b c d e w) :
 AV k (.int .i64 N) ov (.int .i64 high) (.int .i64 (pos N j : Nat)) sv a b c d e w := by
 obtain ⟨dd, h1, h2, h3⟩ := TC hN hh (j + 1)
 obtain ⟨j', hj', hk⟩ := hk
 rw [Li, h3] at hj'
 rw [<- hj'] at hk
 unfold AV
 refine cO.rule (fun m t w' => ∃ q : Nat, m = dd - q /\ t = .int .i64 (pos N (j + q) : Nat) /\ q <= dd /\ w' = w) dd ⟨0, rfl, rfl, by omega, rfl⟩ ?_
 rintro m t w' ⟨q, rfl, rfl, hq, rfl⟩
 have hp := XA hN (j + q)
 have e1 : ((N : Int)).fdiv (2 ^ (min 1 IntKind.i64.bits)) = ((N / 2 : Nat) : Int) := by
  have : (2 : Int) ^ (min 1 IntKind.i64.bits) = ((2 : Nat) : Int) := by decide
  rw [this, KR]
 have e3 : ((N : Int)).fdiv (2 ^ (min 3 IntKind.i64.bits)) = ((N / 8 : Nat) : Int) := by
  have : (2 : Int) ^ (min 3 IntKind.i64.bits) = ((8 : Nat) : Int) := by decide
  rw [this, KR]
 have t1 : (1 : Int).toNat = 1 := rfl
 have t3 : (3 : Int).toNat = 3 := rfl
 have e4 : (((pos N (j + q) : Nat) : Int) + ((N / 2 : Nat) : Int) + ((N / 8 : Nat) : Int) + 3).tmod (N : Int) = ((pos N (j + q + 1) : Nat) : Int) := by
  rw [ajZ (by omega), <- Li]
  unfold adv
  simp
 unfold AR
 by_cases hd : q = dd
 .subst hd
  have d1 : decide (((pos N (j + q + 1) : Nat) : Int) < (high : Int)) = true := by
   simp only [decide_eq_true_eq]
   rw [show j + 1 + q = j + q + 1 from by omega] at h2
   omega
  simp (disch := omega) only [aC, tH, t1, e1, t3, e3, aA, bK, aW, IQ, e4, bD, d1, and_true, aG]
  rw [show j + 1 + q = j + q + 1 from by omega] at hk
  exact hk
 .have d1 : decide (((pos N (j + q + 1) : Nat) : Int) < (high : Int)) = false := by
   have := h1 q (by omega)
   rw [show j + 1 + q = j + q + 1 from by omega] at this
   simp only [decide_eq_false_iff_not]
   omega
  simp (disch := omega) only [aC, tH, t1, e1, t3, e3, aA, bK, aW, IQ, e4, bD, d1, and_true, aD]
  exact ⟨dd - (q + 1), by omega, q + 1, rfl, rfl, by omega⟩
theorem VD {log : Nat} {sv : anW} {ps : List Int} {w : anV} (hm : MA log ps) (hs : Sl w sv (ps.map (Value.int .i64))) :
 aU pg xZ #[.agg #[.int .i64 log, sv]] w (fun r w' => ∃ b, r = .slice (some ⟨b, 0, none⟩) (2 ^ log) (2 ^ log) /\ w.heap.size <= b /\ cG w' b (fe .u8 (m3 (eF 0 log ps))) /\ aX w w' dG) := by
 refine Q4 ?_
 have h5 := hm.log5
 have h15 := hm.log15
 have hlen := hm.len256
 obtain ⟨arr0, ht, hal, hsum, hfin⟩ := VL hm 0
 rw [hfin]
 have hN1 : 2 ^ 5 <= 2 ^ log := ajA (by omega) h5
 have hN2 : 2 ^ log <= 2 ^ 15 := ajA (by omega) h15
 have hsh : IntKind.i64.wrap (1 * 2 ^ (min log IntKind.i64.bits)) = ((2 ^ log : Nat) : Int) := by
  have : ∀ k : Fin 16, IntKind.i64.wrap (1 * 2 ^ (min k.val IntKind.i64.bits)) = ((2 ^ k.val : Nat) : Int) := by decide
  exact this ⟨log, by omega⟩
 clear hfin
 generalize hN : 2 ^ log = N at *
 generalize hhigh : (nB ps 0).length = high at *
 unfold SE DB CM
 refine hY fun w1 o1 x1 s1 => ?_
 have hs1 := hs.ext x1 (bY _)
 have c0 := o1.cell (off := 0)
 have c1 := o1.cell (off := 1)
 simp only [Value.cells, aiP, aiQ] at c0 c1
 obtain ⟨a, c, rfl, hc⟩ := hs.lenI
 simp (disch := omega) only [aC, cF, aA, cP, c0, aI, iX, aiM, hsh]
 refine OY (by omega) (by omega) fun w2 o2 x2 s2 => ?_
 rw [aiM, XS] at o2
 rw [aiM]
 have o2 : cG w2 w1.heap.size (fe .u8 (m3 (List.replicate N 0))) := by unfold m3; rw [List.map_replicate]; exact o2
 have x02 : aX w w2 dG := x1.seq x2
 have ob2 := o1.ext x2 (fun h => h)
 have c1 := ob2.cell (off := 1)
 simp only [Value.cells, aiP, aiQ] at c1
 unfold CX Dr Dh Dw C0
 simp (disch := omega) only [aC, aV, aiR, aA, dU, c1, aI, fV]
 have hw1 : w.heap.size <= w1.heap.size := x1.size
 refine cO.rule (fun m t w' => ∃ (i hg : Nat) (arr : List Int), m = ps.length - i /\ t = (.int .i64 hg, .int .i64 i) /\ i <= ps.length /\ (nO (ps.drop i) i).length <= hg /\ hg <= N /\ arr.length = N /\ R3 (ps.drop i) i hg arr = (high, arr0) /\ cG w' w1.heap.size (fe .u8 (m3 arr)) /\ aX w w' dG /\ cG w' w.heap.size (Value.cells (.agg #[.int .i64 log, .slice a ps.length c])).toList) ps.length
  ⟨0, N, _, rfl, rfl, by omega, by rw [aiY]; omega, by omega, by simp, by rw [aiY]; exact ht, o2, x02, ob2⟩ ?_
 rintro m t w3 ⟨i, hg, arr, rfl, rfl, hi, hng, hgN, harr, htop, o3, x3, ob3⟩
 by_cases hlt : i < ps.length
 .have d1 : decide ((i : Int) < (ps.length : Int)) = true := by simp; omega
  obtain ⟨b', off', c', e, _, hcell⟩ := (hs.ext x3 (bY _)).openI (by omega)
  cases e
  have g1 := hcell i hlt
  have hd : ps.drop i = ps[i] :: ps.drop (i + 1) := akA hlt
  rw [hd, nO] at hng
  rw [hd, R3] at htop
  unfold rJ yY yE
  by_cases hp : ps[i] = -1
  .have d2 : (ps[i] == -1) = true := by simpa using hp
   rw [if_pos hp] at hng htop
   simp only [ajK] at hng
   have e1 : (hg : Int) - 1 = ((hg - 1 : Nat) : Int) := by omega
   simp (disch := omega) only [aC, bD, d1, dS, aiM, dZ, e1, aW, iN, LR, bK, aA, kO, aiR, eY, cP, g1, aI, dJ, d2, aG]
   refine No o3 rfl (by rw [sU]; simp [m3]; omega) fun w4 o4 x4 s4 => ?_
   rw [Vt (by omega)] at o4
   exact ⟨ps.length - (i + 1), by omega, i + 1, hg - 1, _, rfl, rfl, by omega, by omega, by omega, by simp [harr], htop, o4, x3.new x4 hw1, ob3.ext x4 (by omega)⟩
  .have d2 : (ps[i] == -1) = false := by simpa using hp
   rw [if_neg hp] at hng htop
   simp (disch := omega) only [aC, bD, d1, dS, aiM, dZ, aW, iN, LR, bK, aA, cP, g1, aI, dJ, d2, aD, aG]
   exact ⟨ps.length - (i + 1), by omega, i + 1, hg, arr, rfl, rfl, by omega, by omega, by omega, harr, htop, o3, x3, ob3⟩
 .have d1 : decide ((i : Int) < (ps.length : Int)) = false := by simp; omega
  rw [alT (by omega), R3] at htop
  obtain ⟨rfl, rfl⟩ : hg = high /\ arr = arr0 := by simpa using htop
  have c1 := ob3.cell (off := 1)
  simp only [Value.cells, aiP, aiQ] at c1
  unfold rJ yY Dm C8 DW DK DQ CP CW
  simp (disch := omega) only [aC, bD, d1, dZ, aW, iN, aA, aV, aiR, dU, c1, aI, fV, aD]
  clear d1 hlt hi hng htop
  have hbig : cG w3 w1.heap.size (fe .u8 (m3 arr)) := o3
  refine cO.rule (fun m t w' => ∃ (s j : Nat) (ar : List Int), m = ps.length - s /\ t = (.int .i64 (pos N j : Nat), .int .i64 s) /\ s <= ps.length /\ ar.length = N /\ place N hg (nB (ps.drop s) s) (pos N j) ar = place N hg (nB ps 0) 0 arr /\ (nB (ps.drop s) s).length <= hg /\ cG w' w1.heap.size (fe .u8 (m3 ar)) /\ aX w w' dG) ps.length
   ⟨0, 0, arr, rfl, by rw [SR] <;> rfl, by omega, harr, by rw [SR, aiY], by rw [aiY, hhigh]; exact aiU _, o3, x3⟩ ?_
  rintro m t w4 ⟨s, j, ar, rfl, rfl, hs4, har, hpl, hrl, o4, x4⟩
  by_cases hlt : s < ps.length
  .have d1 : decide ((s : Int) < (ps.length : Int)) = true := by simp; omega
   obtain ⟨b', off', c', e, _, hcell⟩ := (hs.ext x4 (bY _)).openI (by omega)
   cases e
   have g1 := hcell s hlt
   obtain ⟨q, hq⟩ : ∃ q, q = ps[s].toNat := ⟨_, rfl⟩
   have emax : (if (0 : Int) > ps[s] then (0 : Int) else ps[s]) = (q : Int) := by rw [hq]; split <;> omega
   rw [YE hlt, <- hq] at hpl hrl
   have hqN : q <= N := by simp at hrl; omega
   unfold rW yS Du DC KN DZ Dg Lc CY
   simp (disch := omega) only [aC, bD, d1, dS, aiM, aA, cP, g1, aI, We, emax, aG]
   unfold DU DS
   refine cO.rule (fun m t w' => ∃ (k j : Nat) (ar : List Int), m = q - k /\ t = (.int .i64 (pos N j : Nat), .int .i64 k) /\ k <= q /\ ar.length = N /\ place N hg (List.replicate (q - k) s ++ nB (ps.drop (s + 1)) (s + 1)) (pos N j) ar = place N hg (nB ps 0) 0 arr /\ cG w' w1.heap.size (fe .u8 (m3 ar)) /\ aX w w' dG) q
    ⟨0, j, ar, rfl, rfl, by omega, har, hpl, o4, x4⟩ ?_
   rintro m t w5 ⟨k, j5, ar5, rfl, rfl, hk, har5, hpl5, o5, x5⟩
   by_cases hkq : k < q
   .have d2 : decide ((k : Int) < (q : Int)) = true := by simp; omega
    have hp := XA (n := N) (by omega) j5
    have hhg : 0 < hg := by simp at hrl; omega
    unfold sD zD CV FQ Mm FG
    simp (disch := omega) only [aC, bD, d2, iN, LR, kO, aiM, aiR, aA, eY, aG]
    refine No o5 rfl (by rw [sU]; simp [m3]; omega) fun w6 o6 x6 s6 => ?_
    rw [Vt (by omega)] at o6
    unfold FU
    rw [show q - k = (q - (k + 1)) + 1 from by omega, akV, alE, WW] at hpl5
    obtain ⟨d, _, hd2, hd3⟩ := TC (n := N) (high := hg) (by omega) hhg (j5 + 1)
    have hsk : OT N hg N (adv N (pos N j5)) = pos N (j5 + 1 + d) := by rw [Li]; exact hd3
    refine aeH (w0 := w) (by omega) hN2 hhg hgN (x5.new x6 hw1) ⟨j5 + 1 + d, hsk, ?_⟩
    rw [hsk] at hpl5
    unfold A9
    simp (disch := omega) only [aC, bK, aW, aA]
    exact ⟨q - (k + 1), by omega, k + 1, j5 + 1 + d, _, rfl, rfl, by omega, by simp [har5], hpl5, o6, x5.new x6 hw1⟩
   .have d2 : decide ((k : Int) < (q : Int)) = false := by simp; omega
    rw [show q - k = 0 from by omega, List.replicate_zero, akC] at hpl5
    unfold sD zD AS
    simp (disch := omega) only [aC, bD, d2, bK, aW, aA, aD]
    exact ⟨ps.length - (s + 1), by omega, s + 1, j5, ar5, rfl, rfl, by omega, har5, hpl5, by simp at hrl; omega, o5, x5⟩
  .have d1 : decide ((s : Int) < (ps.length : Int)) = false := by simp; omega
   rw [alT (by omega), nB, place] at hpl
   unfold rW yS Ba
   simp (disch := omega) only [aC, bD, d1, aA, aD]
   exact ⟨_, rfl, hw1, by rw [<- hpl]; exact o4, x4⟩
def Es (log : Nat) (ps S : List Int) (i : Nat) : List T3 := (List.range (2 ^ log)).map fun j => if j < i then CT log ps S j else (S.getD j 0, 0, 0)
def nxt (ps S : List Int) (i : Nat) : List Int := (List.range ps.length).map fun s => bX (ps.getD s 0) + ((S.take i).count (s : Int) : Nat)
theorem acG {log : Nat} {ps S : List Int} (h : S.length = 2 ^ log) : Es log ps S 0 = m3 S := by
 unfold Es m3
 apply alF
 .simp [h]
 .intro i h1 h2
  simp only [aiX, amT] at h1
  simp only [akH, akU, Nat.not_lt_zero, if_false, ajD]
  rw [aiN (by omega)] <;> rfl
theorem adT (log : Nat) (ps : List Int) : Es log ps (eF 0 log ps) (2 ^ log) = iY log ps := by
 unfold Es iY
 refine alP fun j hj => ?_
 rw [if_pos (akD.1 hj)]
theorem Lq (log : Nat) (ps S : List Int) (i : Nat) : (Es log ps S i).length = 2 ^ log := by simp [Es]
theorem adI {log : Nat} {ps S : List Int} {i : Nat} (h : i < 2 ^ log) : (Es log ps S i)[i]'(by rw [Lq]; exact h) = (S.getD i 0, 0, 0) := by
 unfold Es; simp
theorem aeG {log : Nat} {ps S : List Int} {i : Nat} (_ : i < 2 ^ log) : (Es log ps S i).set i (CT log ps S i) = Es log ps S (i + 1) := by
 unfold Es
 apply alF
 .simp
 .intro j h1 h2
  rw [anN]
  simp only [akH, akU]
  by_cases hij : i = j
  .subst hij; simp
  .rw [if_neg hij]
   by_cases hj : j < i
   .rw [if_pos hj, if_pos (by omega)]
   .rw [if_neg hj, if_neg (by omega)]
theorem Mv (ps S : List Int) (i : Nat) : (nxt ps S i).length = ps.length := by simp [nxt]
theorem Z8 (ps S : List Int) : nxt ps S 0 = ps.map bX := by
 unfold nxt
 apply alF
 .simp
 .intro i h1 h2
  simp only [aiX, amT] at h1
  simp only [akH, akU, aiZ, List.count_nil, ajD]
  rw [aiN h1]; simp
theorem UY {ps S : List Int} {i s : Nat} (h : s < ps.length) : (nxt ps S i)[s]'(by rw [Mv]; exact h) = bX ps[s] + ((S.take i).count (s : Int) : Nat) := by
 unfold nxt
 simp only [akH, akU, ajD]
 rw [aiN h] <;> rfl
theorem abU {ps S : List Int} {i s : Nat} (h : i < S.length) (hs : s < ps.length) (e : S[i] = (s : Int)) : (nxt ps S i).set s (bX ps[s] + ((S.take i).count (s : Int) : Nat) + 1) = nxt ps S (i + 1) := by
 apply alF
 .simp [nxt]
 .intro j h1 h2
  have hj : j < ps.length := by simpa [nxt] using h2
  rw [anN, UY hj, UY hj, akW, aiN h, alH]
  simp only [Option.toList, e, anA]
  by_cases hij : s = j
  .subst hij; simp; omega
  .have : ((s : Int) == (j : Int)) = false := by simp; omega
   rw [if_neg hij, this]; simp
theorem acF {k b : Nat} (hb : b <= 64) (h : k * 2 ^ b <= 9223372036854775807) : IntKind.i64.wrap ((k : Int) * 2 ^ (min b IntKind.i64.bits)) = ((k * 2 ^ b : Nat) : Int) := by
 have e : min b IntKind.i64.bits = b := by simp only [IntKind.bits]; omega
 rw [e]
 have : (k : Int) * 2 ^ b = ((k * 2 ^ b : Nat) : Int) := by simp
 rw [this]
 exact aW (by omega) (by omega)
section
variable {log : Nat} {ps S : List Int} {w0 w1 : anV} {p1 p2 p4 b nb N : Nat} {sv : anW}
theorem Xv (hm : MA log ps) (L : Lay log ps S) (hN : 2 ^ log = N) {i : Nat} (hlt : i < N) {w3 : anV}
 (on3 : cG w3 nb ((nxt ps S i).map (Value.int .i64))) (ob3 : cG w3 b (fe .u8 (Es log ps S i)))
 (o13 : cG w3 p1 [.int .i64 log, sv]) (o43 : cG w3 p4 [.int .i64 log, .slice (some ⟨b, 0, none⟩) N N])
 (hne : p1 ≠ b /\ p4 ≠ b /\ nb ≠ b /\ p1 ≠ nb /\ p4 ≠ nb) {t2 : anW} {kn : anW -> anW -> anW -> anW -> anW -> anW -> anV -> Prop}
 (hk : ∀ w', cG w' nb ((nxt ps S (i + 1)).map (Value.int .i64)) -> cG w' b (fe .u8 (Es log ps S (i + 1))) -> aX w3 w' (fun y => y = nb ∨ y = b) →
  kn (.pointer (some ⟨p1, 0, none⟩)) t2 (.pointer (some ⟨p4, 0, none⟩)) (.slice (some ⟨nb, 0, none⟩) ps.length ps.length) (.int .i64 N) (.int .i64 ((i + 1 : Nat) : Int)) w') :
 Cz kn (.pointer (some ⟨p1, 0, none⟩)) t2 (.pointer (some ⟨p4, 0, none⟩)) (.slice (some ⟨nb, 0, none⟩) ps.length ps.length) (.int .i64 N) (.int .i64 i) w3 := by
 have h5 := hm.log5
 have h15 := hm.log15
 have hlen := hm.len256
 have hN2 : 2 ^ log <= 2 ^ 15 := ajA (by omega) h15
 have hSl : S.length = 2 ^ log := L.len
 have c40 := o43.cell (off := 0)
 have c41 := o43.cell (off := 1)
 have c10 := o13.cell (off := 0)
 simp only [aiP, aiQ] at c40 c41 c10
 have hltN : i < 2 ^ log := by omega
 obtain ⟨s, hsl, hsS, hp1, hp2, hk', hcnt⟩ := PF hm L hltN
 obtain ⟨k, hkk⟩ : ∃ k, k = V8 ps S i := ⟨_, rfl⟩
 rw [<- hkk] at hk'
 have hk2 : k < 2 ^ (log + 1) := by rw [ajS]; omega
 obtain ⟨eb1, eb2, eb3, eb4⟩ := UJ (log := log) (k := k) (by omega) hk2
 have hel : i < (Es log ps S i).length := by rw [Lq]; exact hltN
 obtain ⟨f0, f1, f2⟩ := S4 .u8 (Es log ps S i) i hel
 rw [adI hltN] at f0
 simp only at f0
 rw [hsS] at f0
 have g0 := ob3.cell (off := i * 3)
 rw [f0] at g0
 have hnx : ((nxt ps S i).map (Value.int .i64))[s]? = some (.int .i64 k) := by
  rw [ajO, aiN (by rw [Mv]; exact hsl), UY hsl, hk']
  simp; omega
 have gn := on3.cell (off := s)
 rw [hnx] at gn
 have hkb : k < 131072 := by
  have : 2 ^ (log + 1) <= 2 ^ 16 := ajA (by omega) (by omega)
  omega
 have hpn := jH (hm.low _ (ajM hsl))
 have hSi : S[i]'(by omega) = (s : Int) := by rw [<- hsS, ajD, aiN (by omega)] <;> rfl
 have hns := abU (ps := ps) (S := S) (i := i) (s := s) (by omega) hsl hSi
 have hkv : bX ps[s] + ((S.take i).count (s : Int) : Nat) + 1 = (k : Int) + 1 := by rw [hk']; omega
 rw [hkv] at hns
 have hent : CT log ps S i = IG log (s : Int) k := by unfold CT; rw [hsS, <- hkk]
 have hes := aeG (log := log) (ps := ps) (S := S) (i := i) hltN
 rw [hent] at hes
 have hE0 : (Es log ps S i)[i]'hel = ((s : Int), 0, 0) := by rw [adI hltN, hsS]
 clear hkk hcnt
 unfold Cz Is OK Hr
 simp (disch := omega) only [aC, bE, aiR, aA, bZ, c41, aI, kO, aiM, nA, eY, jY, g0, dS, cP, gn, bK, aW]
 refine xV on3 rfl (by simp [Mv]; omega) fun w4 on4 x4 s4 => ?_
 rw [<- amL, hns] at on4
 unfold IA Hy
 have o14 := eP (o13.ext x4 (by omega))
 have o44 := o43.ext x4 (by omega)
 have ob4 := ob3.ext x4 (by omega)
 have c10 := o14.cell (off := 0)
 simp only [aiP] at c10
 simp (disch := omega) only [aC, cF, iR, jC, eE, Result.ok.injEq, Next.value.injEq, and_true, nA, aA, iK, true_and, cP, c10, aI]
 refine (ZI k (by omega) _).mono ?_
 rintro r w5 ⟨rfl, rfl⟩
 obtain ⟨nbits, hnbits⟩ : ∃ x, x = log + 1 - bl k := ⟨_, rfl⟩
 have e2 : (log : Int) - (bl k : Int) + 1 = (nbits : Int) := by omega
 have e3 : IntKind.i64.wrap ((log : Int) - (bl k : Int)) = (log : Int) - (bl k : Int) := aW (by omega) (by omega)
 simp (disch := omega) only [c10, aI, dZ, e3, aA, bK, e2, aW, true_and]
 have ob4 := eP ob4
 refine xV ob4 rfl (by rw [sU, Lq]; omega) fun w5 ob5 x5 s5 => ?_
 rw [(Uj .u8 (Es log ps S i) i hel _).2.1, hE0] at ob5
 unfold CE
 have o45 := eP ((eP o44).ext x5 (by omega))
 have ob5 := eP ob5
 have on5 := eP ((eP on4).ext x5 (by omega))
 have c41 := o45.cell (off := 1)
 simp only [aiP, aiQ] at c41
 have hel5 : i < ((Es log ps S i).set i ((s : Int), (nbits : Int), 0)).length := by simpa using hel
 obtain ⟨-, f1, -⟩ := S4 .u8 _ i hel5
 simp only [anP] at f1
 have g1 := ob5.cell (off := i * 3 + 1)
 rw [f1] at g1
 have hnb2 : k * 2 ^ nbits <= 2 ^ 16 := by
  rw [hnbits]
  have : 2 ^ (log + 1) <= 2 ^ 16 := ajA (by omega) (by omega)
  have := ajX (2 ^ (log + 1 - bl k)) (show k <= k + 1 by omega)
  omega
 have e4 := acF (k := k) (b := nbits) (by omega) (by omega)
 have e5 : (((k * 2 ^ nbits : Nat) : Int) - (N : Int)) = (IG log (s : Int) k).2.2 := by
  unfold IG
  simp only
  rw [<- hnbits, <- hN]
  simp
 have e6 : IntKind.i64.wrap (((k * 2 ^ nbits : Nat) : Int) - (N : Int)) = ((k * 2 ^ nbits : Nat) : Int) - (N : Int) := aW (by omega) (by omega)
 rw [e5] at e6
 have e7 : (IG log (s : Int) k) = ((s : Int), (nbits : Int), (IG log (s : Int) k).2.2) := by unfold IG; rw [hnbits]
 generalize hq : k * 2 ^ nbits = q at *
 generalize hbase : (IG log (s : Int) k).2.2 = base at *
 simp (disch := omega) only [aC, nA, bE, aiR, aA, kG, true_and, bZ, c41, aI, fO, iK, cP, g1, iX, aiM, e4, dZ, e5, e6]
 refine xV ob5 rfl (by rw [sU]; simp [Lq]; omega) fun w6 ob6 x6 s6 => ?_
 rw [(Uj .u8 _ i hel5 _).2.2] at ob6
 simp only [anP, List.set_set] at ob6
 rw [<- e7, hes] at ob6
 have xx : aX w3 w6 (fun y => y = nb ∨ y = b) :=
  ((((x4.mono fun _ _ h => .inl h : aX w3 w4 (fun y => y = nb ∨ y = b)).seq (aX.dr _ _)).seq (x5.mono fun _ _ h => .inr h)).seq (aX.dr _ _)).seq (x6.mono fun _ _ h => .inr h)
 unfold Cq
 simp (disch := omega) only [aC, bK, aW, aA]
 exact hk _ (on5.ext x6 (by omega)) ob6 xx
theorem YI (hm : MA log ps) (L : Lay log ps S) (hN : 2 ^ log = N) {w3 : anV}
 (on3 : cG w3 nb ((nxt ps S 0).map (Value.int .i64))) (ob3 : cG w3 b (fe .u8 (m3 S)))
 (o13 : cG w3 p1 [.int .i64 log, sv]) (o23 : cG w3 p2 [.int .i64 0, .slice none 0 0]) (o43 : cG w3 p4 [.int .i64 log, .slice (some ⟨b, 0, none⟩) N N])
 (hne : p1 ≠ b /\ p4 ≠ b /\ nb ≠ b /\ p1 ≠ nb /\ p4 ≠ nb /\ p2 ≠ b /\ p2 ≠ nb) (hlo : w0.heap.size <= p2 /\ w0.heap.size <= b /\ w0.heap.size <= nb) (hx : aX w0 w3 dG) {R : anW -> anV -> Prop}
 (hR : ∀ w', cG w' b (fe .u8 (Es log ps S N)) -> aX w0 w' dG -> R (.tuple #[.agg #[.int .i64 log, .slice (some ⟨b, 0, none⟩) N N], .int .i64 0]) w') :
 AQ R (.pointer (some ⟨p1, 0, none⟩)) (.pointer (some ⟨p2, 0, none⟩)) (.pointer (some ⟨p4, 0, none⟩)) (.slice (some ⟨nb, 0, none⟩) ps.length ps.length) w3 := by
 have hN2 : 2 ^ log <= 2 ^ 15 := ajA (by omega) hm.log15
 have c41 := o43.cell (off := 1)
 simp only [aiP, aiQ] at c41
 unfold AQ Fm FE FK ER
 simp (disch := omega) only [aC, bE, aiR, aA, bZ, c41, aI, fO]
 have ob0 : cG w3 b (fe .u8 (Es log ps S 0)) := by rw [acG L.len]; exact ob3
 refine cO.rule (fun m t w' => ∃ i : Nat, m = N - i /\ t = .int .i64 i /\ i <= N /\ cG w' nb ((nxt ps S i).map (Value.int .i64)) /\ cG w' b (fe .u8 (Es log ps S i)) /\ aX w3 w' (fun y => y = nb ∨ y = b)) N
  ⟨0, rfl, rfl, by omega, on3, ob0, aX.refl _ _⟩ ?_
 rintro m t w4 ⟨i, rfl, rfl, hi, on4, ob4, x4⟩
 unfold A8 EV
 have o44 := o43.ext x4 (by omega)
 have o24 := o23.ext x4 (by omega)
 by_cases hlt : i < N
 .have d1 : decide ((i : Int) < (N : Int)) = true := by simp only [decide_eq_true_eq]; omega
  simp (disch := omega) only [aC, bD, d1, aA, aG]
  refine Xv hm L hN hlt on4 ob4 (o13.ext x4 (by omega)) o44 ⟨hne.1, hne.2.1, hne.2.2.1, hne.2.2.2.1, hne.2.2.2.2.1⟩ fun w5 on5 ob5 x5 => ?_
  exact ⟨N - (i + 1), by omega, i + 1, rfl, rfl, by omega, on5, ob5, x4.trans x5 (fun _ _ h => h)⟩
 .have d1 : decide ((i : Int) < (N : Int)) = false := by simp only [decide_eq_false_iff_not]; omega
  have : i = N := by omega
  subst this
  have l4 := dX (off := 0) o44 (by simp)
  simp only [aiY, aiT, aiZ] at l4
  simp (disch := omega) only [aC, bD, d1, aA, aD]
  unfold Cy
  simp (disch := omega) only [aC, l4, aA]
  refine cI o24 rfl (by simp [one]) (by simp) fun w5 o25 x5 s5 => ?_
  refine lA o25 (by simp [bQ]) ?_
  simp only [bQ, aiV, aiW, aiY, aiT, aiZ]
  exact hR _ (ob4.ext x5 (by omega)) ((hx.trans x4 (fun y hy hh => by omega)).new x5 hlo.1)
theorem W6 (hm : MA log ps) (L : Lay log ps S) (hN : 2 ^ log = N) {w : anV} (hs : Sl w0 sv (ps.map (Value.int .i64)))
 (o1 : cG w p1 [.int .i64 log, sv]) (o2 : cG w p2 [.int .i64 0, .slice none 0 0]) (o4 : cG w p4 [.int .i64 log, .slice (some ⟨b, 0, none⟩) N N]) (ob : cG w b (fe .u8 (m3 S)))
 (hlo : w0.heap.size <= p2 /\ w0.heap.size <= b) (hne : p1 ≠ b /\ p2 ≠ b /\ p4 ≠ b) (hx : aX w0 w dG) {R : anW -> anV -> Prop}
 (hR : ∀ w', cG w' b (fe .u8 (Es log ps S N)) -> aX w0 w' dG -> R (.tuple #[.agg #[.int .i64 log, .slice (some ⟨b, 0, none⟩) N N], .int .i64 0]) w') :
 uC R (.pointer (some ⟨p1, 0, none⟩)) (.pointer (some ⟨p2, 0, none⟩)) (.pointer (some ⟨p4, 0, none⟩)) w := by
 have hlen := hm.len256
 have hN2 : 2 ^ log <= 2 ^ 15 := ajA (by omega) hm.log15
 obtain ⟨a, c, rfl, hc⟩ := hs.lenI
 have c1 := o1.cell (off := 1)
 simp only [aiP, aiQ] at c1
 unfold uC F2
 simp (disch := omega) only [aC, aV, aiR, aA, dU, c1, aI, fV]
 refine Tx (by omega) (by omega) fun w1 on x1 s1 => ?_
 rw [aiM] at on ⊢
 have l1 := o1.lt
 have l2 := o2.lt
 have l4 := o4.lt
 have lb := ob.lt
 have o1 := o1.ext x1 (fun h => h)
 have o2 := o2.ext x1 (fun h => h)
 have o4 := o4.ext x1 (fun h => h)
 have ob := ob.ext x1 (fun h => h)
 have x01 := hx.seq x1
 have c1 := o1.cell (off := 1)
 simp only [aiP, aiQ] at c1
 have hwn : w0.heap.size <= w.heap.size := hx.size
 generalize w.heap.size = nb at *
 unfold Fu Fb EZ EN FD
 simp (disch := omega) only [aC, aV, aiR, aA, dU, c1, aI, fV]
 refine cO.rule (fun m t w' => ∃ i : Nat, m = ps.length - i /\ t = .int .i64 i /\ i <= ps.length /\ cG w' nb (((ps.take i).map bX ++ List.replicate (ps.length - i) 0).map (Value.int .i64)) /\ aX w0 w' dG /\ aX w1 w' (fun y => y = nb)) ps.length
  ⟨0, rfl, rfl, by omega, by simpa using on, x01, aX.refl _ _⟩ ?_
 rintro m t w2 ⟨i, rfl, rfl, hi, on2, x2, y2⟩
 by_cases hlt : i < ps.length
 .have d1 : decide ((i : Int) < (ps.length : Int)) = true := by simp; omega
  obtain ⟨b', off', c', e, _, hcell⟩ := (hs.ext x2 (bY _)).openI (by omega)
  cases e
  have g1 := hcell i hlt
  have hp := hm.low _ (ajM hlt)
  have hple := ME hm hlt
  have hpv : bX ps[i] = ps[i] ∨ ps[i] = -1 := by unfold bX; split <;> omega
  have hpn := jH hp
  have emax : (if (0 - ps[i]) > ps[i] then (0 - ps[i]) else ps[i]) = bX ps[i] := by unfold bX; split <;> split <;> omega
  unfold uH
  simp (disch := omega) only [aC, bD, d1, dS, aiM, aiR, bK, aW, aA, cP, g1, aI, agN, We, emax, aG]
  refine xV on2 rfl (by simp; omega) fun w3 on3 x3 s3 => ?_
  refine ⟨ps.length - (i + 1), by omega, i + 1, rfl, rfl, by omega, ?_, x2.new x3 hwn, y2.trans x3 (fun _ _ h => h)⟩
  rw [<- amL] at on3
  have e : ((ps.take i).map bX ++ List.replicate (ps.length - i) 0).set i (bX ps[i]) = (ps.take (i + 1)).map bX ++ List.replicate (ps.length - (i + 1)) 0 := by
   rw [show ps.length - i = (ps.length - (i + 1)) + 1 from by omega, akV, amF _ _ (by rw [aiX, ajL]; omega)]
   have : i - ((ps.take i).map bX).length = 0 := by rw [aiX, ajL]; omega
   rw [this, aiV, akW, aiN hlt, akN, ajB]
   rfl
  rw [e] at on3
  exact on3
 .have d1 : decide ((i : Int) < (ps.length : Int)) = false := by simp; omega
  have : i = ps.length := by omega
  subst this
  have on2 : cG w2 nb ((nxt ps S 0).map (Value.int .i64)) := by rw [Z8]; simpa using on2
  unfold uH
  simp (disch := omega) only [aC, bD, d1, bK, aW, aA, aD]
  exact YI hm L hN on2 (ob.ext y2 (by omega)) (o1.ext y2 (by omega)) (o2.ext y2 (by omega)) (o4.ext y2 (by omega)) (by omega) (by omega) x2 hR
def Xb (w : anV) (base b log : Nat) (L : List T3) (v : anW) : Prop := v = .agg #[.int .i64 log, .slice (some ⟨b, 0, none⟩) L.length L.length] /\ base <= b /\ cG w b (fe .u8 L)
theorem acQ {log most : Nat} {ps : List Int} (h : MA log ps) (hl : log <= most) : YN log ps most = 0 := by
 unfold YN; rw [h.b]; simp; omega
theorem RF {w : anV} (hm : MA log ps) (hs : Sl w sv (ps.map (Value.int .i64))) :
 aU pg mE #[.agg #[.int .i64 log, sv]] w (fun r w' => ∃ b v, r = .tuple #[v, .int .i64 0] /\ Xb w' w.heap.size b log (iY log ps) v /\ aX w w' dG) := by
 refine JV ?_
 have hlen := hm.len256
 unfold PQ A2 A4
 refine hY fun w1 o1 x1 s1 => ?_
 refine fI fun w2 o2 x2 s2 => ?_
 have o1 := o1.ext x2 (fun h => h)
 have l1 := dV (off := 0) o1 (by simp [Value.cells])
 simp only [Value.cells, aiY, aiT, aiZ] at l1
 simp (disch := omega) only [aC, l1, dQ, aA, cF, eE, Result.ok.injEq, Next.value.injEq, and_true, cP, true_and]
 refine (XO (most := 15) ((hs.ext x1 (bY _)).ext x2 (bY _)) (by omega)).mono ?_
 rintro r w3 ⟨rfl, x3⟩
 have hce := acQ (most := 15) hm hm.log15
 rw [show (((15 : Nat) : Int)) = 15 from rfl] at hce
 rw [hce]
 have e0 : ((0 : Int) != 0) = false := rfl
 have x03 : aX w w3 dG := (x1.seq x2).seq x3
 have o1 := eP (o1.ext x3 (fun h => h))
 have o2 := eP (o2.ext x3 (fun h => h))
 have c0 := o1.cell (off := 0)
 simp only [Value.cells, aiP] at c0
 have l1 := dV (off := 0) o1 (by simp [Value.cells])
 simp only [Value.cells, aiY, aiT, aiZ] at l1
 have hz2 := o2.lt
 have fin : ∀ {b p4 : Nat} {w' : anV}, cG w' w.heap.size [.int .i64 log, sv] -> cG w' w1.heap.size [.int .i64 0, .slice none 0 0] -> cG w' p4 [.int .i64 log, .slice (some ⟨b, 0, none⟩) (2 ^ log) (2 ^ log)] -> cG w' b (fe .u8 (m3 (eF 0 log ps))) -> w2.heap.size <= b -> p4 ≠ b -> aX w w' dG →
     uC (fun r w' => ∃ b v, r = .tuple #[v, .int .i64 0] /\ Xb w' w.heap.size b log (iY log ps) v /\ aX w w' dG) (.pointer (some ⟨w.heap.size, 0, none⟩)) (.pointer (some ⟨w1.heap.size, 0, none⟩)) (.pointer (some ⟨p4, 0, none⟩)) w' := by
  intro b p4 w' h1 h2 h3 h4 h5 h6 h7
  refine W6 hm (sI hm 0) rfl hs h1 h2 h3 h4 (by omega) (by omega) h7 fun w'' ho hx => ?_
  rw [adT] at ho
  exact ⟨b, _, rfl, ⟨by rw [gZ], by omega, ho⟩, hx⟩
 simp (disch := omega) only [fU, e0, aA, aD]
 have hdr : (dr w3).heap.size = w3.heap.size := rfl
 have h23 := x3.size
 refine Gm ?_ ?_
 .simp (disch := omega) only [c0, aI, l1, aA, true_and]
  refine (VD hm ((hs.ext x03 (bY _)).dr)).mono ?_
  rintro r w4 ⟨b, rfl, hb, ob, x4⟩
  have o1 := o1.ext x4 (fun h => h)
  have c0 := o1.cell (off := 0)
  simp only [Value.cells, aiP] at c0
  simp (disch := omega) only [c0, aI, GU, Result.ok.injEq, Next.value.injEq, and_true, aA, true_and]
  refine fI fun w5 o5 x5 s5 => ?_
  have o1 := o1.ext x5 (fun h => h)
  have c0 := o1.cell (off := 0)
  simp only [Value.cells, aiP] at c0
  simp (disch := omega) only [c0, aI, true_and]
  have hlb := ob.lt
  refine cI o5 rfl (by simp [one]) (by simp) fun w6 o6 x6 s6 => ?_
  have h45 := x4.size
  refine fin (o1.ext x6 (by omega)) (((o2.ext x4 (fun h => h)).ext x5 (fun h => h)).ext x6 (by omega)) o6 ((ob.ext x5 (fun h => h)).ext x6 (by omega)) (by omega) (by omega) ?_
  exact (((x03.seq (aX.dr _ _)).seq x4).seq x5).new x6 (by omega)
 .simp (disch := omega) only [c0, aI, l1, aA, true_and]
  refine fI fun w4 o4 x4 s4 => ?_
  have o1 := o1.ext x4 (fun h => h)
  have c0 := o1.cell (off := 0)
  simp only [Value.cells, aiP] at c0
  have l1 := dV (off := 0) o1 (by simp [Value.cells])
  simp only [Value.cells, aiY, aiT, aiZ] at l1
  simp (disch := omega) only [l1, c0, aI, and_true, true_and]
  refine (VD hm ((((hs.ext x03 (bY _)).dr).ext x4 (bY _)))).mono ?_
  rintro r w5 ⟨b, rfl, hb, ob, x5⟩
  have o1 := o1.ext x5 (fun h => h)
  have c0 := o1.cell (off := 0)
  simp only [Value.cells, aiP] at c0
  simp (disch := omega) only [c0, aI, GU, aA, true_and]
  refine cI (o4.ext x5 (fun h => h)) rfl (by simp [one]) (by simp) fun w6 o6 x6 s6 => ?_
  refine fin (o1.ext x6 (by omega)) (((o2.ext x4 (fun h => h)).ext x5 (fun h => h)).ext x6 (by omega)) o6 (ob.ext x6 (by omega)) (by omega) (by omega) ?_
  exact (((x03.seq (aX.dr _ _)).seq x4).seq x5).new x6 (by omega)
theorem YQ {log : Int} {w : anV} (hm : S7 log ps = false) (hs : Sl w sv (ps.map (Value.int .i64))) (hl : ps.length <= 9223372036854775807) :
 aU pg mE #[.agg #[.int .i64 log, sv]] w (fun r w' => r = .tuple #[.agg #[.int .i64 0, .slice none 0 0], .int .i64 1] /\ aX w w' dG) := by
 refine JV ?_
 unfold PQ A2 A4
 refine hY fun w1 o1 x1 s1 => ?_
 refine fI fun w2 o2 x2 s2 => ?_
 have o1 := o1.ext x2 (fun h => h)
 have l1 := dV (off := 0) o1 (by simp [Value.cells])
 simp only [Value.cells, aiY, aiT, aiZ] at l1
 simp (disch := omega) only [aC, l1, dQ, aA, cF, eE, Result.ok.injEq, Next.value.injEq, and_true, cP, true_and]
 refine (XO (most := 15) ((hs.ext x1 (bY _)).ext x2 (bY _)) (by omega)).mono ?_
 rintro r w3 ⟨rfl, x3⟩
 have hce : YN log ps 15 = 1 := by unfold YN; rw [hm] <;> rfl
 rw [hce]
 have e0 : ((1 : Int) != 0) = true := rfl
 simp (disch := omega) only [fU, e0, aA, aG]
 refine cI (o2.ext x3 (fun h => h)) rfl (by simp [one]) (by simp) fun w6 o6 x6 s6 => ?_
 refine lA o6 (by simp [bQ]) ⟨rfl, ?_⟩
 exact ((x1.seq x2).seq x3).new x6 (by omega)
end
end Go.Proofs.YtaggdjhhmbnhoaaDoor
namespace Go.Pu
def X6 (sym s : Int) (e : Int × Int × Int) : Bool := decide (e.1 = sym /\ e.2.2 <= s /\ s < e.2.2 + 2 ^ e.2.1.toNat)
theorem aeA {log x j : Nat} (h1 : 2 ^ log <= x) (h2 : x < 2 ^ (log + 1)) (hj : j <= log) : bl (x / 2 ^ j) = log + 1 - j := by
 have hp := ajU j
 have a : 2 ^ (log - j) <= x / 2 ^ j := by
  rw [amX hp, <- amR]
  rw [show log - j + j = log from by omega]; exact h1
 have b : x / 2 ^ j < 2 ^ (log - j + 1) := by
  rw [alY hp, <- amR]
  rw [show log - j + 1 + j = log + 1 from by omega]; exact h2
 rw [acZ a b]; omega
theorem agH {log x k : Nat} (h1 : 2 ^ log <= x) (h2 : x < 2 ^ (log + 1)) (hk1 : 1 <= k) (hk2 : k < 2 ^ (log + 1)) :
 (k * 2 ^ (log + 1 - bl k) <= x /\ x < (k + 1) * 2 ^ (log + 1 - bl k)) ↔ ∃ j, j <= log /\ x / 2 ^ j = k := by
 have hb1 := EY (k := k) (by omega)
 have hb2 := qE hk2
 constructor
 .rintro ⟨a, b⟩
  refine ⟨log + 1 - bl k, by omega, ?_⟩
  have hp := ajU (log + 1 - bl k)
  apply Nat.le_antisymm
  .have := (alY hp).2 b; omega
  .exact (amX hp).2 a
 .rintro ⟨j, hj, rfl⟩
  rw [aeA h1 h2 hj, show log + 1 - (log + 1 - j) = j from by omega]
  have hp := ajU j
  exact ⟨anB _ _, by rw [akT]; exact Nat.lt_mul_div_succ x hp⟩
theorem ahL {log x q : Nat} (h1 : 2 ^ log <= x) (h2 : x < 2 ^ (log + 1)) (hq1 : 1 <= q) (hq2 : q <= 2 ^ log) : ∃ j, j <= log /\ q <= x / 2 ^ j /\ x / 2 ^ j < 2 * q := by
 have key : ∀ j, j <= log -> x / 2 ^ j < 2 * q -> ∃ j, j <= log /\ q <= x / 2 ^ j /\ x / 2 ^ j < 2 * q := by
  intro j
  induction j with
  | zero =>
    intro _ h
    refine ⟨0, by omega, ?_, h⟩
    rw [Nat.pow_zero, Nat.div_one]; omega
  | succ j ih =>
    intro hj h
    by_cases hx : x / 2 ^ j < 2 * q
    .exact ih (by omega) hx
    .refine ⟨j + 1, hj, ?_, h⟩
     rw [ajS, <- anK]
     omega
 refine key log (aiU _) ?_
 have : x / 2 ^ log < 2 := by
  rw [alY (ajU _), akT, <- ajS]; exact h2
 omega
theorem agB {x q i j : Nat} (hi1 : q <= x / 2 ^ i) (hi2 : x / 2 ^ i < 2 * q) (hj1 : q <= x / 2 ^ j) (hj2 : x / 2 ^ j < 2 * q) : x / 2 ^ i = x / 2 ^ j := by
 have half : ∀ {a b : Nat}, a < b -> x / 2 ^ b <= x / 2 ^ a / 2 := by
  intro a b h
  rw [anK, <- ajS]
  exact Nat.div_le_div_left (ajA (by omega) h) (ajU _)
 rcases amD i j with h | h | h
 .have := half h; omega
 .rw [h]
 .have := half h; omega
theorem acH {S : List Int} {v : Int} : ∀ (n c : Nat), c < (S.take n).count v -> ∃ i, ∃ h : i < S.length, i < n /\ S[i] = v /\ (S.take i).count v = c := by
 intro n
 induction n with
 | zero => intro c h; simp at h
 | succ n ih =>
   intro c h
   by_cases hn : n < S.length
   .rw [akW, aiN hn, alH] at h
    simp only [Option.toList, anA] at h
    by_cases hc : c < (S.take n).count v
    .obtain ⟨i, h1, h2, h3, h4⟩ := ih c hc
     exact ⟨i, h1, by omega, h3, h4⟩
    .by_cases hv : S[n] = v
     .have : (S[n] == v) = true := by simpa using hv
      rw [this] at h
      simp only [if_true] at h
      exact ⟨n, hn, by omega, hv, by omega⟩
     .have : (S[n] == v) = false := by simpa using hv
      rw [this] at h
      simp at h; omega
   .rw [alG (by omega)] at h
    have := ih c (by rw [alG (by omega)]; exact h)
    obtain ⟨i, h1, h2, h3, h4⟩ := this
    exact ⟨i, h1, by omega, h3, h4⟩
theorem aaR {S : List Int} {v : Int} {i j : Nat} (hi : i < S.length) (hv : S[i] = v) (hij : i < j) : (S.take i).count v < (S.take j).count v := by
 obtain ⟨d, rfl⟩ : ∃ d, j = i + 1 + d := ⟨j - (i + 1), by omega⟩
 rw [List.take_add, alH, akW, aiN hi, alH]
 simp only [Option.toList, anA]
 have : (S[i] == v) = true := by simpa using hv
 rw [this]; simp; omega
theorem Pq {log : Nat} {ps : List Int} {i : Nat} (h : i < 2 ^ log) : (iY log ps)[i]? = some (CT log ps (eF 0 log ps) i) := by
 unfold iY
 rw [ajO, List.getElem?_range h] <;> rfl
theorem XT {log : Nat} {ps : List Int} (hm : MA log ps) {sy i s : Nat} (hsy : sy < ps.length) (hi : i < 2 ^ log) (hs : s < 2 ^ log) :
 X6 (sy : Int) s (CT log ps (eF 0 log ps) i) = true ↔
  ((eF 0 log ps).getD i 0 = (sy : Int) /\ ∃ j, j <= log /\ (s + 2 ^ log) / 2 ^ j = (bX ps[sy]).toNat + ((eF 0 log ps).take i).count (sy : Int)) := by
 have L := sI hm 0
 obtain ⟨s', hs', hg, hp1, hp2, hk, hc⟩ := PF hm L hi
 generalize hS : eF 0 log ps = S at *
 obtain ⟨k, hkk⟩ : ∃ k, k = V8 ps S i := ⟨_, rfl⟩
 rw [<- hkk] at hk
 have hk2 : k < 2 ^ (log + 1) := by rw [ajS]; omega
 obtain ⟨e1, e2, e3, e4⟩ := UJ (log := log) (k := k) (by omega) hk2
 unfold X6 CT IG
 rw [hg, <- hkk]
 simp only [decide_eq_true_eq, aiM]
 have hpow : ((2 ^ log : Nat) : Int) = (2 : Int) ^ log := by simp
 have hpow2 : ((2 ^ (log + 1 - bl k) : Nat) : Int) = (2 : Int) ^ (log + 1 - bl k) := by simp
 rw [<- hpow, <- hpow2]
 have hx1 : 2 ^ log <= s + 2 ^ log := by omega
 have hx2 : s + 2 ^ log < 2 ^ (log + 1) := by rw [ajS]; omega
 have hki := agH hx1 hx2 (k := k) (by omega) hk2
 constructor
 .rintro ⟨a, b, c⟩
  have hss : s' = sy := by omega
  subst hss
  refine ⟨rfl, ?_⟩
  rw [<- hk]
  refine hki.1 ⟨by omega, ?_⟩
  rw [anF]; omega
 .rintro ⟨a, j, hj, hje⟩
  have hss : s' = sy := by omega
  subst hss
  rw [<- hk] at hje
  obtain ⟨b, c⟩ := hki.2 ⟨j, hj, hje⟩
  rw [anF] at c
  exact ⟨rfl, by omega, by omega⟩
theorem acJ {log : Nat} {ps : List Int} (hm : MA log ps) {sy s : Nat} (hsy : sy < ps.length) (hp : ps[sy] ≠ 0) (hs : s < 2 ^ log) :
 ∃ i, ∃ hi : i < 2 ^ log, X6 (sy : Int) s (CT log ps (eF 0 log ps) i) = true /\ ∀ j, j < 2 ^ log -> X6 (sy : Int) s (CT log ps (eF 0 log ps) j) = true -> j = i := by
 have L := sI hm 0
 have hl := hm.low _ (ajM hsy)
 have hq1 : 1 <= (bX ps[sy]).toNat := by unfold bX; split <;> omega
 have hq2 := ME hm hsy
 have hcnt := L.cnt sy hsy
 obtain ⟨j, hj, a, b⟩ := ahL (log := log) (x := s + 2 ^ log) (q := (bX ps[sy]).toNat) (by omega) (by rw [ajS]; omega) hq1 hq2
 have hfind := acH (S := eF 0 log ps) (v := (sy : Int)) (2 ^ log) ((s + 2 ^ log) / 2 ^ j - (bX ps[sy]).toNat) (by
  rw [alG (by rw [L.len]; exact aiU _), hcnt]; omega)
 obtain ⟨i, h1, h2, h3, h4⟩ := hfind
 have hgd : ∀ {i} (h : i < (eF 0 log ps).length), (eF 0 log ps).getD i 0 = (eF 0 log ps)[i] := fun h => by rw [ajD, aiN h] <;> rfl
 refine ⟨i, h2, (XT hm hsy h2 hs).2 ⟨by rw [hgd h1, h3], j, hj, by rw [h4]; omega⟩, fun i' hi' h => ?_⟩
 obtain ⟨g, j', hj', e⟩ := (XT hm hsy hi' hs).1 h
 have hi'l : i' < (eF 0 log ps).length := by rw [L.len]; exact hi'
 rw [hgd hi'l] at g
 have hclt := Ms hi'l
 rw [g, hcnt] at hclt
 have := agB (x := s + 2 ^ log) (q := (bX ps[sy]).toNat) (i := j) (j := j') a b (by omega) (by omega)
 have hceq : ((eF 0 log ps).take i').count (sy : Int) = ((eF 0 log ps).take i).count (sy : Int) := by omega
 rcases amD i' i with h | h | h
 .have := aaR hi'l g h; omega
 .exact h
 .have := aaR h1 h3 h; omega
end Go.Pu
namespace Go.Proofs.YtaggdjhhmbnhoaaDoor
open Go Go.En Go.Pu
set_option maxRecDepth 4000
theorem Xb.ext {w w' : anV} {base b log : Nat} {L : List T3} {v : anW} {M : Nat -> Prop} (h : Xb w base b log L v) (hx : aX w w' M) (hM : ¬ M b) : Xb w' base b log L v := ⟨h.1, h.2.1, h.2.2.ext hx hM⟩
theorem UQ {k : IntKind} {L : List T3} {i : Nat} (h : i < L.length) : ((fe k L).drop (i * 3)).take 3 = [.int k L[i].1, .int .i64 L[i].2.1, .int .i64 L[i].2.2] := by
 obtain ⟨h0, h1, h2⟩ := S4 k L i h
 apply List.ext_getElem?
 intro j
 match j with
 | 0 => rw [ajR (by omega), alB]; exact h0
 | 1 => rw [ajR (by omega), alB]; exact h1
 | 2 => rw [ajR (by omega), alB]; exact h2
 | j + 3 => rw [ajJ (by rw [ajL]; omega), ajJ (by simp)]
theorem MH (log : Nat) (ps : List Int) {i : Nat} (h : i < 2 ^ log) : ((iY log ps)[i]'(by rw [gZ]; exact h)).1 = (eF 0 log ps).getD i 0 := by
 unfold iY CT IG; simp
theorem Sa {log : Nat} {ps : List Int} (hm : MA log ps) {s : Nat} (hs : s < ps.length) (hp : ps[s] ≠ 0) : ∃ i, ∃ h : i < (iY log ps).length, ((iY log ps)[i]'h).1 = (s : Int) := by
 have L := sI hm 0
 have hc := L.cnt s hs
 have hl := hm.low _ (ajM hs)
 have hpos : 0 < (eF 0 log ps).count (s : Int) := by rw [hc]; unfold bX; split <;> omega
 obtain ⟨i, hi, e⟩ := ajT (List.count_pos_iff.1 hpos)
 have hi2 : i < 2 ^ log := by rw [<- L.len]; exact hi
 refine ⟨i, by rw [gZ]; exact hi2, ?_⟩
 rw [MH log ps hi2, ajD, aiN hi, e] <;> rfl
theorem NN {k : IntKind} {L : List T3} {i : Nat} {e : T3} (h : L[i]? = some e) : (fe k L)[i * 3]? = some (.int k e.1) /\ (fe k L)[i * 3 + 1]? = some (.int .i64 e.2.1) /\ (fe k L)[i * 3 + 2]? = some (.int .i64 e.2.2) := by
 have hi : i < L.length := by
  rcases ajI i L.length with h' | h'
  .exact h'
  .rw [ajJ h'] at h; cases h
 rw [aiN hi] at h
 have := S4 k L i hi
 rw [ajG h] at this
 exact this
def Low (L : List T3) : Prop := ∀ e ∈ L, ∃ n : Nat, e.2.1 = (n : Int) /\ n <= 20 /\ 0 <= e.2.2 /\ e.2.2 <= 100000
theorem XC {log : Nat} {ps : List Int} (hm : MA log ps) : Low (iY log ps) := by
 intro e he
 obtain ⟨i, hi', rfl⟩ := ajT he
 have hi := hi'
 rw [gZ] at hi
 have hat := Pq (ps := ps) hi
 rw [aiN hi'] at hat
 rw [ajG hat]
 have L := sI hm 0
 obtain ⟨s, hs, hg, hp1, hp2, hk, hc⟩ := PF hm L hi
 have hk2 : V8 ps (eF 0 log ps) i < 2 ^ (log + 1) := by rw [ajS]; omega
 obtain ⟨e1, e2, e3, e4⟩ := UJ (log := log) (k := V8 ps (eF 0 log ps) i) (by omega) hk2
 have h15 := hm.log15
 have hb : 2 ^ (log + 1) <= 2 ^ 16 := ajA (by omega) (by omega)
 have hpow : ((2 ^ log : Nat) : Int) = (2 : Int) ^ log := by simp
 unfold CT IG
 rw [<- hpow]
 rw [anF] at e2
 have hA := amJ (amJ (Nat.le_add_right _ _) e2) hb
 generalize hX : V8 ps (eF 0 log ps) i * 2 ^ (log + 1 - bl (V8 ps (eF 0 log ps) i)) = X at *
 refine ⟨_, rfl, by omega, ?_, ?_⟩
 .show (0 : Int) <= (X : Int) - ((2 ^ log : Nat) : Int)
  omega
 .show (X : Int) - ((2 ^ log : Nat) : Int) <= 100000
  omega
theorem X4 (s : Int) (w : anV) : aU pg AH #[.int .u8 s] w (fun r w' => ∃ b, Xb w' w.heap.size b 0 [(s, 0, 0)] r /\ aX w w' dG) := by
 refine UR ?_
 unfold XV My
 refine fI fun w1 o1 x1 s1 => ?_
 simp (disch := omega) only [aC, Su, aA]
 refine QO (cells := #[.int .u8 s, .int .i64 0, .int .i64 0]) (by decide) (by decide) (by kernel_rfl) fun w2 o2 x2 s2 => ?_
 simp (disch := omega) only [SY, aA]
 have l1 := o1.lt
 refine cI (o1.ext x2 (fun h => h)) rfl (by simp [one]) (by simp) fun w3 o3 x3 s3 => ?_
 refine lA o3 (by simp [bQ]) ?_
 simp only [bQ, aiV, aiW, aiY, aiT, aiZ]
 exact ⟨w1.heap.size, ⟨rfl, by omega, o2.ext x3 (by omega)⟩, (x1.seq x2).new x3 (aiU _)⟩
abbrev S6 (w : anV) (g : Nat) (zs : List Int) : Prop := ∀ i (h : i < zs.length), w.cell? ⟨g, i, none⟩ = some (.int .i64 zs[i])
theorem S6.ext {w w' : anV} {g : Nat} {zs : List Int} {M : Nat -> Prop} (h : S6 w g zs) (x : aX w w' M) (hM : ¬ M g) : S6 w' g zs := fun i hi => by
 have hc := h i hi
 have hg : g < w.heap.size := by
  rcases ajI g w.heap.size with h | h
  .exact h
  .unfold World.cell? at hc
   rw [amP h] at hc
   cases hc
 rw [<- hc]
 unfold World.cell?
 rw [x.keep g hg hM]
theorem S6.ld {w : anV} {g : Nat} {zs : List Int} (h : S6 w g zs) : ∀ j, j < (zs.map (Value.int .i64)).length -> w.cell? ⟨g, 0 + j, none⟩ = (zs.map (Value.int .i64))[j]? := fun j hj => by
 rw [aiX] at hj
 rw [aiR, h j hj, ajO, aiN hj] <;> rfl
theorem Kr (zs : List Int) (i : Nat) (h : i < zs.length) : zs.getD i 0 = zs[i] := by
 rw [ajD, aiN h] <;> rfl
theorem W4 (xs cs : List anW) (h : cs.length = xs.length) : bQ cs 0 xs = xs := by
 have := FV xs [] cs (by omega)
 rw [akC, alT (by omega), akM, akC] at this
 exact this
theorem Sd {w : anV} {b n : Nat} {zs : List Int} (o : cG w b (zs.map (Value.int .i64))) (h : zs.length = n) : Sl w (.slice (some ⟨b, 0, none⟩) n n) (zs.map (Value.int .i64)) := by
 refine ⟨_, _, _, rfl, by rw [aiX, h], aiU _, fun _ => ⟨_, _, rfl, fun i hi => ?_⟩⟩
 rw [o.cell, aiR]
theorem DA (zs : List Int) (n : Nat) (hz : zs.length = n) (cs : List anW) (h : cs.length = n) : bQ cs 0 (zs.map (Value.int .i64)) = zs.map (Value.int .i64) := W4 _ cs (by rw [h, aiX, hz])
theorem KL (zs : List Int) : ∀ x ∈ (zs.map (Value.int .i64)).toArray.toList, one x = true := fun x hx => by
 rw [alR] at hx
 obtain ⟨z, _, rfl⟩ := akF.1 hx
 rfl
def zCL : List Int := [1, 1, 1, 1, 2, 2, 3, 3, 4, 6, 7, 8, 9, 10, 11, 12, 13, 14, 15, 16]
def zCM : List Int := [1, 1, 1, 1, 2, 2, 3, 3, 4, 4, 5, 7, 8, 9, 10, 11, 12, 13, 14, 15, 16]
def zTL : List Int := [4, 3, 2, 2, 2, 2, 2, 2, 2, 2, 2, 2, 2, 1, 1, 1, 2, 2, 2, 2, 2, 2, 2, 2, 2, 3, 2, 1, 1, 1, 1, 1, -1, -1, -1, -1]
def zTO : List Int := [1, 1, 1, 1, 1, 1, 2, 2, 2, 1, 1, 1, 1, 1, 1, 1, 1, 1, 1, 1, 1, 1, 1, 1, -1, -1, -1, -1, -1]
def zTM : List Int := [1, 4, 3, 2, 2, 2, 2, 2, 2, 1, 1, 1, 1, 1, 1, 1, 1, 1, 1, 1, 1, 1, 1, 1, 1, 1, 1, 1, 1, 1, 1, 1, 1, 1, 1, 1, 1, 1, 1, 1, 1, 1, 1, 1, 1, 1, -1, -1, -1, -1, -1, -1, -1]
structure nX (w : anV) : Prop where
 cl : S6 w 3 zCL
 cm : S6 w 4 zCM
 tl : S6 w 0 zTL
 to : S6 w 1 zTO
 tm : S6 w 2 zTM
theorem nX.ext {w w' : anV} (h : nX w) (x : aX w w' dG) : nX w' :=
 ⟨h.cl.ext x (fun h => h), h.cm.ext x (fun h => h), h.tl.ext x (fun h => h), h.to.ext x (fun h => h), h.tm.ext x (fun h => h)⟩
def V9 (a : Int) : Int := if a = 0 then 16 else if a = 2 then 32 else 0
def aeJ (a : Int) : Int := if a = 2 then 3 else 0
def Tj (a : Int) : List Int := if a = 0 then zCL else if a = 2 then zCM else []
def kH (a : Int) : Int := if a = 0 then 35 else if a = 1 then 31 else if a = 2 then 52 else -1
theorem aaN {a : Int} {w : anV} (hg : nX w) :
 aU pg wX #[.int .i64 a] w (fun r w' => ∃ v, r = .tuple #[.int .i64 (V9 a), .int .u32 (aeJ a), v] /\ Sl w' v ((Tj a).map (Value.int .i64)) /\ aX w w' dG) := by
 refine RM ?_
 unfold TX HW V9 aeJ Tj
 by_cases h0 : a = 0
 .subst h0
  have n1 : ((0 : Int) == 0) = true := rfl
  have l1 := Uw (b := 3) (off := 0) (l := zCL.map (Value.int .i64)) rfl hg.cl.ld
  simp (disch := omega) only [aC, dJ, n1, if_true, true_and, aA, l1, aG]
  refine VB fun w2 o2 x2 s2 => ?_
  refine Ui o2 rfl (KL _) (by simp) fun w3 o3 x3 s3 => ?_
  have o3 : cG w3 w.heap.size (zCL.map (Value.int .i64)) := by
   rw [alR, DA zCL 20 rfl] at o3
   .exact o3
   .rfl
  have x13 : aX w w3 dG := x2.new x3 (by omega)
  have hsh : pB ⟨w.heap.size, 0, none⟩ 20 0 1 = ⟨w.heap.size, 0, none⟩ := Az (by decide)
  simp (disch := omega) only [Ry, hsh, aA, true_and]
  exact ⟨_, rfl, Sd (eP o3) rfl, x13.seq (aX.dr _ _)⟩
 .rw [if_neg h0, if_neg h0]
  have n1 : (a == 0) = false := beq_eq_false_iff_ne.2 h0
  by_cases h2 : a = 2
  .subst h2
   have n2 : ((2 : Int) == 2) = true := rfl
   have l1 := Ug (b := 4) (off := 0) (l := zCM.map (Value.int .i64)) rfl hg.cm.ld
   simp (disch := omega) only [aC, dJ, n1, if_true, true_and, n2, aA, aG, l1, aD]
   refine Vn fun w2 o2 x2 s2 => ?_
   refine UL o2 rfl (KL _) (by simp) fun w3 o3 x3 s3 => ?_
   have o3 : cG w3 w.heap.size (zCM.map (Value.int .i64)) := by
    rw [alR, DA zCM 21 rfl] at o3
    .exact o3
    .rfl
   have x13 : aX w w3 dG := x2.new x3 (by omega)
   have hsh : pB ⟨w.heap.size, 0, none⟩ 21 0 1 = ⟨w.heap.size, 0, none⟩ := Az (by decide)
   simp (disch := omega) only [Rn, hsh, aA, true_and]
   exact ⟨_, rfl, Sd (eP o3) rfl, x13.seq (aX.dr _ _)⟩
  .rw [if_neg h2, if_neg h2, if_neg h2]
   have n2 : (a == 2) = false := beq_eq_false_iff_ne.2 h2
   simp (disch := omega) only [aC, dJ, n1, true_and, n2, aA, aD]
   exact ⟨_, rfl, Sl.nil _, aX.refl _ _⟩
theorem Uz {a : Int} {w : anV} (hg : nX w) :
 aU pg pN #[.int .i64 a] w (fun r w' => r = .int .i64 (kH a) /\ aX w w' dG) := by
 refine Rw ?_
 unfold SQ Fk
 by_cases h1 : a = 1
 .subst h1
  have n1 : ((1 : Int) == 1) = true := rfl
  simp (disch := omega) only [aC, dJ, n1, aA, aG]
  exact ⟨rfl, aX.refl _ _⟩
 have n1 : (a == 1) = false := beq_eq_false_iff_ne.2 h1
 simp (disch := omega) only [aC, dJ, n1, aA, aD]
 refine (aaN hg).mono ?_
 rintro r w1 ⟨v, rfl, hs, x1⟩
 obtain ⟨av, cv, rfl, _⟩ := hs.lenI
 have e : V9 a + ((Tj a).length : Int) - 1 = kH a /\ -10 <= V9 a /\ V9 a <= 100 /\ (Tj a).length <= 100 := by
  unfold V9 Tj kH
  by_cases h0 : a = 0
  .subst h0; exact ⟨rfl, by decide, by decide, by decide⟩
  .by_cases h2 : a = 2
   .subst h2; exact ⟨rfl, by decide, by decide, by decide⟩
   .simp [h0, h1, h2]
 obtain ⟨e1, e2, e3, e4⟩ := e
 generalize V9 a = p at *
 generalize (Tj a).length = q at *
 simp (disch := omega) only [Wv, Ww, WA, aA, fV, bK, aW, dZ, e1, true_and]
 exact x1
end Go.Proofs.YtaggdjhhmbnhoaaDoor
namespace Go.Pu
open Go Go.En
structure Qk (B : List Bool) (l : List UInt8) : Prop where
 len : l.length = (B.length + 7) / 8
 bits : aY l = B ++ List.replicate (8 * l.length - B.length) false
theorem VV : Qk [] [] := ⟨rfl, rfl⟩
theorem Xf : IT 0 = List.replicate 8 false := by decide
theorem TH {B : List Bool} {l : List UInt8} (h : Qk B l) (h8 : B.length % 8 = 0) : aY (l ++ [0]) = B ++ List.replicate (8 * (l.length + 1) - B.length) false /\ (l ++ [(0 : UInt8)]).length = (B.length + 1 + 7) / 8 := by
 have hl := h.len
 refine ⟨?_, by rw [aiO, alJ]; omega⟩
 rw [Ht, h.bits, aY, aY, Xf, akM, ajB]
 congr 1
 rw [show 8 * l.length - B.length = 0 from by omega, show 8 * (l.length + 1) - B.length = 8 from by omega]
 rfl
theorem ZR (c : UInt8) (r : Nat) (hr : r < 8) (y : Bool) (h : c.toNat.testBit r = false) : IT (UInt8.ofNat (c.toNat + 2 ^ r * y.toNat)) = (IT c).set r y /\ c.toNat + 2 ^ r * y.toNat < 256 /\ c.toNat ||| (y.toNat * 2 ^ r) = c.toNat + 2 ^ r * y.toNat := by
 have key : ∀ (c : Fin 256) (r : Fin 8) (y : Bool), c.val.testBit r.val = false -> IT (UInt8.ofNat (c.val + 2 ^ r.val * y.toNat)) = (IT (UInt8.ofNat c.val)).set r.val y /\ c.val + 2 ^ r.val * y.toNat < 256 /\ c.val ||| (y.toNat * 2 ^ r.val) = c.val + 2 ^ r.val * y.toNat := by decide +kernel
 have := key ⟨c.toNat, akI c⟩ ⟨r, hr⟩ y h
 simpa using this
theorem TJ : ∀ (l : List UInt8) (i r : Nat) (c : UInt8) (y : Bool) (hi : i < l.length), r < 8 -> IT c = (IT l[i]).set r y -> aY (l.set i c) = (aY l).set (8 * i + r) y
 | [], i, r, c, y, hi, hr, h => by simp at hi
 | x :: l, 0, r, c, y, hi, hr, h => by
   rw [aiV, aY, aY, h, anT _ _ (by rw [pU]; omega)]
   simp
 | x :: l, i + 1, r, c, y, hi, hr, h => by
   rw [aiW, aY, aY, amF _ _ (by rw [pU]; omega), pU, TJ l i r c y (by simpa using hi) hr (by simpa using h)]
   congr 2
   omega
theorem Vp {B : List Bool} {l : List UInt8} {y : Bool} (hb : aY l = B ++ List.replicate (8 * l.length - B.length) false) (hl : l.length = (B.length + 1 + 7) / 8) :
 ∃ hi : B.length / 8 < l.length, Qk (B ++ [y]) (l.set (B.length / 8) (UInt8.ofNat ((l[B.length / 8]'hi).toNat + 2 ^ (B.length % 8) * y.toNat))) /\
   (l[B.length / 8]'hi).toNat + 2 ^ (B.length % 8) * y.toNat < 256 /\ (l[B.length / 8]'hi).toNat ||| (y.toNat * 2 ^ (B.length % 8)) = (l[B.length / 8]'hi).toNat + 2 ^ (B.length % 8) * y.toNat := by
 have hi : B.length / 8 < l.length := by omega
 have hbit := CJ l B.length (by omega)
 rw [hb, ajY (aiU _), amV, amN, if_pos (by omega)] at hbit
 have hbit := (ajG hbit).symm
 obtain ⟨h1, h2, h3⟩ := ZR _ (B.length % 8) (by omega) y hbit
 refine ⟨hi, ⟨?_, ?_⟩, h2, h3⟩
 .rw [amO, aiO, alJ]; exact hl
 .rw [TJ l _ (B.length % 8) _ y hi (by omega) h1, hb, show 8 * (B.length / 8) + B.length % 8 = B.length from by omega, amF _ _ (aiU _), amV, amO, aiO, alJ, ajB]
  congr 1
  rw [show 8 * l.length - B.length = (8 * l.length - (B.length + 1)) + 1 from by omega, akV, aiV]
  rfl
theorem Zn {B : List Bool} {l : List UInt8} (h : Qk (B ++ [true]) l) : Tk l = some B.length /\ (aY l).take B.length = B := by
 have hl := h.len
 have hb := h.bits
 rw [aiO, alJ] at hl hb
 have h0 : 0 < l.length := by omega
 have htop : (aY l)[B.length]? = some true := by
  rw [hb, ajB, ajY (aiU _), amV] <;> rfl
 have hoff : ∀ j, B.length < j -> j < 8 * l.length -> (aY l)[j]? = some false := by
  intro j h1 h2
  rw [hb, ajB, ajY (by omega), List.singleton_append, List.getElem?_cons, if_neg (by omega), amN, if_pos (by omega)]
 refine ⟨?_, by rw [hb, ajB, List.take_left'] <;> rfl⟩
 cases he : Tk l with
 | none =>
   rw [Lp h0] at he
   split at he
   .rename_i hz
    rw [CJ l _ (by omega)] at htop
    have e : B.length / 8 = l.length - 1 := by omega
    simp only [e, hz] at htop
    simp at htop
   .cases he
 | some k =>
   obtain ⟨_, h1, _, h2, h3⟩ := O4 he
   rcases amD k B.length with h | h | h
   .rw [h3 _ h (by omega)] at htop; simp at htop
   .rw [h]
   .rw [hoff _ h h1] at h2; simp at h2
theorem Va {x n : Nat} (h : x < 2 ^ n) : uJ (eD x n) = x := by rw [RQ, ajP h]
theorem Xj {B : List Bool} {x n : Nat} (h : x < 2 ^ n) : Bt (B ++ eD x n) n = x := by
 unfold Bt
 rw [aiO, bR, show min n (B.length + n) = n from by omega, amV, alC, anI, Va h]; simp
def oY (k : Nat) : List Nat := if k = 0 then [0, 1, 2, 3, 4, 5, 6, 7, 8, 9, 10, 11, 12, 13, 14, 15, 16, 18, 20, 22, 24, 28, 32, 40, 48, 64, 128, 256, 512, 1024, 2048, 4096, 8192, 16384, 32768, 65536]
 else if k = 1 then [1, 2, 4, 8, 16, 32, 64, 128, 256, 512, 1024, 2048, 4096, 8192, 16384, 32768, 65536, 131072, 262144, 524288, 1048576, 2097152, 4194304, 8388608, 16777216, 33554432, 67108864, 134217728, 268435456, 536870912, 1073741824, 2147483648]
 else [3, 4, 5, 6, 7, 8, 9, 10, 11, 12, 13, 14, 15, 16, 17, 18, 19, 20, 21, 22, 23, 24, 25, 26, 27, 28, 29, 30, 31, 32, 33, 34, 35, 37, 39, 41, 43, 47, 51, 59, 67, 83, 99, 131, 259, 515, 1027, 2051, 4099, 8195, 16387, 32771, 65539]
def iM (k : Nat) : List Nat := if k = 0 then [0, 0, 0, 0, 0, 0, 0, 0, 0, 0, 0, 0, 0, 0, 0, 0, 1, 1, 1, 1, 2, 2, 3, 3, 4, 6, 7, 8, 9, 10, 11, 12, 13, 14, 15, 16]
 else if k = 1 then List.range 32
 else [0, 0, 0, 0, 0, 0, 0, 0, 0, 0, 0, 0, 0, 0, 0, 0, 0, 0, 0, 0, 0, 0, 0, 0, 0, 0, 0, 0, 0, 0, 0, 0, 1, 1, 1, 1, 2, 2, 3, 3, 4, 4, 5, 7, 8, 9, 10, 11, 12, 13, 14, 15, 16]
abbrev iO (k : Nat) : Nat := (oY k).length
theorem Ty {k : Nat} (h : k < 3) (c : Nat) (hc : c + 1 < iO k) : (oY k).getD (c + 1) 0 = (oY k).getD c 0 + 2 ^ (iM k).getD c 0 := by
 have h0 : ∀ c, c < 53 -> c + 1 < iO 0 -> (oY 0).getD (c + 1) 0 = (oY 0).getD c 0 + 2 ^ (iM 0).getD c 0 := by decide +kernel
 have h1 : ∀ c, c < 53 -> c + 1 < iO 1 -> (oY 1).getD (c + 1) 0 = (oY 1).getD c 0 + 2 ^ (iM 1).getD c 0 := by decide +kernel
 have h2 : ∀ c, c < 53 -> c + 1 < iO 2 -> (oY 2).getD (c + 1) 0 = (oY 2).getD c 0 + 2 ^ (iM 2).getD c 0 := by decide +kernel
 have hl : iO k <= 53 := by rcases (show k = 0 ∨ k = 1 ∨ k = 2 by omega) with rfl | rfl | rfl <;> decide
 rcases (show k = 0 ∨ k = 1 ∨ k = 2 by omega) with rfl | rfl | rfl
 .exact h0 c (by omega) hc
 .exact h1 c (by omega) hc
 .exact h2 c (by omega) hc
theorem RE {k : Nat} (h : k < 3) (c : Nat) : (iM k).getD c 0 <= 31 := by
 have : ∀ x ∈ iM k, x <= 31 := by
  rcases (show k = 0 ∨ k = 1 ∨ k = 2 by omega) with rfl | rfl | rfl <;> decide
 rw [ajD]
 cases hc : (iM k)[c]? with
 | none => simp
 | some x => simpa using this x (alD hc)
theorem aeK {k : Nat} (h : k < 3) (c : Nat) (hc : c < iO k) : (oY k).getD c 0 + 2 ^ (iM k).getD c 0 <= 4294967296 := by
 have h0 : ∀ c, c < 53 -> c < iO 0 -> (oY 0).getD c 0 + 2 ^ (iM 0).getD c 0 <= 4294967296 := by decide +kernel
 have h1 : ∀ c, c < 53 -> c < iO 1 -> (oY 1).getD c 0 + 2 ^ (iM 1).getD c 0 <= 4294967296 := by decide +kernel
 have h2 : ∀ c, c < 53 -> c < iO 2 -> (oY 2).getD c 0 + 2 ^ (iM 2).getD c 0 <= 4294967296 := by decide +kernel
 have hl : iO k <= 53 := by rcases (show k = 0 ∨ k = 1 ∨ k = 2 by omega) with rfl | rfl | rfl <;> decide
 rcases (show k = 0 ∨ k = 1 ∨ k = 2 by omega) with rfl | rfl | rfl
 .exact h0 c (by omega) hc
 .exact h1 c (by omega) hc
 .exact h2 c (by omega) hc
def oJ (k v c : Nat) : Prop := c < iO k /\ (oY k).getD c 0 <= v /\ v < (oY k).getD c 0 + 2 ^ (iM k).getD c 0
theorem GV {k : Nat} (h : k < 3) : ∀ {c d : Nat}, c < d -> d < iO k -> (oY k).getD c 0 + 2 ^ (iM k).getD c 0 <= (oY k).getD d 0
 | c, d + 1, hcd, hd => by
   have e := Ty h d (by omega)
   rcases ajI c d with h' | h'
   .have := GV h h' (by omega)
    have := ajU ((iM k).getD d 0)
    omega
   .have : c = d := by omega
    subst this; omega
theorem oJ.one {k v c d : Nat} (hk : k < 3) (hc : oJ k v c) (hd : oJ k v d) : c = d := by
 rcases amD c d with h | h | h
 .have := GV hk h hd.1; have := hc.2.2; have := hd.2.1; omega
 .exact h
 .have := GV hk h hc.1; have := hd.2.2; have := hc.2.1; omega
theorem oJ.lt {k v c : Nat} (hk : k < 3) (hc : oJ k v c) : v < 4294967296 := by
 have := aeK hk c hc.1; have := hc.2.2; omega
structure Sq where
 ll : Nat
 ml : Nat
 of : Nat
deriving DecidableEq
def sAt (L : List (Int × Int × Int)) (s : Int) : Nat := if 0 <= s then (match L[s.toNat]? with | some e => e.1.toNat | none => 0) else 0
def bAt (L : List (Int × Int × Int)) (s : Int) : Nat := if 0 <= s then (match L[s.toNat]? with | some e => e.2.1.toNat | none => 0) else 0
def nAt (L : List (Int × Int × Int)) (s : Int) (x : Nat) : Int := if 0 <= s then (match L[s.toNat]? with | some e => e.2.2 + x | none => 0) else 0
def WJ (B : List Bool) (left : Int) (n : Nat) : Nat := Bt (B.take left.toNat) n
def vR (k : Nat) (L : List (Int × Int × Int)) (s : Int) (B : List Bool) (left : Int) : Nat × Int :=
 ((oY k).getD (sAt L s) 0 + WJ B left ((iM k).getD (sAt L s) 0), left - (iM k).getD (sAt L s) 0)
def nR (L : List (Int × Int × Int)) (s : Int) (B : List Bool) (left : Int) : Int × Int := (nAt L s (WJ B left (bAt L s)), left - bAt L s)
def sqR (L0 L1 L2 : List (Int × Int × Int)) (B : List Bool) : Nat -> Int -> Int -> Int -> Int -> List Sq × Int
 | 0, _, _, _, left => ([], left)
 | n + 1, s0, s1, s2, left =>
   let o := vR 1 L1 s1 B left
   let m := vR 2 L2 s2 B o.2
   let l := vR 0 L0 s0 B m.2
   if n = 0 then ([⟨l.1, m.1, o.1⟩], l.2)
   else
    let a := nR L0 s0 B l.2
    let c := nR L2 s2 B a.2
    let b := nR L1 s1 B c.2
    let r := sqR L0 L1 L2 B n a.1 b.1 c.1 b.2
    (⟨l.1, m.1, o.1⟩ :: r.1, r.2)
def ValB (k : Nat) (L : List (Int × Int × Int)) (s v : Nat) (u : List Bool) : Prop :=
 ∃ (c : Nat) (e : Int × Int × Int), oJ k v c /\ L[s]? = some e /\ e.1 = c /\ u = eD (v - (oY k).getD c 0) ((iM k).getD c 0)
def StB (L : List (Int × Int × Int)) (s t : Nat) (u : List Bool) : Prop :=
 ∃ (e : Int × Int × Int) (n x : Nat), L[s]? = some e /\ e.2.1 = n /\ x < 2 ^ n /\ e.2.2 + (x : Int) = (t : Int) /\ u = eD x n
inductive Enc (L0 L1 L2 : List (Int × Int × Int)) : List Sq -> Nat -> Nat -> Nat -> List Bool -> Prop
 | one {q : Sq} {s0 s1 s2 : Nat} {v0 v1 v2 : List Bool} : ValB 0 L0 s0 q.ll v0 -> ValB 1 L1 s1 q.of v1 -> ValB 2 L2 s2 q.ml v2 -> Enc L0 L1 L2 [q] s0 s1 s2 (v0 ++ v2 ++ v1)
 | cons {q p : Sq} {r : List Sq} {s0 s1 s2 t0 t1 t2 : Nat} {B u0 u1 u2 v0 v1 v2 : List Bool} : Enc L0 L1 L2 (p :: r) t0 t1 t2 B -> StB L1 s1 t1 u1 -> StB L2 s2 t2 u2 -> StB L0 s0 t0 u0 →
  ValB 0 L0 s0 q.ll v0 -> ValB 1 L1 s1 q.of v1 -> ValB 2 L2 s2 q.ml v2 -> Enc L0 L1 L2 (q :: p :: r) s0 s1 s2 (B ++ u1 ++ u2 ++ u0 ++ v0 ++ v2 ++ v1)
theorem SW {T B X u : List Bool} {x n : Nat} (hT : T.take (X ++ u).length = X ++ u) (hu : u = eD x n) (hx : x < 2 ^ n) : WJ T ((X ++ u).length : Nat) n = x /\ (((X ++ u).length : Nat) : Int) - n = ((X.length : Nat) : Int) /\ T.take X.length = X := by
 subst hu
 have hl : (X ++ eD x n).length = X.length + n := by rw [aiO, bR]
 refine ⟨?_, by omega, ?_⟩
 .unfold WJ
  rw [aiM, hT, Xj hx]
 .have := congrArg (List.take X.length) hT
  rw [List.take_take, akO (by omega), List.take_append_of_le_length (aiU _), alG (aiU _)] at this
  exact this
theorem Pw {T X u : List Bool} {k : Nat} {L : List (Int × Int × Int)} {s v : Nat} (h : ValB k L s v u) (hT : T.take (X ++ u).length = X ++ u) : vR k L s T ((X ++ u).length : Nat) = (v, ((X.length : Nat) : Int)) /\ T.take X.length = X := by
 obtain ⟨c, e, hc, he, hec, hu⟩ := h
 have hs : sAt L s = c := by unfold sAt; rw [if_pos (by omega)]; simp [he, hec]
 obtain ⟨h1, h2, h3⟩ := SW (B := []) hT hu (by have := hc.2.2; have := hc.2.1; omega)
 refine ⟨?_, h3⟩
 unfold vR
 rw [hs, h1, h2]
 have := hc.2.1
 congr 1
 omega
theorem Xh {T X u : List Bool} {L : List (Int × Int × Int)} {s t : Nat} (h : StB L s t u) (hT : T.take (X ++ u).length = X ++ u) : nR L s T ((X ++ u).length : Nat) = ((t : Int), ((X.length : Nat) : Int)) /\ T.take X.length = X := by
 obtain ⟨e, n, x, he, hn, hx, ht, hu⟩ := h
 have hb : bAt L s = n := by unfold bAt; rw [if_pos (by omega)]; simp [he, hn]
 obtain ⟨h1, h2, h3⟩ := SW (B := []) hT hu hx
 refine ⟨?_, h3⟩
 unfold nR
 rw [hb, h1, h2]
 congr 1
 unfold nAt
 rw [if_pos (by omega)]
 simp only [aiM, he]
 exact ht
theorem ZN {L0 L1 L2 : List (Int × Int × Int)} {T : List Bool} {qs : List Sq} {s0 s1 s2 : Nat} {B : List Bool} (h : Enc L0 L1 L2 qs s0 s1 s2 B) : T.take B.length = B -> sqR L0 L1 L2 T qs.length s0 s1 s2 (B.length : Nat) = (qs, 0) := by
 induction h with
 | @one q s0 s1 s2 v0 v1 v2 h0 h1 h2 =>
   intro hT
   obtain ⟨a1, a2⟩ := Pw h1 hT
   obtain ⟨b1, b2⟩ := Pw h2 a2
   have b2' : T.take ([] ++ v0).length = [] ++ v0 := by simpa using b2
   obtain ⟨c1, c2⟩ := Pw h0 b2'
   rw [akC] at c1
   show sqR L0 L1 L2 T (0 + 1) s0 s1 s2 _ = _
   rw [sqR]
   simp only [a1, b1, c1, if_true]
   rfl
 | @cons q p r s0 s1 s2 t0 t1 t2 B u0 u1 u2 v0 v1 v2 he g1 g2 g0 h0 h1 h2 ih =>
   intro hT
   obtain ⟨a1, a2⟩ := Pw h1 hT
   obtain ⟨b1, b2⟩ := Pw h2 a2
   obtain ⟨c1, c2⟩ := Pw h0 b2
   obtain ⟨d1, d2⟩ := Xh g0 c2
   obtain ⟨e1, e2⟩ := Xh g2 d2
   obtain ⟨f1, f2⟩ := Xh g1 e2
   have ih := ih f2
   show sqR L0 L1 L2 T ((r.length + 1) + 1) s0 s1 s2 _ = _
   rw [sqR, if_neg (by omega)]
   simp only [a1, b1, c1, d1, e1, f1]
   rw [show r.length + 1 = (p :: r).length from rfl, ih]
def tG (k : Nat) : Nat := if k = 0 then 16 else 32
def uB (k : Nat) : Nat := if k = 2 then 3 else 0
theorem Nc {k : Nat} (h : k = 0 ∨ k = 2) : tG k < iO k /\ iO k <= 53 := by rcases h with rfl | rfl <;> decide
theorem UE {k : Nat} (h : k = 0 ∨ k = 2) {c : Nat} (hc : c < tG k) : (oY k).getD c 0 = uB k + c /\ (iM k).getD c 0 = 0 := by
 have h0 : ∀ c, c < 32 -> c < tG 0 -> (oY 0).getD c 0 = uB 0 + c /\ (iM 0).getD c 0 = 0 := by decide +kernel
 have h2 : ∀ c, c < 32 -> c < tG 2 -> (oY 2).getD c 0 = uB 2 + c /\ (iM 2).getD c 0 = 0 := by decide +kernel
 have h32 : tG k <= 32 := by rcases h with rfl | rfl <;> decide
 rcases h with rfl | rfl
 .exact h0 c (by omega) hc
 .exact h2 c (by omega) hc
theorem adO {k : Nat} (h : k = 0 ∨ k = 2) : (oY k).getD (tG k) 0 = uB k + tG k := by rcases h with rfl | rfl <;> decide
theorem acI {c : Nat} (hc : c < 32) : (oY 1).getD c 0 = 2 ^ c /\ (iM 1).getD c 0 = c := by
 have h0 : ∀ c, c < 32 -> (oY 1).getD c 0 = 2 ^ c /\ (iM 1).getD c 0 = c := by decide +kernel
 exact h0 c hc
def eS (k : Nat) : Nat -> Nat
 | 0 => (oY k).getD (tG k) 0
 | i + 1 => eS k i + 2 ^ ((iM k).getD (tG k + i) 0)
theorem Tu {k : Nat} (h : k < 3) : ∀ i, tG k + i < iO k -> eS k i = (oY k).getD (tG k + i) 0
 | 0, _ => rfl
 | i + 1, hi => by
   rw [eS, Tu h i (by omega), <- alL, Ty h _ (by omega)]
theorem agK {k : Nat} (h : k = 0 ∨ k = 2) {c : Nat} (hc : c < iO k) : (oY k).getD c 0 + 2 ^ (iM k).getD c 0 <= 131075 := by
 have h0 : ∀ c, c < 53 -> c < iO 0 -> (oY 0).getD c 0 + 2 ^ (iM 0).getD c 0 <= 131075 := by decide +kernel
 have h2 : ∀ c, c < 53 -> c < iO 2 -> (oY 2).getD c 0 + 2 ^ (iM 2).getD c 0 <= 131075 := by decide +kernel
 have := (Nc h).2
 rcases h with rfl | rfl
 .exact h0 c (by omega) hc
 .exact h2 c (by omega) hc
theorem agO {k : Nat} (h : k = 0 ∨ k = 2) : ∀ {i : Nat}, tG k + i <= iO k -> eS k i <= 131075
 | 0, _ => by rcases h with rfl | rfl <;> decide
 | i + 1, hi => by
   rw [eS, Tu (by omega) i (by omega)]
   exact agK h (by omega)
theorem acW {k : Nat} (h : k = 0 ∨ k = 2) {c : Nat} (hc : c < iO k) : (iM k).getD c 0 <= 16 := by
 have h0 : ∀ c, c < 53 -> c < iO 0 -> (iM 0).getD c 0 <= 16 := by decide +kernel
 have h2 : ∀ c, c < 53 -> c < iO 2 -> (iM 2).getD c 0 <= 16 := by decide +kernel
 have := (Nc h).2
 rcases h with rfl | rfl
 .exact h0 c (by omega) hc
 .exact h2 c (by omega) hc
theorem WX {k v : Nat} (h : k = 0 ∨ k = 2) (hv : v < uB k) (c : Nat) : ¬ oJ k v c := by
 intro hc
 have h0 : (oY k).getD 0 0 = uB k := (UE h (c := 0) (by unfold tG; split <;> omega)).1
 rcases alK c with rfl | h1
 .have := hc.2.1; omega
 .have := GV (show k < 3 by omega) h1 hc.1
  have := ajU ((iM k).getD 0 0)
  have := hc.2.1; omega
theorem VA (c : Nat) : ¬ oJ 1 0 c := by
 intro hc
 have h1 : c < 32 := hc.1
 have := (acI h1).1
 have := ajU c
 have := hc.2.1
 omega
theorem Vd {k v : Nat} (h : k = 0 ∨ k = 2) (hv : eS k (iO k - tG k) <= v) (c : Nat) : ¬ oJ k v c := by
 intro hc
 have hp := (Nc h).1
 have h1 := hc.1
 obtain ⟨m, hm⟩ : ∃ m, iO k - tG k = m + 1 := ⟨iO k - tG k - 1, by omega⟩
 rw [hm, eS, Tu (by omega) m (by omega), show tG k + m = iO k - 1 by omega] at hv
 rcases ajI c (iO k - 1) with h2 | h2
 .have := GV (show k < 3 by omega) h2 (by omega)
  have := ajU ((iM k).getD (iO k - 1) 0)
  have := hc.2.2; omega
 .have : c = iO k - 1 := by omega
  subst this
  have := hc.2.2; omega
theorem Wh {v : Nat} (h0 : 0 < v) (hv : v < 4294967296) : oJ 1 v (bl v - 1) := by
 have h1 := EY (k := v) (by omega)
 have h2 := Ox (k := v) (by omega)
 have h3 := Qz v
 have h4 : bl v <= 32 := qE (n := 32) hv
 have h5 := acI (c := bl v - 1) (by omega)
 refine ⟨show bl v - 1 < 32 by omega, by rw [h5.1]; exact h2, ?_⟩
 rw [h5.1, h5.2, <- Nat.two_mul, akT, <- ajS, show (bl v - 1).succ = bl v by omega]
 exact h3
theorem SO {k v : Nat} (h : k = 0 ∨ k = 2) (hl : uB k <= v) (hv : v - uB k < tG k) : oJ k v (v - uB k) := by
 have hp := UE h hv
 have := (Nc h).1
 exact ⟨by omega, by omega, by rw [hp.1, hp.2]; omega⟩
theorem Tv {k v i : Nat} (h : k = 0 ∨ k = 2) (hi : tG k + i < iO k) (hl : eS k i <= v) (hv : v < eS k i + 2 ^ ((iM k).getD (tG k + i) 0)) : oJ k v (tG k + i) := by
 rw [Tu (by omega) i hi] at hl hv
 exact ⟨hi, hl, hv⟩
end Go.Pu
namespace Go.Proofs.YtaggdjhhmbnhoaaDoor
open Go Go.En Go.Pu
set_option maxRecDepth 4000
theorem acP (x : Nat) (hx : x < 4294967296) (w : anV) : aU pg mI #[.int .u32 x] w (fun r w' => r = .int .i64 (bl x : Nat) /\ w' = w) := by
 refine Kq ?_
 unfold I0 vX wF
 have last : ∀ (y n : Nat), y < 256 -> n <= 64 -> n + bl y = bl x -> lJ (fun r w' => r = .int .i64 (bl x : Nat) /\ w' = w) (.int .u32 y) (.int .i64 n) w := by
  intro y n hy hn e
  have hg := Sv y hy
  have hs := GL
  have hb : bl y <= 8 := qE (n := 8) (by omega)
  unfold lJ
  change aC pg _ w fun t21 w => aC pg (GH 9 (.string T8) t21) w _
  simp (disch := omega) only [aC, Rr, LR, aA, O6, aiM, hg, pC, aW, bK, and_true]
  rw [<- e] <;> rfl
 have step8 : ∀ (y n : Nat), y < 65536 -> n <= 32 -> n + bl y = bl x -> pG (fun r w' => r = .int .i64 (bl x : Nat) /\ w' = w) (.int .u32 y) (.int .i64 n) w := by
  intro y n hy hn e
  unfold pG vY
  by_cases h : 256 <= y
  .have d : decide ((256 : Int) <= (y : Int)) = true := by simp; omega
   have sh : ((y : Int)).fdiv (2 ^ (min 8 IntKind.u32.bits)) = ((y / 2 ^ 8 : Nat) : Int) := by
    rw [show min 8 IntKind.u32.bits = 8 from rfl, <- KR]; simp
   have hq : y / 2 ^ 8 < 256 := by omega
   have := KB (x := y) (j := 8) (by omega)
   have e2 : (n : Int) + 8 = ((n + 8 : Nat) : Int) := by omega
   simp (disch := omega) only [aC, rX, d, tH, bK, e2, aW, aA, aG]
   rw [show (8 : Int).toNat = 8 from rfl, sh]
   exact last _ _ hq (by omega) (by rw [<- e, this]; omega)
  .have d : decide ((256 : Int) <= (y : Int)) = false := by simp; omega
   simp (disch := omega) only [aC, rX, d, tH, bK, aW, aA, aD]
   exact last _ _ (by omega) (by omega) e
 by_cases h : 65536 <= x
 .have d : decide ((65536 : Int) <= (x : Int)) = true := by simp; omega
  have sh : ((x : Int)).fdiv (2 ^ (min 16 IntKind.u32.bits)) = ((x / 2 ^ 16 : Nat) : Int) := by
   rw [show min 16 IntKind.u32.bits = 16 from rfl, <- KR]; simp
  have hq : x / 2 ^ 16 < 65536 := by omega
  have := KB (x := x) (j := 16) (by omega)
  simp (disch := omega) only [aC, rX, d, tH, aA, aG]
  rw [show (16 : Int).toNat = 16 from rfl, sh]
  exact step8 _ 16 hq (by omega) (by rw [this]; omega)
 .have d : decide ((65536 : Int) <= (x : Int)) = false := by simp; omega
  simp (disch := omega) only [aC, rX, d, tH, aA, aD]
  exact step8 _ 0 (by omega) (by omega) (by omega)
theorem TZ {k : Nat} (h : k = 0 ∨ k = 2) : V9 (k : Int) = tG k /\ aeJ (k : Int) = uB k /\ (Tj (k : Int)).length = iO k - tG k := by
 rcases h with rfl | rfl <;> exact ⟨rfl, rfl, rfl⟩
theorem Wn {k : Nat} (h : k = 0 ∨ k = 2) {i : Nat} (hi : tG k + i < iO k) : (Tj (k : Int))[i]? = some (((iM k).getD (tG k + i) 0 : Nat) : Int) := by
 have h0 : ∀ i, i < 53 -> tG 0 + i < iO 0 -> (Tj ((0 : Nat) : Int))[i]? = some (((iM 0).getD (tG 0 + i) 0 : Nat) : Int) := by decide +kernel
 have h2 : ∀ i, i < 53 -> tG 2 + i < iO 2 -> (Tj ((2 : Nat) : Int))[i]? = some (((iM 2).getD (tG 2 + i) 0 : Nat) : Int) := by decide +kernel
 have := (Nc h).2
 rcases h with rfl | rfl
 .exact h0 i (by omega) hi
 .exact h2 i (by omega) hi
theorem VI {k : Nat} (h : k < 3) : kH (k : Int) = ((iO k : Nat) : Int) - 1 := by
 rcases (show k = 0 ∨ k = 1 ∨ k = 2 by omega) with rfl | rfl | rfl <;> rfl
theorem RA {n : Nat} (hn : n <= 31) : IntKind.u32.wrap (1 * 2 ^ (min n IntKind.u32.bits)) = ((2 ^ n : Nat) : Int) := by
 have hb : min n IntKind.u32.bits = n := akO (by have : IntKind.u32.bits = 32 := rfl
                                                 omega)
 have hp : 2 ^ n <= 2 ^ 31 := ajA (by omega) hn
 rw [hb, Int.one_mul]
 have e : (2 : Int) ^ n = ((2 ^ n : Nat) : Int) := by simp
 rw [e]
 generalize 2 ^ n = y at *
 rw [show IntKind.u32.wrap (y : Int) = (y : Int) % 4294967296 from rfl]
 omega
theorem ZC {k c : Nat} {w : anV} (hg : nX w) (hk : k < 3) (hc : c < iO k) :
 aU pg yP #[.int .i64 k, .int .i64 c] w (fun r w' => r = .tuple #[.int .u32 ((oY k).getD c 0 : Nat), .int .i64 ((iM k).getD c 0 : Nat), .int .i64 0] /\ aX w w' dG) := by
 refine QR ?_
 have hl53 : iO k <= 53 := by rcases (show k = 0 ∨ k = 1 ∨ k = 2 by omega) with rfl | rfl | rfl <;> decide
 unfold S1 FH Fy
 simp (disch := omega) only [aC, bD, dJ, iX, aiM, aA, AX, VF, cD]
 refine (Uz hg).mono ?_
 rintro r w1 ⟨rfl, x1⟩
 rw [VI hk]
 have d1 : decide (((iO k : Nat) : Int) - 1 < 0) = false := by simp; omega
 have d2 : decide ((c : Int) < 0) = false := by simp
 have d3 : decide (((iO k : Nat) : Int) - 1 < (c : Int)) = false := by simp; omega
 by_cases h1 : k = 1
 .subst h1
  have n1 : (((1 : Nat) : Int) == 1) = true := rfl
  have hc32 : c < 32 := hc
  have hs := RA (n := c) (by omega)
  have ho := acI hc32
  rw [ho.1, ho.2]
  simp (disch := omega) only [bD, d1, d2, eU, aiS, if_false, n1, hs, true_and, aG, cB, fD, d3, aA, aD]
  first | exact x1 | exact ⟨rfl, x1⟩
 have n1 : ((k : Int) == 1) = false := beq_eq_false_iff_ne.2 (by omega)
 have h02 : k = 0 ∨ k = 2 := by omega
 simp (disch := omega) only [bD, d1, d2, eU, aiS, if_false, n1, aD, cB, fD, d3, aA]
 refine (aaN (hg.ext x1)).mono ?_
 rintro r w2 ⟨mv, rfl, hs, x2⟩
 obtain ⟨rp, ra, rl⟩ := TZ h02
 rw [rp, ra]
 have hpl := Nc h02
 have hlow : uB k <= 3 := by unfold uB; split <;> omega
 have x12 := x1.seq x2
 by_cases hcp : c < tG k
 .have d4 : decide ((c : Int) < ((tG k : Nat) : Int)) = true := by simp; omega
  have hp := UE h02 hcp
  have e1 : IntKind.u32.wrap (c : Int) = c := by rw [show IntKind.u32.wrap (c : Int) = (c : Int) % 4294967296 from rfl]; omega
  have e2 : IntKind.u32.wrap (((uB k : Nat) : Int) + (c : Int)) = ((uB k + c : Nat) : Int) := by rw [show IntKind.u32.wrap (((uB k : Nat) : Int) + (c : Int)) = (((uB k : Nat) : Int) + (c : Int)) % 4294967296 from rfl]; omega
  rw [hp.1, hp.2]
  simp (disch := omega) only [Wv, Ww, WA, aA, bK, e2, bD, d4, AX, VF, aG]
  first | exact x12 | exact ⟨rfl, x12⟩
 .have d4 : decide ((c : Int) < ((tG k : Nat) : Int)) = false := by simp; omega
  obtain ⟨j, hj⟩ : ∃ j, c = tG k + j := ⟨c - tG k, by omega⟩
  have e1 : IntKind.u32.wrap ((tG k : Nat) : Int) = ((tG k : Nat) : Int) := by rw [show IntKind.u32.wrap ((tG k : Nat) : Int) = ((tG k : Nat) : Int) % 4294967296 from rfl]; omega
  have e2 : IntKind.u32.wrap (((uB k : Nat) : Int) + ((tG k : Nat) : Int)) = ((eS k 0 : Nat) : Int) := by
   rw [eS, adO h02, show IntKind.u32.wrap (((uB k : Nat) : Int) + ((tG k : Nat) : Int)) = (((uB k : Nat) : Int) + ((tG k : Nat) : Int)) % 4294967296 from rfl]; omega
  have e3 : (c : Int) - ((tG k : Nat) : Int) = (j : Int) := by omega
  simp (disch := omega) only [Wv, Ww, WA, aA, bK, VF, bD, d4, AX, e1, e2, aD]
  unfold Fe Fa Ga
  obtain ⟨av, cv, rfl, hcv⟩ := hs.lenI
  have hs0 := hs
  obtain ⟨b, off, c', hv, hcc, hcell⟩ := hs.openI (by omega)
  cases hv
  have hget : ∀ i, tG k + i < iO k -> w2.cell? ⟨b, off + i, none⟩ = some (.int .i64 ((iM k).getD (tG k + i) 0 : Nat)) := by
   intro i hi
   have h1 := hcell i (by omega)
   have h2 := Wn h02 hi
   rw [aiN (by omega)] at h2
   rw [h1, ajG h2]
  have hsh : gU (some ⟨b, off, none⟩) cv 0 1 = some ⟨b, off, none⟩ := by unfold gU; split <;> simp [Addr.add]
  simp (disch := omega) only [aC, dZ, e3, aW, rl, aA, UK, hsh, aiM, anG, fV]
  unfold Fw FW
  refine cO.rule (fun m (t : anW × anW) w' => ∃ i : Nat, m = j - i /\ i <= j /\ t = (.int .u32 (eS k i : Nat), .int .i64 i) /\ w' = w2) j ⟨0, rfl, by omega, rfl, rfl⟩ ?_
  rintro m t w3 ⟨i, rfl, hi, rfl, hw⟩
  rw [hw]; clear hw w3
  unfold AP
  by_cases hlt : i < j
  .have d5 : decide ((i : Int) < (j : Int)) = true := by simp; omega
   have g1 := hget i (by omega)
   have ha := acW h02 (c := tG k + i) (by omega)
   have hsl := RA (n := (iM k).getD (tG k + i) 0) (by omega)
   have hle := agO h02 (i := i + 1) (by omega)
   have hes : eS k (i + 1) = eS k i + 2 ^ ((iM k).getD (tG k + i) 0) := rfl
   have e5 : IntKind.u32.wrap (((eS k i : Nat) : Int) + ((2 ^ ((iM k).getD (tG k + i) 0) : Nat) : Int)) = ((eS k (i + 1) : Nat) : Int) := by
    rw [show IntKind.u32.wrap (((eS k i : Nat) : Int) + ((2 ^ ((iM k).getD (tG k + i) 0) : Nat) : Int)) = (((eS k i : Nat) : Int) + ((2 ^ ((iM k).getD (tG k + i) 0) : Nat) : Int)) % 4294967296 from rfl]
    omega
   generalize (iM k).getD (tG k + i) 0 = nn at *
   simp (disch := omega) only [aC, bD, d5, dS, aiM, bK, aW, aA, cP, g1, aI, iX, hsl, e5, and_true, aG]
   exact ⟨j - (i + 1), by omega, i + 1, rfl, by omega, rfl⟩
  .have d5 : decide ((i : Int) < (j : Int)) = false := by simp; omega
   obtain rfl : i = j := by omega
   have g1 := hget i (by omega)
   have g2 : (dr w2).cell? ⟨b, off + i, none⟩ = some (.int .i64 ((iM k).getD (tG k + i) 0 : Nat)) := g1
   simp (disch := omega) only [aC, bD, d5, bK, aW, aA, aD]
   unfold A1
   have hat := Tu hk i (by omega)
   rw [<- hj] at hat g2
   simp (disch := omega) only [aC, dZ, e3, aW, true_and, aA, dS, aiM, cP, g2, aI]
   exact ⟨by rw [hat], x12.seq (aX.dr _ _)⟩
def OfR (k v : Nat) (r : anW) : Prop :=
 (∃ c, oJ k v c /\ r = .tuple #[.int .i64 c, .int .u32 (v - (oY k).getD c 0 : Nat), .int .i64 0]) ∨ ((∀ c, ¬ oJ k v c) /\ r = .tuple #[.int .i64 0, .int .u32 0, .int .i64 17])
theorem w32 {x : Int} (h0 : 0 <= x) (h1 : x < 4294967296) : IntKind.u32.wrap x = x := by
 rw [show IntKind.u32.wrap x = x % 4294967296 from rfl]; omega
theorem ahO {k v : Nat} {w : anV} (hg : nX w) (hk : k < 3) (hv : v < 4294967296) :
 aU pg Ii #[.int .i64 k, .int .u32 v] w (fun r w' => OfR k v r /\ aX w w' dG) := by
 refine Tc ?_
 obtain ⟨RR, hRR⟩ : ∃ RR : anW -> anV -> Prop, RR = fun r w' => OfR k v r /\ aX w w' dG := ⟨_, rfl⟩
 rw [<- hRR]
 have hl53 : iO k <= 53 := by rcases (show k = 0 ∨ k = 1 ∨ k = 2 by omega) with rfl | rfl | rfl <;> decide
 have hl1 : 1 <= iO k := by rcases (show k = 0 ∨ k = 1 ∨ k = 2 by omega) with rfl | rfl | rfl <;> decide
 unfold Vy KM J7
 refine (aaN hg).mono ?_
 rintro r w1 ⟨mv, rfl, hs, x1⟩
 simp (disch := omega) only [aC, Wv, Ww, WA, dJ, true_and, aA, cD, bD, dZ, Tl, AX]
 refine (Uz (hg.ext x1)).mono ?_
 rintro r w2 ⟨rfl, x2⟩
 have x12 := x1.seq x2
 have hs := hs.ext x2 (bY _)
 rw [VI hk]
 have d1 : decide (((iO k : Nat) : Int) - 1 < 0) = false := by simp; omega
 by_cases h1 : k = 1
 .subst h1
  have n1 : (((1 : Nat) : Int) == 1) = true := rfl
  by_cases hv0 : v = 0
  .subst hv0
   have n2 : (((0 : Nat) : Int) == 0) = true := rfl
   simp (disch := omega) only [bD, d1, n1, BL, if_true, aG, cB, dJ, n2, aA, aD]
   rw [hRR]
   exact ⟨.inr ⟨VA, rfl⟩, x12⟩
  .have n2 : ((v : Int) == 0) = false := beq_eq_false_iff_ne.2 (by omega)
   simp (disch := omega) only [bD, d1, n1, BL, if_true, aG, cB, dJ, n2, aA, aD]
   refine (acP v hv w2).mono ?_
   rintro r w3 ⟨rfl, hw⟩
   rw [hw]; clear hw w3
   have hc := Wh (by omega) hv
   have hb1 := EY (k := v) hv0
   have hb4 : bl v <= 32 := qE (n := 32) hv
   have hbl := Ox (k := v) hv0
   obtain ⟨j, hj⟩ : ∃ j, j = bl v - 1 := ⟨_, rfl⟩
   rw [<- hj] at hc hbl
   have e1 : ((bl v : Nat) : Int) - 1 = (j : Int) := by omega
   have hsl := RA (n := j) (by omega)
   have ho := acI (c := j) (by omega)
   have e2 : IntKind.u32.wrap ((v : Int) - ((2 ^ j : Nat) : Int)) = ((v - (oY 1).getD j 0 : Nat) : Int) := by
    rw [ho.1]
    generalize 2 ^ j = y at *
    rw [w32 (by omega) (by omega)]; omega
   simp (disch := omega) only [dZ, e1, aW, aA, iX, aiM, hsl, e2, true_and]
   rw [hRR]
   exact ⟨.inl ⟨j, hc, rfl⟩, x12.seq (aX.dr _ _)⟩
 have n1 : ((k : Int) == 1) = false := beq_eq_false_iff_ne.2 (by omega)
 have h02 : k = 0 ∨ k = 2 := by omega
 obtain ⟨rp, ra, rl⟩ := TZ h02
 rw [rp, ra]
 have hpl := Nc h02
 have hlow : uB k <= 3 := by unfold uB; split <;> omega
 have htop := adO h02
 by_cases hvl : v < uB k
 .have d2 : decide ((v : Int) < ((uB k : Nat) : Int)) = true := by simp; omega
  simp (disch := omega) only [bD, d1, n1, MG, aiS, if_false, d2, VF, aG, aD, eZ, aA]
  rw [hRR]
  exact ⟨.inr ⟨WX h02 hvl, rfl⟩, x12⟩
 have d2 : decide ((v : Int) < ((uB k : Nat) : Int)) = false := by simp; omega
 have e1 : IntKind.u32.wrap ((v : Int) - ((uB k : Nat) : Int)) = ((v - uB k : Nat) : Int) := by rw [w32 (by omega) (by omega)]; omega
 have e2 : IntKind.u32.wrap ((tG k : Nat) : Int) = ((tG k : Nat) : Int) := w32 (by omega) (by omega)
 by_cases hvp : v - uB k < tG k
 .have d3 : decide (((v - uB k : Nat) : Int) < ((tG k : Nat) : Int)) = true := by simp; omega
  have hc := SO h02 (by omega) hvp
  have hp := UE h02 hvp
  simp (disch := omega) only [bD, d1, n1, MG, aiS, if_false, d2, e1, e2, d3, aW, aG, aD, eZ, aA]
  rw [hRR]
  refine ⟨.inl ⟨_, hc, ?_⟩, x12⟩
  rw [hp.1, show v - (uB k + (v - uB k)) = 0 by omega]
  rfl
 have d3 : decide (((v - uB k : Nat) : Int) < ((tG k : Nat) : Int)) = false := by simp; omega
 have e3 : IntKind.u32.wrap (((v - uB k : Nat) : Int) - ((tG k : Nat) : Int)) = ((v - eS k 0 : Nat) : Int) := by
  rw [eS, htop, w32 (by omega) (by omega)]; omega
 have hv0 : eS k 0 <= v := by rw [eS, htop]; omega
 simp (disch := omega) only [bD, d1, n1, MG, aiS, if_false, d2, e1, e2, d3, aW, e3, aD, eZ, aA]
 unfold J3 Kh KJ
 obtain ⟨av, cv, rfl, hcv⟩ := hs.lenI
 obtain ⟨b, off, c', hv', hcc, hcell⟩ := hs.openI (by omega)
 cases hv'
 have hget : ∀ i, tG k + i < iO k -> w2.cell? ⟨b, off + i, none⟩ = some (.int .i64 ((iM k).getD (tG k + i) 0 : Nat)) := by
  intro i hi
  have h1 := hcell i (by omega)
  have h2 := Wn h02 hi
  rw [aiN (by omega)] at h2
  rw [h1, ajG h2]
 simp (disch := omega) only [aC, rl, fV, aA]
 unfold Kk J1
 obtain ⟨n, hn⟩ : ∃ n, n = iO k - tG k := ⟨_, rfl⟩
 rw [<- hn]
 refine cO.rule (fun m (t : anW × anW) w' => ∃ i : Nat, m = n - i /\ i <= n /\ t = (.int .u32 (v - eS k i : Nat), .int .i64 i) /\ eS k i <= v /\ w' = w2) n ⟨0, rfl, by omega, rfl, hv0, rfl⟩ ?_
 rintro m t w3 ⟨i, rfl, hi, rfl, hle, hw⟩
 rw [hw]; clear hw w3
 unfold Er
 by_cases hlt : i < n
 .have d5 : decide ((i : Int) < (n : Int)) = true := by simp; omega
  have g1 := hget i (by omega)
  have ha := acW h02 (c := tG k + i) (by omega)
  have hsl := RA (n := (iM k).getD (tG k + i) 0) (by omega)
  have hes : eS k (i + 1) = eS k i + 2 ^ ((iM k).getD (tG k + i) 0) := rfl
  have hmore := Tv (v := v) h02 (i := i) (by omega) hle
  have hat := Tu hk i (by omega)
  generalize (iM k).getD (tG k + i) 0 = nn at *
  generalize 2 ^ nn = pp at *
  by_cases hin : v < eS k i + pp
  .have d6 : decide (((v - eS k i : Nat) : Int) < (pp : Int)) = true := by simp; omega
   have e6 : ((tG k : Nat) : Int) + (i : Int) = ((tG k + i : Nat) : Int) := by omega
   simp (disch := omega) only [aC, bD, d5, dS, aiM, bK, e6, aW, aA, cP, g1, aI, iX, hsl, dZ, d6, and_true, aG]
   rw [hRR]
   exact ⟨.inl ⟨_, hmore hin, by rw [<- hat]⟩, x12⟩
  .have d6 : decide (((v - eS k i : Nat) : Int) < (pp : Int)) = false := by simp; omega
   have e6 : IntKind.u32.wrap (((v - eS k i : Nat) : Int) - (pp : Int)) = ((v - eS k (i + 1) : Nat) : Int) := by
    rw [w32 (by omega) (by omega)]; omega
   simp (disch := omega) only [aC, bD, d5, dS, aiM, bK, aW, aA, cP, g1, aI, iX, hsl, dZ, e6, d6, and_true, aD, aG]
   exact ⟨n - (i + 1), by omega, i + 1, rfl, by omega, rfl, by omega⟩
 .have d5 : decide ((i : Int) < (n : Int)) = false := by simp; omega
  obtain rfl : i = n := by omega
  simp (disch := omega) only [aC, bD, d5, bK, aW, aA, aD]
  unfold EF
  rw [hRR]
  exact ⟨.inr ⟨Vd h02 (hn ▸ hle), rfl⟩, x12⟩
def UF (a : Int) : Nat := if a = 1 then 5 else if a = 0 ∨ a = 2 then 6 else 0
def U3 (a : Int) : List Int := if a = 0 then zTL else if a = 1 then zTO else if a = 2 then zTM else []
theorem T5 {a : Int} (h : a = 0 ∨ a = 1 ∨ a = 2) : MA (UF a) (U3 a) := by
 rcases h with rfl | rfl | rfl
 .exact ⟨by decide, by decide, by decide, by decide, by decide, by decide, by decide +kernel⟩
 .exact ⟨by decide, by decide, by decide, by decide, by decide, by decide, by decide +kernel⟩
 .exact ⟨by decide, by decide, by decide, by decide, by decide, by decide, by decide +kernel⟩
theorem XE {a : Int} {w : anV} (hg : nX w) :
 aU pg rD #[.int .i64 a] w (fun r w' => ∃ v, r = .agg #[.int .i64 (UF a : Nat), v] /\ Sl w' v ((U3 a).map (Value.int .i64)) /\ aX w w' dG) := by
 refine Nv ?_
 unfold NZ BM
 refine fQ fun w1 o1 x1 s1 => ?_
 have hg1 := hg.ext x1
 have z1 := o1.lt
 by_cases h0 : a = 0
 .subst h0
  have n1 : ((0 : Int) == 0) = true := rfl
  have l1 := US (b := 0) (off := 0) (l := zTL.map (Value.int .i64)) rfl hg1.tl.ld
  simp (disch := omega) only [aC, dJ, n1, cK, aA, l1, aG]
  refine V7 fun w2 o2 x2 s2 => ?_
  refine Ud o2 rfl (KL _) (by simp) fun w3 o3 x3 s3 => ?_
  have o3 : cG w3 w1.heap.size (zTL.map (Value.int .i64)) := by
   rw [alR, DA zTL 36 rfl] at o3
   .exact o3
   .rfl
  have hsh : pB ⟨w1.heap.size, 0, none⟩ 36 0 1 = ⟨w1.heap.size, 0, none⟩ := Az (by decide)
  have x13 : aX w1 w3 dG := x2.new x3 (by omega)
  simp (disch := omega) only [Ro, hsh, aA, mO]
  refine cY (o1.ext x13 (fun h => h)) rfl (by simp [one]) (by simp) fun w4 o4 x4 s4 => ?_
  refine gX o4 (by simp [bQ]) ?_
  simp only [bQ, aiV, aiW, aiY, aiT, aiZ]
  exact ⟨_, rfl, Sd (o3.ext x4 (by omega)) rfl, (x1.seq x13).new x4 (by omega)⟩
 have n1 : (a == 0) = false := beq_eq_false_iff_ne.2 h0
 by_cases h1 : a = 1
 .subst h1
  have n2 : ((1 : Int) == 1) = true := rfl
  have l1 := UD (b := 1) (off := 0) (l := zTO.map (Value.int .i64)) rfl hg1.to.ld
  simp (disch := omega) only [aC, dJ, n1, n2, cK, aA, aG, l1, aD]
  refine V3 fun w2 o2 x2 s2 => ?_
  refine UW o2 rfl (KL _) (by simp) fun w3 o3 x3 s3 => ?_
  have o3 : cG w3 w1.heap.size (zTO.map (Value.int .i64)) := by
   rw [alR, DA zTO 29 rfl] at o3
   .exact o3
   .rfl
  have hsh : pB ⟨w1.heap.size, 0, none⟩ 29 0 1 = ⟨w1.heap.size, 0, none⟩ := Az (by decide)
  have x13 : aX w1 w3 dG := x2.new x3 (by omega)
  simp (disch := omega) only [QS, hsh, aA, mO]
  refine cY (o1.ext x13 (fun h => h)) rfl (by simp [one]) (by simp) fun w4 o4 x4 s4 => ?_
  refine gX o4 (by simp [bQ]) ?_
  simp only [bQ, aiV, aiW, aiY, aiT, aiZ]
  exact ⟨_, rfl, Sd (o3.ext x4 (by omega)) rfl, (x1.seq x13).new x4 (by omega)⟩
 have n2 : (a == 1) = false := beq_eq_false_iff_ne.2 h1
 by_cases h2 : a = 2
 .subst h2
  have n3 : ((2 : Int) == 2) = true := rfl
  have l1 := UA (b := 2) (off := 0) (l := zTM.map (Value.int .i64)) rfl hg1.tm.ld
  simp (disch := omega) only [aC, dJ, n1, n2, n3, cK, aA, aG, aD, l1]
  refine Wd fun w2 o2 x2 s2 => ?_
  refine T7 o2 rfl (KL _) (by simp) fun w3 o3 x3 s3 => ?_
  have o3 : cG w3 w1.heap.size (zTM.map (Value.int .i64)) := by
   rw [alR, DA zTM 53 rfl] at o3
   .exact o3
   .rfl
  have hsh : pB ⟨w1.heap.size, 0, none⟩ 53 0 1 = ⟨w1.heap.size, 0, none⟩ := Az (by decide)
  have x13 : aX w1 w3 dG := x2.new x3 (by omega)
  simp (disch := omega) only [Ra, hsh, aA, mO]
  refine cY (o1.ext x13 (fun h => h)) rfl (by simp [one]) (by simp) fun w4 o4 x4 s4 => ?_
  refine gX o4 (by simp [bQ]) ?_
  simp only [bQ, aiV, aiW, aiY, aiT, aiZ]
  exact ⟨_, rfl, Sd (o3.ext x4 (by omega)) rfl, (x1.seq x13).new x4 (by omega)⟩
 have n3 : (a == 2) = false := beq_eq_false_iff_ne.2 h2
 simp (disch := omega) only [aC, dJ, n1, n2, n3, cK, aA, aD]
 refine cY o1 rfl (by simp [one]) (by simp) fun w4 o4 x4 s4 => ?_
 refine gX o4 (by simp [bQ]) ?_
 simp only [bQ, aiV, aiW, aiY, aiT, aiZ]
 unfold UF U3
 rw [if_neg h1, if_neg (by omega), if_neg h0, if_neg h1, if_neg h2]
 exact ⟨_, rfl, Sl.nil _, x1.new x4 (by omega)⟩
def Gk (w : anV) (base : Nat) (o : Except Int (Nat × List T3)) (t : anW) (e : Int) : Prop := match o with
 | .error e' => t = .agg #[.int .i64 0, .slice none 0 0] /\ e = e'
 | .ok (lg, L) => (∃ b, Xb w base b lg L t) /\ e = 0
def R8 (a : Int) : Except Int (Nat × List T3) := if a = 0 ∨ a = 1 ∨ a = 2 then .ok (UF a, iY (UF a) (U3 a)) else .error 1
theorem Gk.form {w : anV} {base : Nat} {o : Except Int (Nat × List T3)} {t : anW} {e : Int} (h : Gk w base o t e) : ∃ (x : Int) (a : Option Addr) (n c : Nat), t = .agg #[.int .i64 x, .slice a n c] := by
 unfold Gk at h
 split at h
 .exact ⟨_, _, _, _, h.1⟩
 .obtain ⟨⟨b, h, _⟩, _⟩ := h
  exact ⟨_, _, _, _, h⟩
theorem Gk.ext {w w' : anV} {base : Nat} {o : Except Int (Nat × List T3)} {t : anW} {e : Int} {M : Nat -> Prop} (h : Gk w base o t e) (x : aX w w' M) (hM : ∀ b, base <= b -> b < w.heap.size -> ¬ M b) : Gk w' base o t e := by
 unfold Gk at *
 split at h
 .exact h
 .obtain ⟨⟨b, ht⟩, he⟩ := h
  have hb := ht.2.1
  have hl := ht.2.2.lt
  exact ⟨⟨b, ht.ext x (hM b hb hl)⟩, he⟩
theorem Gk.lower {w : anV} {base base' : Nat} {o : Except Int (Nat × List T3)} {t : anW} {e : Int} (h : Gk w base o t e) (hb : base' <= base) : Gk w base' o t e := by
 unfold Gk at *
 split at h
 .exact h
 .obtain ⟨⟨b, h1, h2, h3⟩, he⟩ := h
  exact ⟨⟨b, h1, by omega, h3⟩, he⟩
theorem YF {a : Int} {w : anV} (hg : nX w) :
 aU pg sZ #[.int .i64 a] w (fun r w' => ∃ t e, r = .tuple #[t, .int .i64 e] /\ Gk w' w.heap.size (R8 a) t e /\ aX w w' dG) := by
 refine LG ?_
 unfold KO xM
 refine fI fun w1 o1 x1 s1 => ?_
 have z1 := o1.lt
 refine (XE (hg.ext x1)).mono ?_
 rintro r w2 ⟨v, rfl, hs, x2⟩
 unfold R8
 have z2 := x2.size
 by_cases hk : a = 0 ∨ a = 1 ∨ a = 2
 .rw [if_pos hk]
  refine (RF (T5 hk) hs).mono ?_
  rintro r w3 ⟨b, t, rfl, ⟨rfl, hb, ob⟩, x3⟩
  have z3 := x3.size
  simp (disch := omega) only [aC, JE, Jd, aA]
  have lb := ob.lt
  refine cI ((o1.ext x2 (fun h => h)).ext x3 (fun h => h)) rfl (by simp [one]) (by simp) fun w4 o4 x4 s4 => ?_
  refine lA o4 (by simp [bQ]) ?_
  simp only [bQ, aiV, aiW, aiY, aiT, aiZ]
  exact ⟨_, _, rfl, ⟨⟨b, rfl, by omega, ob.ext x4 (by omega)⟩, rfl⟩, ((x1.seq x2).seq x3).new x4 (by omega)⟩
 .rw [if_neg hk]
  have e1 : UF a = 0 := by unfold UF; rw [if_neg (by omega), if_neg (by omega)]
  have e2 : U3 a = [] := by unfold U3; rw [if_neg (by omega), if_neg (by omega), if_neg (by omega)]
  rw [e1]
  rw [e2] at hs
  refine (YQ (log := 0) (ps := []) (by decide) hs (by simp)).mono ?_
  rintro r w3 ⟨rfl, x3⟩
  simp (disch := omega) only [aC, JE, Jd, aA]
  refine cI ((o1.ext x2 (fun h => h)).ext x3 (fun h => h)) rfl (by simp [one]) (by simp) fun w4 o4 x4 s4 => ?_
  refine lA o4 (by simp [bQ]) ?_
  simp only [bQ, aiV, aiW, aiY, aiT, aiZ]
  exact ⟨_, _, rfl, ⟨rfl, rfl⟩, ((x1.seq x2).seq x3).new x4 (by omega)⟩
def Da (a : Int) : Int := if a = 0 ∨ a = 2 then 9 else if a = 1 then 8 else 0
theorem Ut (a : Int) (w : anV) : aU pg mV #[.int .i64 a] w (fun r w' => r = .int .i64 (Da a) /\ w' = w) := by
 refine O1 ?_
 unfold Qw BG Dv De DD D1 Dq Le D5
 unfold Da
 by_cases h0 : a = 0
 .subst h0
  have n1 : ((0 : Int) == 0) = true := rfl
  unfold lO
  simp (disch := omega) only [aC, dJ, n1, aA, and_true, aG]
  rfl
 have n1 : (a == 0) = false := beq_eq_false_iff_ne.2 h0
 by_cases h2 : a = 2
 .subst h2
  have n2 : ((2 : Int) == 2) = true := rfl
  unfold lO
  simp (disch := omega) only [aC, dJ, n1, aA, n2, aG, and_true, aD]
  rfl
 have n2 : (a == 2) = false := beq_eq_false_iff_ne.2 h2
 rw [if_neg (by omega)]
 by_cases h1 : a = 1
 .subst h1
  have n3 : ((1 : Int) == 1) = true := rfl
  unfold lO
  simp (disch := omega) only [aC, dJ, n1, if_true, n3, true_and, aA, aG, n2, aD, and_true]
 have n3 : (a == 1) = false := beq_eq_false_iff_ne.2 h1
 rw [if_neg h1]
 unfold lO yB
 simp (disch := omega) only [aC, dJ, n1, n3, true_and, aA, aD, n2, and_true]
end Go.Proofs.YtaggdjhhmbnhoaaDoor
namespace Go.Pu
open Go Go.En
def iH (L : List Bool) (st n : Nat) : Nat := uJ ((L.drop st).take n)
theorem Kj (L : List Bool) (st n : Nat) : iH L st n < 2 ^ n := by
 have h := Rz ((L.drop st).take n)
 have : ((L.drop st).take n).length <= n := by rw [ajL]; omega
 exact Nat.lt_of_lt_of_le h (ajA (by omega) this)
theorem Ts (A : List Bool) (x n : Nat) (C : List Bool) (h : x < 2 ^ n) : iH (A ++ (eD x n ++ C)) A.length n = x := by
 unfold iH
 rw [anI, List.take_left' (bR x n), Va h]
def Sp (L : List Bool) (st left : Nat) : Option (Nat × Nat) :=
 let n := bl (left + 1)
 if L.length < st + (n - 1) then none
 else
  let low := iH L st (n - 1)
  let free := 2 ^ n - 2 - left
  if low < free then some (low, st + (n - 1))
  else if L.length < st + (n - 1) + 1 then none
  else if iH L (st + (n - 1)) 1 = 0 then some (low, st + (n - 1) + 1)
  else some (low + 2 ^ (n - 1) - free, st + (n - 1) + 1)
def T2 (L : List Bool) : Nat -> Nat -> Option (Nat × Nat)
 | 0, _ => none
 | f + 1, st => if L.length < st + 2 then none else if iH L st 2 < 3 then some (iH L st 2, st + 2) else match T2 L f (st + 2) with
   | none => none
   | some (k, st') => some (3 + k, st')
def QF (L : List Bool) (sym : Nat) : Nat -> Nat -> Nat -> List Int -> Except Int (List Int × Nat)
 | 0, _, _, _ => .error 10
 | f + 1, st, left, ps => if left = 0 then .ok (ps, st) else match Sp L st left with
   | none => .error 10
   | some (v, st1) =>
     if v = 1 then match T2 L (L.length + 1) st1 with
       | none => .error 10
       | some (k, st2) => if sym < ps.length + 1 + k then .error 11 else QF L sym f st2 left (ps ++ 0 :: List.replicate k 0)
     else if sym < ps.length + 1 then .error 11 else QF L sym f st1 (left - (bX ((v : Int) - 1)).toNat) (ps ++ [(v : Int) - 1])
theorem Ny {L : List Bool} {st left v st1 : Nat} (h : Sp L st left = some (v, st1)) (h0 : 0 < left) : st < st1 /\ st1 <= L.length /\ v <= left + 1 := by
 have hb1 := EY (k := left + 1) (by omega)
 have hb2 := Ox (k := left + 1) (by omega)
 have hb3 := Qz (left + 1)
 have hn : 2 <= bl (left + 1) := by
  rcases ajI (bl (left + 1)) 2 with h | h
  .have : bl (left + 1) = 1 := by omega
   rw [this] at hb3; omega
  .exact h
 unfold Sp at h
 simp only at h
 generalize bl (left + 1) = n at *
 obtain ⟨m, rfl⟩ : ∃ m, n = m + 1 := ⟨n - 1, by omega⟩
 rw [alC] at *
 rw [ajS] at *
 have hl := Kj L st m
 generalize 2 ^ m = q at *
 generalize iH L st m = low at *
 split at h
 .cases h
 .split at h
  .obtain ⟨rfl, rfl⟩ := Prod.mk.inj (ajG h); omega
  .split at h
   .cases h
   .split at h
    .obtain ⟨rfl, rfl⟩ := Prod.mk.inj (ajG h); omega
    .obtain ⟨rfl, rfl⟩ := Prod.mk.inj (ajG h); omega
theorem UI {L : List Bool} : ∀ {f st k st1 : Nat}, T2 L f st = some (k, st1) -> st < st1 /\ st1 <= L.length /\ 2 * k <= 3 * (st1 - st)
 | 0, st, k, st1, h => by cases h
 | f + 1, st, k, st1, h => by
   rw [T2] at h
   split at h
   .cases h
   .have hl := Kj L st 2
    split at h
    .obtain ⟨rfl, rfl⟩ := Prod.mk.inj (ajG h); omega
    .cases hn : T2 L f (st + 2) with
     | none => rw [hn] at h; cases h
     | some x =>
       obtain ⟨k', st'⟩ := x
       rw [hn] at h
       obtain ⟨rfl, rfl⟩ := Prod.mk.inj (ajG h)
       have := UI hn
       omega
def Bo (L : List Bool) (most : Int) (sym : Nat) : Except Int (Nat × List Int × Nat) :=
 if L.length < 4 then .error 10
 else
  let log := iH L 0 4 + 5
  if most < log ∨ 15 < log then .error 12
  else match QF L sym (L.length + 1) 4 (2 ^ log) [] with
   | .error e => .error e
   | .ok (ps, st) => .ok (log, ps, (st + 7) / 8)
theorem Hx : ∀ k : Nat, rB (List.replicate k 0) = 0
 | 0 => rfl
 | k + 1 => by rw [akV, qF, Hx k] <;> rfl
theorem OS {L : List Bool} {sym : Nat} {out : List Int} {stE : Nat} {tot : Int} : ∀ {f st left : Nat} {ps : List Int}, QF L sym f st left ps = .ok (out, stE) -> (∀ p ∈ ps, -1 <= p) -> rB ps + left = tot →
 (left = 0 -> ps.length <= sym /\ ps.getLast? ≠ some 0 /\ 1 <= ps.length) -> (∀ p ∈ out, -1 <= p) /\ rB out = tot /\ out.length <= sym /\ out.getLast? ≠ some 0 /\ 1 <= out.length
 | 0, st, left, ps, h, _, _, _ => by cases h
 | f + 1, st, left, ps, h, hlo, hs, hz => by
   rw [QF] at h
   split at h
   .rename_i h0
    cases h
    obtain ⟨z1, z2, z3⟩ := hz h0
    exact ⟨hlo, by omega, z1, z2, z3⟩
   .rename_i h0
    cases hv : Sp L st left with
    | none => rw [hv] at h; cases h
    | some x =>
      obtain ⟨v, st1⟩ := x
      obtain ⟨v1, v2, v3⟩ := Ny hv (by omega)
      rw [hv] at h
      simp only at h
      split at h
      .rename_i hv1
       cases hn : T2 L (L.length + 1) st1 with
       | none => rw [hn] at h; cases h
       | some y =>
         obtain ⟨k, st2⟩ := y
         rw [hn] at h
         simp only at h
         split at h
         .cases h
         .refine OS h ?_ ?_ (fun h => absurd h h0)
          .intro p hp
           rcases alO.1 hp with hp | hp
           .exact hlo p hp
           .rcases akE.1 hp with rfl | hp
            .omega
            .rw [amC hp]; omega
          .rw [EC, qF]
           have e := Hx k
           rw [e]
           have : bX 0 = 0 := rfl
           omega
      .rename_i hv1
       split at h
       .cases h
       .have hp1 : -1 <= (v : Int) - 1 := by omega
        have hpn := jH hp1
        have hpl : bX ((v : Int) - 1) <= left := by unfold bX; split <;> omega
        refine OS h ?_ ?_ ?_
        .intro p hp
         rcases alO.1 hp with hp | hp
         .exact hlo p hp
         .rw [akK.1 hp]; exact hp1
        .rw [EC, qF]
         have e : rB [] = 0 := rfl
         rw [e]; omega
        .intro _
         rw [aiO, alJ, List.getLast?_concat]
         refine ⟨by omega, ?_, by omega⟩
         intro e
         have := ajG e
         omega
def Eh (left v : Nat) : List Bool :=
 let n := bl (left + 1)
 let free := 2 ^ n - 2 - left
 if v < free then eD v (n - 1) else if v < 2 ^ (n - 1) then eD v n else eD (v + free) n
def U6 (k : Nat) : List Bool := if h : k < 3 then eD k 2 else eD 3 2 ++ U6 (k - 3)
termination_by k
theorem Ko {L A C : List Bool} {x n : Nat} (hL : L = A ++ (eD x n ++ C)) (h : x < 2 ^ n) : iH L A.length n = x := by rw [hL, Ts A x n C h]
theorem S2 (x n : Nat) : eD x (n + 1) = eD (x % 2 ^ n) n ++ eD (x / 2 ^ n % 2) 1 := by
 rw [Im]
 congr 1
 .unfold eD
  apply alP
  intro k hk
  rw [Nat.testBit_mod_two_pow]
  simp [akD.1 hk]
 .rw [Im, Dd, akC]
  congr 1
  rw [alV, alV, Nat.pow_zero, Nat.div_one, Nat.mod_mod]
theorem Zs {L A C : List Bool} {left v : Nat} (hL : L = A ++ (Eh left v ++ C)) (h0 : 0 < left) (hv : v <= left + 1) : Sp L A.length left = some (v, A.length + (Eh left v).length) := by
 have hb1 := EY (k := left + 1) (by omega)
 have hb2 := Ox (k := left + 1) (by omega)
 have hb3 := Qz (left + 1)
 unfold Eh at hL ⊢
 unfold Sp
 simp only at hL ⊢
 generalize bl (left + 1) = n at *
 obtain ⟨m, rfl⟩ : ∃ m, n = m + 1 := ⟨n - 1, by omega⟩
 rw [alC] at *
 have hp : 2 ^ (m + 1) = 2 * 2 ^ m := by rw [ajS, akT]
 have hp0 := ajU m
 by_cases h1 : v < 2 ^ (m + 1) - 2 - left
 .rw [if_pos h1] at hL ⊢
  have hlen : L.length = A.length + (m + C.length) := by rw [hL, aiO, aiO, bR]
  rw [if_neg (by omega), Ko hL (by omega), if_pos h1, bR]
 .rw [if_neg h1] at hL ⊢
  have key : ∀ y : Nat, y < 2 ^ (m + 1) -> L = A ++ (eD y (m + 1) ++ C) -> 2 ^ (m + 1) - 2 - left <= y % 2 ^ m -> (if y / 2 ^ m = 0 then y % 2 ^ m else y % 2 ^ m + 2 ^ m - (2 ^ (m + 1) - 2 - left)) = v →
      (if L.length < A.length + m then none else if iH L A.length m < 2 ^ (m + 1) - 2 - left then some (iH L A.length m, A.length + m) else if L.length < A.length + m + 1 then none
       else if iH L (A.length + m) 1 = 0 then some (iH L A.length m, A.length + m + 1) else some (iH L A.length m + 2 ^ m - (2 ^ (m + 1) - 2 - left), A.length + m + 1)) = some (v, A.length + (eD y (m + 1)).length) := by
   intro y hy hL hlow hval
   have hlen : L.length = A.length + (m + 1 + C.length) := by rw [hL, aiO, aiO, bR]
   have hq : y / 2 ^ m < 2 := (alY hp0).2 (by omega)
   have e1 : iH L A.length m = y % 2 ^ m := Ko (C := eD (y / 2 ^ m % 2) 1 ++ C) (by rw [hL, S2, ajB]) (amA _ hp0)
   have e2 : iH L (A.length + m) 1 = y / 2 ^ m := by
    have := Ko (L := L) (A := A ++ eD (y % 2 ^ m) m) (C := C) (x := y / 2 ^ m % 2) (n := 1) (by rw [hL, S2, ajB, ajB]) (by omega)
    rw [aiO, bR, ajP hq] at this
    exact this
   rw [if_neg (by omega), e1, if_neg (by omega), if_neg (by omega), e2, bR]
   split
   .rename_i h
    rw [if_pos h] at hval
    rw [hval] <;> rfl
   .rename_i h
    rw [if_neg h] at hval
    rw [hval] <;> rfl
  by_cases h2 : v < 2 ^ m
  .rw [if_pos h2] at hL ⊢
   refine key v (by omega) hL ?_ ?_
   .rw [ajP h2]; omega
   .rw [Nat.div_eq_of_lt h2, if_pos rfl, ajP h2]
  .rw [if_neg h2] at hL ⊢
   have hd : (v + (2 ^ (m + 1) - 2 - left)) / 2 ^ m = 1 := Nat.div_eq_of_lt_le (by omega) (by omega)
   have hm : (v + (2 ^ (m + 1) - 2 - left)) % 2 ^ m = v + (2 ^ (m + 1) - 2 - left) - 2 ^ m := by
    rw [Nat.mod_eq_sub_mod (by omega), ajP (by omega)]
   refine key _ (by omega) hL ?_ ?_
   .rw [hm]; omega
   .rw [hd, if_neg (by omega), hm]; omega
theorem agG {L C : List Bool} : ∀ {k : Nat} {A : List Bool} {f : Nat}, L = A ++ (U6 k ++ C) -> L.length < 2 * f + A.length -> T2 L f A.length = some (k, A.length + (U6 k).length) := by
 intro k
 induction k using Nat.strongRecOn with
 | ind k ih =>
   intro A f hL hf
   rw [U6] at hL ⊢
   split at hL
   .rename_i hk
    have hlen : L.length = A.length + (2 + C.length) := by rw [hL, aiO, aiO, bR]
    obtain ⟨f, rfl⟩ : ∃ g, f = g + 1 := ⟨f - 1, by omega⟩
    have e := Ko hL (by omega)
    rw [T2, if_neg (by omega), e, if_pos hk, dif_pos hk, bR]
   .rename_i hk
    rw [ajB] at hL
    have hlen : L.length = A.length + (2 + ((U6 (k - 3)).length + C.length)) := by rw [hL, aiO, aiO, aiO, bR]
    obtain ⟨f, rfl⟩ : ∃ g, f = g + 1 := ⟨f - 1, by omega⟩
    have e := Ko hL (by omega)
    have := ih (k - 3) (by omega) (A := A ++ eD 3 2) (f := f) (by rw [hL, ajB]) (by rw [aiO, bR]; omega)
    rw [aiO, bR] at this
    rw [T2, if_neg (by omega), e, if_neg (by omega), this, dif_neg hk, aiO, bR]
    simp only [Option.some.injEq, Prod.mk.injEq]
    omega
def Nk : Nat -> Nat -> List Int -> List Bool
 | 0, _, _ => []
 | f + 1, left, ps => match ps with
   | [] => []
   | p :: ps => if p = 0 then
       let k := (ps.takeWhile (· == 0)).length
       Eh left 1 ++ (U6 k ++ Nk f left (ps.drop k))
     else Eh left (p + 1).toNat ++ Nk f (left - (bX p).toNat) ps
theorem Mt (ps : List Int) : ps = List.replicate (ps.takeWhile (· == 0)).length 0 ++ ps.drop (ps.takeWhile (· == 0)).length := by
 induction ps with
 | nil => rfl
 | cons p ps ih =>
   rw [List.takeWhile_cons]
   by_cases h : p = 0
   .subst h
    simp only [beq_self_eq_true, if_true, ajK, akV, amM, alE]
    rw [<- ih]
   .have : (p == 0) = false := by simpa using h
    simp [this]
theorem afW {L C : List Bool} {sym : Nat} : ∀ {g : Nat} {ps out : List Int} {left f : Nat} {A : List Bool}, ps.length <= g -> (∀ p ∈ ps, -1 <= p) -> rB ps = left -> ps.getLast? ≠ some 0 →
 L = A ++ (Nk g left ps ++ C) -> L.length < f + A.length -> out.length + ps.length <= sym →
 QF L sym f A.length left out = .ok (out ++ ps, A.length + (Nk g left ps).length) := by
 intro g
 induction g with
 | zero =>
   intro ps out left f A hl hlo hs hlast hL hf hsym
   have : ps = [] := ajV.1 (by omega)
   subst this
   obtain rfl : left = 0 := by have : rB [] = 0 := rfl
                               omega
   have : A.length <= L.length := by rw [hL, aiO]; omega
   obtain ⟨f, rfl⟩ : ∃ g, f = g + 1 := ⟨f - 1, by omega⟩
   rw [QF, if_pos rfl, Nk]; simp
 | succ g ih =>
   intro ps out left f A hl hlo hs hlast hL hf hsym
   have hAL : A.length <= L.length := by rw [hL, aiO]; omega
   obtain ⟨f, rfl⟩ : ∃ g, f = g + 1 := ⟨f - 1, by omega⟩
   cases ps with
   | nil =>
     obtain rfl : left = 0 := by have : rB [] = 0 := rfl
                                 omega
     rw [QF, if_pos rfl, Nk]; simp
   | cons p ps =>
     have hp := hlo p (akZ ..)
     have hlo' : ∀ p ∈ ps, -1 <= p := fun q hq => hlo q (ajE _ hq)
     have hn := Bz hlo'
     rw [qF] at hs
     have hpn := jH hp
     rw [ajK] at hl hsym
     have hpos : 0 < left := by
      by_cases h0 : p = 0
      .
       subst h0
       rcases alK left with h | h
       .exfalso
        subst h
        have hs0 : rB ps = 0 := by have : bX 0 = 0 := rfl
                                   omega
        have hz : ∀ q ∈ ps, q = 0 := fun q hq => by
         have h1 := Us hlo' hq
         have h2 := hlo' q hq
         unfold bX at h1
         split at h1 <;> omega
        cases ps with
        | nil => simp at hlast
        | cons q ps =>
          rw [List.getLast?_cons_cons] at hlast
          refine hlast ?_
          cases hg : (q :: ps).getLast? with
          | none => simp at hg
          | some y => rw [hz y (List.mem_of_getLast? hg)]
       .exact h
      .unfold bX at hs; split at hs <;> omega
     have hpl : bX p <= left := by omega
     by_cases h0 : p = 0
     .subst h0
      have hW : Nk (g + 1) left (0 :: ps) = Eh left 1 ++ (U6 (ps.takeWhile (· == 0)).length ++ Nk g left (ps.drop (ps.takeWhile (· == 0)).length)) := by rw [Nk, if_pos rfl]
      have hk := Mt ps
      have hkl : (ps.takeWhile (· == 0)).length <= ps.length := (anL _).length_le
      rw [hW] at hL ⊢
      generalize (ps.takeWhile (· == 0)).length = k at *
      have e1 := Zs (L := L) (A := A) (C := U6 k ++ Nk g left (ps.drop k) ++ C) (left := left) (v := 1) (by rw [hL]; simp [ajB]) hpos (by omega)
      obtain ⟨z1, z2, _⟩ := Ny e1 hpos
      have e2 := agG (L := L) (k := k) (A := A ++ Eh left 1) (C := Nk g left (ps.drop k) ++ C) (f := L.length + 1) (by rw [hL]; simp [ajB]) (by omega)
      obtain ⟨y1, y2, _⟩ := UI e2
      have hlast' : (ps.drop k).getLast? ≠ some 0 := by
       intro h
       apply hlast
       have e : (0 :: ps : List Int) = (0 :: ps.take k) ++ ps.drop k := by rw [alE, alX]
       rw [e, List.getLast?_append, h] <;> rfl
      have hsum' : rB (ps.drop k) = left := by
       have : rB ps = rB (List.replicate k 0) + rB (ps.drop k) := by
        conv => lhs; rw [hk]
        rw [EC]
       rw [Hx] at this
       have e0 : bX 0 = 0 := rfl
       omega
      have hlen2 : (A ++ Eh left 1 ++ U6 k).length = A.length + (Eh left 1).length + (U6 k).length := by rw [aiO, aiO]
      rw [aiO] at e2 y1
      have e3 := ih (ps := ps.drop k) (out := out ++ 0 :: List.replicate k 0) (left := left) (f := f) (A := A ++ Eh left 1 ++ U6 k) (by rw [akG]; omega) (fun q hq => hlo' q (anU hq)) hsum' hlast'
       (by rw [hL]; simp [ajB]) (by rw [hlen2]; omega) (by rw [aiO, ajK, akY, akG]; omega)
      rw [hlen2] at e3
      rw [QF, if_neg (by omega), e1]
      simp only [if_true]
      rw [e2]
      simp only
      rw [if_neg (by omega), e3]
      congr 2
      .rw [ajB, alE, <- hk]
      .simp only [aiO]; omega
     .have hW : Nk (g + 1) left (p :: ps) = Eh left (p + 1).toNat ++ Nk g (left - (bX p).toNat) ps := by rw [Nk, if_neg h0]
      have hle : p <= bX p := by unfold bX; split <;> omega
      rw [hW] at hL ⊢
      obtain ⟨v, hv⟩ : ∃ v : Nat, (p + 1).toNat = v := ⟨_, rfl⟩
      have hvp : (v : Int) - 1 = p := by omega
      rw [hv] at hL ⊢
      have e1 := Zs (L := L) (A := A) (C := Nk g (left - (bX p).toNat) ps ++ C) (left := left) (v := v) (by rw [hL]; simp [ajB]) hpos (by omega)
      obtain ⟨z1, z2, _⟩ := Ny e1 hpos
      have hlast' : ps.getLast? ≠ some 0 := by
       intro h
       apply hlast
       cases ps with
       | nil => simp at h
       | cons q ps => rw [List.getLast?_cons_cons]; exact h
      have hlen2 : (A ++ Eh left v).length = A.length + (Eh left v).length := aiO
      have e3 := ih (ps := ps) (out := out ++ [p]) (left := left - (bX p).toNat) (f := f) (A := A ++ Eh left v) (by omega) hlo' (by omega) hlast'
       (by rw [hL]; simp [ajB]) (by rw [hlen2]; omega) (by rw [aiO, alJ]; omega)
      rw [hlen2] at e3
      rw [QF, if_neg (by omega), e1]
      simp only
      rw [if_neg (by omega), if_neg (by omega), hvp, e3]
      congr 2
      .rw [ajB] <;> rfl
      .simp only [aiO]; omega
def B6 (log : Nat) (ps : List Int) : List Bool := eD (log - 5) 4 ++ Nk ps.length (2 ^ log) ps
theorem abM {log : Nat} {ps : List Int} {C : List Bool} (hm : MA log ps) {most : Int} (hmo : (log : Int) <= most) {sym : Nat} (hs : ps.length <= sym) :
 Bo (B6 log ps ++ C) most sym = .ok (log, ps, ((B6 log ps).length + 7) / 8) := by
 have h5 := hm.log5
 have h15 := hm.log15
 have hlen : 4 <= (B6 log ps ++ C).length := by unfold B6; rw [aiO, aiO, bR]; omega
 have e0 : iH (B6 log ps ++ C) 0 4 = log - 5 := by
  unfold B6
  have := Ts [] (log - 5) 4 (Nk ps.length (2 ^ log) ps ++ C) (by omega)
  rw [akC, List.length_nil, <- ajB] at this
  exact this
 have hpow : ((2 ^ log : Nat) : Int) = (2 : Int) ^ log := by simp
 have e1 := afW (L := B6 log ps ++ C) (C := C) (sym := sym) (g := ps.length) (ps := ps) (out := []) (left := 2 ^ log) (f := (B6 log ps ++ C).length + 1) (A := eD (log - 5) 4) (aiU _) hm.low
  (by rw [hm.sum, hpow]) hm.last (by unfold B6; rw [ajB]) (by omega) (by rw [List.length_nil]; omega)
 rw [bR, akC] at e1
 unfold Bo
 simp only
 rw [if_neg (by omega), e0, show log - 5 + 5 = log from by omega, if_neg (by omega), e1]
 simp only
 congr 4
 unfold B6
 rw [aiO, bR]
end Go.Pu
namespace Go.En
open Go
section
variable {P : Program} {w : anV} {t e : TypeId}
theorem Wu {S : Nat -> Prop} {sz n m : Nat} {i : TypeInfo} {z : anW} {ty t2 : TypeId} {k : IntKind} (hu : P.underlying t = some (.slice e)) (hu2 : P.underlying t2 = some (.int k)) (hi : P.info? e = some i) (hsz : i.size = sz) (hz : i.zero = some z) (hzs : z.cells.size = sz)
 {v : anW} {l : List anW} (h : Pk w S sz v n l) (hsz0 : 0 < sz) (hone : ∀ y ∈ z.cells.toList, one y = true) (hb : ∀ b, w.heap.size <= b -> S b)
 (hn : n + m <= 9223372036854775807) (hbytes : (n + m) * i.bytes <= 140737488355328) (hmb : m * i.bytes <= 140737488355328)
 {K : anW -> anV -> Prop} (hk : ∀ v' w', Pk w' S sz v' (n + m) (l ++ (Builtin.zeroCells z.cells m).toList) -> aX w w' S -> K v' w') : aC P (jI .append #[t, t2] ty [v, .int k m]) w K := by
 generalize hnews : (Builtin.zeroCells z.cells m).toList = news at *
 have hnl : news.length = m * sz := by rw [<- hnews, alQ, lF, hzs]
 have hone' : ∀ y ∈ news, one y = true := by
  intro y hy
  rw [<- hnews] at hy
  simp only [Builtin.zeroCells, Array.toList_map, akF] at hy
  obtain ⟨j, _, rfl⟩ := hy
  refine hone _ ?_
  have : j % z.cells.size < z.cells.size := amA _ (by omega)
  rw [getElem!_pos z.cells _ this]
  exact Array.getElem_mem_toList this
 have hmw : IntKind.i64.wrap ((m : Nat) : Int) = (m : Int) := aW (by omega) (by omega)
 have hm0 : ¬ ((m : Int) < 0) := by omega
 have hmx : ¬ ((m : Int) * (i.bytes : Nat) > 2 ^ 48) := by
  have : (m : Int) * (i.bytes : Nat) = ((m * i.bytes : Nat) : Int) := by simp
  rw [this]; omega
 have has : ∀ w, (asInt (.int k m)).run P w = .ok (m : Int) w := fun w => rfl
 have hz' : ∀ w, (zeroValue e).run P w = .ok z w := fun w => by simp [zeroValue, typeInfo, hi, hz]
 have hnw : ∀ w, (if m * sz = 0 then pure #[] else do pure (Builtin.zeroCells (<- zeroValue e).cells m) : Sem (Array anW)).run P w = .ok news.toArray w := fun w => by
  by_cases h0 : m * sz = 0
  .rw [if_pos h0, Sem.run_pure]
   have : news = [] := ajV.1 (by omega)
   rw [this]
  .rw [if_neg h0, Sem.run_bind, hz', Result.andThen_ok, Sem.run_pure, <- hnews, Array.toArray_toList]
 have hmax : IntKind.i64.max = 9223372036854775807 := by decide
 have hnot : ¬ (((n + m : Nat) : Int) > IntKind.i64.max) := by rw [hmax]; omega
 have hlen := h.1
 rcases h.2 with ⟨rfl, rfl⟩ | ⟨b, c, rest, rfl, h2, h3, h4, h5⟩
 .have hl0 : l = [] := ajV.1 (by omega)
  subst hl0
  by_cases hm : m = 0
  .subst hm
   have hn0 : news = [] := ajV.1 (by omega)
   subst hn0
   have : (jI .append #[t, t2] ty [.slice none 0 0, .int k (0 : Nat)]).run P w = .ok (.value (.slice none 0 0)) w := by
    unfold jI builtin
    simp only [Builtin.append_, akX, aiP, aiQ]
    simp only [underlying, typeInfo, Sem.run_bind, run_program, Result.andThen_ok, hu, hu2, hi, Sem.run_pure, eI hi, hsz, has, hmw, hm0, hmx, if_true, if_false, aiM, akS, aiS, aiU, akJ, hnw]
   unfold aC
   rw [this]
   exact hk _ _ ⟨by simp, .inl ⟨rfl, by omega⟩⟩ (aX.refl _ _)
  .have hfit := growslice_fits (need := 0 + m) (old := 0) (bytes := i.bytes) (by omega) (by omega)
   have hfit' : ¬ (Builtin.nextslicecap (0 + m) 0 * i.bytes > 2 ^ 48) := by omega
   have hle : ¬ (0 + m <= 0) := by omega
   have hq : (Question.appendCap (0 + m) 0 e).forced = false := rfl
   obtain ⟨r, hr⟩ : ∃ r, (Question.appendCap (0 + m) 0 e).cut (w.tape w.drawn (.appendCap (0 + m) 0 e)) = m + r :=
    ⟨(w.tape w.drawn (.appendCap (0 + m) 0 e)) % (2 ^ 63 - (0 + m)), by simp only [Question.cut]; omega⟩
   have : (jI .append #[t, t2] ty [.slice none 0 0, .int k m]).run P w = .ok (.value (.slice (some ⟨w.heap.size, 0, none⟩) (0 + m) (m + r))) ((dr w).alloc (.cells (news ++ (Builtin.zeroCells z.cells (m + r - (0 + m))).toList).toArray e)) := by
    unfold jI builtin
    simp only [Builtin.append_, akX, aiP, aiQ]
    simp only [underlying, typeInfo, Sem.run_bind, run_program, Result.andThen_ok, hu, hu2, hi, Sem.run_pure, eI hi, hsz, has, hmw, hm0, hmx, if_true, if_false, aiM, akS, aiS, hle, hnot, false_and, hfit', run_choose, hq, hr, run_askRoom]
    change ((Sem.run P _ (dr w)).andThen _).andThen _ = _
    simp only [Sem.run_bind, hnw, run_firstCells_none, Result.andThen_ok, hz', Sem.run_pure, newRow, run_newObj]
    have e1 : (#[] ++ news.toArray ++ Builtin.zeroCells z.cells (m + r - (0 + m)) : Array anW) = (news ++ (Builtin.zeroCells z.cells (m + r - (0 + m))).toList).toArray := by
     apply Array.ext'; simp
    rw [e1]
    rfl
   unfold aC
   rw [this]
   refine hk _ _ ⟨by simp only [akC]; rw [hnl, aiR], .inr ⟨w.heap.size, m + r, (Builtin.zeroCells z.cells (m + r - (0 + m))).toList, by rw [aiR], hb _ (aiU _), cG.alloc (dr w) _ _, ?_, by omega⟩⟩ ((aX.dr w _).seq (aX.alloc _ _ _))
   simp only [akC, aiO, alQ, lF, hzs, hnl]
   rw [show m + r - (0 + m) = r from by omega, akQ]
 .by_cases hc : n + m <= c
  .have hroom : news.length <= rest.length := by
    rw [aiO, hlen] at h4
    have : (n + m) * sz <= c * sz := ajX _ hc
    rw [akQ] at this; omega
   obtain ⟨w', s1, s2, s3, s4, _⟩ := DG (P := P) (M := S) h2 news w (n * sz) 0 (l ++ rest) h3 (by rw [aiO, hlen]; omega) hone'
   have : (jI .append #[t, t2] ty [.slice (some ⟨b, 0, none⟩) n c, .int k m]).run P w = .ok (.value (.slice (some ⟨b, 0, none⟩) (n + m) c)) w' := by
    unfold jI builtin
    simp only [Builtin.append_, akX, aiP, aiQ]
    simp only [underlying, typeInfo, Sem.run_bind, run_program, Result.andThen_ok, hu, hu2, hi, Sem.run_pure, eI hi, hsz, has, hmw, hm0, hmx, if_true, if_false, aiM, akS, aiS, hc, hnw, CQ, aiR, s1]
   unfold aC
   rw [this]
   rw [akJ, <- hlen, FV _ _ _ hroom] at s2
   refine hk _ _ ⟨by rw [aiO, hlen, hnl, akQ], .inr ⟨b, c, rest.drop news.length, rfl, h2, s2, ?_, hc⟩⟩ s3
   rw [<- h4]; simp; omega
  .have hfit := growslice_fits (need := n + m) (old := c) (bytes := i.bytes) (by omega) hbytes
   have hfit' : ¬ (Builtin.nextslicecap (n + m) c * i.bytes > 2 ^ 48) := by omega
   have hq : (Question.appendCap (n + m) c e).forced = false := rfl
   obtain ⟨r, hr⟩ : ∃ r, (Question.appendCap (n + m) c e).cut (w.tape w.drawn (.appendCap (n + m) c e)) = n + m + r :=
    ⟨(w.tape w.drawn (.appendCap (n + m) c e)) % (2 ^ 63 - (n + m)), by simp only [Question.cut]⟩
   have hold : Cl (dr w) sz (.slice (some ⟨b, 0, none⟩) n c) n l := ⟨_, _, rfl, hlen, fun _ => ⟨b, 0, rfl, fun i hi => by
    show w.cell? _ = _
    rw [h3.cell, aiR, ajF hi]⟩⟩
   have : (jI .append #[t, t2] ty [.slice (some ⟨b, 0, none⟩) n c, .int k m]).run P w = .ok (.value (.slice (some ⟨w.heap.size, 0, none⟩) (n + m) (n + m + r))) ((dr w).alloc (.cells (l ++ news ++ (Builtin.zeroCells z.cells (n + m + r - (n + m))).toList).toArray e)) := by
    have hfo := uE (P := P) hold
    unfold jI builtin
    simp only [Builtin.append_, akX, aiP, aiQ]
    simp only [underlying, typeInfo, Sem.run_bind, run_program, Result.andThen_ok, hu, hu2, hi, Sem.run_pure, eI hi, hsz, has, hmw, hm0, hmx, if_true, if_false, aiM, akS, aiS, hc, hnot, false_and, hfit', run_choose, hq, hr, run_askRoom]
    change ((Sem.run P _ (dr w)).andThen _).andThen _ = _
    simp only [Sem.run_bind, hnw, hfo, Result.andThen_ok, hz', Sem.run_pure, newRow, run_newObj]
    have e1 : (l.toArray ++ news.toArray ++ Builtin.zeroCells z.cells (n + m + r - (n + m)) : Array anW) = (l ++ news ++ (Builtin.zeroCells z.cells (n + m + r - (n + m))).toList).toArray := by
     apply Array.ext'; simp
    rw [e1]
    rfl
   unfold aC
   rw [this]
   refine hk _ _ ⟨by rw [aiO, hlen, hnl, akQ], .inr ⟨w.heap.size, n + m + r, _, rfl, hb _ (aiU _), cG.alloc (dr w) _ _, ?_, by omega⟩⟩ ((aX.dr w _).seq (aX.alloc _ _ _))
   simp only [aiO, alQ, lF, hzs, hnl, hlen]
   rw [show n + m + r - (n + m) = r from by omega, akQ, akQ]
end
end Go.En
namespace Go.Proofs.YtaggdjhhmbnhoaaDoor
open Go Go.En Go.Pu
set_option maxRecDepth 4000
theorem Tq {left : Nat} (h0 : 0 < left) (h1 : left <= 32768) : ∃ m, bl (left + 1) = m + 1 /\ 1 <= m /\ m <= 16 /\ left + 1 < 2 ^ (m + 1) /\ 2 ^ m <= left + 1 /\ 2 ^ (m + 1) = 2 * 2 ^ m := by
 have hb2 := Ox (k := left + 1) (by omega)
 have hb3 := Qz (left + 1)
 have hb4 := qE (k := left + 1) (n := 17) (by omega)
 have hn : 2 <= bl (left + 1) := by
  rcases ajI (bl (left + 1)) 2 with h | h
  .have hb1 := EY (k := left + 1) (by omega)
   have : bl (left + 1) = 1 := by omega
   rw [this] at hb3; omega
  .exact h
 obtain ⟨m, hm⟩ : ∃ m, bl (left + 1) = m + 1 := ⟨bl (left + 1) - 1, by omega⟩
 rw [hm] at hb2 hb3 hb4 hn ⊢
 exact ⟨m, rfl, by omega, by omega, hb3, hb2, by rw [ajS, akT]⟩
theorem ZL (L : List Bool) (f st : Nat) : T2 L (f + 1) st = if L.length < st + 2 then none else if iH L st 2 < 3 then some (iH L st 2, st + 2) else match T2 L f (st + 2) with
 | none => none
 | some (k, st') => some (3 + k, st') := by rw [T2] <;> rfl
def adB (w : anV) (lo hi : Nat) (l : List UInt8) (o : Option (Nat × Nat)) (r : anW) : Prop := match o with
 | none => r = .tuple #[.int .i64 0, .int .i64 10]
 | some (v, st) => r = .tuple #[.int .i64 v, .int .i64 0] /\ Wy w lo hi l st
theorem abL {l : List UInt8} {lo hi st left : Nat} {w : anV} (h : Wy w lo hi l st) (hlh : lo <= hi) (hst : st <= 8 * l.length) (hl : l.length <= 1000000) (h0 : 0 < left) (h1 : left <= 32768) :
 aU pg yV #[.pointer (some ⟨hi, 0, none⟩), .int .i64 left] w (fun r w' => adB w' lo hi l (Sp (aY l) st left) r /\ aX w w' (fun y => y = hi)) := by
 refine Oo ?_
 obtain ⟨m, hm, hm1, hm2, hf1, hf2, hf3⟩ := Tq h0 h1
 unfold Nw BJ
 have e1 : (left : Int) + 1 = ((left + 1 : Nat) : Int) := by omega
 simp (disch := omega) only [aC, bK, e1, aW, aA, iR, jC]
 refine (ZI (x := left + 1) (by omega) w).mono ?_
 rintro r w1 ⟨rfl, rfl⟩
 rw [hm]
 have e2 : ((m + 1 : Nat) : Int) - 1 = (m : Int) := by omega
 simp (disch := omega) only [dZ, e2, aW, iX, aiM, aA]
 refine (Lm (n := m) h hlh (by omega) hst hl).mono ?_
 have hbl := kS l
 unfold Sp
 simp only [hm, alC]
 rintro r w2 (⟨hsh, rfl, hf, x2⟩ | ⟨hsh, rfl, hf, x2⟩)
 .have n1 : ((10 : Int) != 0) = true := rfl
  rw [if_pos (by omega)]
  simp (disch := omega) only [JE, Jd, aA, fU, n1, aG]
  exact ⟨rfl, x2.mono fun _ _ h => h.elim⟩
 .have n1 : ((0 : Int) != 0) = false := rfl
  rw [if_neg (by omega)]
  have hlt := Kj (aY l) st m
  have hnum : uJ (((aY l).drop st).take m) = iH (aY l) st m := rfl
  rw [hnum]
  have hsh1 := UT (n := m + 1) (by omega)
  have hsh0 := UT (n := m) (by omega)
  have hp : 2 ^ m <= 2 ^ 16 := ajA (by omega) hm2
  generalize iH (aY l) st m = low at *
  rw [hf3] at *
  generalize hq : 2 ^ m = q at *
  have e3 : ((2 * q : Nat) : Int) - 2 - (left : Int) = ((2 * q - 2 - left : Nat) : Int) := by omega
  by_cases hfr : low < 2 * q - 2 - left
  .have d1 : decide ((low : Int) < ((2 * q - 2 - left : Nat) : Int)) = true := by simp only [decide_eq_true_eq]; omega
   rw [if_pos hfr]
   simp (disch := omega) only [JE, Jd, hsh1, aW, e3, aA, fU, n1, aD, dI, bK, dZ, bD, d1, aG]
   exact ⟨⟨rfl, hf⟩, x2⟩
  .have d1 : decide ((low : Int) < ((2 * q - 2 - left : Nat) : Int)) = false := by simp only [decide_eq_false_iff_not]; omega
   rw [if_neg hfr]
   simp (disch := omega) only [JE, Jd, hsh1, aW, e3, aA, fU, n1, aD, dI, bK, dZ, bD, d1]
   refine (Lm (n := 1) hf hlh (by omega) hsh hl).mono ?_
   rintro r w3 (⟨hs3, rfl, hf3, x3⟩ | ⟨hs3, rfl, hf3, x3⟩)
   .have n1 : ((10 : Int) != 0) = true := rfl
    rw [if_pos (by omega)]
    simp (disch := omega) only [JE, Jd, aA, fU, n1, aG]
    exact ⟨rfl, x2.seq (x3.mono fun _ _ h => h.elim)⟩
   .rw [if_neg (by omega)]
    have hnum : uJ (((aY l).drop (st + m)).take 1) = iH (aY l) (st + m) 1 := rfl
    rw [hnum]
    by_cases hz : iH (aY l) (st + m) 1 = 0
    .have n2 : (((iH (aY l) (st + m) 1 : Nat) : Int) == 0) = true := by rw [hz] <;> rfl
     rw [if_pos hz]
     simp (disch := omega) only [JE, Jd, aA, fU, n1, aD, dJ, n2, aG]
     exact ⟨⟨rfl, hf3⟩, x2.seq x3⟩
    .have n2 : (((iH (aY l) (st + m) 1 : Nat) : Int) == 0) = false := beq_eq_false_iff_ne.2 (by omega)
     have e4 : (low : Int) + (q : Int) - ((2 * q - 2 - left : Nat) : Int) = ((low + q - (2 * q - 2 - left) : Nat) : Int) := by omega
     rw [if_neg hz]
     simp (disch := omega) only [JE, Jd, hsh0, e4, aA, fU, n1, aD, dJ, n2]
     exact ⟨⟨rfl, hf3⟩, x2.seq x3⟩
theorem YR {l : List UInt8} {lo hi st : Nat} {w : anV} (h : Wy w lo hi l st) (hlh : lo <= hi) (hst : st <= 8 * l.length) (hl : l.length <= 1000000) :
 aU pg sV #[.pointer (some ⟨hi, 0, none⟩)] w (fun r w' => adB w' lo hi l (T2 (aY l) ((aY l).length + 1) st) r /\ aX w w' (fun y => y = hi)) := by
 refine LV ?_
 have hbl := kS l
 unfold KT wC yX xW EG zA yC yG xN
 refine cO.rule (fun m (t : anW) w' => ∃ k0 st' : Nat, t = .int .i64 k0 /\ T2 (aY l) ((aY l).length + 1) st = (match T2 (aY l) m st' with | none => none | some (k, s) => some (k0 + k, s)) /\ (aY l).length < 2 * m + st' /\ st' <= 8 * l.length /\ k0 <= 3 * st' /\ Wy w' lo hi l st' /\ aX w w' (fun y => y = hi)) ((aY l).length + 1)
  ⟨0, st, rfl, by cases T2 (aY l) ((aY l).length + 1) st with
    | none => rfl
    | some x => simp, by omega, hst, by omega, h, aX.refl _ _⟩ ?_
 rintro m t w1 ⟨k0, st', rfl, hr, hm, hs', hk0, hf, x1⟩
 obtain ⟨m, rfl⟩ : ∃ m', m = m' + 1 := ⟨m - 1, by omega⟩
 unfold qU
 refine (Lm (n := 2) hf hlh (by omega) hs' hl).mono ?_
 rw [ZL (aY l) m st'] at hr
 rintro r w2 (⟨hsh, rfl, hf2, x2⟩ | ⟨hsh, rfl, hf2, x2⟩)
 .have n1 : ((10 : Int) != 0) = true := rfl
  rw [if_pos (by omega)] at hr
  rw [hr]
  simp (disch := omega) only [aC, JE, Jd, aA, fU, n1, aG]
  exact ⟨rfl, x1.seq (x2.mono fun _ _ h => h.elim)⟩
 .have n1 : ((0 : Int) != 0) = false := rfl
  rw [if_neg (by omega)] at hr
  have hlt := Kj (aY l) st' 2
  have hnum : uJ (((aY l).drop st').take 2) = iH (aY l) st' 2 := rfl
  rw [hnum]
  generalize iH (aY l) st' 2 = x at *
  have e1 : (k0 : Int) + (x : Int) = ((k0 + x : Nat) : Int) := by omega
  by_cases h3 : x < 3
  .have d1 : decide ((x : Int) < 3) = true := by simp; omega
   rw [if_pos h3] at hr
   rw [hr]
   unfold qQ
   simp (disch := omega) only [aC, JE, Jd, aA, fU, n1, aD, dI, aW, bD, d1, aG, bK, e1]
   exact ⟨⟨rfl, hf2⟩, x1.seq x2⟩
  .have d1 : decide ((x : Int) < 3) = false := by simp; omega
   rw [if_neg h3] at hr
   simp (disch := omega) only [aC, JE, Jd, aA, fU, n1, aD, dI, aW, bD, d1, bK, e1]
   refine ⟨m, by omega, k0 + x, st' + 2, rfl, ?_, by omega, by omega, by omega, hf2, x1.seq x2⟩
   rw [hr]
   cases T2 (aY l) m (st' + 2) with
   | none => rfl
   | some y =>
     obtain ⟨k, s⟩ := y
     have : x = 3 := by omega
     subst this
     simp; omega
theorem ZJ (L : List Bool) (sym f st left : Nat) (ps : List Int) : QF L sym (f + 1) st left ps = if left = 0 then .ok (ps, st) else match Sp L st left with
 | none => .error 10
 | some (v, st1) =>
   if v = 1 then match T2 L (L.length + 1) st1 with
     | none => .error 10
     | some (k, st2) => if sym < ps.length + 1 + k then .error 11 else QF L sym f st2 left (ps ++ 0 :: List.replicate k 0)
   else if sym < ps.length + 1 then .error 11 else QF L sym f st1 (left - (bX ((v : Int) - 1)).toNat) (ps ++ [(v : Int) - 1]) := by rw [QF] <;> rfl
theorem UN (k : Nat) : (Builtin.zeroCells (Value.int .i64 0).cells k).toList = List.replicate k (Value.int .i64 0) := by
 apply alF
 .rw [alQ, lF, akY]; simp [Value.cells]
 .intro i h1 h2
  simp [Builtin.zeroCells, Value.cells, Nat.mod_one]
theorem abX {n m base : Nat} {ty : TypeId} {w : anV} {v : anW} {l : List anW} (h : uK w base 1 v n l) (hb : base <= w.heap.size) (hn : (n + m) * 8 <= 140737488355328) {K : anW -> anV -> Prop}
 (hk : ∀ v' w', uK w' base 1 v' (n + m) (l ++ List.replicate m (.int .i64 0)) -> aX w w' (fun y => base <= y) -> K v' w') : aC pg (jI .append #[77, 3] ty [v, .int .i64 m]) w K :=
 Wu (i := Tryd.t3) (S := fun y => base <= y) Tryd.underlying77 Tryd.underlying3 Ef rfl rfl rfl h (by decide) (by intro y hy; simp [Value.cells] at hy; subst hy; rfl) (fun b hbb => amJ hb hbb) (by omega) (by rw [show Tryd.t3.bytes = 8 from rfl]; omega) (by rw [show Tryd.t3.bytes = 8 from rfl]; omega)
  (fun v' w' o x => hk v' w' (by rw [<- UN]; exact o) x)
def Vi (w : anV) (base : Nat) (o : Except Int (Nat × List Int × Nat)) (r : anW) : Prop := match o with
 | .error e => r = .tuple #[.agg #[.int .i64 0, .slice none 0 0], .int .i64 0, .int .i64 e]
 | .ok (log, ps, used) => ∃ v, r = .tuple #[.agg #[.int .i64 log, v], .int .i64 used, .int .i64 0] /\ uK w base 1 v ps.length (ps.map (Value.int .i64))
theorem Iw {p6 : Nat} {w0 w : anV} {e : Int} (o6 : cG w p6 [.int .i64 0, .slice none 0 0]) (hx : aX w0 w dG) (hp : w0.heap.size <= p6) {RR : anW -> anV -> Prop}
 (hR : ∀ w', aX w0 w' dG -> RR (.tuple #[.agg #[.int .i64 0, .slice none 0 0], .int .i64 0, .int .i64 e]) w') :
 aC pg (aR 145 (.pointer (some ⟨p6, 0, none⟩)) (.agg #[.int .i64 0, .slice none 0 0])) w fun _u w => xA pg 145 (.pointer (some ⟨p6, 0, none⟩)) w fun r0 => RR (.tuple #[r0, .int .i64 0, .int .i64 e]) w := by
 refine cY o6 rfl (by simp [one]) (by simp) fun w6 o6 x6 s6 => ?_
 refine gX o6 (by simp [bQ]) ?_
 simp only [bQ, aiV, aiW, aiY, aiT, aiZ]
 exact hR _ (hx.new x6 hp)
theorem YK {l : List UInt8} {log lo hi p6 pc sym : Nat} {w0 w : anV} {res : Except Int (List Int × Nat)} (hlh : lo <= hi) (hlp : w0.heap.size <= p6) (hl : l.length <= 1000000) (h6 : p6 < lo) (hhp : hi < pc) (hsym : sym <= 1000000) (hlog : log <= 15)
 (o6 : cG w p6 [.int .i64 0, .slice none 0 0]) (oc : cG w pc [.int .i64 log, .slice none 0 0]) (hf : Wy w lo hi l 4) (h4 : 4 <= 8 * l.length) (hx : aX w0 w dG)
 (hres : QF (aY l) sym ((aY l).length + 1) 4 (2 ^ log) [] = res)
 {RR : anW -> anV -> Prop} (hE : ∀ e w', res = .error e -> aX w0 w' dG -> RR (.tuple #[.agg #[.int .i64 0, .slice none 0 0], .int .i64 0, .int .i64 e]) w')
 (hO : ∀ ps st v w', res = .ok (ps, st) -> uK w' w0.heap.size 1 v ps.length (ps.map (Value.int .i64)) -> aX w0 w' dG -> RR (.tuple #[.agg #[.int .i64 log, v], .int .i64 (((st + 7) / 8 : Nat)), .int .i64 0]) w') :
 uY RR (.int .i64 sym) (.pointer (some ⟨p6, 0, none⟩)) (.pointer (some ⟨hi, 0, none⟩)) (.pointer (some ⟨pc, 0, none⟩)) (.int .i64 (2 ^ log : Nat)) w := by
 have hbl := kS l
 have hp15 : 2 ^ log <= 2 ^ 15 := ajA (by omega) hlog
 unfold uY Db Dj
 have lpc := oc.lt
 refine cO.rule (fun m (t : anW) w' => ∃ (st left : Nat) (ps : List Int) (v : anW), t = .int .i64 left /\ QF (aY l) sym m st left ps = res /\ (aY l).length < m + st /\ st <= 8 * l.length /\ left <= 32768 /\ ps.length <= 1000000 /\
  cG w' p6 [.int .i64 0, .slice none 0 0] /\ cG w' pc [.int .i64 log, v] /\ uK w' (pc + 1) 1 v ps.length (ps.map (Value.int .i64)) /\ Wy w' lo hi l st /\ aX w w' (fun y => y = hi ∨ pc <= y)) ((aY l).length + 1)
  ⟨4, 2 ^ log, [], _, rfl, hres, by omega, h4, by omega, by simp, o6, oc, uK.nil _ _ _, hf, aX.refl _ _⟩ ?_
 rintro m t w1 ⟨st, left, ps, v, rfl, hr, hm, hst, hleft, hpl, o61, oc1, ov, hf1, x1⟩
 have z1 := x1.size
 have hx0 := hx.size
 have hx1 : ∀ {w' : anV}, aX w w' (fun y => y = hi ∨ pc <= y) -> aX w0 w' dG := fun h => hx.trans h fun b hb hh => by omega
 obtain ⟨m, rfl⟩ : ∃ m', m = m' + 1 := ⟨m - 1, by omega⟩
 rw [ZJ] at hr
 obtain ⟨av, cv, hv⟩ := ov.len
 unfold xT DX
 by_cases h0 : left = 0
 .have d1 : decide ((0 : Int) < (left : Int)) = false := by simp; omega
  rw [if_pos h0] at hr
  subst hv
  have lc := dV (off := 0) (eP oc1) (by simp)
  have lc' := dV (off := 0) oc1 (by simp)
  simp only [aiY, aiT, aiZ] at lc lc'
  unfold zE
  simp (disch := omega) only [aC, fD, d1, eE, and_true, true_and, aA, lc, aD]
  refine (YC (hf1.ext (aX.dr w1 dG) (fun _ _ _ h => h) hlh) (by omega)).mono ?_
  rintro r w2 ⟨rfl, rfl⟩
  simp (disch := omega) only [lc, true_and]
  refine cY (eP o61) rfl (by simp [one]) (by simp) fun w6 o6 x6 s6 => ?_
  refine gX o6 (by simp [bQ]) ?_
  simp only [bQ, aiV, aiW, aiY, aiT, aiZ]
  have x16 : aX w1 w6 (fun y => y = p6) := (aX.dr w1 _).seq x6
  have ov6 := ov.ext x16 (fun b hb h => by omega)
  refine hO ps st _ w6 hr.symm ⟨ov6.1, ?_⟩ ((hx1 x1).new x16 (by omega))
  rcases ov6.2 with h | ⟨b, c, rest, q1, q2, q3⟩
  .exact .inl h
  .exact .inr ⟨b, c, rest, q1, by omega, q3⟩
 .have d1 : decide ((0 : Int) < (left : Int)) = true := by simp; omega
  rw [if_neg h0] at hr
  simp (disch := omega) only [aC, fD, d1, aA, aG]
  unfold CU J0 DO
  refine (abL hf1 hlh hst hl (by omega) hleft).mono ?_
  rintro r w2 ⟨hv2, x2⟩
  have x12 : aX w w2 (fun y => y = hi ∨ pc <= y) := x1.seq (x2.mono fun y _ h => .inl h)
  have o62 := o61.ext x2 (by omega)
  have oc2 := oc1.ext x2 (by omega)
  have ov2 := ov.ext x2 (fun b hb h => by omega)
  have z2 := x2.size
  cases hval : Sp (aY l) st left with
  | none =>
    rw [hval] at hr hv2
    obtain rfl := hv2
    have n1 : ((10 : Int) != 0) = true := rfl
    simp (disch := omega) only [aC, JE, Jd, cK, aA, aV, aiR, dU, fU, n1, aG]
    exact Iw (RR := RR) (e := 10) o62 (hx1 x12) hlp fun w' h => hE _ _ hr.symm h
  | some y =>
    obtain ⟨x, st1⟩ := y
    rw [hval] at hr hv2
    simp only at hr
    obtain ⟨rfl, hf2⟩ := hv2
    obtain ⟨b1, b2, b3⟩ := Ny hval (by omega)
    have n1 : ((0 : Int) != 0) = false := rfl
    simp (disch := omega) only [aC, JE, Jd, cK, aA, aV, aiR, dU, fU, n1, aD, dZ, aW, dJ]
    refine (RC _ _).mono ?_
    rintro r w3 ⟨rfl, rfl⟩
    have c1 := oc2.cell (off := 1)
    simp only [aiP, aiQ] at c1
    have hpp : bX ((x : Int) - 1) <= left := by unfold bX; split <;> omega
    have hpn := jH (p := (x : Int) - 1) (by omega)
    obtain ⟨pq, hpq⟩ : ∃ pq : Nat, bX ((x : Int) - 1) = pq := ⟨(bX ((x : Int) - 1)).toNat, by omega⟩
    rw [hpq] at hr hpp ⊢
    rw [aiM] at hr
    have e1 : (left : Int) - (pq : Int) = ((left - pq : Nat) : Int) := by omega
    simp (disch := omega) only [dZ, e1, aW, aA, c1, aI]
    refine Tz (cells := #[.int .i64 ((x : Int) - 1)]) (by decide) (by decide) (by kernel_rfl) fun w4 o4 x4 s4 => ?_
    have z4 := x4.size
    refine PV (m := 1) (news := [.int .i64 ((x : Int) - 1)]) (ov2.ext x4 (fun _ _ h => h)) (o4.cl (off := 0) (l := [.int .i64 ((x : Int) - 1)]) (n := 1) rfl (fun i hi => by rw [aiR])) (by simp [one]) (by omega) (by omega) fun v5 w5 o5 x5 => ?_
    have z5 := x5.size
    obtain ⟨av5, cv5, rfl⟩ := o5.len
    have oc5 := (oc2.ext x4 (fun h => h)).ext x5 (by omega)
    refine Pp oc5 rfl (by simp) fun w6 oc6 x6 s6 => ?_
    simp only [aiV, aiW] at oc6
    have z6 := x6.size
    have ov6 := o5.ext x6 (fun b hb h => by omega)
    have x26 : aX w3 w6 (fun y => pc <= y) := ((x4.mono fun _ _ h => h.elim).seq (x5.mono fun y _ h => by omega)).seq (x6.mono fun y _ h => by omega)
    have x16 : aX w w6 (fun y => y = hi ∨ pc <= y) := x12.seq (x26.mono fun y _ h => .inr h)
    have o66 := o62.ext x26 (by omega)
    have hf6 := hf2.ext x26 (fun b _ _ => by omega) hlh
    have hsz : pc < w6.heap.size := oc6.lt
    rw [show (ps.map (Value.int .i64) ++ [Value.int .i64 ((x : Int) - 1)]) = (ps ++ [(x : Int) - 1]).map (Value.int .i64) from by simp] at ov6
    have hwl : IntKind.i64.wrap (left : Int) = left := aW (by omega) (by omega)
    have tail : ∀ (ps' : List Int) (st' left' : Nat) (a : Option Addr) (cc : Nat) (w' : anV), (if sym < ps'.length then .error 11 else QF (aY l) sym m st' left' ps') = res -> ps'.length <= 10000000 -> left' <= 32768 -> st < st' -> st' <= 8 * l.length →
        cG w' p6 [.int .i64 0, .slice none 0 0] -> cG w' pc [.int .i64 log, .slice a ps'.length cc] -> uK w' (pc + 1) 1 (.slice a ps'.length cc) ps'.length (ps'.map (Value.int .i64)) -> Wy w' lo hi l st' -> aX w w' (fun y => y = hi ∨ pc <= y) →
        rV (fun _ _ _ _ eA w'' => ∃ m', m' < m + 1 /\ ∃ (st left : Nat) (ps : List Int) (v : anW), eA = .int .i64 left /\ QF (aY l) sym m' st left ps = res /\ (aY l).length < m' + st /\ st <= 8 * l.length /\ left <= 32768 /\ ps.length <= 1000000 /\
         cG w'' p6 [.int .i64 0, .slice none 0 0] /\ cG w'' pc [.int .i64 log, v] /\ uK w'' (pc + 1) 1 v ps.length (ps.map (Value.int .i64)) /\ Wy w'' lo hi l st /\ aX w w'' (fun y => y = hi ∨ pc <= y)) RR
         (.int .i64 sym) (.pointer (some ⟨p6, 0, none⟩)) (.pointer (some ⟨hi, 0, none⟩)) (.pointer (some ⟨pc, 0, none⟩)) (.int .i64 left') w' := by
     intro ps' st' left' a cc w' q1 q2 q3 q4 q5 q6 q7 q8 q9 q10
     have c1 := q7.cell (off := 1)
     simp only [aiP, aiQ] at c1
     unfold rV
     by_cases hgt : sym < ps'.length
     .have d1 : decide ((sym : Int) < (ps'.length : Int)) = true := by simp; omega
      rw [if_pos hgt] at q1
      simp (disch := omega) only [aC, aV, aiR, cK, aA, dU, c1, aI, fV, fD, d1, lK, cD, if_true, aG, eZ]
      exact Iw (RR := RR) (e := 11) q6 (hx1 q10) hlp fun w' h => hE _ _ q1.symm h
     .have d1 : decide ((sym : Int) < (ps'.length : Int)) = false := by simp; omega
      have d2 : decide ((left' : Int) < 0) = false := by simp
      rw [if_neg hgt] at q1
      simp (disch := omega) only [aC, aV, aiR, cK, aA, dU, c1, aI, fV, fD, d1, eU, cD, aiS, if_false, cB, bD, d2, aD]
      exact ⟨m, by omega, st', left', ps', _, rfl, q1, by omega, q5, q3, by omega, q6, q7, q8, q9, q10⟩
    by_cases h1 : x = 1
    .subst h1
     have n2 : (((1 : Nat) : Int) - 1 == 0) = true := rfl
     obtain rfl : pq = 0 := by
      have : bX (((1 : Nat) : Int) - 1) = 0 := rfl
      omega
     rw [if_pos rfl] at hr
     simp (disch := omega) only [n2, aG]
     refine (YR hf6 hlh (by omega) hl).mono ?_
     rintro r w7 ⟨hv7, x7⟩
     have x17 : aX w w7 (fun y => y = hi ∨ pc <= y) := x16.seq (x7.mono fun y _ h => .inl h)
     have o67 := o66.ext x7 (by omega)
     have oc7 := oc6.ext x7 (by omega)
     have ov7 := ov6.ext x7 (fun b hb h => by omega)
     have z7 := x7.size
     cases hno : T2 (aY l) ((aY l).length + 1) st1 with
     | none =>
       rw [hno] at hr hv7
       obtain rfl := hv7
       have n1 : ((10 : Int) != 0) = true := rfl
       simp (disch := omega) only [JE, Jd, aA, fU, n1, aG]
       exact Iw (RR := RR) (e := 10) o67 (hx1 x17) hlp fun w' h => hE _ _ hr.symm h
     | some y =>
       obtain ⟨k, st2⟩ := y
       rw [hno] at hr hv7
       simp only at hr
       obtain ⟨rfl, hf7⟩ := hv7
       obtain ⟨k1, k2, k3⟩ := UI hno
       have n1 : ((0 : Int) != 0) = false := rfl
       by_cases hgt : sym < k
       .have d1 : decide ((sym : Int) < (k : Int)) = true := by simp; omega
        rw [if_pos (by omega)] at hr
        simp (disch := omega) only [JE, Jd, aA, fU, n1, aD, fD, d1, aG]
        exact Iw (RR := RR) (e := 11) o67 (hx1 x17) hlp fun w' h => hE _ _ hr.symm h
       .have d1 : decide ((sym : Int) < (k : Int)) = false := by simp; omega
        have c7 := oc7.cell (off := 1)
        simp only [aiP, aiQ] at c7
        simp (disch := omega) only [JE, Jd, aA, fU, n1, aD, fD, d1, c7, aI]
        refine abX (m := k) ov7 (by omega) (by omega) fun v8 w8 o8 x8 => ?_
        obtain ⟨av8, cv8, rfl⟩ := o8.len
        have z8 := x8.size
        refine Pp (oc7.ext x8 (by omega)) rfl (by simp) fun w9 oc9 x9 s9 => ?_
        simp only [aiV, aiW] at oc9
        have z9 := x9.size
        have x79 : aX w7 w9 (fun y => pc <= y) := (x8.mono fun y _ h => by omega).seq (x9.mono fun y _ h => by omega)
        have ov9 := o8.ext x9 (fun b hb h => by omega)
        have hlk : ps.length + 1 + k = (ps ++ 0 :: List.replicate k 0).length := by simp; omega
        have hmk : List.map (Value.int .i64) (ps ++ [((1 : Nat) : Int) - 1]) ++ List.replicate k (Value.int .i64 0) = (ps ++ 0 :: List.replicate k 0).map (Value.int .i64) := by simp
        rw [hmk, hlk] at ov9
        rw [hlk] at hr oc9
        refine tail _ st2 left _ _ w9 hr (by rw [<- hlk]; omega) hleft (by omega) (by omega) (o67.ext x79 (by omega)) oc9 ov9 (hf7.ext x79 (fun b _ _ => by omega) hlh) (x17.seq (x79.mono fun y _ h => .inr h))
    .have n2 : ((x : Int) - 1 == 0) = false := beq_eq_false_iff_ne.2 (by omega)
     rw [if_neg h1] at hr
     simp (disch := omega) only [n2, aD]
     rw [show ps.length + 1 = (ps ++ [(x : Int) - 1]).length from by simp] at hr ov6 oc6
     exact tail _ st1 _ _ _ w6 hr (by simp; omega) (by omega) b1 (by omega) o66 oc6 ov6 hf6 x16
theorem Xn {bv : anW} {l : List UInt8} {most : Int} {sym : Nat} {w : anV} (hb : Bs w bv l) (hl : l.length <= 1000000) (hsym : sym <= 1000000) :
 aU pg A0 #[bv, .int .i64 most, .int .i64 sym] w (fun r w' => Vi w' w.heap.size (Bo (aY l) most sym) r /\ aX w w' dG) := by
 refine PR ?_
 obtain ⟨RR, hRR⟩ : ∃ RR : anW -> anV -> Prop, RR = fun r w' => Vi w' w.heap.size (Bo (aY l) most sym) r /\ aX w w' dG := ⟨_, rfl⟩
 rw [<- hRR]
 have hbl := kS l
 unfold QB BF BP
 refine fQ fun w1 o1 x1 s1 => ?_
 refine (UO (hb.ext x1 (bY _)) (by omega)).mono ?_
 rintro r w2 ⟨hi, rfl, hi1, hi2, hf2, x2⟩
 have z1 := x1.size
 have z2 := x2.size
 simp (disch := omega) only [aC, cK, aA]
 refine (Lm (n := 4) hf2 hi1 (by omega) (by omega) hl).mono ?_
 rintro r w3 (⟨hsh, rfl, hf3, x3⟩ | ⟨hsh, rfl, hf3, x3⟩)
 .have n1 : ((10 : Int) != 0) = true := rfl
  have hrl : Bo (aY l) most sym = .error 10 := by unfold Bo; rw [if_pos (by omega)]
  rw [hrl] at hRR
  simp (disch := omega) only [JE, Jd, aA, fU, n1, aG]
  exact Iw (RR := RR) (e := 10) ((o1.ext x2 (fun h => h)).ext x3 (fun h => h)) ((x1.seq x2).seq x3) (aiU _) fun w' h => by rw [hRR]; exact ⟨rfl, h⟩
 .have n1 : ((0 : Int) != 0) = false := rfl
  have hnum : uJ (((aY l).drop 0).take 4) = iH (aY l) 0 4 := rfl
  have hlt := Kj (aY l) 0 4
  have hrl : Bo (aY l) most sym = (if most < ((iH (aY l) 0 4 + 5 : Nat) : Int) ∨ 15 < iH (aY l) 0 4 + 5 then .error 12 else match QF (aY l) sym ((aY l).length + 1) 4 (2 ^ (iH (aY l) 0 4 + 5)) [] with
   | .error e => .error e
   | .ok (ps, st) => .ok (iH (aY l) 0 4 + 5, ps, (st + 7) / 8)) := by unfold Bo; rw [if_neg (by omega)] <;> rfl
  rw [hrl] at hRR
  rw [hnum]
  generalize iH (aY l) 0 4 = x at *
  have e1 : (x : Int) + 5 = ((x + 5 : Nat) : Int) := by omega
  have x03 : aX w w3 dG := (x1.seq x2).trans x3 fun b hb h => by omega
  have o13 := (o1.ext x2 (fun h => h)).ext x3 (by omega)
  simp (disch := omega) only [JE, Jd, aA, fU, n1, aD, dI, aW, bK, e1, Ni]
  refine fQ fun w4 o4 x4 s4 => ?_
  refine cY o4 rfl (by simp [one]) (by simp) fun w5 o5 x5 s5 => ?_
  simp only [bQ, aiV, aiW] at o5
  have z3 := x3.size
  have z4 := x4.size
  have x05 : aX w w5 dG := (x03.seq x4).new x5 (by omega)
  have x35 : aX w3 w5 dG := x4.new x5 (by omega)
  have o15 := o13.ext x35 (fun h => h)
  have c5 := o5.cell (off := 0)
  simp only [aiP, aiQ] at c5
  by_cases hmo : most < ((x + 5 : Nat) : Int)
  .have d1 : decide (most < ((x + 5 : Nat) : Int)) = true := by simpa using hmo
   rw [if_pos (.inl hmo)] at hRR
   simp (disch := omega) only [cF, aA, cP, c5, aI, fD, d1, lK, cD, if_true, aG, eZ]
   exact Iw (RR := RR) (e := 12) o15 x05 (aiU _) fun w' h => by rw [hRR]; exact ⟨rfl, h⟩
  have d1 : decide (most < ((x + 5 : Nat) : Int)) = false := by simpa using hmo
  by_cases h15 : 15 < x + 5
  .have d2 : decide ((15 : Int) < ((x + 5 : Nat) : Int)) = true := by simp; omega
   rw [if_pos (.inr h15)] at hRR
   simp (disch := omega) only [cF, aA, cP, c5, aI, fD, d1, eU, cD, aiS, if_false, cB, d2, iX, aiM, aG]
   exact Iw (RR := RR) (e := 12) o15 x05 (aiU _) fun w' h => by rw [hRR]; exact ⟨rfl, h⟩
  have d2 : decide ((15 : Int) < ((x + 5 : Nat) : Int)) = false := by simp; omega
  rw [if_neg (by omega)] at hRR
  have hsh := UT (n := x + 5) (by omega)
  simp (disch := omega) only [cF, aA, cP, c5, aI, fD, d1, eU, cD, aiS, if_false, cB, d2, iX, aiM, hsh, aD]
  have hl5 := o5.lt
  refine YK (l := l) (w0 := w) (log := x + 5) (res := QF (aY l) sym ((aY l).length + 1) 4 (2 ^ (x + 5)) []) (lo := w1.heap.size) hi1 (aiU _) hl (by omega) (by omega) hsym (by omega) o15 o5 (hf3.ext x35 (fun _ _ _ h => h) hi1) (by omega) x05 rfl ?_ ?_
  .intro e w' he hx
   rw [hRR, he]
   exact ⟨rfl, hx⟩
  .intro ps st v w' he ho hx
   rw [hRR, he]
   exact ⟨⟨v, rfl, ho⟩, hx⟩
end Go.Proofs.YtaggdjhhmbnhoaaDoor
namespace Go.Pu
open Go Go.En
theorem Vr {L : List Bool} {most : Int} {sym log used : Nat} {ps : List Int} (h : Bo L most sym = .ok (log, ps, used)) : (ps.length <= 256 -> MA log ps) /\ (log : Int) <= most /\ ps.length <= sym := by
 unfold Bo at h
 split at h
 .cases h
 .simp only at h
  split at h
  .cases h
  .rename_i h1 h2
   have hpow : ((2 ^ (iH L 0 4 + 5) : Nat) : Int) = (2 : Int) ^ (iH L 0 4 + 5) := by simp
   have hp := ajU (iH L 0 4 + 5)
   cases hr : QF L sym (L.length + 1) 4 (2 ^ (iH L 0 4 + 5)) [] with
   | error e => rw [hr] at h; cases h
   | ok x =>
     obtain ⟨p, st⟩ := x
     rw [hr] at h
     cases h
     have e0 : rB [] = 0 := rfl
     obtain ⟨q1, q2, q3, q4, q5⟩ := OS (tot := (2 : Int) ^ (iH L 0 4 + 5)) hr (by simp) (by rw [e0, hpow]; omega) (fun h => by omega)
     exact ⟨fun hs => ⟨by omega, by omega, q5, hs, q4, q1, q2⟩, by omega, q3⟩
theorem Ub {L : List Bool} {sym : Nat} {e : Int} : ∀ {f st left : Nat} {ps : List Int}, QF L sym f st left ps = .error e -> e = 10 ∨ e = 11
 | 0, st, left, ps, h => by cases h; exact .inl rfl
 | f + 1, st, left, ps, h => by
   rw [QF] at h
   split at h
   .cases h
   .split at h
    .cases h; exact .inl rfl
    .split at h
     .split at h
      .cases h; exact .inl rfl
      .split at h
       .cases h; exact .inr rfl
       .exact Ub h
     .split at h
      .cases h; exact .inr rfl
      .exact Ub h
theorem TA {L : List Bool} {most : Int} {sym : Nat} {e : Int} (h : Bo L most sym = .error e) : e ≠ 0 := by
 unfold Bo at h
 split at h
 .cases h; decide
 .simp only at h
  split at h
  .cases h; decide
  .split at h
   .rename_i hr
    cases h
    rcases Ub hr with h | h <;> omega
   .cases h
theorem RI {L : List Bool} {sym : Nat} {out : List Int} {stE : Nat} : ∀ {f st left : Nat} {ps : List Int}, QF L sym f st left ps = .ok (out, stE) -> st <= L.length -> stE <= L.length
 | 0, st, left, ps, h, _ => by cases h
 | f + 1, st, left, ps, h, hst => by
   rw [QF] at h
   split at h
   .cases h; exact hst
   .rename_i h0
    cases hv : Sp L st left with
    | none => rw [hv] at h; cases h
    | some x =>
      obtain ⟨v, st1⟩ := x
      obtain ⟨v1, v2, v3⟩ := Ny hv (by omega)
      rw [hv] at h
      simp only at h
      split at h
      .cases hn : T2 L (L.length + 1) st1 with
       | none => rw [hn] at h; cases h
       | some y =>
         obtain ⟨k, st2⟩ := y
         rw [hn] at h
         simp only at h
         split at h
         .cases h
         .exact RI h (UI hn).2.1
      .split at h
       .cases h
       .exact RI h v2
theorem SG {L : List Bool} {most : Int} {sym log used : Nat} {ps : List Int} (h : Bo L most sym = .ok (log, ps, used)) : 8 * used <= L.length + 7 := by
 unfold Bo at h
 split at h
 .cases h
 .simp only at h
  split at h
  .cases h
  .cases hr : QF L sym (L.length + 1) 4 (2 ^ (iH L 0 4 + 5)) [] with
   | error e => rw [hr] at h; cases h
   | ok x =>
     obtain ⟨p, st⟩ := x
     rw [hr] at h
     cases h
     have := RI hr (by omega)
     omega
end Go.Pu
namespace Go.Proofs.YtaggdjhhmbnhoaaDoor
open Go Go.En Go.Pu
set_option maxRecDepth 4000
def Bd (w : anV) (base : Nat) (T : Nat × List T3) (v : anW) : Prop := (T = (0, []) /\ v = .agg #[.int .i64 0, .slice none 0 0]) ∨ ∃ b, Xb w base b T.1 T.2 v
theorem Bd.nil (w : anV) (base : Nat) : Bd w base (0, []) (.agg #[.int .i64 0, .slice none 0 0]) := .inl ⟨rfl, rfl⟩
theorem Bd.form {w : anV} {base : Nat} {T : Nat × List T3} {v : anW} (h : Bd w base T v) : ∃ a, v = .agg #[.int .i64 T.1, .slice a T.2.length T.2.length] := by
 rcases h with ⟨rfl, rfl⟩ | ⟨b, rfl, _⟩
 .exact ⟨_, rfl⟩
 .exact ⟨_, rfl⟩
theorem Bd.ext {w w' : anV} {base : Nat} {T : Nat × List T3} {v : anW} {M : Nat -> Prop} (h : Bd w base T v) (x : aX w w' M) (hM : ∀ b, base <= b -> b < w.heap.size -> ¬ M b) : Bd w' base T v := by
 rcases h with h | ⟨b, h⟩
 .exact .inl h
 .have hb := h.2.1
  have hl := h.2.2.lt
  exact .inr ⟨b, h.ext x (hM b hb hl)⟩
theorem Bd.lower {w : anV} {base base' : Nat} {T : Nat × List T3} {v : anW} (h : Bd w base T v) (hb : base' <= base) : Bd w base' T v := by
 rcases h with h | ⟨b, h1, h2, h3⟩
 .exact .inl h
 .exact .inr ⟨b, h1, by omega, h3⟩
def YB (w : anV) (base : Nat) (o : Except Int ((Nat × List T3) × Nat)) (r : anW) : Prop := match o with
 | .error e => r = .tuple #[.agg #[.int .i64 0, .slice none 0 0], .int .i64 0, .int .i64 e]
 | .ok (T, n) => ∃ t, r = .tuple #[t, .int .i64 n, .int .i64 0] /\ Bd w base T t
def iI (a mode : Int) (l : List UInt8) (old : Nat × List T3) : Except Int ((Nat × List T3) × Nat) :=
 if a < 0 ∨ 2 < a ∨ mode < 0 ∨ 3 < mode then .error 1
 else if mode = 0 then .ok ((UF a, iY (UF a) (U3 a)), 0)
 else if mode = 1 then match l with
  | [] => .error 10
  | x :: _ => if kH a < (x.toNat : Int) then .error 11 else .ok ((0, [((x.toNat : Nat), 0, 0)]), 1)
 else if mode = 3 then if old.2 = [] then .error 11 else .ok (old, 0)
 else match Bo (aY l) (Da a) (kH a + 1).toNat with
  | .error e => .error e
  | .ok (lg, ps, u) => .ok ((lg, iY lg ps), u)
theorem DJ {p : Nat} {w0 w : anV} {x : Int} {a : Option Addr} {k c : Nat} {n e : anW} (o : cG w p [.int .i64 0, .slice none 0 0]) (hx : aX w0 w dG) (hp : w0.heap.size <= p) {RR : anW -> anV -> Prop}
 (hR : ∀ w', aX w0 w' dG -> aX w w' (fun y => y = p) -> RR (.tuple #[.agg #[.int .i64 x, .slice a k c], n, e]) w') :
 aC pg (aR 27 (.pointer (some ⟨p, 0, none⟩)) (.agg #[.int .i64 x, .slice a k c])) w fun _u w => xA pg 27 (.pointer (some ⟨p, 0, none⟩)) w fun r0 => RR (.tuple #[r0, n, e]) w := by
 refine cI o rfl (by simp [one]) (by simp) fun w6 o6 x6 s6 => ?_
 refine lA o6 (by simp [bQ]) ?_
 simp only [bQ, aiV, aiW, aiY, aiT, aiZ]
 exact hR _ (hx.new x6 hp) x6
theorem GY {a : Int} (h : 0 <= a /\ a <= 2) : 28 <= kH a /\ kH a <= 60 := by
 unfold kH
 split
 .omega
 .split
  .omega
  .rw [if_pos (by omega)]; omega
theorem Vw {a : Int} (h : ¬ (0 <= a /\ a <= 2)) : kH a = -1 := by
 unfold kH
 rw [if_neg (by omega), if_neg (by omega), if_neg (by omega)]
theorem X9 {a mode : Int} {bv ov : anW} {l : List UInt8} {T : Nat × List T3} {base : Nat} {w : anV} (hg : nX w) (hb : Bs w bv l) (hl : mode = 2 -> l.length <= 1000000) (ho : Bd w base T ov) (hbase : base <= w.heap.size) (hlb : l.length <= 9223372036854775807) (hT : T.2.length <= 1000000) :
 aU pg uN #[.int .i64 a, .int .i64 mode, bv, ov] w (fun r w' => YB w' base (iI a mode l T) r /\ aX w w' dG) := by
 refine Pe ?_
 obtain ⟨RR, hRR⟩ : ∃ RR : anW -> anV -> Prop, RR = fun r w' => YB w' base (iI a mode l T) r /\ aX w w' dG := ⟨_, rfl⟩
 rw [<- hRR]
 obtain ⟨oa, rfl⟩ := ho.form
 obtain ⟨ba, bc, rfl, _⟩ := hb.len
 rw [aiX] at hb
 rw [aiX]
 unfold Qo DR
 refine hY fun w1 o1 x1 s1 => ?_
 simp only [Value.cells] at o1
 refine fI fun w2 o2 x2 s2 => ?_
 have x12 := x1.seq x2
 have z2 := x12.size
 refine (Uz (hg.ext x12)).mono ?_
 rintro r w3 ⟨rfl, x3⟩
 have o1 := (o1.ext x2 (fun h => h)).ext x3 (fun h => h)
 have o2 := o2.ext x3 (fun h => h)
 have x13 := x12.seq x3
 have z3 := x3.size
 have hg3 := hg.ext x13
 have err : ∀ {e : Int} {w' : anV}, iI a mode l T = .error e -> aX w w' dG -> RR (.tuple #[.agg #[.int .i64 0, .slice none 0 0], .int .i64 0, .int .i64 e]) w' := fun h x => by
  rw [hRR]; refine ⟨?_, x⟩; rw [h] <;> rfl
 have good : ∀ {T' : Nat × List T3} {n : Nat} {w' : anV} {t : anW}, iI a mode l T = .ok (T', n) -> Bd w' base T' t -> aX w w' dG -> RR (.tuple #[t, .int .i64 n, .int .i64 0]) w' := fun h ht x => by
  rw [hRR]; refine ⟨?_, x⟩; rw [h]; exact ⟨_, rfl, ht⟩
 by_cases ha : 0 <= a /\ a <= 2
 rotate_left
 .have d1 : decide (kH a < 0) = true := by rw [Vw ha] <;> rfl
  have hE : iI a mode l T = .error 1 := by unfold iI; rw [if_pos (by omega)]
  simp (disch := omega) only [aC, bD, d1, dQ, aA, dJ, eT, bE, aiR, bZ, bK, lK, cD, if_true, aG, eZ]
  exact DJ o2 x13 (by omega) fun w' x _ => err hE x
 obtain ⟨hl1, hl2⟩ := GY ha
 have d1 : decide (kH a < 0) = false := by simp; omega
 by_cases hm0 : mode < 0
 .have d2 : decide (mode < 0) = true := by simp; omega
  have hE : iI a mode l T = .error 1 := by unfold iI; rw [if_pos (by omega)]
  simp (disch := omega) only [aC, bD, d1, dQ, aA, dJ, eT, bE, aiR, bZ, bK, aW, eU, cD, aiS, if_false, cB, d2, lK, if_true, aG, eZ]
  exact DJ o2 x13 (by omega) fun w' x _ => err hE x
 have d2 : decide (mode < 0) = false := by simp; omega
 by_cases hm3 : 3 < mode
 .have d3 : decide (3 < mode) = true := by simp; omega
  have hE : iI a mode l T = .error 1 := by unfold iI; rw [if_pos (by omega)]
  simp (disch := omega) only [aC, bD, d1, dQ, aA, dJ, eT, bE, aiR, bZ, bK, aW, eU, cD, aiS, if_false, cB, d2, fD, d3, aG]
  exact DJ o2 x13 (by omega) fun w' x _ => err hE x
 have d3 : decide (3 < mode) = false := by simp; omega
 have hno : ¬ (a < 0 ∨ 2 < a ∨ mode < 0 ∨ 3 < mode) := by omega
 by_cases m0 : mode = 0
 .subst m0
  have n1 : ((0 : Int) == 0) = true := rfl
  have hE : iI a 0 l T = .ok ((UF a, iY (UF a) (U3 a)), 0) := by unfold iI; rw [if_neg hno, if_pos rfl]
  simp (disch := omega) only [aC, bD, d1, dQ, aA, dJ, n1, eT, bE, aiR, bZ, bK, aW, aG, eU, cD, aiS, if_false, cB, d2, fD, d3, aD]
  refine (YF hg3).mono ?_
  rintro r w4 ⟨t, e, rfl, ht, x4⟩
  unfold Gk R8 at ht
  rw [if_pos (by omega)] at ht
  obtain ⟨⟨b, ht, hb1, ob⟩, rfl⟩ := ht
  subst ht
  have z4 := x4.size
  simp (disch := omega) only [JE, Jd, aA]
  refine fI fun w5 o5 x5 s5 => ?_
  refine cI o5 rfl (by simp [one]) (by simp) fun w6 o6 x6 s6 => ?_
  have l1 := dX (off := 0) o6 (by simp [bQ])
  simp only [bQ, aiV, aiW, aiY, aiT, aiZ] at l1
  have hbl := ob.lt
  simp (disch := omega) only [l1, aA]
  have x46 : aX w3 w6 dG := x4.seq (x5.new x6 (aiU _))
  refine DJ (o2.ext x46 (fun h => h)) (x13.seq x46) (by omega) fun w' x x7 => good hE (.inr ⟨b, rfl, by omega, ?_⟩) x
  exact ((ob.ext x5 (fun h => h)).ext x6 (by omega)).ext x7 (by omega)
 have n1 : (mode == 0) = false := beq_eq_false_iff_ne.2 m0
 by_cases m1 : mode = 1
 .subst m1
  have n2 : ((1 : Int) == 1) = true := rfl
  cases l with
  | nil =>
    have hE : iI a 1 [] T = .error 10 := by unfold iI; rw [if_neg hno, if_neg (by omega), if_pos rfl]
    have n3 : ((0 : Int) == 0) = true := rfl
    have e0 : ((([] : List UInt8).length : Nat) : Int) = 0 := rfl
    simp (disch := omega) only [aC, bD, d1, dQ, aA, dJ, n1, n2, eT, e0, n3, aG, bE, aiR, bZ, bK, aW, aD, eU, cD, aiS, if_false, cB, d2, fD, d3]
    exact DJ o2 x13 (by omega) fun w' x _ => err hE x
  | cons y l =>
    have n3 : ((((y :: l).length : Nat) : Int) == 0) = false := by simp; omega
    obtain ⟨b, off, c, hv, _, hcell⟩ := (hb.ext x13 (bY _)).openV (by simp)
    have g1 := hcell 0 (by simp)
    simp only [amE, amS, akJ] at g1
    simp only [aiX, Value.slice.injEq] at hv
    obtain ⟨rfl, _, rfl⟩ := hv
    have t0 : (0 : Int).toNat = 0 := rfl
    have g0 : (w3.cell? ⟨b, off, none⟩) = some (.int .u8 (y.toNat : Nat)) := g1
    have hy := y.toNat_lt
    have hpos : (0 : Int) < ((y :: l).length : Nat) := by rw [ajK]; omega
    by_cases hyl : kH a < (y.toNat : Int)
    .have d4 : decide (kH a < (y.toNat : Int)) = true := by simpa using hyl
     have hE : iI a 1 (y :: l) T = .error 11 := by unfold iI; rw [if_neg hno, if_neg (by omega), if_pos rfl]; exact if_pos hyl
     simp (disch := omega) only [aC, bD, d1, dQ, aA, dJ, n1, n2, eT, mC, t0, akJ, jY, n3, aD, bE, aiR, bZ, bK, aW, aG, eU, cD, aiS, if_false, cB, d2, fD, d3, g0, aI, pC, d4]
     exact DJ o2 x13 (by omega) fun w' x _ => err hE x
    .have d4 : decide (kH a < (y.toNat : Int)) = false := by simpa using hyl
     have hE : iI a 1 (y :: l) T = .ok ((0, [((y.toNat : Nat), 0, 0)]), 1) := by unfold iI; rw [if_neg hno, if_neg (by omega), if_pos rfl]; exact if_neg hyl
     simp (disch := omega) only [aC, bD, d1, dQ, aA, dJ, n1, n2, eT, mC, t0, akJ, jY, n3, aD, bE, aiR, bZ, bK, aW, aG, eU, cD, aiS, if_false, cB, d2, fD, d3, g0, aI, pC, d4]
     refine (X4 (y.toNat : Nat) _).mono ?_
     rintro r w4 ⟨b, ⟨rfl, hb1, ob⟩, x4⟩
     have z4 := x4.size
     have hbl := ob.lt
     refine DJ (o2.ext x4 (fun h => h)) (x13.seq x4) (by omega) fun w' x x7 => good hE (.inr ⟨b, rfl, by omega, ?_⟩) x
     exact ob.ext x7 (by omega)
 have n2 : (mode == 1) = false := beq_eq_false_iff_ne.2 m1
 by_cases m3 : mode = 3
 .subst m3
  have n3 : ((3 : Int) == 3) = true := rfl
  have c1 := o1.cell (off := 1)
  simp only [aiP, aiQ] at c1
  have l1 := dX (off := 0) o1 (by simp)
  simp only [aiY, aiT, aiZ] at l1
  by_cases h0 : T.2 = []
  .have n4 : (((T.2.length : Nat) : Int) == 0) = true := by rw [h0] <;> rfl
   have hE : iI a 3 l T = .error 11 := by unfold iI; rw [if_neg hno, if_neg (by omega), if_neg (by omega), if_pos rfl, if_pos h0]
   simp (disch := omega) only [aC, bD, d1, dQ, aA, dJ, n1, n2, eT, n3, bE, aiR, bZ, bK, aW, aG, aD, eU, cD, aiS, if_false, cB, d2, fD, d3, c1, aI, fO, n4]
   exact DJ o2 x13 (by omega) fun w' x _ => err hE x
  .have n4 : (((T.2.length : Nat) : Int) == 0) = false := by
    have := alS.2 h0
    simp; exact h0
   have hE : iI a 3 l T = .ok (T, 0) := by unfold iI; rw [if_neg hno, if_neg (by omega), if_neg (by omega), if_pos rfl, if_neg h0]
   simp (disch := omega) only [aC, bD, d1, dQ, aA, dJ, n1, n2, eT, n3, bE, aiR, bZ, bK, aW, aG, aD, eU, cD, aiS, if_false, cB, d2, fD, d3, c1, aI, fO, n4, l1]
   refine DJ o2 x13 (by omega) fun w' x x7 => good hE ?_ x
   rcases ho with ⟨e, _⟩ | ⟨b, e, hb1, ob⟩
   .rw [e] at h0; exact absurd rfl h0
   .have hbl := ob.lt
    exact .inr ⟨b, e, hb1, (ob.ext x13 (fun h => h)).ext x7 (by omega)⟩
 have n3 : (mode == 3) = false := beq_eq_false_iff_ne.2 m3
 have m2 : mode = 2 := by omega
 have hl2 := hl m2
 simp (disch := omega) only [aC, bD, d1, dQ, aA, dJ, n1, n2, eT, n3, bE, aiR, bZ, bK, aW, aD, eU, cD, aiS, if_false, cB, d2, fD, d3]
 refine (Ut a _).mono ?_
 rintro r w4 ⟨rfl, hw⟩
 rw [hw]
 clear hw w4
 have e1 : kH a + 1 = ((kH a + 1).toNat : Int) := by omega
 rw [e1]
 refine (Xn (hb.ext x13 (bY _)) hl2 (by omega)).mono ?_
 rintro r w4 ⟨hr, x4⟩
 have z4 := x4.size
 have hsym : (kH a + 1).toNat <= 61 := by omega
 have hE0 : iI a mode l T = match Bo (aY l) (Da a) (kH a + 1).toNat with
  | .error e => .error e
  | .ok (lg, ps, u) => .ok ((lg, iY lg ps), u) := by unfold iI; rw [if_neg hno, if_neg m0, if_neg m1, if_neg m3]
 cases hrl : Bo (aY l) (Da a) (kH a + 1).toNat with
 | error e =>
   rw [hrl] at hr hE0
   have hr : r = _ := hr
   subst hr
   have he := TA hrl
   have n4 : (e != 0) = true := by simpa using he
   have hE : iI a mode l T = .error e := hE0
   simp (disch := omega) only [Wv, Ww, WA, aA, fU]
   refine fQ fun w5 o5 x5 s5 => ?_
   refine cY o5 rfl (by simp [one]) (by simp) fun w6 o6 x6 s6 => ?_
   simp (disch := omega) only [n4, aG]
   have x46 : aX w3 w6 dG := x4.seq (x5.new x6 (aiU _))
   exact DJ (o2.ext x46 (fun h => h)) (x13.seq x46) (by omega) fun w' x _ => err hE x
 | ok y =>
   obtain ⟨lg, ps, u⟩ := y
   rw [hrl] at hr hE0
   obtain ⟨v, rfl, hv⟩ := hr
   obtain ⟨hmay, hlg, hpl⟩ := Vr hrl
   have hm := hmay (by omega)
   have hE : iI a mode l T = .ok ((lg, iY lg ps), u) := hE0
   obtain ⟨va, vc, rfl⟩ := hv.len
   have hs := hv.sl
   have n4 : ((0 : Int) != 0) = false := rfl
   simp (disch := omega) only [Wv, Ww, WA, aA, fU]
   refine fQ fun w5 o5 x5 s5 => ?_
   refine cY o5 rfl (by simp [one]) (by simp) fun w6 o6 x6 s6 => ?_
   have l1 := dV (off := 0) o6 (by simp [bQ])
   simp only [bQ, aiV, aiW, aiY, aiT, aiZ] at l1
   have x46 : aX w4 w6 dG := x5.new x6 (aiU _)
   have z6 := x46.size
   simp (disch := omega) only [n4, l1, aA, aD]
   refine (RF hm (hs.ext x46 (bY _))).mono ?_
   rintro r w7 ⟨b, t, rfl, ⟨rfl, hb1, ob⟩, x7⟩
   have z7 := x7.size
   have hbl := ob.lt
   simp (disch := omega) only [JE, Jd, aA, fU]
   refine fI fun w8 o8 x8 s8 => ?_
   refine cI o8 rfl (by simp [one]) (by simp) fun w9 o9 x9 s9 => ?_
   have l2 := dX (off := 0) o9 (by simp [bQ])
   simp only [bQ, aiV, aiW, aiY, aiT, aiZ] at l2
   simp (disch := omega) only [n4, l2, aA, aD]
   have x49 : aX w3 w9 dG := ((x4.seq x46).seq x7).seq (x8.new x9 (aiU _))
   refine DJ (o2.ext x49 (fun h => h)) (x13.seq x49) (by omega) fun w' x x10 => good hE (.inr ⟨b, rfl, by omega, ?_⟩) x
   exact ((ob.ext x8 (fun h => h)).ext x9 (by omega)).ext x10 (by omega)
structure uM (k : Nat) (T : Nat × List T3) : Prop where
 lg : T.1 <= 9
 len : T.2.length = 2 ^ T.1
 low : Low T.2
 sym : ∀ e ∈ T.2, ∃ c : Nat, e.1 = (c : Int) /\ c < iO k
 nxt : ∀ e ∈ T.2, e.2.2 + ((2 ^ e.2.1.toNat : Nat) : Int) <= (T.2.length : Int)
theorem Zo {k c : Nat} (hc : c < iO k) : uM k (0, [((c : Int), 0, 0)]) := by
 refine ⟨alM _, rfl, ?_, ?_, ?_⟩
 .intro e he; obtain rfl := akK.1 he; exact ⟨0, rfl, by omega, Int.le_refl _, show (0 : Int) <= 100000 by decide⟩
 .intro e he; obtain rfl := akK.1 he; exact ⟨c, rfl, hc⟩
 .intro e he; obtain rfl := akK.1 he; show (0 : Int) + ((2 ^ (0 : Int).toNat : Nat) : Int) <= ((1 : Nat) : Int); decide
theorem Sh {k lg : Nat} {ps : List Int} (hm : MA lg ps) (h9 : lg <= 9) (hl : ps.length <= iO k) : uM k (lg, iY lg ps) := by
 refine ⟨h9, gZ _ _, XC hm, ?_, ?_⟩
 .intro e he
  obtain ⟨i, hi, rfl⟩ := ajT he
  have h2 : i < 2 ^ lg := by rw [gZ] at hi; exact hi
  obtain ⟨s, hs, e, _⟩ := PF hm (sI hm 0) h2
  exact ⟨s, by rw [MH lg ps h2, e], by omega⟩
 .intro e he
  obtain ⟨i, hi', rfl⟩ := ajT he
  have hi := hi'
  rw [gZ] at hi
  have hat := Pq (ps := ps) hi
  rw [aiN hi'] at hat
  rw [ajG hat]
  have L := sI hm 0
  obtain ⟨s, hs, hg, hp1, hp2, hk, hc⟩ := PF hm L hi
  have hk2 : V8 ps (eF 0 lg ps) i < 2 ^ (lg + 1) := by rw [ajS]; omega
  obtain ⟨e1, e2, e3, e4⟩ := UJ (log := lg) (k := V8 ps (eF 0 lg ps) i) (by omega) hk2
  have hpow : ((2 ^ lg : Nat) : Int) = (2 : Int) ^ lg := by simp
  show (CT lg ps (eF 0 lg ps) i).2.2 + ((2 ^ (CT lg ps (eF 0 lg ps) i).2.1.toNat : Nat) : Int) <= ((iY lg ps).length : Int)
  rw [gZ]
  unfold CT IG
  rw [<- hpow]
  show ((V8 ps (eF 0 lg ps) i * 2 ^ (lg + 1 - bl (V8 ps (eF 0 lg ps) i)) : Nat) : Int) - ((2 ^ lg : Nat) : Int) + ((2 ^ (((lg + 1 - bl (V8 ps (eF 0 lg ps) i) : Nat) : Int)).toNat : Nat) : Int) <= ((2 ^ lg : Nat) : Int)
  rw [aiM]
  rw [anF, ajS] at e2
  generalize V8 ps (eF 0 lg ps) i * 2 ^ (lg + 1 - bl (V8 ps (eF 0 lg ps) i)) = X at *
  generalize 2 ^ (lg + 1 - bl (V8 ps (eF 0 lg ps) i)) = Y at *
  omega
theorem aeV {k : Nat} (hk : k < 3) : (U3 (k : Int)).length <= iO k := by
 rcases (show k = 0 ∨ k = 1 ∨ k = 2 by omega) with rfl | rfl | rfl <;> decide
theorem X0 {k : Nat} (hk : k < 3) : kH (k : Int) = ((iO k : Nat) : Int) - 1 := by
 rcases (show k = 0 ∨ k = 1 ∨ k = 2 by omega) with rfl | rfl | rfl <;> rfl
theorem Uu {k : Nat} (hk : k < 3) : uM k (UF (k : Int), iY (UF (k : Int)) (U3 (k : Int))) :=
 Sh (T5 (by omega)) (by unfold UF; split <;> (try split) <;> omega) (aeV hk)
theorem RU {k mode n : Nat} {l : List UInt8} {T T' : Nat × List T3} (hk : k < 3) (hT : mode = 3 -> T.2 ≠ [] -> uM k T) (h : iI (k : Int) (mode : Int) l T = .ok (T', n)) : uM k T' /\ n <= l.length := by
 have hc53 : iO k <= 53 := by rcases (show k = 0 ∨ k = 1 ∨ k = 2 by omega) with rfl | rfl | rfl <;> decide
 have hc0 : 0 < iO k := by rcases (show k = 0 ∨ k = 1 ∨ k = 2 by omega) with rfl | rfl | rfl <;> decide
 unfold iI at h
 rw [X0 hk] at h
 split at h
 .cases h
 split at h
 .cases h; exact ⟨Uu hk, alM _⟩
 split at h
 .split at h
  .cases h
  .split at h
   .cases h
   .cases h
    rename_i hx
    exact ⟨Zo (by omega), by simp⟩
 split at h
 .split at h
  .cases h
  .cases h
   rename_i hm hne
   exact ⟨hT (by omega) hne, alM _⟩
 .split at h
  .cases h
  .rename_i lg ps u hr
   cases h
   obtain ⟨h1, h2, h3⟩ := Vr hr
   have h4 := SG hr
   rw [kS] at h4
   have h5 : Da (k : Int) <= 9 := by unfold Da; split <;> (try split) <;> omega
   exact ⟨Sh (h1 (by omega)) (by omega) (by omega), by omega⟩
theorem VK.mono {v : anW} {lo hi lo' hi' : Nat} (h : VK v lo hi) (h1 : lo' <= lo) (h2 : hi <= hi') : VK v lo' hi' := fun M hM => h M fun b hb hh => hM b (by omega) (by omega)
def RB (w : anV) (lo hi : Nat) (b : anW) (L : List Bool) (lack : Nat) : Prop := ∃ v, b = .agg #[v, .int .i64 lack] /\ Bl w v L /\ VK v lo hi
theorem RB.ext {w w' : anV} {lo hi lack : Nat} {b : anW} {L : List Bool} {M : Nat -> Prop} (h : RB w lo hi b L lack) (hx : aX w w' M) (hM : ∀ b, lo <= b -> b < hi -> ¬ M b) : RB w' lo hi b L lack := by
 obtain ⟨v, h1, h2, h3⟩ := h
 exact ⟨v, h1, h2.ext hx (h3 M hM), h3⟩
theorem afC {x : Nat} (hx : x < 256) (w : anV) : aU pg tF #[.int .u8 x] w (fun r w' => r = .int .i64 (bl x : Nat) /\ w' = w) := by
 refine LD ?_
 have hg := Sv x hx
 have hs := GL
 have hb : bl x <= 8 := qE (n := 8) (by omega)
 unfold Ke yJ
 change aC pg (GH 9 (.string T8) _) w _
 simp (disch := omega) only [aC, O6, aiM, hg, aA, pC, aW, and_true]
def Nj (w : anV) (lo hi : Nat) (l : List UInt8) (left : Int) : Prop := ∃ v, cG w hi [v, .int .i64 left] /\ Bs w v l /\ VK v lo hi
theorem Nj.ext {w w' : anV} {lo hi : Nat} {left : Int} {l : List UInt8} {M : Nat -> Prop} (h : Nj w lo hi l left) (hx : aX w w' M) (hM : ∀ b, lo <= b -> b <= hi -> ¬ M b) (hlh : lo <= hi) : Nj w' lo hi l left := by
 obtain ⟨v, h1, h2, h3⟩ := h
 exact ⟨v, h1.ext hx (hM _ hlh (aiU _)), h2.ext hx (h3 M fun b hb hh => hM b hb (by omega)), h3⟩
theorem Q2 {v : anW} {l : List UInt8} {w : anV} (h : Bs w v l) (he : Tk l = none) (hl : l.length <= 1000000) :
 aU pg lI #[v] w (fun r w' => r = .tuple #[.pointer none, .int .i64 11] /\ w' = w) := by
 refine Ab ?_
 unfold AL nF
 rcases alK l.length with h0 | h0
 .obtain ⟨a, n, c, rfl, hn, hc, hh⟩ := h
  rw [aiX, h0] at hn
  subst hn
  have d1 : (((0 : Nat) : Int) == 0) = true := rfl
  simp (disch := omega) only [aC, eT, true_and, eE, Result.ok.injEq, Next.value.injEq, and_true, aA, dZ, aW, Dc, dJ, d1, lK, cD, if_true, aG, eZ]
 .obtain ⟨b, off, c, rfl, hc, hcell⟩ := Zv h h0
  rw [Lp h0] at he
  have g := hcell (l.length - 1) (by omega)
  generalize (l[l.length - 1]'(by omega)) = x at *
  have hx0 : x.toNat = 0 := by
   rcases alK x.toNat with h | h
   .exact h
   .rw [if_neg (by omega)] at he; cases he
  rw [hx0] at g
  have d1 : ((l.length : Int) == 0) = false := by simp; intro h; subst h; simp at h0
  have e1 : (l.length : Int) - 1 = ((l.length - 1 : Nat) : Int) := by omega
  have d2 : (((0 : Nat) : Int) == 0) = true := rfl
  simp (disch := omega) only [aC, eT, true_and, eE, Result.ok.injEq, Next.value.injEq, and_true, aA, dZ, e1, aW, mC, aiM, jY, Dc, dJ, d1, eU, cD, aiS, if_false, cB, g, aI, d2, aG]
theorem Sc {v : anW} {l : List UInt8} {k : Nat} {w : anV} (h : Bs w v l) (he : Tk l = some k) (hl : l.length <= 1000000) :
 aU pg lI #[v] w (fun r w' => ∃ hi, r = .tuple #[.pointer (some ⟨hi, 0, none⟩), .int .i64 0] /\ w.heap.size <= hi /\ hi < w'.heap.size /\ Nj w' w.heap.size hi l k /\ aX w w' dG) := by
 refine Ab ?_
 unfold AL nF
 have h0 := (O4 he).1
 obtain ⟨b, off, c, rfl, hc, hcell⟩ := Zv h h0
 rw [Lp h0] at he
 have g := hcell (l.length - 1) (by omega)
 generalize (l[l.length - 1]'(by omega)) = x at *
 have hx : x.toNat < 256 := akI x
 have hx0 : x.toNat ≠ 0 := by
  intro h; rw [if_pos h] at he; cases he
 rw [if_neg hx0] at he
 have he := ajG he
 have hb1 := EY hx0
 have hb2 : bl x.toNat <= 8 := qE (n := 8) (by omega)
 have d1 : ((l.length : Int) == 0) = false := by simp; intro h; subst h; simp at h0
 have e1 : (l.length : Int) - 1 = ((l.length - 1 : Nat) : Int) := by omega
 have d2 : ((x.toNat : Int) == 0) = false := by simpa using hx0
 simp (disch := omega) only [aC, eT, eE, Result.ok.injEq, Next.value.injEq, and_true, true_and, aA, dZ, e1, aW, mC, aiM, jY, Dc, dJ, d1, eU, cD, aiS, if_false, cB, g, aI, d2, aD]
 refine (Lo (h.ext (aX.dr _ dG) (bY _)) (by omega)).mono ?_
 rintro r w1 ⟨o1, x1⟩
 have x01 : aX w w1 dG := (aX.dr w dG).seq x1
 have g1 := RH g x01 (fun h => h)
 have hat := uK.atI o1
 have hs := o1.sl
 obtain ⟨a, c', rfl⟩ := o1.len
 have gd : (dr w).cell? ⟨b, off + (l.length - 1), none⟩ = some (.int .u8 (x.toNat : Nat)) := g
 simp (disch := omega) only [g1, aI, gd, Result.ok.injEq, Next.value.injEq, and_true, aA, true_and]
 refine (afC hx _).mono ?_
 rintro r w2 ⟨rfl, rfl⟩
 have e2 : 8 * ((l.length - 1 : Nat) : Int) + (bl x.toNat : Nat) - 1 = (k : Int) := by omega
 simp (disch := omega) only [bK, aW, aA, dZ, e2, KI, true_and]
 refine hY fun w3 o3 x3 s3 => ?_
 simp only [Value.cells] at o3
 exact ⟨_, rfl, x01.size, by omega, ⟨_, o3, hs.ext x3 (bY _), hat⟩, x01.seq x3⟩
theorem TR {l : List UInt8} {lo hi : Nat} {left : Int} {w : anV} (h : Nj w lo hi l left) :
 aU pg jU #[.pointer (some ⟨hi, 0, none⟩)] w (fun r w' => r = .int .i64 left /\ w' = w) := by
 refine Hi ?_
 obtain ⟨v, o, hs, hat⟩ := h
 have c1 := o.cell (off := 1)
 simp only [aiP, aiQ] at c1
 unfold Dy qK
 simp (disch := omega) only [aC, sC, ajN, nA, aA, qM, aiR, cP, and_true, c1, aI, aD]
theorem P5 {l : List UInt8} {lo hi n : Nat} {left : Int} {w : anV} (h : Nj w lo hi l left) (hlh : lo <= hi) (hn : n <= 56) (h1 : left <= 8 * l.length) (h2 : -1000000000 <= left) (hl : l.length <= 1000000) :
 aU pg iA #[.pointer (some ⟨hi, 0, none⟩), .int .i64 n] w (fun r w' =>
  r = .int .u64 (Bt ((aY l).take left.toNat) n) /\ Nj w' lo hi l (left - n) /\ aX w w' (fun y => y = hi)) := by
 refine GM ?_
 unfold Di qJ
 by_cases hn0 : n = 0
 .subst hn0
  have d1 : decide (((0 : Nat) : Int) < 1) = true := rfl
  simp (disch := omega) only [aC, sC, ajN, nA, eE, and_true, aA, qM, aiR, cP, true_and, DY, eL, eU, cD, aiS, if_false, cB, bD, d1, lK, if_true, aG, eZ]
  have h0 : Bt ((aY l).take left.toNat) 0 = 0 := by
   have := Kt ((aY l).take left.toNat) 0
   rw [Nat.pow_zero] at this; omega
  exact ⟨by rw [h0] <;> rfl, by simpa using h, aX.refl _ _⟩
 obtain ⟨v, o, hs, hat⟩ := h
 have c0 := o.cell (off := 0)
 have c1 := o.cell (off := 1)
 have od := eP o
 have c0d := od.cell (off := 0)
 have c1d := od.cell (off := 1)
 simp only [aiP, aiQ] at c0 c1 c0d c1d
 have d1 : decide ((n : Int) < 1) = false := by simp; omega
 have d2 : decide ((56 : Int) < (n : Int)) = false := by simp; omega
 obtain ⟨k0, hk0⟩ : ∃ k0, k0 = left.toNat := ⟨_, rfl⟩
 obtain ⟨th, hth⟩ : ∃ th, th = min n k0 := ⟨_, rfl⟩
 have e1 : (if (0 : Int) > left then 0 else left) = (k0 : Int) := by split <;> omega
 have e2 : (if (n : Int) < (k0 : Int) then (n : Int) else (k0 : Int)) = (th : Int) := by split <;> omega
 have e3 : (k0 : Int) - (th : Int) = ((k0 - th : Nat) : Int) := by omega
 have e4 : (n : Int) - (th : Int) = ((n - th : Nat) : Int) := by omega
 rw [<- hk0]
 have hlen : ((aY l).take k0).length = k0 := by rw [ajL, kS]; omega
 have hlast : Bt ((aY l).take k0) n = uJ (((aY l).drop (k0 - th)).take th) * 2 ^ (n - th) := by
  unfold Bt
  rw [hlen, <- hth, List.drop_take, show k0 - (k0 - th) = th from by omega]
 have hlt := Kt ((aY l).take k0) n
 have hp : 2 ^ n <= 2 ^ 56 := ajA (by omega) hn
 have e5 : IntKind.u64.wrap (((uJ (((aY l).drop (k0 - th)).take th) : Nat) : Int) * 2 ^ (min (n - th) IntKind.u64.bits)) = ((Bt ((aY l).take k0) n : Nat) : Int) := by
  rw [show min (n - th) IntKind.u64.bits = n - th from akO (by have h64 : IntKind.u64.bits = 64 := rfl; omega), hlast]
  have e : ((uJ (((aY l).drop (k0 - th)).take th) : Nat) : Int) * 2 ^ (n - th) = ((uJ (((aY l).drop (k0 - th)).take th) * 2 ^ (n - th) : Nat) : Int) := by simp
  rw [e]
  rw [hlast] at hlt
  exact jC (by omega) (by omega)
 simp (disch := omega) only [aC, sC, ajN, nA, eE, and_true, aA, qM, aiR, cP, true_and, DY, eL, eU, cD, aiS, if_false, cB, bD, d1, fD, d2, c1, aI, We, e1, agC, e2, c0d, c1d, dZ, e4, aW, Result.ok.injEq, Next.value.injEq, iR, jC, e3, aD]
 refine (aaP (l := l) (st := k0 - th) (n := th) (hs.ext (aX.dr _ dG) (bY _)) (by omega) (by omega) (by omega)).mono ?_
 rintro r w1 ⟨rfl, rfl⟩
 simp (disch := omega) only [iX, aiM, e5, c1d, aI, aA, dZ, aW, true_and]
 refine xV od rfl (by simp) fun w2 o2 x2 s2 => ?_
 simp only [aiV, aiW] at o2
 have x02 : aX w w2 (fun y => y = hi) := (aX.dr _ _).seq x2
 exact ⟨⟨_, o2, hs.ext x02 (hat _ fun b hb hh => by omega), hat⟩, x02⟩
def Fo (L : List T3) (s : Int) : Nat := if 0 <= s then (match L[s.toNat]? with | some e => e.2.1.toNat | none => 0) else 0
def KU (L : List T3) (s : Int) (x : Nat) : Int := if 0 <= s then (match L[s.toNat]? with | some e => e.2.2 + x | none => 0) else 0
theorem Xe {log lo hi : Nat} {a : Option Addr} {k c : Nat} {l : List UInt8} {left : Int} {w : anV} (h : Nj w lo hi l left) (hlh : lo <= hi) (hhi : hi < w.heap.size) (hn : log <= 20) (h1 : left <= 8 * l.length) (h2 : -100000000 <= left) (hl : l.length <= 1000000) :
 aU pg Ey #[.agg #[.int .i64 log, .slice a k c], .pointer (some ⟨hi, 0, none⟩)] w (fun r w' => r = .int .i64 (Bt ((aY l).take left.toNat) log : Nat) /\ Nj w' lo hi l (left - log) /\ aX w w' (fun y => y = hi)) := by
 refine SX ?_
 unfold Tr HB
 refine hY fun w1 o1 x1 s1 => ?_
 simp only [Value.cells] at o1
 have c0 := o1.cell (off := 0)
 simp only [aiP, aiQ] at c0
 simp (disch := omega) only [aC, Hb, aA, cP, c0, aI]
 refine (P5 (h.ext x1 (fun _ _ _ h => h) hlh) hlh (by omega) h1 (by omega) hl).mono ?_
 rintro r w2 ⟨rfl, b2, x2⟩
 have hlt := Kt ((aY l).take left.toNat) log
 have hp : 2 ^ log <= 2 ^ 20 := ajA (by omega) hn
 generalize Bt ((aY l).take left.toNat) log = x at *
 simp (disch := omega) only [dI, aW, aA, true_and]
 exact ⟨b2, (x1.mono fun _ _ h => h.elim).seq x2⟩
theorem Yo {log base b lo hi : Nat} {L : List T3} {v : anW} {s : Int} {l : List UInt8} {left : Int} {w : anV} (ht : Xb w base b log L v) (hL : Low L) (hlen : L.length <= 1000000) (h : Nj w lo hi l left) (hlh : lo <= hi) (hhi : hi < w.heap.size) (hb : b ≠ hi) (h1 : left <= 8 * l.length) (h2 : -100000000 <= left) (hl : l.length <= 1000000) :
 aU pg Ih #[v, .int .i64 s, .pointer (some ⟨hi, 0, none⟩)] w (fun r w' => r = .int .i64 (KU L s (Bt ((aY l).take left.toNat) (Fo L s))) /\ Nj w' lo hi l (left - Fo L s) /\ aX w w' (fun y => y = hi)) := by
 refine Tf ?_
 obtain ⟨rfl, hb0, ob⟩ := ht
 unfold VX J4
 refine hY fun w1 o1 x1 s1 => ?_
 simp only [Value.cells] at o1
 have c1 := o1.cell (off := 1)
 simp only [aiP, aiQ] at c1
 have hbw := h.ext x1 (fun _ _ _ h => h) hlh
 by_cases hs0 : s < 0
 .have d1 : decide (s < 0) = true := by simpa using hs0
  have e1 : Fo L s = 0 := by unfold Fo; rw [if_neg (by omega)]
  have e2 : ∀ x, KU L s x = 0 := fun x => by unfold KU; rw [if_neg (by omega)]
  rw [e1]
  simp (disch := omega) only [aC, bD, d1, bE, aiR, aA, eE, and_true, true_and, bZ, lK, cD, if_true, aG, eZ]
  exact ⟨by rw [e2], by simpa using hbw, x1.mono fun _ _ h => h.elim⟩
 have d1 : decide (s < 0) = false := by simpa using hs0
 obtain ⟨i, rfl⟩ : ∃ i : Nat, s = i := ⟨s.toNat, by omega⟩
 by_cases hge : L.length <= i
 .have d2 : decide ((L.length : Int) <= (i : Int)) = true := by simp; omega
  have hnone : L[i]? = none := ajJ hge
  have e1 : Fo L i = 0 := by unfold Fo; simp [hnone]
  have e2 : ∀ x, KU L i x = 0 := fun x => by unfold KU; simp [hnone]
  rw [e1]
  simp (disch := omega) only [aC, bD, d1, bE, aiR, aA, eE, and_true, true_and, bZ, eU, cD, aiS, if_false, cB, c1, aI, fO, rX, d2, aG]
  exact ⟨by rw [e2], by simpa using hbw, x1.mono fun _ _ h => h.elim⟩
 have d2 : decide ((L.length : Int) <= (i : Int)) = false := by simp; omega
 have hlt : i < L.length := by omega
 have l1 := F9 (off := i * 3) (ob.ext x1 (fun h => h)) (by rw [sU]; omega)
 rw [UQ hlt] at l1
 obtain ⟨n, hn, hn2, hb0', hb1⟩ := hL _ (ajM hlt)
 have hsome : L[i]? = some L[i] := aiN hlt
 have e1 : Fo L i = n := by unfold Fo; simp [hsome, hn]
 have e2 : ∀ x : Nat, KU L i x = L[i].2.2 + x := fun x => by unfold KU; simp [hsome]
 generalize L[i] = e at *
 obtain ⟨e0, en, eb⟩ := e
 simp only at hn hb0' hb1 l1 e2
 subst hn
 rw [e1, e2]
 simp (disch := omega) only [aC, bD, d1, bE, aiR, aA, eE, and_true, true_and, bZ, eU, cD, aiS, if_false, cB, c1, aI, fO, rX, d2, kO, aiM, l1, aD]
 refine Iv fun w3 o3 x3 s3 => ?_
 refine FF o3 rfl (by simp [one]) (by simp) fun w4 o4 x4 s4 => ?_
 simp only [bQ, aiV, aiW] at o4
 have x14 : aX w1 w4 dG := x3.new x4 (by omega)
 have od := eP o4
 have k1 := o4.cell (off := 1)
 have k2 := o4.cell (off := 2)
 have k1d := od.cell (off := 1)
 have k2d := od.cell (off := 2)
 simp only [aiP, aiQ] at k1 k2 k1d k2d
 simp (disch := omega) only [kG, aiR, iK, Result.ok.injEq, Next.value.injEq, and_true, aA, cP, k1d, aI, true_and, k2d]
 have z3 := x3.size
 refine (P5 ((hbw.ext x14 (fun _ _ _ h => h) hlh).ext (aX.dr _ dG) (fun _ _ _ h => h) hlh) hlh (by omega) h1 (by omega) hl).mono ?_
 rintro r w5 ⟨rfl, b5, x5⟩
 have x45 : aX w4 w5 (fun y => y = hi) := (aX.dr _ _).seq x5
 have k2e := (o4.ext x45 (by omega)).cell (off := 2)
 simp only [aiP, aiQ] at k2e
 have hlt := Kt ((aY l).take left.toNat) n
 have hp : 2 ^ n <= 2 ^ 20 := ajA (by omega) hn2
 generalize Bt ((aY l).take left.toNat) n = x at *
 simp (disch := omega) only [k2e, aI, dI, aW, aA, bK, true_and]
 exact ⟨b5, ((x1.seq x14).mono fun _ _ h => h.elim).seq x45⟩
theorem UU {a b : Nat} (ha : a < 2 ^ 62) (hb : b < 2 ^ 62) : orI .i64 (a : Int) (b : Int) = ((a ||| b : Nat) : Int) := by
 have h := Nat.or_lt_two_pow ha hb
 unfold orI
 have e : IntKind.i64.bits = 64 := rfl
 rw [e, BitVec.ofInt_natCast, BitVec.ofInt_natCast, BitVec.toNat_or, BitVec.toNat_ofNat, BitVec.toNat_ofNat, ajP (by omega), ajP (by omega)]
 exact aW (by omega) (by have : ((a ||| b : Nat) : Int) < ((2 ^ 62 : Nat) : Int) := by exact_mod_cast h
                         omega)
def T6 (w' : anV) (lo hi p : Nat) (l : List UInt8) (r : anW) : Prop := match Ov l with
 | .ok (n, rest) => r = .int .i64 n /\ Rb w' lo hi p rest 0
 | .error e => e ≠ 0 /\ ∃ (n : Nat) (l' : List UInt8), r = .int .i64 n /\ Rb w' lo hi p l' e
theorem Ue (n : Nat) (hn : 1 <= n) : OJ [] 0 n = ([], [], 10) := by
 unfold OJ; rw [if_neg (by decide), if_pos (by simp; omega)]
theorem Xm (c : UInt8) (r : List UInt8) : OJ (c :: r) 0 1 = ([c], r, 0) := by
 unfold OJ; rw [if_neg (by decide), if_neg (by simp)] <;> rfl
theorem aeD (c d : UInt8) (r : List UInt8) : OJ (c :: d :: r) 0 2 = ([c, d], r, 0) := by
 unfold OJ; rw [if_neg (by decide), if_neg (by simp)] <;> rfl
theorem Ym (c : UInt8) : OJ [c] 0 2 = ([], [c], 10) := by
 unfold OJ; rw [if_neg (by decide), if_pos (by simp)]
theorem Vq {lo hi p : Nat} {l : List UInt8} {w : anV} (h : Rb w lo hi p l 0) (hl : l.length <= 1000000000) :
 aU pg oL #[.pointer (some ⟨p, 0, none⟩)] w (fun r w' => T6 w' lo hi p l r /\ aX w w' (fun y => y = p)) := by
 refine I8 ?_
 obtain ⟨RR, hRR⟩ : ∃ RR : anW -> anV -> Prop, RR = fun r w' => T6 w' lo hi p l r /\ aX w w' (fun y => y = p) := ⟨_, rfl⟩
 rw [<- hRR]
 unfold Gg tR
 refine (Ir (n := 1) h hl (by omega)).mono ?_
 rintro r w1 ⟨rfl, h1, x1⟩
 cases l with
 | nil =>
   rw [Ue 1 (by omega)] at h1 ⊢
   have d1 : decide ((0 : Int) < 128) = true := rfl
   have e0 : ((AI ([] : List UInt8) : Nat) : Int) = 0 := rfl
   simp (disch := omega) only [aC, e0, dI, aW, aA, bD, d1, dZ, iX, aG]
   rw [hRR]
   exact ⟨⟨by decide, 0, [], rfl, h1⟩, x1⟩
 | cons f r =>
   rw [Xm] at h1 ⊢
   have hf : AI [f] = f.toNat := by simp [AI]
   have hf8 : f.toNat < 256 := akI f
   rw [hf]
   have hN : Ov (f :: r) = if f.toNat < 128 then .ok (f.toNat, r) else if f.toNat < 255 then afB f.toNat r else afH r := rfl
   generalize f.toNat = x at *
   have ew : IntKind.i64.wrap (x : Int) = x := aW (by omega) (by omega)
   have hl' : r.length <= 1000000000 := by simp at hl; omega
   by_cases h128 : x < 128
   .have d1 : decide ((x : Int) < 128) = true := by simp; omega
    simp (disch := omega) only [aC, dI, ew, aA, bD, d1, dZ, aW, iX, aG]
    rw [hRR]
    refine ⟨?_, x1⟩
    unfold T6
    rw [hN, if_pos h128]
    exact ⟨rfl, h1⟩
   have d1 : decide ((x : Int) < 128) = false := by simp; omega
   by_cases h255 : x < 255
   .have d2 : decide ((x : Int) < 255) = true := by simp; omega
    obtain ⟨m, hm⟩ : ∃ m, m = x - 128 := ⟨_, rfl⟩
    have e1 : (x : Int) - 128 = (m : Int) := by omega
    have e2 : IntKind.i64.wrap ((m : Int) * 2 ^ (min (8 : Int).toNat IntKind.i64.bits)) = ((m * 256 : Nat) : Int) := by
     rw [show min (8 : Int).toNat IntKind.i64.bits = 8 from rfl, show (m : Int) * 2 ^ 8 = ((m * 256 : Nat) : Int) by omega]
     exact aW (by omega) (by omega)
    simp (disch := omega) only [aC, dI, ew, aA, bD, d1, d2, dZ, e1, aW, iX, e2, aG, aD]
    refine (Ir (n := 1) h1 hl' (by omega)).mono ?_
    rintro v w2 ⟨rfl, h2, x2⟩
    have x12 := x1.seq x2
    cases r with
    | nil =>
      rw [Ue 1 (by omega)] at h2 ⊢
      have e0 : ((AI ([] : List UInt8) : Nat) : Int) = ((0 : Nat) : Int) := rfl
      have e3 := UU (a := m * 256) (b := 0) (by omega) (by omega)
      have e4 : IntKind.i64.wrap ((0 : Nat) : Int) = ((0 : Nat) : Int) := rfl
      simp (disch := omega) only [e0, dI, e4, aA, WS, e3]
      rw [hRR]
      refine ⟨?_, x12⟩
      unfold T6
      rw [hN, if_neg h128, if_pos h255]
      exact ⟨by decide, m * 256, [], by simp, h2⟩
    | cons g s =>
      rw [Xm] at h2 ⊢
      have hg : AI [g] = g.toNat := by simp [AI]
      have hg8 : g.toNat < 256 := akI g
      rw [hg]
      have hN2 : afB x (g :: s) = .ok ((x - 128) * 256 + g.toNat, s) := rfl
      generalize g.toNat = y at *
      have ew2 : IntKind.i64.wrap (y : Int) = y := aW (by omega) (by omega)
      have e3 := UU (a := m * 256) (b := y) (by omega) (by omega)
      have e4 : (m * 256) ||| y = m * 256 + y := by
       rw [Nat.or_comm, show m * 256 = m * 2 ^ 8 from rfl, WY (by omega)]; omega
      rw [e4] at e3
      simp (disch := omega) only [dI, ew2, aA, WS, e3]
      rw [hRR]
      refine ⟨?_, x12⟩
      unfold T6
      rw [hN, if_neg h128, if_pos h255, hN2, <- hm]
      exact ⟨rfl, h2⟩
   .have d2 : decide ((x : Int) < 255) = false := by simp; omega
    simp (disch := omega) only [aC, dI, ew, aA, bD, d1, d2, dZ, aW, iX, aD]
    refine (Ir (n := 2) h1 hl' (by omega)).mono ?_
    rintro v w2 ⟨rfl, h2, x2⟩
    have x12 := x1.seq x2
    rw [if_neg h128, if_neg h255] at hN
    cases r with
    | nil =>
      rw [Ue 2 (by omega)] at h2 ⊢
      have e0 : ((AI ([] : List UInt8) : Nat) : Int) = ((0 : Nat) : Int) := rfl
      have e4 : IntKind.i64.wrap ((0 : Nat) : Int) = ((0 : Nat) : Int) := rfl
      have e5 : IntKind.i64.wrap (((0 : Nat) : Int) + 32512) = ((32512 : Nat) : Int) := rfl
      simp (disch := omega) only [e0, dI, e4, aA, bK, e5]
      rw [hRR]
      refine ⟨?_, x12⟩
      unfold T6
      rw [hN]
      exact ⟨by decide, 32512, [], rfl, h2⟩
    | cons g s =>
      cases s with
      | nil =>
        rw [Ym] at h2 ⊢
        have e0 : ((AI ([] : List UInt8) : Nat) : Int) = ((0 : Nat) : Int) := rfl
        have e4 : IntKind.i64.wrap ((0 : Nat) : Int) = ((0 : Nat) : Int) := rfl
        have e5 : IntKind.i64.wrap (((0 : Nat) : Int) + 32512) = ((32512 : Nat) : Int) := rfl
        simp (disch := omega) only [e0, dI, e4, aA, bK, e5]
        rw [hRR]
        refine ⟨?_, x12⟩
        unfold T6
        rw [hN]
        exact ⟨by decide, 32512, [g], rfl, h2⟩
      | cons k s =>
        rw [aeD] at h2 ⊢
        have hg : AI [g, k] = g.toNat + 256 * k.toNat := by simp [AI]
        have hg8 : g.toNat < 256 := akI g
        have hk8 : k.toNat < 256 := akI k
        have hN3 : afH (g :: k :: s) = .ok (g.toNat + 256 * k.toNat + 32512, s) := rfl
        rw [hg]
        have hy : g.toNat + 256 * k.toNat < 65536 := by omega
        generalize g.toNat + 256 * k.toNat = y at *
        have ew2 : IntKind.i64.wrap (y : Int) = y := aW (by omega) (by omega)
        obtain ⟨z, hz⟩ : ∃ z, z = y + 32512 := ⟨_, rfl⟩
        have e5 : (y : Int) + 32512 = (z : Int) := by omega
        rw [<- hz] at hN3
        simp (disch := omega) only [dI, ew2, aA, bK, e5, aW]
        rw [hRR]
        refine ⟨?_, x12⟩
        unfold T6
        rw [hN, hN3]
        exact ⟨rfl, h2⟩
abbrev TT := Nat × List T3
def mk2 (m k : Nat) : Nat := m / 2 ^ (6 - 2 * k) % 4
def LN (t : Nat -> TT) (k : Nat) (x : TT) : Nat -> TT := fun i => if i = k then x else t i
def Gq (m : Nat) (o : Nat -> TT) : Nat -> (Nat -> TT) -> List UInt8 -> Except Int ((Nat -> TT) × List UInt8)
 | 0, t, l => .ok (t, l)
 | j + 1, t, l => match iI ((2 - j : Nat) : Int) ((mk2 m (2 - j) : Nat) : Int) l (o (2 - j)) with
   | .error e => .error e
   | .ok (x, n) => Gq m o j (LN t (2 - j) x) (l.drop n)
def runT (t : Nat -> TT) (B : List Bool) (n : Nat) (k : Int) : List Sq × Int :=
 sqR (t 0).2 (t 1).2 (t 2).2 B n (WJ B k (t 0).1 : Nat) (WJ B (k - (t 0).1) (t 1).1 : Nat) (WJ B (k - (t 0).1 - (t 1).1) (t 2).1 : Nat) (k - (t 0).1 - (t 1).1 - (t 2).1)
def Mu (t : Nat -> TT) (n : Nat) (l : List UInt8) : Except Int (List Sq × (Nat -> TT)) := match Tk l with
 | none => .error 11
 | some k => if (runT t (aY l) n k).2 < 0 then .error 11 else if 0 < (runT t (aY l) n k).2 then .error 15 else .ok ((runT t (aY l) n k).1, t)
def VC (o : Nat -> TT) (n : Nat) : List UInt8 -> Except Int (List Sq × (Nat -> TT))
 | [] => .error 10
 | m :: l => if m.toNat % 4 ≠ 0 then .error 11 else match Gq m.toNat o 3 o l with
   | .error e => .error e
   | .ok (t, r) => Mu t n r
def Gn (l : List UInt8) (o : Nat -> TT) : Except Int (List Sq × (Nat -> TT)) := match Ov l with
 | .error e => .error e
 | .ok (n, r) => if n = 0 then (if r = [] then .ok ([], o) else .error 15) else VC o n r
def Vm (o : Nat -> TT) : Prop := ∀ k, k < 3 -> (o k).2 ≠ [] -> uM k (o k)
theorem afE (m k : Nat) : mk2 m k < 4 := amA _ (by omega)
theorem TK {m : Nat} {o : Nat -> TT} (ho : Vm o) : ∀ {j : Nat} {t t' : Nat -> TT} {l l' : List UInt8}, j <= 3 -> (∀ k, k + j < 3 -> uM k (t k)) -> Gq m o j t l = .ok (t', l') -> (∀ k, k < 3 -> uM k (t' k)) /\ l'.length <= l.length
 | 0, t, t', l, l', _, hg, h => by cases h; exact ⟨fun k hk => hg k hk, aiU _⟩
 | j + 1, t, t', l, l', hj, hg, h => by
   unfold Gq at h
   split at h
   .cases h
   .rename_i x n hr
    obtain ⟨h1, h2⟩ := RU (k := 2 - j) (by omega) (fun _ hne => ho (2 - j) (by omega) hne) hr
    obtain ⟨h3, h4⟩ := TK ho (by omega) (fun k hk => by
     unfold LN
     split
     .rename_i he; rw [he]; exact h1
     .exact hg k (by omega)) h
    exact ⟨h3, by rw [akG] at h4; omega⟩
theorem SJ {k : Nat} {T : TT} (h : uM k T) {s : Nat} (hs : s < T.2.length) : ∃ e c : Nat × Nat, T.2[s]? = some ((e.1 : Int), (e.2 : Int), (c.1 : Int)) /\ e.1 < iO k /\ e.2 <= 20 /\ c.1 <= 100000 /\ c.1 + 2 ^ e.2 <= T.2.length := by
 have hm := ajM hs
 obtain ⟨n, h1, h2, h3, h4⟩ := h.low _ hm
 obtain ⟨c, h5, h6⟩ := h.sym _ hm
 have h7 := h.nxt _ hm
 have he : T.2[s]? = some T.2[s] := aiN hs
 generalize T.2[s] = e at *
 obtain ⟨a, b, d⟩ := e
 simp only at h1 h2 h3 h4 h5 h6 h7
 obtain ⟨y, rfl⟩ : ∃ y : Nat, d = y := ⟨d.toNat, by omega⟩
 subst h1 h5
 rw [aiM] at h7
 refine ⟨(c, n), (y, 0), he, h6, h2, by simp only; omega, ?_⟩
 simp only
 generalize 2 ^ n = z at *
 omega
theorem Ph (B : List Bool) (left : Int) (n : Nat) : WJ B left n < 2 ^ n := Kt _ _
theorem Y7 {L : List T3} {s : Nat} {c : Nat} {x y : Int} (h : L[s]? = some ((c : Int), x, y)) : sAt L s = c := by
 unfold sAt; rw [if_pos (by omega), aiM, h] <;> rfl
theorem U2 {k : Nat} {T : TT} (h : uM k T) {s : Nat} (hs : s < T.2.length) (B : List Bool) (left : Int) : ∃ s' : Nat, (nR T.2 s B left).1 = s' /\ s' < T.2.length /\ left - 20 <= (nR T.2 s B left).2 /\ (nR T.2 s B left).2 <= left := by
 obtain ⟨e, c, h1, h2, h3, h4, h5⟩ := SJ h hs
 have hb : bAt T.2 s = e.2 := by unfold bAt; rw [if_pos (by omega), aiM, h1] <;> rfl
 have hr := Ph B left e.2
 refine ⟨c.1 + WJ B left e.2, ?_, by omega, ?_, ?_⟩
 .unfold nR nAt
  rw [hb, if_pos (by omega), aiM, h1]
  rfl
 .unfold nR; simp only; rw [hb]; omega
 .unfold nR; simp only; rw [hb]; omega
theorem Lj {k : Nat} (hk : k < 3) {T : TT} (h : uM k T) {s : Nat} (hs : s < T.2.length) (B : List Bool) (left : Int) : (vR k T.2 s B left).1 < 4294967296 /\ left - 31 <= (vR k T.2 s B left).2 /\ (vR k T.2 s B left).2 <= left := by
 obtain ⟨e, c, h1, h2, h3, h4, h5⟩ := SJ h hs
 have ha := RE hk e.1
 have he := aeK hk e.1 h2
 have hr := Ph B left ((iM k).getD e.1 0)
 unfold vR
 rw [Y7 h1]
 simp only
 refine ⟨by omega, by omega, by omega⟩
theorem MN {k base lo hi b : Nat} {T : TT} {v : anW} {s : Nat} {l : List UInt8} {left : Int} {w : anV} (hg : nX w) (hk : k < 3) (ht : Xb w base b T.1 T.2 v) (hG : uM k T) (hs : s < T.2.length) (h : Nj w lo hi l left) (hlh : lo <= hi) (hhi : hi < w.heap.size) (h1 : left <= 8 * l.length) (h2 : -100000000 <= left) (hl : l.length <= 1000000) :
 aU pg kL #[.int .i64 k, v, .int .i64 s, .pointer (some ⟨hi, 0, none⟩)] w (fun r w' => r = .int .u32 ((vR k T.2 s (aY l) left).1 : Nat) /\ Nj w' lo hi l (vR k T.2 s (aY l) left).2 /\ aX w w' (fun y => y = hi)) := by
 refine Kn ?_
 obtain ⟨RR, hRR⟩ : ∃ RR : anW -> anV -> Prop, RR = fun r w' => r = .int .u32 ((vR k T.2 s (aY l) left).1 : Nat) /\ Nj w' lo hi l (vR k T.2 s (aY l) left).2 /\ aX w w' (fun y => y = hi) := ⟨_, rfl⟩
 rw [<- hRR]
 have hlen9 : T.2.length <= 512 := by rw [hG.len]; exact ajA (by omega) hG.lg
 obtain ⟨rfl, hb0, ob⟩ := ht
 unfold IW vM
 refine hY fun w1 o1 x1 s1 => ?_
 simp only [Value.cells] at o1
 have c1 := o1.cell (off := 1)
 simp only [aiP, aiQ] at c1
 have hbw := h.ext x1 (fun _ _ _ h => h) hlh
 have d1 : decide ((s : Int) < 0) = false := by simp
 have d2 : decide ((T.2.length : Int) <= (s : Int)) = false := by simp; omega
 obtain ⟨e, c, e1, e2, e3, e4, e5⟩ := SJ hG hs
 have k0 := (ob.ext x1 (fun h => h)).cell (off := s * 3)
 rw [(NN e1).1] at k0
 have hc53 : iO k <= 53 := by rcases (show k = 0 ∨ k = 1 ∨ k = 2 by omega) with rfl | rfl | rfl <;> decide
 have ew : IntKind.i64.wrap (e.1 : Int) = (e.1 : Int) := aW (by omega) (by omega)
 simp (disch := omega) only [aC, bD, d1, bE, aiR, aA, bZ, eU, cD, aiS, if_false, cB, c1, aI, fO, rX, d2, kO, aiM, eY, jY, k0, pC, ew, aD]
 refine (ZC (hg.ext x1) hk e2).mono ?_
 rintro r w2 ⟨rfl, x2⟩
 have ha := RE hk e.1
 have he := aeK hk e.1 e2
 have hr := Ph (aY l) left ((iM k).getD e.1 0)
 have hv : vR k T.2 s (aY l) left = ((oY k).getD e.1 0 + WJ (aY l) left ((iM k).getD e.1 0), left - (iM k).getD e.1 0) := by unfold vR; rw [Y7 e1]
 rw [hv] at hRR
 simp (disch := omega) only [Wv, Ww, WA, aA]
 refine (P5 (hbw.ext x2 (fun _ _ _ h => h) hlh) hlh (by omega) h1 (by omega) hl).mono ?_
 rintro r w3 ⟨rfl, b3, x3⟩
 have hr' : Bt ((aY l).take left.toNat) ((iM k).getD e.1 0) = WJ (aY l) left ((iM k).getD e.1 0) := rfl
 rw [hr'] at *
 generalize WJ (aY l) left ((iM k).getD e.1 0) = x at *
 generalize (iM k).getD e.1 0 = n at *
 generalize (oY k).getD e.1 0 = y at *
 generalize 2 ^ n = z at *
 have ew2 : IntKind.u32.wrap (x : Int) = (x : Int) := w32 (by omega) (by omega)
 have ew3 : IntKind.u32.wrap ((y : Int) + (x : Int)) = ((y + x : Nat) : Int) := by rw [w32 (by omega) (by omega)]; omega
 simp (disch := omega) only [OX, ew2, aA, bK, ew3]
 rw [hRR]
 exact ⟨rfl, b3, ((x1.seq x2).mono fun _ _ h => h.elim).seq x3⟩
theorem Lk {w : anV} {b : Nat} {cs cs' : List anW} (h : cG w b cs) (h' : cG w b cs') : cs = cs' := by
 obtain ⟨T, lo, hi, h1, _⟩ := h
 obtain ⟨T', lo', hi', h2, _⟩ := h'
 rw [h1] at h2
 have h3 := ajG h2
 injection h3 with h4
 simpa using congrArg Array.toList h4
theorem Bd.own {w w' : anV} {base p : Nat} {T : TT} {v : anW} {cs : List anW} (h : Bd w base T v) (o : cG w p cs) (h0 : 0 < cs.length) (hc : ∀ u, cs[0]? ≠ some (.int .u8 u)) (x : aX w w' (fun y => y = p)) : Bd w' base T v := by
 rcases h with h | ⟨b, h1, h2, h3⟩
 .exact .inl h
 .refine .inr ⟨b, h1, h2, h3.ext x ?_⟩
  rintro rfl
  have e := Lk h3 o
  subst e
  cases hT : T.2 with
  | nil => rw [hT] at h0; simp [fe] at h0
  | cons a r =>
    have := (NN (k := .u8) (L := T.2) (i := 0) (e := a) (by rw [hT] <;> rfl)).1
    exact hc _ this
def tvL (T : TT) (a : Option Addr) : anW := .agg #[.int .i64 T.1, .slice a T.2.length T.2.length]
def c6 (o : Nat -> TT) (a : Nat -> Option Addr) : List anW := [.int .i64 (o 0).1, .slice (a 0) (o 0).2.length (o 0).2.length, .int .i64 (o 1).1, .slice (a 1) (o 1).2.length (o 1).2.length, .int .i64 (o 2).1, .slice (a 2) (o 2).2.length (o 2).2.length]
def Gc (w : anV) (o : Nat -> TT) (a : Nat -> Option Addr) : Prop := ∀ k, k < 3 -> Bd w 0 (o k) (tvL (o k) (a k))
theorem Gc.ext {w w' : anV} {o : Nat -> TT} {a : Nat -> Option Addr} (h : Gc w o a) (x : aX w w' dG) : Gc w' o a := fun k hk => (h k hk).ext x fun _ _ _ h => h
theorem Gc.own {w w' : anV} {o : Nat -> TT} {a : Nat -> Option Addr} {p : Nat} {cs : List anW} (h : Gc w o a) (ho : cG w p cs) (h0 : 0 < cs.length) (hc : ∀ u, cs[0]? ≠ some (.int .u8 u)) (x : aX w w' (fun y => y = p)) : Gc w' o a := fun k hk => (h k hk).own ho h0 hc x
theorem Gc.rdr {w w' : anV} {o : Nat -> TT} {a : Nat -> Option Addr} {lo hi p : Nat} {l : List UInt8} {e : Int} (h : Gc w o a) (hr : Rb w lo hi p l e) (x : aX w w' (fun y => y = p)) : Gc w' o a := by
 obtain ⟨_, _, v, ho, hb, _⟩ := hr
 obtain ⟨va, vc, rfl, _⟩ := hb.len
 exact h.own ho (by simp) (fun u => by simp) x
def XQ (a : Nat -> Option Addr) (k : Nat) (x : Option Addr) : Nat -> Option Addr := fun i => if i = k then x else a i
theorem Gc.up {w : anV} {o : Nat -> TT} {a : Nat -> Option Addr} {k : Nat} {T : TT} {x : Option Addr} (h : Gc w o a) (hx : Bd w 0 T (tvL T x)) : Gc w (LN o k T) (XQ a k x) := fun i hi => by
 unfold LN XQ
 split
 .exact hx
 .exact h i hi
def IL (o : Nat -> TT) : List UInt8 -> Except Int ((Nat -> TT) × List UInt8)
 | [] => .error 10
 | m :: l => if m.toNat % 4 ≠ 0 then .error 11 else Gq m.toNat o 3 o l
def Tw : anW := .agg #[(.int .i64 0), (.slice none 0 0), (.int .i64 0), (.slice none 0 0), (.int .i64 0), (.slice none 0 0)]
def XG (w : anV) (lo p : Nat) (x : Except Int ((Nat -> TT) × List UInt8)) (r : anW) : Prop := match x with
 | .error e => r = .tuple #[Tw, .int .i64 e] /\ e ≠ 0
 | .ok (t, l) => ∃ a, r = .tuple #[.agg (c6 t a).toArray, .int .i64 0] /\ Gc w t a /\ Rb w lo w.heap.size p l 0
theorem Pl {a mode : Int} {l : List UInt8} {T : TT} {e : Int} (h : iI a mode l T = .error e) : e ≠ 0 := by
 unfold iI at h
 split at h
 .cases h; decide
 split at h
 .cases h
 split at h
 .split at h
  .cases h; decide
  .split at h
   .cases h; decide
   .cases h
 split at h
 .split at h
  .cases h; decide
  .cases h
 .split at h
  .rename_i e' he
   cases h
   exact TA he
  .cases h
theorem Yw {o : Nat -> TT} {l : List UInt8} {e : Int} (h : IL o l = .error e) : e ≠ 0 := by
 have ht : ∀ {m j : Nat} {t : Nat -> TT} {l : List UInt8}, Gq m o j t l = .error e -> e ≠ 0 := by
  intro m j
  induction j with
  | zero => intro t l h; cases h
  | succ j ih =>
    intro t l h
    unfold Gq at h
    split at h
    .rename_i e' he
     cases h
     exact Pl he
    .exact ih h
 cases l with
 | nil => cases h; decide
 | cons m l =>
   have hh : IL o (m :: l) = if m.toNat % 4 ≠ 0 then .error 11 else Gq m.toNat o 3 o l := rfl
   rw [hh] at h
   by_cases hm : m.toNat % 4 ≠ 0
   .rw [if_pos hm] at h; cases h; decide
   .rw [if_neg hm] at h; exact ht h
theorem VT {x : Nat} (h : x < 256) : RK .i64 (x : Int) 3 = ((x % 4 : Nat) : Int) := by
 have : ∀ k : Fin 256, RK .i64 (k.val : Int) 3 = ((k.val % 4 : Nat) : Int) := by decide +kernel
 exact this ⟨x, h⟩
theorem TI (o : Nat -> TT) (a : Nat -> Option Addr) {k : Nat} (h : k < 3) : ((c6 o a).drop (k * 2)).take 2 = [.int .i64 (o k).1, .slice (a k) (o k).2.length (o k).2.length] := by
 rcases (show k = 0 ∨ k = 1 ∨ k = 2 by omega) with rfl | rfl | rfl <;> rfl
theorem Xl (o : Nat -> TT) (a : Nat -> Option Addr) {k : Nat} (h : k < 3) (T : TT) (x : Option Addr) : bQ (c6 o a) (k * 2) [.int .i64 T.1, .slice x T.2.length T.2.length] = c6 (LN o k T) (XQ a k x) := by
 rcases (show k = 0 ∨ k = 1 ∨ k = 2 by omega) with rfl | rfl | rfl <;> rfl
theorem abE {x k : Nat} (hx : x < 256) (h : k < 3) : RK .i64 ((x : Int).fdiv (2 ^ min (6 - 2 * k) IntKind.i64.bits)) 3 = ((mk2 x k : Nat) : Int) := by
 have h64 : IntKind.i64.bits = 64 := rfl
 have hf : (x : Int).fdiv (2 ^ min (6 - 2 * k) IntKind.i64.bits) = ((x / 2 ^ (6 - 2 * k) : Nat) : Int) := by
  rw [h64, akO (by omega), show (2 : Int) ^ (6 - 2 * k) = ((2 ^ (6 - 2 * k) : Nat) : Int) by simp, amG _ (Int.natCast_nonneg _)]
  rfl
 rw [hf, VT (Nat.lt_of_le_of_lt (anS _ _) hx)]
 rfl
theorem Sx {a mode : Int} {n : Nat} {l : List UInt8} {T T' : TT} (h : iI a mode l T = .ok (T', n)) : n <= l.length := by
 unfold iI at h
 split at h
 .cases h
 split at h
 .cases h; exact alM _
 split at h
 .split at h
  .cases h
  .split at h
   .cases h
   .cases h; simp
 split at h
 .split at h
  .cases h
  .cases h; exact alM _
 .split at h
  .cases h
  .rename_i lg ps u hr
   cases h
   have h4 := SG hr
   rw [kS] at h4
   omega
theorem VQ {p : Nat} {w : anV} {x0 x1 x2 : Int} {a0 a1 a2 : Option Addr} {n0 n1 n2 : Nat} {c : List anW} {e : anW} (o : cG w p c) (hc : c.length = 6) {RR : anW -> anV -> Prop}
 (hR : ∀ w', aX w w' (fun y => y = p) -> RR (.tuple #[.agg #[.int .i64 x0, .slice a0 n0 n0, .int .i64 x1, .slice a1 n1 n1, .int .i64 x2, .slice a2 n2 n2], e]) w') :
 aC pg (aR 29 (.pointer (some ⟨p, 0, none⟩)) (.agg #[.int .i64 x0, .slice a0 n0 n0, .int .i64 x1, .slice a1 n1 n1, .int .i64 x2, .slice a2 n2 n2])) w fun _u w => xA pg 29 (.pointer (some ⟨p, 0, none⟩)) w fun r0 => RR (.tuple #[r0, e]) w := by
 match c, hc with
 | [c0, c1, c2, c3, c4, c5], _ =>
   refine gH o rfl (by simp [one]) (by simp) fun w6 o6 x6 s6 => ?_
   refine Bi o6 (by simp [bQ]) ?_
   simp only [bQ, aiV, aiW, aiY, aiT, aiZ]
   exact hR _ x6
theorem afI {w0 w : anV} {lo hi p : Nat} {l : List UInt8} {o : Nat -> TT} {a : Nat -> Option Addr} (hg : nX w0) (x0 : aX w0 w dG) (hp : w0.heap.size <= p) (h : Rb w lo hi p l 0) (hhi : hi <= w.heap.size) (hl : l.length <= 1000000) (hT : Gc w o a) (hO : ∀ k, k < 3 -> (o k).2.length <= 1000000) :
 aU pg nU #[.pointer (some ⟨p, 0, none⟩), .agg (c6 o a).toArray] w (fun r w' => XG w' lo p (IL o l) r /\ aX w w' (fun y => y = p)) := by
 refine LY ?_
 obtain ⟨RR, hRR⟩ : ∃ RR : anW -> anV -> Prop, RR = fun r w' => XG w' lo p (IL o l) r /\ aX w w' (fun y => y = p) := ⟨_, rfl⟩
 rw [<- hRR]
 have hpl := h.lt
 have err : ∀ {e : Int} {w' : anV}, IL o l = .error e -> aX w w' (fun y => y = p) -> RR (.tuple #[Tw, .int .i64 e]) w' := fun h x => by
  rw [hRR]; unfold XG; rw [h]; exact ⟨⟨rfl, Yw h⟩, x⟩
 unfold JW vE wI
 refine hY fun w1 o1 x1 s1 => ?_
 have o1 : cG w1 w.heap.size (c6 o a) := o1
 refine gB fun w2 o2 x2 s2 => ?_
 have x12 := x1.seq x2
 have o1 := o1.ext x2 (fun h => h)
 have h2 := h.ext x12 (fun _ _ _ h => h)
 have hT2 := hT.ext x12
 refine (Ir (n := 1) h2 (by omega) (by omega)).mono ?_
 rintro r w3 ⟨rfl, h3, x3⟩
 have hT3 := hT2.rdr h2 x3
 have o1 := o1.ext x3 (by omega)
 have o2 := o2.ext x3 (by omega)
 have x13 : aX w w3 (fun y => y = p) := (x12.mono fun _ _ h => h.elim).seq x3
 cases l with
 | nil =>
   rw [Ue 1 (by omega)] at h3 ⊢
   have e0 : ((AI ([] : List UInt8) : Nat) : Int) = 0 := rfl
   have e1 : IntKind.i64.wrap (0 : Int) = 0 := rfl
   have n1 : ((10 : Int) != 0) = true := rfl
   simp (disch := omega) only [aC, e0, dI, e1, dD, aA, Mr, fU]
   refine (Lu h3).mono ?_
   rintro r w4 ⟨rfl, hw⟩
   rw [hw]; clear hw w4
   simp (disch := omega) only [fU, n1, aA, aG]
   refine (Lu h3).mono ?_
   rintro r w4 ⟨rfl, hw⟩
   rw [hw]; clear hw w4
   exact VQ o2 rfl fun w' x => err rfl (x13.trans x fun b hb h => by omega)
 | cons m l =>
   rw [Xm] at h3 ⊢
   have h3 : Rb w3 lo hi p l 0 := h3
   have hm8 : m.toNat < 256 := akI m
   have hm1 : AI [m] = m.toNat := by simp [AI]
   have ew : IntKind.i64.wrap (m.toNat : Int) = (m.toNat : Int) := aW (by omega) (by omega)
   have ea := VT hm8
   have n0 : ((0 : Int) != 0) = false := rfl
   have hH : IL o (m :: l) = if m.toNat % 4 ≠ 0 then .error 11 else Gq m.toNat o 3 o l := rfl
   rw [hm1]
   have hl' : l.length <= 1000000 := by simp at hl; omega
   generalize m.toNat = x at *
   simp (disch := omega) only [aC, dI, ew, dD, aA, Mr, fU]
   refine (Lu h3).mono ?_
   rintro r w4 ⟨rfl, hw⟩
   rw [hw]; clear hw w4
   by_cases h4 : x % 4 ≠ 0
   .have n1 : (((x % 4 : Nat) : Int) != 0) = true := by simp; omega
    rw [if_pos h4] at hH
    simp (disch := omega) only [fU, n0, ea, n1, aG, aA, aD]
    exact VQ o2 rfl fun w' x => err hH (x13.trans x fun b hb h => by omega)
   rw [if_neg h4] at hH
   have n1 : (((x % 4 : Nat) : Int) != 0) = false := by simp; omega
   simp (disch := omega) only [fU, n0, ea, n1, aD, aA]
   refine (SD h3).mono ?_
   rintro r w4 ⟨rfl, hw⟩
   rw [hw]; clear hw w4
   refine (TS h3 (by omega) (by omega)).mono ?_
   rintro bv w4 ⟨hb4, hat4, h4r, x4⟩
   have htk : OJ l 0 l.length = (l, [], 0) := by unfold OJ; rw [if_neg (by decide), if_neg (by omega), amK, List.drop_length]
   rw [htk] at hb4 h4r
   simp only at hb4 h4r
   have o1 := o1.ext x4 (by omega)
   have o2 := o2.ext x4 (by omega)
   have hT4 := hT3.rdr h3 x4
   have x14 := x13.seq x4
   have l1 := iD (off := 0) o1 (by simp [c6])
   simp only [c6, aiY, aiT, aiZ] at l1
   simp (disch := omega) only [l1, aA]
   refine gB fun w5 o5 x5 s5 => ?_
   refine gH o5 rfl (by simp [one]) (by simp) fun w6 o6 x6 s6 => ?_
   have o6 : cG w6 w4.heap.size (c6 o a) := o6
   have x46 : aX w4 w6 dG := x5.new x6 (aiU _)
   have o1 := o1.ext x46 (fun h => h)
   have o2 := o2.ext x46 (fun h => h)
   have hT6 := hT4.ext x46
   have h6 := h4r.ext x46 (fun _ _ _ h => h)
   have hb6 := hb4.ext x46 (bY _)
   have x16 := x14.more x46
   have z3 := x3.size
   have z4 := x4.size
   have z6 := x46.size
   unfold wU wP vQ wD vH
   obtain ⟨p8, hp8⟩ : ∃ p8, p8 = w4.heap.size := ⟨_, rfl⟩
   obtain ⟨p3, hp3⟩ : ∃ p3, p3 = w.heap.size := ⟨_, rfl⟩
   obtain ⟨p4, hp4⟩ : ∃ p4, p4 = w1.heap.size := ⟨_, rfl⟩
   rw [<- hp8] at o6 ⊢
   rw [<- hp3] at o1 ⊢
   rw [<- hp4] at o2 ⊢
   refine cO.rule (fun n (t : anW × anW) w' => ∃ (j : Nat) (b : anW) (l' : List UInt8) (t' : Nat -> TT) (a' : Nat -> Option Addr), n = j /\ j <= 3 /\ t = (b, .int .i64 (3 - j : Nat)) /\ Bs w' b l' /\ Vj b (fun b => lo <= b /\ b < hi /\ b ≠ p) /\ l'.length <= l.length /\ cG w' p8 (c6 t' a') /\ Gc w' t' a' /\ Gq x o 3 o l = Gq x o j t' l' /\ aX w6 w' (fun y => y = p8)) 3
    ⟨3, bv, l, o, a, rfl, aiU _, rfl, hb6, hat4, aiU _, o6, hT6, rfl, aX.refl _ _⟩ ?_
   rintro j t w7 ⟨n, bb, l', t', a', rfl, hj, rfl, hb7, hat7, hl7, o8, hT7, hE, x7⟩
   unfold qV xP zB yL ED yN
   have o17 := o1.ext x7 (by omega)
   have o27 := o2.ext x7 (by omega)
   have x07 : aX w0 w7 dG := by
    have : aX w w7 (fun y => y = p ∨ y = p8) := (x16.mono fun _ _ h => .inl h).seq (x7.mono fun _ _ h => .inr h)
    have z0 := x0.size
    exact x0.trans this fun b hb h => by omega
   have hg7 := hg.ext x07
   have hTo : Gc w7 o a := fun k hk => (hT6 k hk).own o6 (by simp [c6]) (fun u => by simp [c6]) x7
   obtain ⟨ba, bc, rfl, hbc⟩ := hb7.len
   rw [aiX] at hb7 hat7 hbc ⊢
   have err7 : ∀ {e : Int} {w' : anV}, Gq x o j t' l' = .error e -> aX w7 w' (fun y => y = p4) -> RR (.tuple #[Tw, .int .i64 e]) w' := fun h x => by
    refine err (by rw [hH, hE, h]) ?_
    have x6' : aX w6 w7 (fun y => y = p ∨ y = p3 ∨ y = p4 ∨ y = p8) := x7.mono fun _ _ h => .inr (.inr (.inr h))
    exact (((x16.mono fun _ _ h => .inl h).seq x6').seq (x.mono fun _ _ h => .inr (.inr (.inl h)))).mono fun b hb h => by omega
   rcases j with _ | n
   .have d1 : decide (((3 - 0 : Nat) : Int) < 3) = false := rfl
    simp (disch := omega) only [aC, bD, d1, Dc, aW, eE, and_true, true_and, aA, dZ, tH, Mr, Result.ok.injEq, Next.value.injEq, aD]
    unfold qT
    refine (QG hb7 (by omega)).mono ?_
    rintro r w8 ⟨q, rfl, h8, x8⟩
    have o8' := o8.ext x8 (fun h => h)
    have hT8 := hT7.ext x8
    have hq1 := h8.1
    have hq2 := h8.2.1
    have hq8 := h8
    obtain ⟨_, _, qv, oq, hbq, hatq⟩ := h8
    obtain ⟨qa, qc, rfl, hqc⟩ := hbq.len
    rw [aiX] at hbq oq hqc hatq
    have lq := NG (off := 0) oq (by simp)
    simp only [aiY, aiT, aiZ] at lq
    simp (disch := omega) only [aC, nA, aA, lq]
    have hp7 : Rb w7 lo hi p [] 0 := h6.ext x7 (fun b h1 h2 => by omega)
    have hp8 := hp7.ext x8 (fun _ _ _ h => h)
    obtain ⟨hpl1, hpl2, pv, op, _, _⟩ := hp8
    refine Nx op rfl (by simp [one]) (by simp) fun w9 o9 x9 s9 => ?_
    simp only [bQ, aiV, aiW] at o9
    have z8 := x8.size
    have hT9 := hT8.own op (by simp) (fun u => by
     obtain ⟨pa, pn, pc, rfl, _⟩ : ∃ pa pn pc, pv = .slice pa pn pc /\ True := by
      rename_i hbp _
      obtain ⟨pa, pc, rfl, _⟩ := hbp.len
      exact ⟨_, _, _, rfl, trivial⟩
     simp) x9
    have z7 := x7.size
    have l8 := iD (off := 0) (o8'.ext x9 (by omega)) (by simp [c6])
    simp only [c6, aiY, aiT, aiZ] at l8
    simp (disch := omega) only [l8, aA]
    refine VQ ((o27.ext x8 (fun h => h)).ext x9 (by omega)) rfl fun w' x => ?_
    rw [hRR]
    unfold XG
    rw [hH, hE]
    have hz' := x.size
    have hT' := fun (w9 w' : anV) (h : Gc w9 t' a') (o2 : cG w9 p4 [Value.int IntKind.i64 0, Value.slice none 0 0, Value.int IntKind.i64 0, Value.slice none 0 0, Value.int IntKind.i64 0, Value.slice none 0 0]) (x : aX w9 w' (fun y => y = p4)) => h.own o2 (by simp) (fun u => by simp) x
    refine ⟨⟨a', rfl, hT' _ _ hT9 ((o27.ext x8 (fun h => h)).ext x9 (by omega)) x, ?_⟩, ?_⟩
    .have hbq' := (hbq.ext x9 (hatq _ fun b hb => by omega)).ext x (hatq _ fun b hb => by omega)
     exact ⟨hpl1, by omega, _, o9.ext x (by omega), hbq', hatq.mono fun b hb => by omega⟩
    .have y1 : aX w w8 (fun y => y = p ∨ y = p4 ∨ y = p8) := ((x16.mono fun _ _ h => .inl h).seq (x7.mono fun _ _ h => .inr (.inr h))).seq (x8.mono fun _ _ h => h.elim)
     exact ((y1.seq (x9.mono fun _ _ h => .inl h)).seq (x.mono fun _ _ h => .inr (.inl h))).mono fun b hb h => by omega
   .obtain ⟨k, hk⟩ : ∃ k, k = 2 - n := ⟨_, rfl⟩
    have hk3 : k < 3 := by omega
    have ek : ((3 - (n + 1) : Nat) : Int) = (k : Int) := by omega
    have d1 : decide ((k : Int) < 3) = true := by simp; omega
    have e2 : (2 : Int) * (k : Int) = ((2 * k : Nat) : Int) := by omega
    have e6 : (6 : Int) - ((2 * k : Nat) : Int) = ((6 - 2 * k : Nat) : Int) := by omega
    have em := abE (x := x) (k := k) hm8 hk3
    have hS : Gq x o (n + 1) t' l' = match iI (k : Int) ((mk2 x k : Nat) : Int) l' (o k) with
     | .error e => .error e
     | .ok (y, u) => Gq x o n (LN t' k y) (l'.drop u) := by rw [hk] <;> rfl
    have hm4 := afE x k
    have l2 := dX (off := k * 2) (eP o17) (by simp [c6]; omega)
    rw [TI _ _ hk3] at l2
    rw [ek]
    simp (disch := omega) only [aC, bD, d1, Dc, e2, aW, cW, aiM, aiR, eE, and_true, true_and, aA, dZ, e6, tH, Mr, em, Result.ok.injEq, Next.value.injEq, l2, aG]
    have hl8 : l'.length <= 1000000 := by omega
    have hgd : nX (dr w7) := hg7.ext (aX.dr _ dG)
    have hbd : Bs (dr w7) (.slice ba l'.length bc) l' := hb7.ext (aX.dr _ dG) (bY _)
    have hTd : Gc (dr w7) o a := hTo.ext (aX.dr _ dG)
    have z7 := x7.size
    refine Gm ?_ ?_
    .refine (X9 hgd hbd (fun _ => hl8) (hTd k hk3) (alM _) (by omega) (hO k hk3)).mono ?_
     rintro r w8 ⟨hR, x8⟩
     have x78 : aX w7 w8 dG := (aX.dr _ _).seq x8
     have z8 := x78.size
     cases hE' : iI (k : Int) ((mk2 x k : Nat) : Int) l' (o k) with
     | error e =>
       rw [hE'] at hR hS
       have ne := Pl hE'
       have n1 : (e != 0) = true := by simpa using ne
       unfold YB at hR
       subst hR
       simp (disch := omega) only [Wv, Ww, WA, Result.ok.injEq, Next.value.injEq, and_true, aA, true_and]
       refine fI fun w9 o9 x9 s9 => ?_
       refine cI o9 rfl (by simp [one]) (by simp) fun w10 o10 x10 s10 => ?_
       unfold iJ
       simp (disch := omega) only [aC, fU, n1, dD, aA, rI, cW, aiM, aiR, eE, Result.ok.injEq, Next.value.injEq, and_true, true_and, aG]
       have x710 : aX w7 w10 dG := x78.seq (x9.new x10 (aiU _))
       exact VQ (o27.ext x710 (fun h => h)) rfl fun w' x => err7 hS ((x710.mono fun _ _ h => h.elim).seq x)
     | ok yu =>
       obtain ⟨T, u⟩ := yu
       rw [hE'] at hR hS
       have hu := Sx hE'
       unfold YB at hR
       obtain ⟨t, rfl, hV⟩ := hR
       obtain ⟨ta, rfl⟩ := hV.form
       simp (disch := omega) only [Wv, Ww, WA, Result.ok.injEq, Next.value.injEq, and_true, aA, true_and]
       refine fI fun w9 o9 x9 s9 => ?_
       refine cI o9 rfl (by simp [one]) (by simp) fun w10 o10 x10 s10 => ?_
       have o10 : cG w10 w8.heap.size [.int .i64 T.1, .slice ta T.2.length T.2.length] := o10
       have x810 : aX w8 w10 dG := x9.new x10 (aiU _)
       have x710 := x78.seq x810
       have l10 := dX (off := 0) (eP o10) (by simp)
       simp only [aiY, aiT, aiZ] at l10
       unfold iJ
       simp (disch := omega) only [aC, fU, n0, dD, aA, rI, aiM, cW, aiR, eE, Result.ok.injEq, Next.value.injEq, and_true, true_and, l10, aD]
       have x710 : aX w7 (dr w10) dG := x710.seq (aX.dr _ _)
       refine cI (o8.ext x710 (fun h => h)) rfl (by simp [one]) (by simp [c6]; omega) fun w11 o11 x11 s11 => ?_
       have x8N : aX w8 (dr w10) dG := x810.seq (aX.dr _ _)
       have o11 : cG w11 p8 (c6 (LN t' k T) (XQ a' k ta)) := by rw [<- Xl _ _ hk3]; exact o11
       have hbn : Bs w7 (.slice (gU ba bc u 1) (l'.length - u) (bc - u)) (l'.drop u) := by
        have := hb7.drop' (k := u) (by omega)
        rwa [<- List.map_drop] at this
       have han := hat7.sub (mx := bc) (k := u) (sz := 1) (m := l'.length - u) (c' := bc - u) (by omega)
       have hV11 : Bd w11 0 T (tvL T ta) := (hV.ext x8N (fun _ _ _ h => h)).own (o8.ext x710 (fun h => h)) (by simp [c6]) (fun u => by simp [c6]) x11
       have hT11 : Gc w11 t' a' := (hT7.ext x710).own (o8.ext x710 (fun h => h)) (by simp [c6]) (fun u => by simp [c6]) x11
       have hbn11 := (hbn.ext x710 (bY _)).ext x11 (han _ fun b hb => by omega)
       have hld : (l'.drop u).length <= l.length := by rw [akG]; omega
       have e3 : ((k : Int) + 1) = ((3 - n : Nat) : Int) := by omega
       unfold mM
       simp (disch := omega) only [aC, bK, e3, aW, aA]
       exact ⟨n, by omega, _, _, _, _, _, rfl, by omega, rfl, hbn11, han, hld, o11, hT11.up hV11, by rw [hE, hS], x7.seq ((x710.mono fun _ _ h => h.elim).seq x11)⟩
    .refine fI fun w9 o9 x9 s9 => ?_
     have l9 := dX (off := k * 2) (o17.ext ((aX.dr _ dG).seq x9) (fun h => h)) (by simp [c6]; omega)
     rw [TI _ _ hk3] at l9
     simp (disch := omega) only [l9, true_and]
     refine (X9 (hgd.ext x9) (hbd.ext x9 (bY _)) (fun _ => hl8) (hTd.ext x9 k hk3) (alM _) (by omega) (hO k hk3)).mono ?_
     rintro r w8 ⟨hR, x8⟩
     have x78 : aX w7 w8 dG := ((aX.dr _ _).seq x9).seq x8
     have z8 := x78.size
     have z88 := x8.size
     have hz7 : (dr w7).heap.size = w7.heap.size := rfl
     have o9 := o9.ext x8 (fun h => h)
     cases hE' : iI (k : Int) ((mk2 x k : Nat) : Int) l' (o k) with
     | error e =>
       rw [hE'] at hR hS
       have ne := Pl hE'
       have n1 : (e != 0) = true := by simpa using ne
       unfold YB at hR
       subst hR
       simp (disch := omega) only [Wv, Ww, WA, Result.ok.injEq, Next.value.injEq, and_true, aA, true_and]
       refine cI o9 rfl (by simp [one]) (by simp) fun w10 o10 x10 s10 => ?_
       unfold iJ
       simp (disch := omega) only [aC, fU, n1, dD, aA, rI, cW, aiM, aiR, eE, Result.ok.injEq, Next.value.injEq, and_true, true_and, aG]
       have x710 : aX w7 w10 dG := x78.new x10 (by omega)
       exact VQ (o27.ext x710 (fun h => h)) rfl fun w' x => err7 hS ((x710.mono fun _ _ h => h.elim).seq x)
     | ok yu =>
       obtain ⟨T, u⟩ := yu
       rw [hE'] at hR hS
       have hu := Sx hE'
       unfold YB at hR
       obtain ⟨t, rfl, hV⟩ := hR
       obtain ⟨ta, rfl⟩ := hV.form
       simp (disch := omega) only [Wv, Ww, WA, Result.ok.injEq, Next.value.injEq, and_true, aA, true_and]
       have hV8 := fun (w' : anV) (x : aX w8 w' (fun y => y = (dr w7).heap.size)) => hV.own (base := 0) (p := (dr w7).heap.size) o9 (by simp) (fun u => by simp) x
       refine cI o9 rfl (by simp [one]) (by simp) fun w10 o10 x10 s10 => ?_
       have hV10 := hV8 w10 x10
       have o10 : cG w10 (dr w7).heap.size [.int .i64 T.1, .slice ta T.2.length T.2.length] := o10
       have x710 : aX w7 w10 dG := x78.new x10 (by omega)
       have l10 := dX (off := 0) (eP o10) (by simp)
       simp only [aiY, aiT, aiZ] at l10
       unfold iJ
       simp (disch := omega) only [aC, fU, n0, dD, aA, rI, aiM, cW, aiR, eE, Result.ok.injEq, Next.value.injEq, and_true, true_and, l10, aD]
       have x710 : aX w7 (dr w10) dG := x710.seq (aX.dr _ _)
       refine cI (o8.ext x710 (fun h => h)) rfl (by simp [one]) (by simp [c6]; omega) fun w11 o11 x11 s11 => ?_
       have o11 : cG w11 p8 (c6 (LN t' k T) (XQ a' k ta)) := by rw [<- Xl _ _ hk3]; exact o11
       have hbn : Bs w7 (.slice (gU ba bc u 1) (l'.length - u) (bc - u)) (l'.drop u) := by
        have := hb7.drop' (k := u) (by omega)
        rwa [<- List.map_drop] at this
       have han := hat7.sub (mx := bc) (k := u) (sz := 1) (m := l'.length - u) (c' := bc - u) (by omega)
       have hV11 : Bd w11 0 T (tvL T ta) := (hV10.ext (aX.dr w10 dG) (fun _ _ _ h => h)).own (o8.ext x710 (fun h => h)) (by simp [c6]) (fun u => by simp [c6]) x11
       have hT11 : Gc w11 t' a' := (hT7.ext x710).own (o8.ext x710 (fun h => h)) (by simp [c6]) (fun u => by simp [c6]) x11
       have hbn11 := (hbn.ext x710 (bY _)).ext x11 (han _ fun b hb => by omega)
       have hld : (l'.drop u).length <= l.length := by rw [akG]; omega
       have e3 : ((k : Int) + 1) = ((3 - n : Nat) : Int) := by omega
       unfold mM
       simp (disch := omega) only [aC, bK, e3, aW, aA]
       exact ⟨n, by omega, _, _, _, _, _, rfl, by omega, rfl, hbn11, han, hld, o11, hT11.up hV11, by rw [hE, hS], x7.seq ((x710.mono fun _ _ h => h.elim).seq x11)⟩
def UP (st : Nat -> Nat) (k x : Nat) : Nat -> Nat := fun i => if i = k then x else st i
def C9 (r : Nat) : Nat := if r = 0 then 0 else if r = 1 then 2 else 1
theorem Nq (r : Nat) : C9 r < 3 := by unfold C9; split <;> (try split) <;> omega
def S5 (t : Nat -> TT) (B : List Bool) : Nat -> (Nat -> Nat) -> Int -> (Nat -> Nat) × Int
 | 0, st, left => (st, left)
 | j + 1, st, left => S5 t B j (UP st (C9 (2 - j)) (nR (t (C9 (2 - j))).2 (st (C9 (2 - j)) : Nat) B left).1.toNat) (nR (t (C9 (2 - j))).2 (st (C9 (2 - j)) : Nat) B left).2
def XL (t : Nat -> TT) (B : List Bool) : Nat -> (Nat -> Nat) -> Int -> (Nat -> Nat) × Int
 | 0, st, left => (st, left)
 | j + 1, st, left => XL t B j (UP st (2 - j) (WJ B left (t (2 - j)).1)) (left - (t (2 - j)).1)
def Wx (t : Nat -> TT) (B : List Bool) (n : Nat) (st : Nat -> Nat) (left : Int) : List Sq × Int := sqR (t 0).2 (t 1).2 (t 2).2 B n (st 0 : Nat) (st 1 : Nat) (st 2 : Nat) left
def v3 (t : Nat -> TT) (B : List Bool) (st : Nat -> Nat) (left : Int) : Sq × Int :=
 let o := vR 1 (t 1).2 (st 1 : Nat) B left
 let m := vR 2 (t 2).2 (st 2 : Nat) B o.2
 let l := vR 0 (t 0).2 (st 0 : Nat) B m.2
 (⟨l.1, m.1, o.1⟩, l.2)
theorem Ze (t : Nat -> TT) (B : List Bool) (n : Nat) (k : Int) : runT t B n k = Wx t B n (XL t B 3 (fun _ => 0) k).1 (XL t B 3 (fun _ => 0) k).2 := rfl
theorem XD (t : Nat -> TT) (B : List Bool) (st : Nat -> Nat) (left : Int) : Wx t B 1 st left = ([(v3 t B st left).1], (v3 t B st left).2) := rfl
def Mk (t : Nat -> TT) (st : Nat -> Nat) : Prop := ∀ k, k < 3 -> uM k (t k) /\ st k < (t k).2.length
theorem VM {t : Nat -> TT} {st : Nat -> Nat} (h : Mk t st) (B : List Bool) (m : Nat) (left : Int) :
 Wx t B (m + 2) st left = ((v3 t B st left).1 :: (Wx t B (m + 1) (S5 t B 3 st (v3 t B st left).2).1 (S5 t B 3 st (v3 t B st left).2).2).1, (Wx t B (m + 1) (S5 t B 3 st (v3 t B st left).2).1 (S5 t B 3 st (v3 t B st left).2).2).2) := by
 have hn : ∀ k, k < 3 -> ∀ x : Int, (((nR (t k).2 (st k : Nat) B x).1.toNat : Nat) : Int) = (nR (t k).2 (st k : Nat) B x).1 := fun k hk x => by
  obtain ⟨s', h1, _⟩ := U2 (h k hk).1 (h k hk).2 B x
  rw [h1] <;> rfl
 unfold Wx
 rw [sqR, if_neg (by omega)]
 show ((v3 t B st left).1 :: _, _) = _
 have h0 := hn 0 (by omega) (v3 t B st left).2
 have h2 := hn 2 (by omega) (nR (t 0).2 (st 0 : Nat) B (v3 t B st left).2).2
 have h1 := hn 1 (by omega) (nR (t 2).2 (st 2 : Nat) B (nR (t 0).2 (st 0 : Nat) B (v3 t B st left).2).2).2
 have e0 : (S5 t B 3 st (v3 t B st left).2).1 0 = (nR (t 0).2 (st 0 : Nat) B (v3 t B st left).2).1.toNat := rfl
 have e2 : (S5 t B 3 st (v3 t B st left).2).1 2 = (nR (t 2).2 (st 2 : Nat) B (nR (t 0).2 (st 0 : Nat) B (v3 t B st left).2).2).1.toNat := rfl
 have e1 : (S5 t B 3 st (v3 t B st left).2).1 1 = (nR (t 1).2 (st 1 : Nat) B (nR (t 2).2 (st 2 : Nat) B (nR (t 0).2 (st 0 : Nat) B (v3 t B st left).2).2).2).1.toNat := rfl
 have e3 : (S5 t B 3 st (v3 t B st left).2).2 = (nR (t 1).2 (st 1 : Nat) B (nR (t 2).2 (st 2 : Nat) B (nR (t 0).2 (st 0 : Nat) B (v3 t B st left).2).2).2).2 := rfl
 rw [e0, e1, e2, e3, h0, h1, h2]
 rfl
theorem Ss {t : Nat -> TT} {B : List Bool} : ∀ {j : Nat} {st : Nat -> Nat} {left : Int}, Mk t st -> Mk t (S5 t B j st left).1 /\ left - 20 * j <= (S5 t B j st left).2 /\ (S5 t B j st left).2 <= left
 | 0, st, left, h => ⟨h, by unfold S5; simp, by unfold S5; simp⟩
 | j + 1, st, left, h => by
   obtain ⟨s', h1, h2, h3, h4⟩ := U2 (h _ (Nq (2 - j))).1 (h _ (Nq (2 - j))).2 B left
   rw [S5]
   obtain ⟨g1, g2, g3⟩ := Ss (B := B) (j := j) (st := UP st (C9 (2 - j)) (nR (t (C9 (2 - j))).2 (st (C9 (2 - j)) : Nat) B left).1.toNat) (left := (nR (t (C9 (2 - j))).2 (st (C9 (2 - j)) : Nat) B left).2) (fun k hk => by
    unfold UP
    split
    .rename_i he; rw [he, h1]; exact ⟨(h _ (Nq _)).1, h2⟩
    .exact h k hk)
   exact ⟨g1, by omega, by omega⟩
theorem ZQ {t : Nat -> TT} {st : Nat -> Nat} (h : Mk t st) (B : List Bool) (left : Int) : left - 93 <= (v3 t B st left).2 /\ (v3 t B st left).2 <= left := by
 obtain ⟨_, a1, a2⟩ := Lj (by omega) (h 1 (by omega)).1 (h 1 (by omega)).2 B left
 obtain ⟨_, b1, b2⟩ := Lj (by omega) (h 2 (by omega)).1 (h 2 (by omega)).2 B (vR 1 (t 1).2 (st 1 : Nat) B left).2
 obtain ⟨_, c1, c2⟩ := Lj (by omega) (h 0 (by omega)).1 (h 0 (by omega)).2 B (vR 2 (t 2).2 (st 2 : Nat) B (vR 1 (t 1).2 (st 1 : Nat) B left).2).2
 have e : (v3 t B st left).2 = (vR 0 (t 0).2 (st 0 : Nat) B (vR 2 (t 2).2 (st 2 : Nat) B (vR 1 (t 1).2 (st 1 : Nat) B left).2).2).2 := rfl
 rw [e]; omega
theorem aaW {t : Nat -> TT} {B : List Bool} : ∀ {n : Nat} {st : Nat -> Nat} {left : Int}, Mk t st -> left - 160 * n <= (Wx t B n st left).2 /\ (Wx t B n st left).2 <= left /\ (Wx t B n st left).1.length = n
 | 0, st, left, h => ⟨by unfold Wx sqR; simp, by unfold Wx sqR; simp, rfl⟩
 | 1, st, left, h => by
   rw [XD]
   have := ZQ h B left
   exact ⟨by simp only; omega, by simp only; omega, rfl⟩
 | n + 2, st, left, h => by
   rw [VM h]
   have h1 := ZQ h B left
   obtain ⟨g1, g2, g3⟩ := Ss (B := B) (j := 3) (left := (v3 t B st left).2) h
   obtain ⟨k1, k2, k3⟩ := aaW (B := B) (n := n + 1) (left := (S5 t B 3 st (v3 t B st left).2).2) g1
   exact ⟨by simp only; omega, by simp only; omega, by simp only [ajK]; omega⟩
theorem Bd.tbl {w : anV} {base : Nat} {T : TT} {v : anW} (h : Bd w base T v) (h0 : 0 < T.2.length) : ∃ b, Xb w base b T.1 T.2 v := by
 rcases h with ⟨e, _⟩ | h
 .rw [e] at h0; simp at h0
 .exact h
theorem aeF {w : anV} {base b log p : Nat} {L : List T3} {v : anW} {cs : List anW} (h : Xb w base b log L v) (hL : 0 < L.length) (o : cG w p cs) (hc : ∀ u, cs[0]? ≠ some (.int .u8 u)) : b ≠ p := by
 rintro rfl
 have e := Lk h.2.2 o
 subst e
 cases hT : L with
 | nil => rw [hT] at hL; simp at hL
 | cons a r =>
   have := (NN (k := .u8) (L := L) (i := 0) (e := a) (by rw [hT] <;> rfl)).1
   exact hc _ this
def Pj (st : Nat -> Nat) : List anW := [.int .i64 (st 0 : Nat), .int .i64 (st 1 : Nat), .int .i64 (st 2 : Nat)]
theorem T4 (st : Nat -> Nat) {k : Nat} (h : k < 3) : (Pj st)[k]? = some (.int .i64 (st k : Nat)) := by
 rcases (show k = 0 ∨ k = 1 ∨ k = 2 by omega) with rfl | rfl | rfl <;> rfl
theorem Uk (st : Nat -> Nat) {k : Nat} (h : k < 3) (x : Nat) : (Pj st).set k (.int .i64 (x : Nat)) = Pj (UP st k x) := by
 rcases (show k = 0 ∨ k = 1 ∨ k = 2 by omega) with rfl | rfl | rfl <;> rfl
theorem Nj.hd {w : anV} {lo hi : Nat} {l : List UInt8} {left : Int} (h : Nj w lo hi l left) : ∃ cs, cG w hi cs /\ ∀ u, cs[0]? ≠ some (.int .u8 u) := by
 obtain ⟨v, h1, h2, h3⟩ := h
 obtain ⟨va, vc, rfl, _⟩ := h2.len
 exact ⟨_, h1, fun u => by simp⟩
theorem Wq {k5 : K8} {t5 n8 out t76 t77 : anW} {pt ps lo hi : Nat} {t : Nat -> TT} {a : Nat -> Option Addr} {st : Nat -> Nat} {l : List UInt8} {left : Int} {w : anV} (oT : cG w pt (c6 t a)) (hT : Gc w t a) (oS : cG w ps (Pj st)) (hB : Nj w lo hi l left)
 (h1 : pt < lo) (h2 : lo <= hi) (h3 : hi < ps) (hG : Mk t st) (hl : l.length <= 1000000) (hb1 : left <= 8 * l.length) (hb2 : -90000000 <= left)
 (hk : ∀ w', cG w' ps (Pj (S5 t (aY l) 3 st left).1) -> Nj w' lo hi l (S5 t (aY l) 3 st left).2 -> aX w w' (fun y => y = hi ∨ y = ps) -> k5 t5 n8 (.pointer (some ⟨pt, 0, none⟩)) (.pointer (some ⟨hi, 0, none⟩)) (.pointer (some ⟨ps, 0, none⟩)) out t76 t77 w') :
 qN k5 t5 n8 (.pointer (some ⟨pt, 0, none⟩)) (.pointer (some ⟨hi, 0, none⟩)) (.pointer (some ⟨ps, 0, none⟩)) out t76 t77 (.agg #[.int .i64 0, .int .i64 2, .int .i64 1]) (.int .i64 0) w := by
 have hps := oS.lt
 unfold qN
 refine cO.rule (fun n (v : anW) w' => ∃ (j : Nat) (st' : Nat -> Nat) (left' : Int), n = j /\ j <= 3 /\ v = .int .i64 (3 - j : Nat) /\ cG w' ps (Pj st') /\ Nj w' lo hi l left' /\ Mk t st' /\ Gc w' t a /\ S5 t (aY l) 3 st left = S5 t (aY l) j st' left' /\ left - 20 * (3 - j : Nat) <= left' /\ left' <= left /\ aX w w' (fun y => y = hi ∨ y = ps)) 3
  ⟨3, st, left, rfl, aiU _, rfl, oS, hB, hG, hT, rfl, by simp, Int.le_refl _, aX.refl _ _⟩ ?_
 rintro j v w1 ⟨n, st', left', rfl, hj, rfl, oS1, hB1, hG1, hT1, hE, hc1, hc2, x1⟩
 unfold qW
 rcases j with _ | j
 .have d1 : decide (((3 - 0 : Nat) : Int) < 3) = false := rfl
  simp (disch := omega) only [aC, bD, d1, bK, aW, aA, true_and, aD]
  rw [hE] at hk
  exact hk _ oS1 hB1 x1
 .obtain ⟨r, hr⟩ : ∃ r, r = 2 - j := ⟨_, rfl⟩
  have hr3 : r < 3 := by omega
  have ek : ((3 - (j + 1) : Nat) : Int) = (r : Int) := by omega
  have d1 : decide ((r : Int) < 3) = true := by simp; omega
  rw [ek]
  have hN : S5 t (aY l) (j + 1) st' left' = S5 t (aY l) j (UP st' (C9 r) (nR (t (C9 r)).2 (st' (C9 r) : Nat) (aY l) left').1.toNat) (nR (t (C9 r)).2 (st' (C9 r) : Nat) (aY l) left').2 := by rw [hr] <;> rfl
  have hx : (#[Value.int .i64 0, .int .i64 2, .int .i64 1] : Array anW)[r]? = some (.int .i64 (C9 r : Nat)) := by
   rcases (show r = 0 ∨ r = 1 ∨ r = 2 by omega) with rfl | rfl | rfl <;> rfl
  have hk3 := Nq r
  obtain ⟨k, hkk⟩ : ∃ k, k = C9 r := ⟨_, rfl⟩
  rw [<- hkk] at hx hk3 hN
  obtain ⟨hGk, hsk⟩ := hG1 k hk3
  have oT1 := oT.ext x1 (by omega)
  have l2 := dX (off := k * 2) (eP oT1) (by simp [c6]; omega)
  rw [TI _ _ hk3] at l2
  have c2 := (eP oS1).cell (off := k)
  rw [T4 _ hk3] at c2
  simp (disch := omega) only [aC, bD, d1, DT, aiM, hx, aI, bK, aW, aA, true_and, cW, aiR, AM, cP, l2, c2, aG]
  obtain ⟨b, htb⟩ := (hT1.ext (aX.dr w1 dG) k hk3).tbl (by omega)
  have hB1d : Nj (dr w1) lo hi l left' := hB1.ext (aX.dr _ dG) (fun _ _ _ h => h) h2
  obtain ⟨cs, oc, hcs⟩ := hB1d.hd
  have hne := aeF htb (by omega) oc hcs
  have hlt512 : (t k).2.length <= 512 := by rw [hGk.len]; exact ajA (by omega) hGk.lg
  have hbl := oc.lt
  refine (Yo htb hGk.low (by omega) hB1d h2 hbl hne (by omega) (by omega) hl).mono ?_
  rintro v w2 ⟨rfl, hB2, x2⟩
  obtain ⟨s', g1, g2, g3, g4⟩ := U2 hGk hsk (aY l) left'
  have q1 : KU (t k).2 (st' k : Nat) (Bt ((aY l).take left'.toNat) (Fo (t k).2 (st' k : Nat))) = (nR (t k).2 (st' k : Nat) (aY l) left').1 := rfl
  have q2 : left' - (Fo (t k).2 (st' k : Nat) : Nat) = (nR (t k).2 (st' k : Nat) (aY l) left').2 := rfl
  rw [q1, g1]
  rw [q2] at hB2
  rw [g1, aiM] at hN
  have x12 : aX w1 w2 (fun y => y = hi) := (aX.dr _ _).seq x2
  have hTd : Gc (dr w1) t a := hT1.ext (aX.dr w1 dG)
  have hT2 : Gc w2 t a := hTd.own oc (by
   rcases hcl : cs with _ | ⟨c0, cr⟩
   .obtain ⟨v, hv, _⟩ := hB1d
    have := Lk oc hv
    rw [hcl] at this; cases this
   .simp) hcs x2
  have oS2 := oS1.ext x12 (by omega)
  refine xV oS2 rfl (by simp [Pj]; omega) fun w3 o3 x3 s3 => ?_
  rw [Uk _ hk3] at o3
  have hT3 := hT2.own oS2 (by simp [Pj]) (fun u => by simp [Pj]) x3
  have e1 : (r : Int) + 1 = ((3 - j : Nat) : Int) := by omega
  simp (disch := omega) only [e1]
  refine ⟨j, by omega, _, _, _, rfl, by omega, rfl, o3, hB2.ext x3 (fun b _ _ => by omega) h2, fun i hi => ?_, hT3, by rw [hE, hN], by omega, by omega, (x1.seq (x12.mono fun _ _ h => .inl h)).seq (x3.mono fun _ _ h => .inr h)⟩
  unfold UP
  split
  .rename_i he; rw [he]; exact ⟨hGk, g2⟩
  .exact hG1 i hi
end Go.Proofs.YtaggdjhhmbnhoaaDoor
namespace Go.En
open Go
theorem Pk.ext {w w' : anV} {S M : Nat -> Prop} {sz n : Nat} {v : anW} {l : List anW} (h : Pk w S sz v n l) (hx : aX w w' M) (hM : ∀ b, S b -> ¬ M b) : Pk w' S sz v n l := by
 refine ⟨h.1, ?_⟩
 rcases h.2 with h2 | ⟨b, c, rest, h1, h2, h3, h4, h5⟩
 .exact .inl h2
 .exact .inr ⟨b, c, rest, h1, h2, h3.ext hx (hM b h2), h4, h5⟩
theorem uK.ne {w : anV} {base p sz n : Nat} {v : anW} {l : List anW} (h : uK w base sz v n l) (hp : w.heap.size <= p) : Pk w (fun b => base <= b /\ b ≠ p) sz v n l := by
 refine ⟨h.1, ?_⟩
 rcases h.2 with h2 | ⟨b, c, rest, h1, h2, h3, h4, h5⟩
 .exact .inl h2
 .have := h3.lt
  exact .inr ⟨b, c, rest, h1, ⟨h2, by omega⟩, h3, h4, h5⟩
theorem Pk.osl {w : anV} {base p sz n : Nat} {v : anW} {l : List anW} (h : Pk w (fun b => base <= b /\ b ≠ p) sz v n l) : uK w base sz v n l := by
 refine ⟨h.1, ?_⟩
 rcases h.2 with h2 | ⟨b, c, rest, h1, h2, h3, h4, h5⟩
 .exact .inl h2
 .exact .inr ⟨b, c, rest, h1, h2.1, h3, h4, h5⟩
theorem Pk.len {w : anV} {S : Nat -> Prop} {sz n : Nat} {v : anW} {l : List anW} (h : Pk w S sz v n l) : ∃ a c, v = .slice a n c := by
 rcases h.2 with ⟨h1, rfl⟩ | ⟨b, c, rest, h1, _⟩
 .exact ⟨_, _, h1⟩
 .exact ⟨_, _, h1⟩
end Go.En
namespace Go.Proofs.YtaggdjhhmbnhoaaDoor
open Go Go.En Go.Pu
set_option maxRecDepth 4000
def I4 (q : Sq) : List anW := [.int .u32 q.ll, .int .u32 q.ml, .int .u32 q.of]
def MT (l : List Sq) : List anW := l.flatMap I4
theorem Sj (l : List Sq) (q : Sq) : MT (l ++ [q]) = MT l ++ I4 q := by unfold MT; rw [List.flatMap_append]; simp
theorem Nj.hd0 {w : anV} {lo hi : Nat} {l : List UInt8} {left : Int} {cs : List anW} (h : Nj w lo hi l left) (o : cG w hi cs) : 0 < cs.length := by
 obtain ⟨v, h1, _⟩ := h
 rw [Lk o h1]; simp
theorem Gc.ownM {w w' : anV} {o : Nat -> TT} {a : Nat -> Option Addr} {M : Nat -> Prop} (h : Gc w o a) (hM : ∀ b, M b -> ∃ cs, cG w b cs /\ 0 < cs.length /\ ∀ u, cs[0]? ≠ some (.int .u8 u)) (x : aX w w' M) : Gc w' o a := fun k hk => by
 rcases h k hk with h | ⟨b, h1, h2, h3⟩
 .exact .inl h
 .refine .inr ⟨b, h1, h2, h3.ext x fun hb => ?_⟩
  obtain ⟨cs, hc1, hc2, hc3⟩ := hM b hb
  have e := Lk h3 hc1
  subst e
  cases hT : (o k).2 with
  | nil => rw [hT] at hc2; simp [fe] at hc2
  | cons y r =>
    have := (NN (k := .u8) (L := (o k).2) (i := 0) (e := y) (by rw [hT] <;> rfl)).1
    exact hc3 _ this
theorem W7 {k3 : K4} {t5 : anW} {n pt ps lo hi : Nat} {t : Nat -> TT} {a : Nat -> Option Addr} {st : Nat -> Nat} {l : List UInt8} {left : Int} {w0 w : anV} (hn : 1 <= n /\ n <= 98047) (hg : nX w0) (x0 : aX w0 w dG) (oT : cG w pt (c6 t a)) (hT : Gc w t a) (oS : cG w ps (Pj st)) (hB : Nj w lo hi l left)
 (h0 : w0.heap.size <= pt) (h1 : pt < lo) (h2 : lo <= hi) (h3 : hi < ps) (hG : Mk t st) (hl : l.length <= 1000000) (hb1 : left <= 8 * l.length) (hb2 : -1000 <= left)
 (hk : ∀ w' out, uK w' w.heap.size 3 out n (MT (Wx t (aY l) n st left).1) -> Nj w' lo hi l (Wx t (aY l) n st left).2 -> cG w' pt (c6 t a) -> Gc w' t a -> aX w w' (fun y => y = hi ∨ y = ps) -> k3 t5 (.pointer (some ⟨pt, 0, none⟩)) (.pointer (some ⟨hi, 0, none⟩)) out w') :
 pK k3 t5 (.int .i64 n) (.pointer (some ⟨pt, 0, none⟩)) (.pointer (some ⟨hi, 0, none⟩)) (.pointer (some ⟨ps, 0, none⟩)) (.slice none 0 0) (.int .i64 n) (.int .i64 0) w := by
 have hps := oS.lt
 have z0 := x0.size
 have hTx : ∀ {w' : anV}, aX w w' (fun y => y = hi ∨ y = ps) -> Gc w' t a := fun x => by
  obtain ⟨cs, oc, hcs⟩ := hB.hd
  refine hT.ownM (fun b hb => ?_) x
  rcases hb with rfl | rfl
  .exact ⟨cs, oc, hB.hd0 oc, hcs⟩
  .exact ⟨_, oS, by simp [Pj], fun u => by simp [Pj]⟩
 unfold pK
 refine cO.rule (fun m (v : anW × anW) w' => ∃ (i : Nat) (out : anW) (qs : List Sq) (st' : Nat -> Nat) (left' : Int), m = n - i /\ i < n /\ v = (out, .int .i64 i) /\ qs.length = i /\ uK w' w.heap.size 3 out i (MT qs) /\ cG w' ps (Pj st') /\ Nj w' lo hi l left' /\ Mk t st' /\ Gc w' t a /\
  Wx t (aY l) n st left = (qs ++ (Wx t (aY l) (n - i) st' left').1, (Wx t (aY l) (n - i) st' left').2) /\ left - 160 * i <= left' /\ left' <= left /\ aX w w' (fun y => y = hi ∨ y = ps)) n
  ⟨0, _, [], st, left, rfl, by omega, rfl, rfl, uK.nil _ _ _, oS, hB, hG, hT, rfl, by simp, Int.le_refl _, aX.refl _ _⟩ ?_
 rintro m v w1 ⟨i, out, qs, st', left', rfl, hin, rfl, hqs, os1, oS1, hB1, hG1, hT1, hE, hc1, hc2, x1⟩
 have d1 : decide ((i : Int) < (n : Int)) = true := by simp; omega
 unfold pT wJ
 simp (disch := omega) only [aC, bD, d1, aA, aG]
 unfold xS yZ Ez zH
 refine IY fun w2 o2 x2 s2 => ?_
 obtain ⟨hG0, hs0⟩ := hG1 0 (by omega)
 obtain ⟨hGo, hso⟩ := hG1 1 (by omega)
 obtain ⟨hGm, hsm⟩ := hG1 2 (by omega)
 have z1 := x1.size
 have oT2 := (oT.ext x1 (by omega)).ext x2 (fun h => h)
 have oS2 := oS1.ext x2 (fun h => h)
 have hB2 := hB1.ext x2 (fun _ _ _ h => h) h2
 have hT2 := hT1.ext x2
 have os2 := (os1.ne (aiU w1.heap.size)).ext x2 (fun b _ h => h)
 have x02 : aX w0 w2 dG := x0.trans (x1.seq (x2.mono fun _ _ h => h.elim)) fun b hb h => by omega
 have t1 : (1 : Int).toNat = 1 := rfl
 have t2 : (2 : Int).toNat = 2 := rfl
 have t0 : (0 : Int).toNat = 0 := rfl
 obtain ⟨pq, hpq⟩ : ∃ pq, pq = w1.heap.size := ⟨_, rfl⟩
 rw [<- hpq] at o2 os2 ⊢
 have hpq2 : ps < pq := by have := oS1.lt; omega
 have hpw : w.heap.size <= pq := by omega
 have hnb : ∀ (w' : anV), Nj w' lo hi l left -> True := fun _ _ => trivial
 have xx2 : aX w1 w2 (fun y => y = hi ∨ y = pq) := x2.mono fun _ _ h => h.elim
 have hc3 : -90000000 <= left' - 200 := by omega
 have l2 := dX (off := 2) oT2 (by simp [c6])
 have c2 := oS2.cell (off := 1)
 rw [T4 _ (by omega)] at c2
 simp only [c6, amM, aiY, aiT, aiZ] at l2
 simp (disch := omega) only [aC, cW, t1, aiR, AM, kW, t2, lZ, t0, jJ, dZ, aW, sX, aA, dJ, cP, l2, c2, aI]
 obtain ⟨b2, ht2⟩ := (hT2 1 (by omega)).tbl (by omega)
 obtain ⟨cs2, oc2, hcs2⟩ := hB2.hd
 have hhi2 := oc2.lt
 refine (MN (k := 1) (T := t 1) (s := st' 1) (hg.ext x02) (by omega) ht2 hGo hso hB2 h2 hhi2 (by omega) (by omega) hl).mono ?_
 rintro r u2 ⟨rfl, hBv2, xv2⟩
 obtain ⟨hv2, hw21, hw22⟩ := Lj (k := 1) (by omega) hGo hso (aY l) left'
 have oTv2 := oT2.ext xv2 (by omega)
 have oSv2 := oS2.ext xv2 (by omega)
 have hTv2 := hT2.own oc2 (hB2.hd0 oc2) hcs2 xv2
 have osv2 := os2.ext xv2 (fun b h e => by omega)
 have oqv2 := o2.ext xv2 (by omega)
 have x0v2 : aX w0 u2 dG := x02.trans xv2 fun b hb h => by omega
 refine Ln oqv2 rfl (by simp) fun w3 o3 x3 s3 => ?_
 simp only [aiV, aiW] at o3
 have oT3 := oTv2.ext x3 (by omega)
 have oS3 := oSv2.ext x3 (by omega)
 have hT3 := hTv2.own oqv2 (by simp) (fun u => by simp) x3
 have os3 := osv2.ext x3 (fun b h e => h.2 e)
 have hB3 := hBv2.ext x3 (fun b _ _ => by omega) h2
 have x03 : aX w0 w3 dG := x0v2.trans x3 fun b hb h => by omega
 have xx3 : aX w1 w3 (fun y => y = hi ∨ y = pq) := (xx2.seq (xv2.mono fun _ _ h => .inl h)).seq (x3.mono fun _ _ h => .inr h)
 have l3 := dX (off := 4) oT3 (by simp [c6])
 have c3 := oS3.cell (off := 2)
 rw [T4 _ (by omega)] at c3
 simp only [c6, amM, aiY, aiT, aiZ] at l3
 simp (disch := omega) only [l3, aA, c3, aI]
 obtain ⟨b3, ht3⟩ := (hT3 2 (by omega)).tbl (by omega)
 obtain ⟨cs3, oc3, hcs3⟩ := hB3.hd
 have hhi3 := oc3.lt
 refine (MN (k := 2) (T := t 2) (s := st' 2) (hg.ext x03) (by omega) ht3 hGm hsm hB3 h2 hhi3 (by omega) (by omega) hl).mono ?_
 rintro r u3 ⟨rfl, hBv3, xv3⟩
 obtain ⟨hv3, hw31, hw32⟩ := Lj (k := 2) (by omega) hGm hsm (aY l) (vR 1 (t 1).2 (st' 1 : Nat) (aY l) left').2
 have oTv3 := oT3.ext xv3 (by omega)
 have oSv3 := oS3.ext xv3 (by omega)
 have hTv3 := hT3.own oc3 (hB3.hd0 oc3) hcs3 xv3
 have osv3 := os3.ext xv3 (fun b h e => by omega)
 have oqv3 := o3.ext xv3 (by omega)
 have x0v3 : aX w0 u3 dG := x03.trans xv3 fun b hb h => by omega
 refine Ln oqv3 rfl (by simp) fun w4 o4 x4 s4 => ?_
 simp only [aiV, aiW] at o4
 have oT4 := oTv3.ext x4 (by omega)
 have oS4 := oSv3.ext x4 (by omega)
 have hT4 := hTv3.own oqv3 (by simp) (fun u => by simp) x4
 have os4 := osv3.ext x4 (fun b h e => h.2 e)
 have hB4 := hBv3.ext x4 (fun b _ _ => by omega) h2
 have x04 : aX w0 w4 dG := x0v3.trans x4 fun b hb h => by omega
 have xx4 : aX w1 w4 (fun y => y = hi ∨ y = pq) := (xx3.seq (xv3.mono fun _ _ h => .inl h)).seq (x4.mono fun _ _ h => .inr h)
 have l4 := dX (off := 0) oT4 (by simp [c6])
 have c4 := oS4.cell (off := 0)
 rw [T4 _ (by omega)] at c4
 simp only [c6, amM, aiY, aiT, aiZ] at l4
 simp (disch := omega) only [l4, aA, c4, aI]
 obtain ⟨b4, ht4⟩ := (hT4 0 (by omega)).tbl (by omega)
 obtain ⟨cs4, oc4, hcs4⟩ := hB4.hd
 have hhi4 := oc4.lt
 refine (MN (k := 0) (T := t 0) (s := st' 0) (hg.ext x04) (by omega) ht4 hG0 hs0 hB4 h2 hhi4 (by omega) (by omega) hl).mono ?_
 rintro r u4 ⟨rfl, hBv4, xv4⟩
 obtain ⟨hv4, hw41, hw42⟩ := Lj (k := 0) (by omega) hG0 hs0 (aY l) (vR 2 (t 2).2 (st' 2 : Nat) (aY l) (vR 1 (t 1).2 (st' 1 : Nat) (aY l) left').2).2
 have oTv4 := oT4.ext xv4 (by omega)
 have oSv4 := oS4.ext xv4 (by omega)
 have hTv4 := hT4.own oc4 (hB4.hd0 oc4) hcs4 xv4
 have osv4 := os4.ext xv4 (fun b h e => by omega)
 have oqv4 := o4.ext xv4 (by omega)
 have x0v4 : aX w0 u4 dG := x04.trans xv4 fun b hb h => by omega
 refine Ln oqv4 rfl (by simp) fun w5 o5 x5 s5 => ?_
 simp only [aiV, aiW] at o5
 have oT5 := oTv4.ext x5 (by omega)
 have oS5 := oSv4.ext x5 (by omega)
 have hT5 := hTv4.own oqv4 (by simp) (fun u => by simp) x5
 have os5 := osv4.ext x5 (fun b h e => h.2 e)
 have hB5 := hBv4.ext x5 (fun b _ _ => by omega) h2
 have x05 : aX w0 w5 dG := x0v4.trans x5 fun b hb h => by omega
 have xx5 : aX w1 w5 (fun y => y = hi ∨ y = pq) := (xx4.seq (xv4.mono fun _ _ h => .inl h)).seq (x5.mono fun _ _ h => .inr h)
 obtain ⟨q, lf, hq⟩ : ∃ q lf, v3 t (aY l) st' left' = (q, lf) := ⟨_, _, rfl⟩
 have hq1 : (v3 t (aY l) st' left').1 = q := by rw [hq]
 have hq2 : (v3 t (aY l) st' left').2 = lf := by rw [hq]
 have hlf := ZQ hG1 (aY l) left'
 rw [hq2] at hlf
 have o5 : cG w5 pq (I4 (v3 t (aY l) st' left').1) := o5
 have hB5 : Nj w5 lo hi l (v3 t (aY l) st' left').2 := hB5
 rw [hq1] at o5
 rw [hq2] at hB5
 have l5 := Aw (off := 0) o5 (by simp [I4])
 simp only [I4, aiY, aiT, aiZ] at l5
 simp (disch := omega) only [l5, aA]
 refine lS (cells := #[.int .u32 q.ll, .int .u32 q.ml, .int .u32 q.of]) (by decide) (by decide) (by kernel_rfl) fun w6 o6 x6 s6 => ?_
 have os6 := (os5.ext x6 (fun b _ h => h)).osl
 have z5 := xx5.size
 have z6 := x6.size
 refine hZ (m := 1) (news := I4 q) os6 (o6.cl (off := 0) (l := I4 q) (n := 1) rfl (fun i hi => by rw [aiR] <;> rfl)) (by simp [I4, one]) (by omega) (by omega) fun v7 w7 o7 x7 => ?_
 rw [<- Sj] at o7
 have oT7 := (oT5.ext x6 (fun h => h)).ext x7 (by omega)
 have oS7 := (oS5.ext x6 (fun h => h)).ext x7 (by omega)
 have hw6 : aX w1 w6 (fun y => y = hi ∨ y = ps) := (xx5.mono fun b hb h => by omega : aX w1 w5 (fun y => y = hi ∨ y = ps)).more x6
 have hw7 : aX w w7 (fun y => y = hi ∨ y = ps) := (x1.seq hw6).trans x7 fun b hb h => by omega
 have hB7 := (hB5.ext x6 (fun _ _ _ h => h) h2).ext x7 (fun b _ _ => by omega) h2
 have hT6 := hT5.ext x6
 have hT7 : Gc w7 t a := hTx hw7
 by_cases hlast : i + 1 = n
 .have n1 : ((i : Int) == (n : Int) - 1) = true := by simp; omega
  simp (disch := omega) only [n1, aG]
  have h1 : n - i = 1 := by omega
  rw [h1, XD, hq] at hE
  rw [hE] at hk
  rw [hlast] at o7
  exact hk _ _ o7 hB7 oT7 hT7 hw7
 .have n1 : ((i : Int) == (n : Int) - 1) = false := by simp; omega
  simp (disch := omega) only [n1, aD]
  unfold yA
  obtain ⟨m, hm⟩ : ∃ m, n - i = m + 2 := ⟨n - i - 2, by omega⟩
  have hm1 : n - (i + 1) = m + 1 := by omega
  have hE2 := VM hG1 (aY l) m left'
  rw [hq] at hE2
  simp only at hE2
  obtain ⟨g1, g2, g3⟩ := Ss (B := aY l) (j := 3) (left := lf) hG1
  refine Wq oT7 hT7 oS7 hB7 h1 h2 h3 hG1 hl (by omega) (by omega) fun w8 oS8 hB8 x8 => ?_
  unfold rA
  have e1 : (i : Int) + 1 = ((i + 1 : Nat) : Int) := by omega
  simp (disch := omega) only [aC, bK, e1, aW, aA]
  have hT8 : Gc w8 t a := hTx (hw7.seq x8)
  refine ⟨n - (i + 1), by omega, i + 1, _, qs ++ [q], _, _, rfl, by omega, rfl, by rw [aiO, hqs] <;> rfl, o7.ext x8 (fun b hb h => by omega), oS8, hB8, g1, hT8, ?_, by omega, by omega, hw7.seq x8⟩
  rw [hE, hm, hE2, hm1, ajB]
  rfl
def kv (q : Sq) (k : Nat) : Nat := if k = 0 then q.ll else if k = 1 then q.of else q.ml
def kvL (q : Sq) : List anW := [.int .u32 (kv q 0 : Nat), .int .u32 (kv q 1 : Nat), .int .u32 (kv q 2 : Nat)]
theorem afD (q : Sq) {k : Nat} (h : k < 3) : (kvL q).toArray[k]? = some (.int .u32 (kv q k : Nat)) := by
 rcases (show k = 0 ∨ k = 1 ∨ k = 2 by omega) with rfl | rfl | rfl <;> rfl
theorem Wm (q : Sq) (w : anV) : aU pg lL #[.agg (I4 q).toArray] w (fun r w' => r = .agg (kvL q).toArray /\ aX w w' dG) := by
 refine Jb ?_
 unfold Gr tL
 refine hY fun w1 o1 x1 s1 => ?_
 have o1 : cG w1 w.heap.size (I4 q) := o1
 refine Mj fun w2 o2 x2 s2 => ?_
 have o1 := o1.ext x2 (fun h => h)
 have z1 := x1.size
 have c0 := o1.cell (off := 0)
 have c1 := o1.cell (off := 1)
 have c2 := o1.cell (off := 2)
 simp only [I4, aiP, aiQ] at c0 c1 c2
 simp (disch := omega) only [aC, jJ, kW, aiR, lZ, aA, sS, c0, aI, c2, c1, LH]
 refine Kd o2 rfl (by simp [one]) (by simp) fun w3 o3 x3 s3 => ?_
 refine SV o3 (by simp [bQ]) ?_
 simp only [bQ, aiV, aiW, aiY, aiT, aiZ]
 exact ⟨rfl, (x1.seq x2).new x3 (by omega)⟩
theorem Fz {w w' : anV} {sz n : Nat} {v : anW} {l : List anW} {M : Nat -> Prop} (h : Cl w sz v n l) (x : aX w w' M) (hM : ¬ U4 v M) (hs : 0 < sz) : Cl w' sz v n l := by
 obtain ⟨a, c, rfl, h1, h2⟩ := h
 refine ⟨a, c, rfl, h1, fun h0 => ?_⟩
 obtain ⟨b, off, rfl, h3⟩ := h2 h0
 refine ⟨b, off, rfl, fun i hi => ?_⟩
 have h4 := h3 i hi
 rw [aiN hi] at h4 ⊢
 refine RH h4 x fun hb => hM ?_
 obtain ⟨n, rfl⟩ : ∃ m, n = m + 1 := ⟨n - 1, by omega⟩
 exact hb
theorem XN {l : List Sq} {i : Nat} {q : Sq} (h : l[i]? = some q) : ((MT l).drop (i * 3)).take 3 = I4 q := by
 induction l generalizing i with
 | nil => simp at h
 | cons a l ih =>
   have e : MT (a :: l) = I4 a ++ MT l := rfl
   rw [e]
   cases i with
   | zero =>
     simp only [aiP, Option.some.injEq] at h
     subst h
     simp [I4]
   | succ i =>
     simp only [aiQ] at h
     have hl : (I4 a).length = 3 := rfl
     rw [show (i + 1) * 3 = 3 + i * 3 by omega, List.drop_append, hl, show 3 + i * 3 - 3 = i * 3 by omega, alT (by omega), akC]
     exact ih h
theorem Np {l : List Sq} {v : anW} {w : anV} (h : Cl w 3 v l.length (MT l)) {i : Nat} {q : Sq} (hq : l[i]? = some q) : ∃ b off c, v = .slice (some ⟨b, off, none⟩) l.length c /\
 (∀ w', (∀ x, w'.cell? x = w.cell? x) -> (aJ 47 (.pointer (some ⟨b, off + i * 3, none⟩))).run pg w' = .ok (.value (.agg (I4 q).toArray)) w') := by
 obtain ⟨a, c, rfl, h1, h2⟩ := h
 have hi : i < l.length := by
  rcases ajI i l.length with h | h
  .exact h
  .rw [ajJ h] at hq; cases hq
 obtain ⟨b, off, rfl, h3⟩ := h2 (by omega)
 refine ⟨b, off, c, rfl, fun w' hw => Pn (l := I4 q) rfl fun j hj => ?_⟩
 have hj3 : j < 3 := hj
 have h4 := h3 (i * 3 + j) (by rw [h1]; omega)
 rw [hw, alL, h4, <- XN hq, ajR hj3, alB]
structure C3 (w : anV) (base : Nat) (L : Nat -> List Nat) (v : Nat -> anW) (D : Nat -> Nat -> Prop) : Prop where
 row : ∀ k, k < 3 -> Pk w (D k) 1 (v k) (L k).length ((L k).map fun (n : Nat) => Value.int .i64 n)
 bd : ∀ k, k < 3 -> ∀ b, D k b -> base <= b /\ b < w.heap.size
 sep : ∀ j, j < 3 -> ∀ k, k < 3 -> j ≠ k -> ∀ b, D j b -> ¬ D k b
theorem C3.ext {w w' : anV} {base : Nat} {L : Nat -> List Nat} {v : Nat -> anW} {D : Nat -> Nat -> Prop} {M : Nat -> Prop} (h : C3 w base L v D) (x : aX w w' M) (hM : ∀ b, base <= b -> b < w.heap.size -> ¬ M b) : C3 w' base L v D :=
 ⟨fun k hk => (h.row k hk).ext x fun b hb => hM b (h.bd k hk b hb).1 (h.bd k hk b hb).2, fun k hk b hb => ⟨(h.bd k hk b hb).1, by have := (h.bd k hk b hb).2; have := x.size; omega⟩, h.sep⟩
def upL (L : Nat -> List Nat) (k : Nat) (x : List Nat) : Nat -> List Nat := fun i => if i = k then x else L i
def upV (v : Nat -> anW) (k : Nat) (x : anW) : Nat -> anW := fun i => if i = k then x else v i
theorem C3.app {w w' : anV} {base k : Nat} {L : Nat -> List Nat} {v : Nat -> anW} {D : Nat -> Nat -> Prop} {x : anW} {c : List Nat} (h : C3 w base L v D) (hk : k < 3) (hb : base <= w.heap.size)
 (o : Pk w' (fun b => D k b ∨ w.heap.size <= b) 1 x c.length (c.map fun (n : Nat) => Value.int .i64 n)) (y : aX w w' (fun b => D k b ∨ w.heap.size <= b)) : C3 w' base (upL L k c) (upV v k x) (fun j b => if j = k then (D k b ∨ w.heap.size <= b) /\ b < w'.heap.size else D j b) := by
 have hz := y.size
 refine ⟨fun j hj => ?_, fun j hj b hb' => ?_, fun i hi j hj hij b hbi hbj => ?_⟩
 .by_cases he : j = k
  .subst he
   have e1 : upL L j c j = c := by unfold upL; rw [if_pos rfl]
   have e2 : upV v j x j = x := by unfold upV; rw [if_pos rfl]
   rw [e1, e2]
   simp only [if_true]
   refine ⟨o.1, ?_⟩
   rcases o.2 with h2 | ⟨b, cc, rest, h1, h2, h3, h4, h5⟩
   .exact .inl h2
   .exact .inr ⟨b, cc, rest, h1, ⟨h2, h3.lt⟩, h3, h4, h5⟩
  .have e1 : upL L k c j = L j := by unfold upL; rw [if_neg he]
   have e2 : upV v k x j = v j := by unfold upV; rw [if_neg he]
   rw [e1, e2]
   simp only [if_neg he]
   refine (h.row j hj).ext y fun b hb hb2 => ?_
   rcases hb2 with hb2 | hb2
   .exact h.sep j hj k hk he b hb hb2
   .have := (h.bd j hj b hb).2; omega
 .by_cases he : j = k
  .simp only [if_pos he] at hb'
   rcases hb'.1 with h1 | h1
   .exact ⟨(h.bd k hk b h1).1, hb'.2⟩
   .exact ⟨by omega, hb'.2⟩
  .simp only [if_neg he] at hb'
   have := h.bd j hj b hb'
   exact ⟨this.1, by omega⟩
 .by_cases he : i = k
  .have hj' : j ≠ k := fun h => hij (by rw [he, h])
   simp only [if_pos he, if_neg hj'] at hbi hbj
   rcases hbi.1 with h1 | h1
   .exact h.sep j hj k hk hj' b hbj h1
   .have := (h.bd j hj b hbj).2; omega
  .simp only [if_neg he] at hbi
   by_cases hj' : j = k
   .simp only [if_pos hj'] at hbj
    rcases hbj.1 with h1 | h1
    .exact h.sep i hi k hk he b hbi h1
    .have := (h.bd i hi b hbi).2; omega
   .simp only [if_neg hj'] at hbj
    exact h.sep i hi j hj hij b hbi hbj
def M6 (k : Nat) (l : List Sq) (L : List Nat) : Prop := L.length = l.length /\ ∀ (i : Nat) (q : Sq) (c : Nat), l[i]? = some q -> L[i]? = some c -> oJ k (kv q k) c
theorem M6.snoc {k : Nat} {l : List Sq} {L : List Nat} {q : Sq} {c : Nat} (h : M6 k l L) (hc : oJ k (kv q k) c) : M6 k (l ++ [q]) (L ++ [c]) := by
 refine ⟨by rw [aiO, aiO, h.1] <;> rfl, fun i p d hp hd => ?_⟩
 rcases ajI i l.length with hi | hi
 .rw [ajF hi] at hp
  rw [ajF (by rw [h.1]; exact hi)] at hd
  exact h.2 i p d hp hd
 .rw [ajY hi] at hp
  rw [ajY (by rw [h.1]; exact hi), h.1] at hd
  rcases alK (i - l.length) with h0 | h0
  .rw [h0] at hp hd
   cases hp; cases hd; exact hc
  .rw [ajJ (by simp; omega)] at hp; cases hp
def vL (v : Nat -> anW) : List anW := [v 0, v 1, v 2]
theorem X1 (v : Nat -> anW) {k : Nat} (h : k < 3) : (vL v)[k]? = some (v k) := by
 rcases (show k = 0 ∨ k = 1 ∨ k = 2 by omega) with rfl | rfl | rfl <;> rfl
theorem adQ (v : Nat -> anW) {k : Nat} (h : k < 3) (x : anW) : (vL v).set k x = vL (upV v k x) := by
 rcases (show k = 0 ∨ k = 1 ∨ k = 2 by omega) with rfl | rfl | rfl <;> rfl
def aaO (w : anV) (base : Nat) (l : List Sq) (r : anW) : Prop :=
 (∃ v D L, r = .tuple #[.agg (vL v).toArray, .int .i64 0] /\ C3 w base L v D /\ ∀ k, k < 3 -> M6 k l (L k)) ∨
 ((∃ q ∈ l, ∃ k, k < 3 /\ ∀ c, ¬ oJ k (kv q k) c) /\ ∃ x y z : Option Addr × Nat × Nat, r = .tuple #[.agg #[.slice x.1 x.2.1 x.2.2, .slice y.1 y.2.1 y.2.2, .slice z.1 z.2.1 z.2.2], .int .i64 1])
theorem C3.lower {w : anV} {base base' : Nat} {L : Nat -> List Nat} {v : Nat -> anW} {D : Nat -> Nat -> Prop} (h : C3 w base L v D) (hb : base' <= base) : C3 w base' L v D :=
 ⟨h.row, fun k hk b hd => ⟨by have := (h.bd k hk b hd).1; omega, (h.bd k hk b hd).2⟩, h.sep⟩
theorem C3.ones {w : anV} {base : Nat} {L : Nat -> List Nat} {v : Nat -> anW} {D : Nat -> Nat -> Prop} (h : C3 w base L v D) : ∀ x ∈ vL v, one x = true := by
 intro x hx
 have : ∀ k, k < 3 -> one (v k) = true := fun k hk => by
  obtain ⟨a, c, e⟩ := (h.row k hk).len
  rw [e] <;> rfl
 rcases akE.1 hx with rfl | hx
 .exact this 0 (by omega)
 rcases akE.1 hx with rfl | hx
 .exact this 1 (by omega)
 rcases akE.1 hx with rfl | hx
 .exact this 2 (by omega)
 .cases hx
theorem C3.form {w : anV} {base : Nat} {L : Nat -> List Nat} {v : Nat -> anW} {D : Nat -> Nat -> Prop} (h : C3 w base L v D) : ∃ x y z : Option Addr × Nat × Nat, v 0 = .slice x.1 x.2.1 x.2.2 /\ v 1 = .slice y.1 y.2.1 y.2.2 /\ v 2 = .slice z.1 z.2.1 z.2.2 := by
 obtain ⟨a0, c0, e0⟩ := (h.row 0 (by omega)).len
 obtain ⟨a1, c1, e1⟩ := (h.row 1 (by omega)).len
 obtain ⟨a2, c2, e2⟩ := (h.row 2 (by omega)).len
 exact ⟨(a0, _, c0), (a1, _, c1), (a2, _, c2), e0, e1, e2⟩
theorem adN {p : Nat} {w : anV} {v0 v1 v2 : anW} {c : List anW} {e : anW} (o : cG w p c) (hc : c.length = 3) (h0 : one v0 = true) (h1 : one v1 = true) (h2 : one v2 = true) {RR : anW -> anV -> Prop}
 (hR : ∀ w', aX w w' (fun y => y = p) -> RR (.tuple #[.agg #[v0, v1, v2], e]) w') :
 aC pg (aR 98 (.pointer (some ⟨p, 0, none⟩)) (.agg #[v0, v1, v2])) w fun _u w => xA pg 98 (.pointer (some ⟨p, 0, none⟩)) w fun r0 => RR (.tuple #[r0, e]) w := by
 match c, hc with
 | [c0, c1, c2], _ =>
   refine CR o rfl (by simp [h0, h1, h2]) (by simp) fun w6 o6 x6 s6 => ?_
   refine Sz o6 (by simp [bQ]) ?_
   simp only [bQ, aiV, aiW, aiY, aiT, aiZ]
   exact hR _ x6
theorem acE {lv : anW} {l : List Sq} {w : anV} (hg : nX w) (h : Cl w 3 lv l.length (MT l)) (hu : ∀ q ∈ l, ∀ k, kv q k < 4294967296) (hl : l.length <= 1000000) :
 aU pg qP #[lv] w (fun r w' => aaO w' w.heap.size l r /\ aX w w' dG) := by
 refine Kg ?_
 obtain ⟨RR, hRR⟩ : ∃ RR : anW -> anV -> Prop, RR = fun r w' => aaO w' w.heap.size l r /\ aX w w' dG := ⟨_, rfl⟩
 rw [<- hRR]
 have hf := h
 obtain ⟨la, lc, rfl, _⟩ := hf
 unfold IN tU tO
 refine AT fun w1 o1 x1 s1 => ?_
 refine AT fun w2 o2 x2 s2 => ?_
 have o1 := o1.ext x2 (fun h => h)
 have x02 := x1.seq x2
 obtain ⟨pt, hpt⟩ : ∃ pt, pt = w.heap.size := ⟨_, rfl⟩
 obtain ⟨po, hpo⟩ : ∃ po, po = w1.heap.size := ⟨_, rfl⟩
 rw [<- hpt] at o1 ⊢
 rw [<- hpo] at o2 ⊢
 have hg2 := hg.ext x02
 unfold tV tN tQ
 simp (disch := omega) only [aC, dF, aA]
 unfold uA tK
 refine cO.rule (fun m (t : anW) w' => ∃ (i : Nat) (v : Nat -> anW) (D : Nat -> Nat -> Prop) (L : Nat -> List Nat), m = l.length - i /\ i <= l.length /\ t = .int .i64 i /\ cG w' po (vL v) /\ C3 w' w2.heap.size L v D /\ (∀ k, k < 3 -> M6 k (l.take i) (L k)) /\ (∀ q ∈ l.take i, ∀ k, k < 3 -> ∃ c, oJ k (kv q k) c) /\ aX w2 w' (fun y => y = po)) l.length
  ⟨0, fun _ => .slice none 0 0, fun _ _ => False, fun _ => [], rfl, by omega, rfl, o2, ⟨fun k _ => ⟨rfl, .inl ⟨rfl, rfl⟩⟩, fun _ _ _ h => h.elim, fun _ _ _ _ _ _ h => h.elim⟩, fun k _ => ⟨rfl, fun i q c h => by simp at h⟩, fun q hq => by simp at hq, aX.refl _ _⟩ ?_
 rintro m t w3 ⟨i, v, D, L, rfl, hi, rfl, o3, hC, hK, hA, x3⟩
 unfold nK tI
 have o13 := o1.ext x3 (by omega)
 have z2 := x02.size
 have z3 := x3.size
 have x03 : aX w w3 dG := x02.trans x3 fun b hb h => by omega
 by_cases hlt : i < l.length
 rotate_left
 .obtain rfl : i = l.length := by omega
  have d1 : decide ((l.length : Int) < (l.length : Int)) = false := by simp
  have l3 := Dp (off := 0) o3 (by simp [vL])
  simp only [vL, aiY, aiT, aiZ] at l3
  obtain ⟨y0, y1, y2, e0, e1, e2⟩ := hC.form
  simp (disch := omega) only [aC, bD, d1, aA, aD]
  unfold pR
  simp (disch := omega) only [aC, l3, aA]
  refine adN o13 rfl (by rw [e0] <;> rfl) (by rw [e1] <;> rfl) (by rw [e2] <;> rfl) fun w' x => ?_
  rw [hRR]
  refine ⟨.inl ⟨v, D, L, rfl, (hC.ext x fun b h1 h2 h3 => by omega).lower (by omega), ?_⟩, x03.new x (by omega)⟩
  rw [amK] at hK
  exact hK
 have d1 : decide ((i : Int) < (l.length : Int)) = true := by simp; omega
 obtain ⟨q, hq⟩ : ∃ q, l[i]? = some q := ⟨_, aiN hlt⟩
 have hqm := alD hq
 obtain ⟨b, off, c, e, lq⟩ := Np (Fz h x03 (bY _) (by omega)) hq
 cases e
 have lq3 := lq w3 (fun _ => rfl)
 simp only [I4] at lq3
 simp (disch := omega) only [aC, bD, d1, aA, aG]
 unfold vF vJ Dk wE
 simp (disch := omega) only [aC, jF, aiM, aA, lq3]
 refine IY fun w4 o4 x4 s4 => ?_
 refine PZ o4 rfl (by simp [one]) (by simp) fun w5 o5 x5 s5 => ?_
 have o5 : cG w5 w3.heap.size (I4 q) := o5
 have x35 : aX w3 w5 dG := x4.new x5 (aiU _)
 have l5 := Aw (off := 0) o5 (by simp [I4])
 simp only [I4, aiY, aiT, aiZ] at l5
 simp (disch := omega) only [l5, aA]
 refine (Wm q _).mono ?_
 rintro r w6 ⟨rfl, x6⟩
 have x36 := x35.seq x6
 have z36 := x36.size
 unfold vS vU
 refine cO.rule (fun m (t : anW) w' => ∃ (j : Nat) (v : Nat -> anW) (D : Nat -> Nat -> Prop) (L : Nat -> List Nat), m = j /\ j <= 3 /\ t = .int .i64 (3 - j : Nat) /\ cG w' po (vL v) /\ C3 w' w2.heap.size L v D /\ (∀ k, k < 3 -> M6 k (if k < 3 - j then l.take (i + 1) else l.take i) (L k)) /\ (∀ k, k < 3 - j -> ∃ c, oJ k (kv q k) c) /\ aX w2 w' (fun y => y = po)) 3
  ⟨3, v, D, L, rfl, aiU _, rfl, o3.ext x36 (fun h => h), hC.ext x36 (fun _ _ _ h => h), fun k hk => by rw [if_neg (by omega)]; exact hK k hk, fun k hk => by omega, x3.more x36⟩ ?_
 rintro j t w7 ⟨n, v7, D7, L7, rfl, hj, rfl, o7, hC7, hK7, hA7, x7⟩
 have z7 := x7.size
 have x07 : aX w w7 dG := x02.trans x7 fun b hb h => by omega
 have hgw := hg.ext x07
 have htk : l.take (i + 1) = l.take i ++ [q] := by rw [akW, hq] <;> rfl
 unfold oR
 rcases j with _ | j
 .have d2 : decide (((3 - 0 : Nat) : Int) < 3) = false := rfl
  have e1 : (i : Int) + 1 = ((i + 1 : Nat) : Int) := by omega
  simp (disch := omega) only [aC, bD, d2, bK, aW, aA, aD]
  unfold pO
  simp (disch := omega) only [aC, bK, e1, aW, aA]
  refine ⟨l.length - (i + 1), by omega, i + 1, v7, D7, L7, rfl, by omega, rfl, o7, hC7, fun k hk => ?_, fun p hp k hk => ?_, x7⟩
  .have := hK7 k hk
   rw [if_pos (by omega)] at this
   exact this
  .rw [htk] at hp
   rcases alO.1 hp with hp | hp
   .exact hA p hp k hk
   .obtain rfl := akK.1 hp
    exact hA7 k (by omega)
 obtain ⟨k, hkk⟩ : ∃ k, k = 2 - j := ⟨_, rfl⟩
 have hk3 : k < 3 := by omega
 have ek : ((3 - (j + 1) : Nat) : Int) = (k : Int) := by omega
 have hk2 : 3 - (j + 1) = k := by omega
 have d2 : decide ((k : Int) < 3) = true := by simp; omega
 rw [ek]
 rw [hk2] at hK7 hA7
 have hx := afD q hk3
 simp (disch := omega) only [aC, bD, d2, Tb, aiM, hx, aI, uI, aiR, bK, aW, aA, dU, aG]
 refine (ahO hgw hk3 (hu q hqm k)).mono ?_
 rintro r w8 ⟨hr, x8⟩
 have x78 := x8
 have z8 := x8.size
 have o8 := o7.ext x8 (fun h => h)
 have hC8 := hC7.ext x8 (fun _ _ _ h => h)
 have o18 := (o1.ext x7 (by omega)).ext x8 (fun h => h)
 rcases hr with ⟨c, hcv, rfl⟩ | ⟨hno, rfl⟩
 rotate_left
 .have n1 : ((17 : Int) != 0) = true := rfl
  have l8 := Dp (off := 0) o8 (by simp [vL])
  simp only [vL, aiY, aiT, aiZ] at l8
  obtain ⟨y0, y1, y2, e0, e1, e2⟩ := hC8.form
  simp (disch := omega) only [Wv, Ww, WA, aA, fU, n1, aG, l8]
  refine adN o18 rfl (by rw [e0] <;> rfl) (by rw [e1] <;> rfl) (by rw [e2] <;> rfl) fun w' x => ?_
  rw [hRR]
  refine ⟨.inr ⟨⟨q, hqm, k, hk3, hno⟩, y0, y1, y2, by rw [e0, e1, e2]⟩, (x07.seq x8).new x (by omega)⟩
 have n1 : ((0 : Int) != 0) = false := rfl
 have c8 := o8.cell (off := k)
 rw [X1 _ hk3] at c8
 obtain ⟨va, vc, ev⟩ := (hC8.row k hk3).len
 simp (disch := omega) only [Wv, Ww, WA, aA, fU, n1, aD, c8, aI]
 refine Tz (cells := #[.int .i64 (c : Nat)]) (by decide) (by decide) (by kernel_rfl) fun w9 o9 x9 s9 => ?_
 have o9 : cG w9 w8.heap.size [.int .i64 (c : Nat)] := o9
 have hlen : (L7 k).length <= l.length := by
  have := (hK7 k hk3).1
  rw [this]
  split
  .rw [ajL]; omega
  .rw [ajL]; omega
 have hC9 := hC8.ext x9 (fun _ _ _ h => h)
 have hb9 : ∀ b, w9.heap.size <= b -> (D7 k b ∨ w9.heap.size <= b) := fun b hb => .inr hb
 have os9 : Pk w9 (fun b => D7 k b ∨ w9.heap.size <= b) 1 (v7 k) (L7 k).length ((L7 k).map fun (n : Nat) => Value.int .i64 n) := by
  have := hC9.row k hk3
  refine ⟨this.1, ?_⟩
  rcases this.2 with h2 | ⟨b, cc, rest, h1, h2, h3⟩
  .exact .inl h2
  .exact .inr ⟨b, cc, rest, h1, .inl h2, h3⟩
 refine rN (m := 1) (news := [.int .i64 (c : Nat)]) (i := Tryd.t3) Tryd.underlying77 Tryd.underlying77 Ef rfl rfl rfl os9 (o9.cl (off := 0) (l := [.int .i64 (c : Nat)]) (n := 1) rfl (fun i hi => by rw [aiR])) (by simp [one]) hb9 (by omega) (by rw [show Tryd.t3.bytes = 8 from rfl]; omega) (by decide) fun v10 w10 o10 x10 => ?_
 have z9 := x9.size
 have hC10 := hC9.app (c := L7 k ++ [c]) hk3 (by omega) (by rw [aiO, akN]; exact o10) x10
 have hpo2 : po < w2.heap.size := by omega
 have o10p : cG w10 po (vL v7) := (o8.ext x9 (fun h => h)).ext x10 (fun h => by
  rcases h with h | h
  .have := (hC9.bd k hk3 po h).1; omega
  .omega)
 obtain ⟨va', vc', ev'⟩ := o10.len
 refine Pp o10p (by rw [ev'] <;> rfl) (by simp [vL]; omega) fun w11 o11 x11 s11 => ?_
 rw [adQ _ hk3] at o11
 have e1 : (k : Int) + 1 = ((3 - j : Nat) : Int) := by omega
 simp (disch := omega) only [e1]
 refine ⟨j, by omega, j, _, _, _, rfl, by omega, rfl, o11, hC10.ext x11 (fun b hb _ h => by omega), fun i' hi' => ?_, fun i' hi' => ?_, ?_⟩
 .unfold upL
  by_cases he : i' = k
  .subst he
   rw [if_pos rfl, if_pos (by omega), htk]
   have := hK7 i' hi'
   rw [if_neg (by omega)] at this
   exact this.snoc hcv
  .rw [if_neg he]
   have := hK7 i' hi'
   by_cases hlt' : i' < k
   .rw [if_pos hlt'] at this
    rw [if_pos (by omega)]; exact this
   .rw [if_neg hlt'] at this
    rw [if_neg (by omega)]; exact this
 .by_cases he : i' = k
  .rw [he]; exact ⟨c, hcv⟩
  .exact hA7 i' (by omega)
 .have x29 : aX w2 w9 (fun y => y = po) := (x7.more x8).more x9
  refine (x29.trans x10 fun b hb h => ?_).seq x11
  rcases h with h | h
  .have := (hC9.bd k hk3 b h).1; omega
  .have := x29.size; omega
theorem FO {w w' : anV} {S M : Nat -> Prop} {sz n : Nat} {v : anW} {l : List anW} (h : Pk w S sz v n l) (hx : aX w w' M) (hM : ∀ b, S b -> ¬ M b) : Pk w' S sz v n l := by
 refine ⟨h.1, ?_⟩
 rcases h.2 with h2 | ⟨b, c, rest, h1, h2, h3, h4, h5⟩
 .exact .inl h2
 .exact .inr ⟨b, c, rest, h1, h2, h3.ext hx (hM b h2), h4, h5⟩
def Wr (w : anV) (lo p : Nat) (B : List Bool) : Prop := lo <= p /\ ∃ v bytes, cG w p [v, .int .i64 B.length] /\ Pk w (fun b => lo <= b /\ b ≠ p) 1 v bytes.length (bytes.map D8) /\ Qk B bytes
def Rm (w : anV) (lo p : Nat) (B : List Bool) : Prop := lo <= p /\ ∃ v bytes, cG w p [v, .int .i64 B.length] /\ Pk w (fun b => lo <= b /\ b ≠ p) 1 v bytes.length (bytes.map D8) /\
 aY bytes = B ++ List.replicate (8 * bytes.length - B.length) false /\ bytes.length = (B.length + 1 + 7) / 8
theorem Wr.ext {w w' : anV} {lo p : Nat} {B : List Bool} {M : Nat -> Prop} (h : Wr w lo p B) (hx : aX w w' M) (hM : ∀ b, lo <= b -> ¬ M b) : Wr w' lo p B := by
 obtain ⟨h0, v, bytes, h1, h2, h3⟩ := h
 exact ⟨h0, v, bytes, h1.ext hx (hM _ h0), FO h2 hx fun b hb => hM b hb.1, h3⟩
theorem Wf (w : anV) : aU pg lG #[] w (fun r w' => r = .pointer (some ⟨w.heap.size, 0, none⟩) /\ w.heap.size < w'.heap.size /\ Wr w' w.heap.size w.heap.size [] /\ aX w w' dG) := by
 refine Cm ?_
 unfold C2 qZ
 simp (disch := omega) only [aC, IU, aA]
 refine hY fun w1 o1 x1 s1 => ?_
 simp only [Value.cells] at o1
 exact ⟨rfl, by omega, ⟨aiU _, _, [], o1, ⟨rfl, .inl ⟨rfl, rfl⟩⟩, VV⟩, x1⟩
theorem adD {lo p x i : Nat} {B : List Bool} {t17 : anW} {w : anV} (h : Rm w lo p B) (hx : x < 2 ^ 64) (hi : i <= 60) (hB : B.length <= 1000000000)
 {kn : anW -> anW -> anW -> anW -> anV -> Prop} (hR : ∀ w', Wr w' lo p (B ++ [x.testBit i]) -> aX w w' (fun y => lo <= y) -> kn (.pointer (some ⟨p, 0, none⟩)) (.int .u64 x) t17 (.int .i64 i) w') :
 gJ kn (.pointer (some ⟨p, 0, none⟩)) (.int .u64 x) (.int .i64 i) t17 (.int .i64 i) w := by
 obtain ⟨h0, v, bytes, o, os, hbits, hlen⟩ := h
 obtain ⟨hlt, hheld, hval, hor⟩ := Vp (y := x.testBit i) hbits hlen
 rcases os.2 with ⟨rfl, hz⟩ | ⟨b, c, rest, rfl, hS, ob, hc, hn⟩
 .rw [hlen] at hz; omega
 generalize hq : B.length = q at *
 have hcell : (bytes.map D8 ++ rest)[q / 8]? = some (.int .u8 ((bytes[q / 8]'hlt).toNat : Nat)) := by
  rw [ajF (by rw [aiX]; exact hlt), ajO, aiN hlt] <;> rfl
 have hcl : (bytes[q / 8]'hlt).toNat < 2 ^ 8 := akI _
 have hset : (bytes.map D8 ++ rest).set (q / 8) (.int .u8 (((bytes[q / 8]'hlt).toNat + 2 ^ (q % 8) * (x.testBit i).toNat : Nat))) = (bytes.set (q / 8) (UInt8.ofNat ((bytes[q / 8]'hlt).toNat + 2 ^ (q % 8) * (x.testBit i).toNat))).map D8 ++ rest := by
  rw [anT _ _ (by rw [aiX]; exact hlt), amL, D8, UInt8.toNat_ofNat_of_lt' (by simpa using hval)]
 have hbl : (bytes.set (q / 8) (UInt8.ofNat ((bytes[q / 8]'hlt).toNat + 2 ^ (q % 8) * (x.testBit i).toNat))).length = bytes.length := amO
 generalize bytes.set (q / 8) (UInt8.ofNat ((bytes[q / 8]'hlt).toNat + 2 ^ (q % 8) * (x.testBit i).toNat)) = bytes' at *
 generalize (bytes[q / 8]'hlt).toNat = y at *
 have e1 : (q : Int).tdiv 8 = ((q / 8 : Nat) : Int) := by rw [alU (by omega)]; omega
 have e2 : (q : Int).tmod 8 = ((q % 8 : Nat) : Int) := by rw [ajZ (by omega)]; omega
 have e3 := Lt x i (by omega)
 have hxl : x / 2 ^ i < 2 ^ 64 := by have := anS x (2 ^ i); omega
 have e4 := Wb hxl
 rw [<- Pc] at e4
 have hbt : (x.testBit i).toNat <= 1 := Bool.toNat_le _
 have hp8 : 2 ^ (q % 8) <= 2 ^ 7 := ajA (by omega) (by omega)
 have hm : (x.testBit i).toNat * 2 ^ (q % 8) <= 2 ^ (q % 8) := by
  have := ajX (2 ^ (q % 8)) hbt
  omega
 have e5 : IntKind.u8.wrap (((x.testBit i).toNat : Int) * 2 ^ (min (q % 8) IntKind.u8.bits)) = (((x.testBit i).toNat * 2 ^ (q % 8) : Nat) : Int) := by
  rw [show min (q % 8) IntKind.u8.bits = q % 8 from akO (by have h8 : IntKind.u8.bits = 8 := rfl; omega)]
  have e : ((x.testBit i).toNat : Int) * 2 ^ (q % 8) = (((x.testBit i).toNat * 2 ^ (q % 8) : Nat) : Int) := by simp
  rw [e]
  exact LR (by omega) (by omega)
 have e6 := Vv (a := y) (b := (x.testBit i).toNat * 2 ^ (q % 8)) hcl (by omega)
 rw [hor] at e6
 have e7 : (q : Int) + 1 = ((q + 1 : Nat) : Int) := by omega
 have od := eP o
 have obd := eP ob
 have c0 := od.cell (off := 0)
 have c1 := od.cell (off := 1)
 have g := obd.cell (off := q / 8)
 rw [hcell] at g
 simp only [aiP, aiQ] at c0 c1
 unfold gJ
 simp (disch := omega) only [aC, nA, iR, jC, aA, jE, aiR, cP, c1, aI, IQ, e2, true_and, tH, aiM, e3, Mr, e4, pZ, LR, iX, e5, Sk, e1, aW, gQ, eL, c0, mC, jY, g, WS, e6]
 refine No obd rfl (by rw [aiO, aiX]; omega) fun w2 o2 x2 s2 => ?_
 rw [hset] at o2
 have op2 := od.ext x2 (fun h => hS.2 h.symm)
 have c12 := op2.cell (off := 1)
 simp only [aiP, aiQ] at c12
 simp (disch := omega) only [c12, aI, aA, bK, e7, aW]
 refine xV op2 rfl (by simp) fun w3 o3 x3 s3 => ?_
 simp only [aiV, aiW] at o3
 have hBl : (B ++ [x.testBit i]).length = q + 1 := by rw [aiO, hq] <;> rfl
 refine hR _ ⟨h0, _, bytes', by rw [hBl]; exact o3, ⟨by simp, .inr ⟨b, c, rest, by rw [hbl], hS, o2.ext x3 hS.2, ?_, by rw [hbl]; exact hn⟩⟩, hheld⟩ ?_
 .rw [aiO, aiX] at hc ⊢; rw [hbl]; exact hc
 .exact ((aX.dr _ _).seq (x2.mono fun z _ h => by omega)).seq (x3.mono fun z _ h => by omega)
theorem agY {lo p x i n : Nat} {B : List Bool} {w : anV} (hw : Wr w lo p B) (hx : x < 2 ^ 64) (hi : i <= 60) (hB : B.length <= 1000000000)
 {kn : anW -> anW -> anW -> anW -> anV -> Prop} (hR : ∀ w', Wr w' lo p (B ++ [x.testBit i]) -> aX w w' (fun y => lo <= y) -> kn (.pointer (some ⟨p, 0, none⟩)) (.int .u64 x) (.int .i64 n) (.int .i64 i) w') :
 jS kn (.pointer (some ⟨p, 0, none⟩)) (.int .u64 x) (.int .i64 n) (.int .i64 i) w := by
 unfold jS mQ
 obtain ⟨h0, v, bytes, o, os, hh⟩ := hw
 have c1 := o.cell (off := 1)
 have c0 := o.cell (off := 0)
 simp only [aiP, aiQ] at c0 c1
 have e2 : (B.length : Int).tmod 8 = ((B.length % 8 : Nat) : Int) := by rw [ajZ (by omega)]; omega
 by_cases h8 : B.length % 8 = 0
 .have d4 : (((B.length % 8 : Nat) : Int) == 0) = true := by rw [h8] <;> rfl
  obtain ⟨hr1, hr2⟩ := TH hh h8
  have hl2 := hh.len
  have lp := o.lt
  simp (disch := omega) only [aC, nA, aA, gQ, eL, jE, aiR, cP, c1, aI, IQ, e2, dJ, d4, c0, aG]
  refine rU (cells := #[.int .u8 0]) (by decide) (by decide) (by kernel_rfl) fun w2 o2 x2 s2 => ?_
  refine rN (m := 1) (news := [D8 0]) (i := Tryd.t5) Tryd.underlying22 Tryd.underlying22 PH rfl rfl rfl (FO os x2 (fun _ _ h => h)) (o2.cl (off := 0) (l := [D8 0]) (n := 1) rfl (fun i hi => by rw [aiR] <;> rfl)) (by simp [one, D8]) (fun b hb => ⟨by omega, by omega⟩) (by omega) (by rw [show Tryd.t5.bytes = 1 from rfl]; omega) (by decide) fun v3 w3 o3 x3 => ?_
  have x13 : aX w w3 (fun y => lo <= y /\ y ≠ p) := (x2.mono fun _ _ h => h.elim).seq x3
  have op3 := o.ext x13 (fun h => h.2 rfl)
  have hv3 : ∃ a n c, v3 = .slice a n c := by
   rcases o3.2 with ⟨rfl, _⟩ | ⟨b, c, rest, rfl, _⟩
   .exact ⟨_, _, _, rfl⟩
   .exact ⟨_, _, _, rfl⟩
  obtain ⟨a3, n3, c3, rfl⟩ := hv3
  refine Bg op3 rfl (by simp) fun w4 o4 x4 s4 => ?_
  simp only [aiV, aiW] at o4
  have x14 : aX w w4 (fun y => lo <= y) := (x13.mono fun y _ h => h.1).seq (x4.mono fun y _ h => by omega)
  refine adD (w := w4) ⟨h0, _, bytes ++ [0], o4, ?_, ?_, hr2⟩ hx hi hB fun w5 h5 x5 => hR w5 h5 (x14.seq x5)
  .have := FO o3 x4 (fun b hb h => hb.2 h)
   rw [aiO, akN]
   exact this
  .rw [aiO]; exact hr1
 .have d4 : (((B.length % 8 : Nat) : Int) == 0) = false := by simp; omega
  simp (disch := omega) only [aC, nA, aA, gQ, eL, jE, aiR, cP, c1, aI, IQ, e2, dJ, d4, aD]
  refine adD (w := w) ⟨h0, v, bytes, o, os, hh.bits, ?_⟩ hx hi hB fun w5 h5 x5 => hR w5 h5 x5
  rw [hh.len]; omega
theorem H0 {lo p x n : Nat} {B : List Bool} {w : anV} (h : Wr w lo p B) (hx : x < 2 ^ 64) (hn : n <= 56) (hB : B.length <= 100000000) :
 aU pg cZ #[.pointer (some ⟨p, 0, none⟩), .int .u64 x, .int .i64 n] w (fun r w' => r = .tuple #[] /\ Wr w' lo p (B ++ eD x n) /\ aX w w' (fun y => lo <= y)) := by
 refine yI ?_
 unfold yW lU lY
 by_cases hn0 : n = 0
 .subst hn0
  have d1 : decide (((0 : Nat) : Int) < 1) = true := rfl
  simp (disch := omega) only [aC, jG, ajN, true_and, aA, eU, cD, aiS, if_false, cB, bD, d1, lK, if_true, aG, eZ]
  exact ⟨by rw [Dd, akM]; exact h, aX.refl _ _⟩
 have d1 : decide ((n : Int) < 1) = false := by simp; omega
 have d2 : decide ((56 : Int) < (n : Int)) = false := by simp; omega
 simp (disch := omega) only [aC, jG, ajN, true_and, aA, eU, cD, aiS, if_false, cB, bD, d1, fD, d2, aD]
 unfold lX mG
 refine cO.rule (fun m (t : anW) w' => ∃ i : Nat, m = n - i /\ t = .int .i64 i /\ i <= n /\ Wr w' lo p (B ++ eD x i) /\ aX w w' (fun y => lo <= y)) n
  ⟨0, rfl, rfl, by omega, by rw [Dd, akM]; exact h, aX.refl _ _⟩ ?_
 rintro m t w1 ⟨i, rfl, rfl, hi, hw, x1⟩
 unfold jZ mN
 by_cases hlt : i < n
 .have d3 : decide ((i : Int) < (n : Int)) = true := by simp; omega
  simp (disch := omega) only [aC, bD, d3, aA, aG]
  unfold mJ mR
  refine agY hw hx (by omega) (by rw [aiO, bR]; omega) fun w3 hw3 x3 => ?_
  unfold jR
  simp (disch := omega) only [aC, bK, aW, aA]
  refine ⟨n - (i + 1), by omega, i + 1, rfl, rfl, by omega, ?_, x1.seq x3⟩
  rw [Im, <- ajB]
  exact hw3
 .have d3 : decide ((i : Int) < (n : Int)) = false := by simp; omega
  obtain rfl : i = n := by omega
  simp (disch := omega) only [aC, bD, d3, aA, aD]
  exact ⟨hw, x1⟩
def Ws (w : anV) (S : Nat -> Prop) (p : Nat) (B : List Bool) : Prop := ¬ S p /\ ∃ v bytes, cG w p [v, .int .i64 B.length] /\ Pk w S 1 v bytes.length (bytes.map D8) /\ Qk B bytes
def Rs (w : anV) (S : Nat -> Prop) (p : Nat) (B : List Bool) : Prop := ¬ S p /\ ∃ v bytes, cG w p [v, .int .i64 B.length] /\ Pk w S 1 v bytes.length (bytes.map D8) /\
 aY bytes = B ++ List.replicate (8 * bytes.length - B.length) false /\ bytes.length = (B.length + 1 + 7) / 8
theorem Ws.ext {w w' : anV} {S M : Nat -> Prop} {p : Nat} {B : List Bool} (h : Ws w S p B) (hx : aX w w' M) (hp : ¬ M p) (hM : ∀ b, S b -> ¬ M b) : Ws w' S p B := by
 obtain ⟨h0, v, bytes, h1, h2, h3⟩ := h
 exact ⟨h0, v, bytes, h1.ext hx hp, FO h2 hx hM, h3⟩
theorem Ws.turn {w : anV} {S T : Nat -> Prop} {p : Nat} {B : List Bool} (h : Ws w S p B) (hp : ¬ T p) (hT : ∀ b, S b -> b < w.heap.size -> T b) : Ws w T p B := by
 obtain ⟨h0, v, bytes, h1, h2, h3⟩ := h
 refine ⟨hp, v, bytes, h1, ⟨h2.1, ?_⟩, h3⟩
 rcases h2.2 with h2 | ⟨b, c, rest, e, hb, o, hc, hn⟩
 .exact .inl h2
 .exact .inr ⟨b, c, rest, e, hT b hb o.lt, o, hc, hn⟩
theorem ZP {S : Nat -> Prop} {p x i : Nat} {B : List Bool} {t17 : anW} {w : anV} (h : Rs w S p B) (hx : x < 2 ^ 64) (hi : i <= 60) (hB : B.length <= 1000000000)
 {kn : anW -> anW -> anW -> anW -> anV -> Prop} (hR : ∀ w', Ws w' S p (B ++ [x.testBit i]) -> aX w w' (fun y => y = p ∨ S y) -> kn (.pointer (some ⟨p, 0, none⟩)) (.int .u64 x) t17 (.int .i64 i) w') :
 gJ kn (.pointer (some ⟨p, 0, none⟩)) (.int .u64 x) (.int .i64 i) t17 (.int .i64 i) w := by
 obtain ⟨h0, v, bytes, o, os, hbits, hlen⟩ := h
 obtain ⟨hlt, hheld, hval, hor⟩ := Vp (y := x.testBit i) hbits hlen
 rcases os.2 with ⟨rfl, hz⟩ | ⟨b, c, rest, rfl, hS, ob, hc, hn⟩
 .rw [hlen] at hz; omega
 generalize hq : B.length = q at *
 have hcell : (bytes.map D8 ++ rest)[q / 8]? = some (.int .u8 ((bytes[q / 8]'hlt).toNat : Nat)) := by
  rw [ajF (by rw [aiX]; exact hlt), ajO, aiN hlt] <;> rfl
 have hcl : (bytes[q / 8]'hlt).toNat < 2 ^ 8 := akI _
 have hset : (bytes.map D8 ++ rest).set (q / 8) (.int .u8 (((bytes[q / 8]'hlt).toNat + 2 ^ (q % 8) * (x.testBit i).toNat : Nat))) = (bytes.set (q / 8) (UInt8.ofNat ((bytes[q / 8]'hlt).toNat + 2 ^ (q % 8) * (x.testBit i).toNat))).map D8 ++ rest := by
  rw [anT _ _ (by rw [aiX]; exact hlt), amL, D8, UInt8.toNat_ofNat_of_lt' (by simpa using hval)]
 have hbl : (bytes.set (q / 8) (UInt8.ofNat ((bytes[q / 8]'hlt).toNat + 2 ^ (q % 8) * (x.testBit i).toNat))).length = bytes.length := amO
 generalize bytes.set (q / 8) (UInt8.ofNat ((bytes[q / 8]'hlt).toNat + 2 ^ (q % 8) * (x.testBit i).toNat)) = bytes' at *
 generalize (bytes[q / 8]'hlt).toNat = y at *
 have e1 : (q : Int).tdiv 8 = ((q / 8 : Nat) : Int) := by rw [alU (by omega)]; omega
 have e2 : (q : Int).tmod 8 = ((q % 8 : Nat) : Int) := by rw [ajZ (by omega)]; omega
 have e3 := Lt x i (by omega)
 have hxl : x / 2 ^ i < 2 ^ 64 := by have := anS x (2 ^ i); omega
 have e4 := Wb hxl
 rw [<- Pc] at e4
 have hbt : (x.testBit i).toNat <= 1 := Bool.toNat_le _
 have hp8 : 2 ^ (q % 8) <= 2 ^ 7 := ajA (by omega) (by omega)
 have hm : (x.testBit i).toNat * 2 ^ (q % 8) <= 2 ^ (q % 8) := by
  have := ajX (2 ^ (q % 8)) hbt
  omega
 have e5 : IntKind.u8.wrap (((x.testBit i).toNat : Int) * 2 ^ (min (q % 8) IntKind.u8.bits)) = (((x.testBit i).toNat * 2 ^ (q % 8) : Nat) : Int) := by
  rw [show min (q % 8) IntKind.u8.bits = q % 8 from akO (by have h8 : IntKind.u8.bits = 8 := rfl; omega)]
  have e : ((x.testBit i).toNat : Int) * 2 ^ (q % 8) = (((x.testBit i).toNat * 2 ^ (q % 8) : Nat) : Int) := by simp
  rw [e]
  exact LR (by omega) (by omega)
 have e6 := Vv (a := y) (b := (x.testBit i).toNat * 2 ^ (q % 8)) hcl (by omega)
 rw [hor] at e6
 have e7 : (q : Int) + 1 = ((q + 1 : Nat) : Int) := by omega
 have od := eP o
 have obd := eP ob
 have c0 := od.cell (off := 0)
 have c1 := od.cell (off := 1)
 have g := obd.cell (off := q / 8)
 rw [hcell] at g
 simp only [aiP, aiQ] at c0 c1
 unfold gJ
 simp (disch := omega) only [aC, nA, iR, jC, aA, jE, aiR, cP, c1, aI, IQ, e2, true_and, tH, aiM, e3, Mr, e4, pZ, LR, iX, e5, Sk, e1, aW, gQ, eL, c0, mC, jY, g, WS, e6]
 refine No obd rfl (by rw [aiO, aiX]; omega) fun w2 o2 x2 s2 => ?_
 rw [hset] at o2
 have op2 := od.ext x2 (fun h => h0 (h ▸ hS))
 have c12 := op2.cell (off := 1)
 simp only [aiP, aiQ] at c12
 simp (disch := omega) only [c12, aI, aA, bK, e7, aW]
 refine xV op2 rfl (by simp) fun w3 o3 x3 s3 => ?_
 simp only [aiV, aiW] at o3
 have hBl : (B ++ [x.testBit i]).length = q + 1 := by rw [aiO, hq] <;> rfl
 refine hR _ ⟨h0, _, bytes', by rw [hBl]; exact o3, ⟨by simp, .inr ⟨b, c, rest, by rw [hbl], hS, o2.ext x3 (fun h => h0 (h ▸ hS)), ?_, by rw [hbl]; exact hn⟩⟩, hheld⟩ ?_
 .rw [aiO, aiX] at hc ⊢; rw [hbl]; exact hc
 .exact ((aX.dr _ _).seq (x2.mono fun z _ h => .inr (h ▸ hS))).seq (x3.mono fun z _ h => .inl h)
theorem adU {S : Nat -> Prop} {p x i n : Nat} {B : List Bool} {w : anV} (hw : Ws w S p B) (hN : ∀ b, w.heap.size <= b -> S b) (hx : x < 2 ^ 64) (hi : i <= 60) (hB : B.length <= 1000000000)
 {kn : anW -> anW -> anW -> anW -> anV -> Prop} (hR : ∀ w', Ws w' S p (B ++ [x.testBit i]) -> aX w w' (fun y => y = p ∨ S y) -> kn (.pointer (some ⟨p, 0, none⟩)) (.int .u64 x) (.int .i64 n) (.int .i64 i) w') :
 jS kn (.pointer (some ⟨p, 0, none⟩)) (.int .u64 x) (.int .i64 n) (.int .i64 i) w := by
 unfold jS mQ
 obtain ⟨h0, v, bytes, o, os, hh⟩ := hw
 have c1 := o.cell (off := 1)
 have c0 := o.cell (off := 0)
 simp only [aiP, aiQ] at c0 c1
 have e2 : (B.length : Int).tmod 8 = ((B.length % 8 : Nat) : Int) := by rw [ajZ (by omega)]; omega
 by_cases h8 : B.length % 8 = 0
 .have d4 : (((B.length % 8 : Nat) : Int) == 0) = true := by rw [h8] <;> rfl
  obtain ⟨hr1, hr2⟩ := TH hh h8
  have hl2 := hh.len
  have lp := o.lt
  simp (disch := omega) only [aC, nA, aA, gQ, eL, jE, aiR, cP, c1, aI, IQ, e2, dJ, d4, c0, aG]
  refine rU (cells := #[.int .u8 0]) (by decide) (by decide) (by kernel_rfl) fun w2 o2 x2 s2 => ?_
  refine rN (m := 1) (news := [D8 0]) (i := Tryd.t5) Tryd.underlying22 Tryd.underlying22 PH rfl rfl rfl (FO os x2 (fun _ _ h => h)) (o2.cl (off := 0) (l := [D8 0]) (n := 1) rfl (fun i hi => by rw [aiR] <;> rfl)) (by simp [one, D8]) (fun b hb => hN b (by omega)) (by omega) (by rw [show Tryd.t5.bytes = 1 from rfl]; omega) (by decide) fun v3 w3 o3 x3 => ?_
  have x13 : aX w w3 S := (x2.mono fun _ _ h => h.elim).seq x3
  have op3 := o.ext x13 h0
  have hv3 : ∃ a n c, v3 = .slice a n c := by
   rcases o3.2 with ⟨rfl, _⟩ | ⟨b, c, rest, rfl, _⟩
   .exact ⟨_, _, _, rfl⟩
   .exact ⟨_, _, _, rfl⟩
  obtain ⟨a3, n3, c3, rfl⟩ := hv3
  refine Bg op3 rfl (by simp) fun w4 o4 x4 s4 => ?_
  simp only [aiV, aiW] at o4
  have x14 : aX w w4 (fun y => y = p ∨ S y) := (x13.mono fun y _ h => .inr h).seq (x4.mono fun y _ h => .inl h)
  refine ZP (w := w4) ⟨h0, _, bytes ++ [0], o4, ?_, ?_, hr2⟩ hx hi hB fun w5 h5 x5 => hR w5 h5 (x14.seq x5)
  .have := FO o3 x4 (fun b hb h => h0 (h ▸ hb))
   rw [aiO, akN]
   exact this
  .rw [aiO]; exact hr1
 .have d4 : (((B.length % 8 : Nat) : Int) == 0) = false := by simp; omega
  simp (disch := omega) only [aC, nA, aA, gQ, eL, jE, aiR, cP, c1, aI, IQ, e2, dJ, d4, aD]
  refine ZP (w := w) ⟨h0, v, bytes, o, os, hh.bits, ?_⟩ hx hi hB fun w5 h5 x5 => hR w5 h5 x5
  rw [hh.len]; omega
theorem RG {S : Nat -> Prop} {p x n : Nat} {B : List Bool} {w : anV} (h : Ws w S p B) (hN : ∀ b, w.heap.size <= b -> S b) (hx : x < 2 ^ 64) (hn : n <= 56) (hB : B.length <= 100000000) :
 aU pg cZ #[.pointer (some ⟨p, 0, none⟩), .int .u64 x, .int .i64 n] w (fun r w' => r = .tuple #[] /\ Ws w' S p (B ++ eD x n) /\ aX w w' (fun y => y = p ∨ S y)) := by
 refine yI ?_
 unfold yW lU lY
 by_cases hn0 : n = 0
 .subst hn0
  have d1 : decide (((0 : Nat) : Int) < 1) = true := rfl
  simp (disch := omega) only [aC, jG, ajN, true_and, aA, eU, cD, aiS, if_false, cB, bD, d1, lK, if_true, aG, eZ]
  exact ⟨by rw [Dd, akM]; exact h, aX.refl _ _⟩
 have d1 : decide ((n : Int) < 1) = false := by simp; omega
 have d2 : decide ((56 : Int) < (n : Int)) = false := by simp; omega
 simp (disch := omega) only [aC, jG, ajN, true_and, aA, eU, cD, aiS, if_false, cB, bD, d1, fD, d2, aD]
 unfold lX mG
 refine cO.rule (fun m (t : anW) w' => ∃ i : Nat, m = n - i /\ t = .int .i64 i /\ i <= n /\ Ws w' S p (B ++ eD x i) /\ aX w w' (fun y => y = p ∨ S y)) n
  ⟨0, rfl, rfl, by omega, by rw [Dd, akM]; exact h, aX.refl _ _⟩ ?_
 rintro m t w1 ⟨i, rfl, rfl, hi, hw, x1⟩
 unfold jZ mN
 by_cases hlt : i < n
 .have d3 : decide ((i : Int) < (n : Int)) = true := by simp; omega
  simp (disch := omega) only [aC, bD, d3, aA, aG]
  unfold mJ mR
  refine adU hw (fun b hb => hN b (by have := x1.size; omega)) hx (by omega) (by rw [aiO, bR]; omega) fun w3 hw3 x3 => ?_
  unfold jR
  simp (disch := omega) only [aC, bK, aW, aA]
  refine ⟨n - (i + 1), by omega, i + 1, rfl, rfl, by omega, ?_, x1.seq x3⟩
  rw [Im, <- ajB]
  exact hw3
 .have d3 : decide ((i : Int) < (n : Int)) = false := by simp; omega
  obtain rfl : i = n := by omega
  simp (disch := omega) only [aC, bD, d3, aA, aD]
  exact ⟨hw, x1⟩
theorem Zp {lo p : Nat} {B : List Bool} {w : anV} (h : Wr w lo p B) (hB : B.length <= 10000000) :
 aU pg mS #[.pointer (some ⟨p, 0, none⟩)] w (fun r w' => ∃ bytes, Bs w' r bytes /\ Qk (B ++ [true]) bytes /\ VK r w.heap.size w'.heap.size /\ aX w w' dG) := by
 refine Gi ?_
 obtain ⟨h0, v, bytes, o, os, hh⟩ := h
 have c0 := (eP o).cell (off := 0)
 have c1 := (eP o).cell (off := 1)
 simp only [aiP, aiQ] at c0 c1
 have hs : Bs w v bytes := by
  have h1 := os.1
  rcases os.2 with ⟨rfl, h2⟩ | ⟨b, c, rest, rfl, h2, h3, h4, h5⟩
  .exact ⟨_, _, _, rfl, by omega, by omega, fun h => by omega⟩
  .refine ⟨_, _, _, rfl, by omega, h5, fun _ => ⟨b, 0, rfl, fun i hi => ?_⟩⟩
   rw [h3.cell, aiR, ajF (by omega)]
 have hl := hh.len
 unfold DI qH
 simp (disch := omega) only [aC, jG, ajN, nA, eE, Result.ok.injEq, Next.value.injEq, and_true, true_and, aA, jE, aiR, cP, gQ, eL, c0, aI, c1, aD]
 refine (Lo (hs.ext (aX.dr _ dG) (bY _)) (by omega)).mono ?_
 rintro r w1 ⟨o1, x1⟩
 have z1 := x1.size
 have x01 : aX w w1 dG := (aX.dr w dG).seq x1
 have c11 := (o.ext x01 (fun h => h)).cell (off := 1)
 simp only [aiP, aiQ] at c11
 have hdr : (dr w).heap.size = w.heap.size := rfl
 rw [hdr] at o1 z1
 obtain ⟨a1, cc1, rfl⟩ := o1.len
 simp (disch := omega) only [c11, aI, aA, Ng, true_and]
 refine hY fun w2 o2 x2 s2 => ?_
 simp only [Value.cells] at o2
 have hw : Wr w2 w.heap.size w1.heap.size B := by
  refine ⟨z1, _, bytes, o2, ⟨o1.1, ?_⟩, hh⟩
  rcases o1.2 with h2 | ⟨b, c, rest, h1, h2, h3, h4, h5⟩
  .exact .inl h2
  .have := h3.lt
   exact .inr ⟨b, c, rest, h1, ⟨h2, by omega⟩, h3.ext x2 (fun h => h), h4, h5⟩
 refine (H0 (x := 1) (n := 1) hw (by omega) (by omega) (by omega)).mono ?_
 rintro r w3 ⟨rfl, ⟨h0', v3, bytes3, o3, os3, hh3⟩, x3⟩
 have c03 := o3.cell (off := 0)
 simp only [aiP, aiQ] at c03
 simp (disch := omega) only [nA, aA, gQ, eL, c03, aI]
 have e1 : eD 1 1 = [true] := by decide
 rw [e1] at hh3
 refine ⟨bytes3, ?_, hh3, ?_, ?_⟩
 .have h1 := os3.1
  rcases os3.2 with ⟨rfl, h2⟩ | ⟨b, c, rest, rfl, h2, h3, h4, h5⟩
  .exact ⟨_, _, _, rfl, by omega, by omega, fun h => by omega⟩
  .refine ⟨_, _, _, rfl, by omega, h5, fun _ => ⟨b, 0, rfl, fun i hi => ?_⟩⟩
   rw [h3.cell, aiR, ajF (by omega)]
 .intro M hM
  rcases os3.2 with ⟨rfl, h2⟩ | ⟨b, c, rest, rfl, h2, h3, h4, h5⟩
  .exact fun h => h
  .exact At.at b 0 _ c M (hM b h2.1 h3.lt)
 .exact (x01.seq x2).trans x3 fun b hb h => by omega
def aaC (L : List T3) (s sy : Int) (r : anW) : Prop :=
 (∃ (i : Nat) (e : T3), L[i]? = some e /\ X6 sy s e = true /\ r = .tuple #[.int .i64 (i : Nat), .int .u64 (s - e.2.2), .int .i64 e.2.1, .int .i64 0]) ∨
 ((∀ (i : Nat) (e : T3), L[i]? = some e -> X6 sy s e = false) /\ r = .tuple #[.int .i64 0, .int .u64 0, .int .i64 0, .int .i64 21])
theorem Zl {w : anV} {base b log : Nat} {L : List T3} {v : anW} (h : Xb w base b log L v) (hL : Low L) (hl : L.length <= 1000000) (s : Nat) (hs : s < L.length) (sy : Int) :
 aU pg Cx #[v, .int .i64 s, .int .u8 sy] w (fun r w' => aaC L s sy r /\ aX w w' dG) := by
 refine Rd ?_
 obtain ⟨rfl, hb, ob⟩ := h
 unfold RO EW FN
 refine hY fun w1 o1 x1 s1 => ?_
 have c1 := o1.cell (off := 1)
 simp only [Value.cells, aiP, aiQ] at c1
 have d1 : decide ((s : Int) < 0) = false := by simp
 have d2 : decide ((L.length : Int) <= (s : Int)) = false := by simp; omega
 simp (disch := omega) only [aC, bD, d1, bE, aiR, aA, eU, cD, aiS, if_false, cB, bZ, c1, aI, fO, rX, d2, aD]
 unfold Fp FP Ff FJ Fq
 simp (disch := omega) only [aC, bE, aiR, aA, bZ, c1, aI, fO]
 refine cO.rule (fun m t w' => ∃ i : Nat, m = L.length - i /\ t = .int .i64 i /\ i <= L.length /\ (∀ (j : Nat) (e : T3), j < i -> L[j]? = some e -> X6 sy s e = false) /\ aX w w' dG) L.length ⟨0, rfl, rfl, by omega, fun j e hj => by omega, x1⟩ ?_
 rintro m t w2 ⟨i, rfl, rfl, hi, hno, x2⟩
 unfold AU
 by_cases hlt : i < L.length
 .have d3 : decide ((i : Int) < (L.length : Int)) = true := by simp; omega
  have l1 := F9 (off := i * 3) (ob.ext x2 (fun h => h)) (by rw [sU]; omega)
  rw [UQ hlt] at l1
  obtain ⟨n, hn, hn2, hb0, hb1⟩ := hL _ (ajM hlt)
  have hge : L[i]? = some L[i] := aiN hlt
  have hinE : X6 sy s L[i] = decide (L[i].1 = sy /\ L[i].2.2 <= s /\ (s : Int) < L[i].2.2 + ((2 ^ n : Nat) : Int)) := by
   unfold X6; rw [hn]; simp
  generalize L[i] = e at *
  obtain ⟨e1, e2, e3⟩ := e
  simp only at hn hb0 hb1 l1 hinE
  subst hn
  simp (disch := omega) only [aC, bD, d3, kO, aiM, aiR, true_and, bK, aW, aA, l1, aG]
  refine Iv fun w3 o3 x3 s3 => ?_
  refine FF o3 rfl (by simp [one]) (by simp) fun w4 o4 x4 s4 => ?_
  simp only [bQ, aiV, aiW] at o4
  have k0 := o4.cell (off := 0)
  have k1 := o4.cell (off := 1)
  have k2 := o4.cell (off := 2)
  simp only [aiP, aiQ] at k0 k1 k2
  have x5 : aX w w4 dG := (x2.seq x3).new x4 x2.size
  have hsh := UT hn2
  have od := eP o4
  have k1d := od.cell (off := 1)
  simp only [aiP, aiQ] at k1d
  have no : ∀ {b : Bool}, X6 sy s (e1, (n : Int), e3) = b -> b = false -> ∀ (j : Nat) (e : T3), j < i + 1 -> L[j]? = some e -> X6 sy s e = false := fun h1 h2 j e hj he => by
   by_cases hji : j = i
   .subst hji; rw [hge] at he; rw [<- ajG he, h1, h2]
   .exact hno j e (by omega) he
  by_cases he : e1 = sy
  .have d4 : (e1 == sy) = true := by simpa using he
   by_cases h5 : e3 <= (s : Int)
   .have d5 : decide ((0 : Int) <= (s : Int) - e3) = true := by simp; omega
    by_cases h6 : (s : Int) - e3 < ((2 ^ n : Nat) : Int)
    .have d6 : decide ((s : Int) - e3 < ((2 ^ n : Nat) : Int)) = true := by simpa using h6
     have hw : IntKind.u64.wrap ((s : Int) - e3) = (s : Int) - e3 := jC (by omega) (by omega)
     simp (disch := omega) only [kG, aiR, eY, iK, aA, cP, true_and, jY, k2, aI, dZ, aW, k0, eN, hw, dJ, d4, BL, cD, if_true, cB, rX, d5, k1, iX, aiM, hsh, bD, d6, k1d, aG]
     exact ⟨.inl ⟨i, _, hge, by rw [hinE, decide_eq_true ⟨he, h5, by omega⟩], rfl⟩, x5.seq (aX.dr _ _)⟩
    .have d6 : decide ((s : Int) - e3 < ((2 ^ n : Nat) : Int)) = false := by simpa using h6
     simp (disch := omega) only [kG, aiR, eY, iK, aA, cP, true_and, jY, k2, aI, dZ, aW, k0, eN, jC, dJ, d4, BL, cD, if_true, cB, rX, d5, k1, iX, aiM, hsh, bD, d6, aD]
     exact ⟨L.length - (i + 1), by omega, i + 1, rfl, rfl, by omega, no hinE (decide_eq_false (by omega)), x5⟩
   .have d5 : decide ((0 : Int) <= (s : Int) - e3) = false := by simp; omega
    simp (disch := omega) only [kG, aiR, eY, iK, aA, cP, true_and, jY, k2, aI, dZ, aW, k0, eN, dJ, d4, BL, cD, if_true, cB, rX, d5, MG, aiS, if_false, aD, eZ]
    exact ⟨L.length - (i + 1), by omega, i + 1, rfl, rfl, by omega, no hinE (decide_eq_false (by omega)), x5⟩
  .have d4 : (e1 == sy) = false := by simpa using he
   simp (disch := omega) only [kG, aiR, eY, iK, aA, cP, true_and, jY, k2, aI, dZ, aW, k0, eN, dJ, d4, MG, cD, aiS, if_false, aD, eZ]
   exact ⟨L.length - (i + 1), by omega, i + 1, rfl, rfl, by omega, no hinE (decide_eq_false (by omega)), x5⟩
 .have d3 : decide ((i : Int) < (L.length : Int)) = false := by simp; omega
  unfold A3
  simp (disch := omega) only [aC, bD, d3, true_and, bK, aW, aA, aD]
  exact ⟨.inr ⟨fun j e he => hno j e (by
   rcases ajI j L.length with h | h
   .omega
   .rw [ajJ h] at he; cases he) he, rfl⟩, x2⟩
def abJ (L : List T3) (s : Int) (r : anW) : Prop :=
 (∃ i, ∃ h : i < L.length, r = .tuple #[.int .i64 (i : Nat), .int .i64 0] /\ L[i].1 = s /\ ∀ j (hj : j < i), L[j].1 ≠ s) ∨
 (r = .tuple #[.int .i64 0, .int .i64 21] /\ ∀ j (hj : j < L.length), L[j].1 ≠ s)
theorem abT {w : anV} {base b log : Nat} {L : List T3} {v : anW} (h : Xb w base b log L v) (hl : L.length <= 1000000) (s : Int) :
 aU pg Eu #[v, .int .u8 s] w (fun r w' => abJ L s r /\ aX w w' dG) := by
 refine R2 ?_
 obtain ⟨rfl, hb, ob⟩ := h
 unfold TQ HN Ip
 refine hY fun w1 o1 x1 s1 => ?_
 have c1 := o1.cell (off := 1)
 simp only [Value.cells, aiP, aiQ] at c1
 unfold Iq Iz H6 HH HM
 simp (disch := omega) only [aC, bE, aiR, aA, bZ, c1, aI, fO]
 refine cO.rule (fun m t w' => ∃ i : Nat, m = L.length - i /\ t = .int .i64 i /\ i <= L.length /\ (∀ j (hj : j < i) (hj2 : j < L.length), L[j].1 ≠ s) /\ aX w w' dG) L.length ⟨0, rfl, rfl, by omega, fun j hj => by omega, x1⟩ ?_
 rintro m t w2 ⟨i, rfl, rfl, hi, hno, x2⟩
 unfold CC
 by_cases hlt : i < L.length
 .have d1 : decide ((i : Int) < (L.length : Int)) = true := by simp; omega
  have l1 := F9 (off := i * 3) (ob.ext x2 (fun h => h)) (by rw [sU]; omega)
  rw [UQ hlt] at l1
  simp (disch := omega) only [aC, bD, d1, kO, aiM, aiR, bK, aW, aA, l1, aG]
  refine Iv fun w3 o3 x3 s3 => ?_
  refine FF o3 rfl (by simp [one]) (by simp) fun w4 o4 x4 s4 => ?_
  simp only [bQ, aiV, aiW] at o4
  have c0 := o4.cell (off := 0)
  simp only [aiP] at c0
  have x5 : aX w w4 dG := (x2.seq x3).new x4 x2.size
  by_cases he : L[i].1 = s
  .have d2 : (L[i].1 == s) = true := by simpa using he
   simp (disch := omega) only [eY, aA, jY, c0, aI, dJ, d2, aG]
   exact ⟨.inl ⟨i, hlt, rfl, he, fun j hj => hno j hj (by omega)⟩, x5⟩
  .have d2 : (L[i].1 == s) = false := by simpa using he
   simp (disch := omega) only [eY, aA, jY, c0, aI, dJ, d2, aD]
   refine ⟨L.length - (i + 1), by omega, i + 1, rfl, rfl, by omega, fun j hj hj2 => ?_, x5⟩
   by_cases hji : j = i
   .subst hji; exact he
   .exact hno j (by omega) hj2
 .have d1 : decide ((i : Int) < (L.length : Int)) = false := by simp; omega
  unfold CD
  simp (disch := omega) only [aC, bD, d1, bK, aW, aA, aD]
  exact ⟨.inr ⟨rfl, fun j hj => hno j (by omega) hj⟩, x2⟩
end Go.Proofs.YtaggdjhhmbnhoaaDoor

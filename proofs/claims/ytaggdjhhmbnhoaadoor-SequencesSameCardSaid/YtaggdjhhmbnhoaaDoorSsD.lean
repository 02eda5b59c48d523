/- Parts of the proof of SequencesSame: merged and given short names by a program of ours. -/
import Derived.Laws.StructEq
import Derived.KernelRfl
import Derived.WalkKit
import Derived.ProofKit
import Derived.OpenShut
import Derived.Deep.Slices
import Derived.Deep.Strs
import Derived.Laws.IdiomArrays
import Derived.Test.YtaggdjhhmbnhoaaDoorSsC
set_option linter.unusedVariables false
set_option linter.unusedSimpArgs false
open Bool renaming false_eq_true → aiS, and_eq_true → ajH, not_true → akS, not_false → amW
open Int renaming toNat_natCast → aiM, tmod_eq_emod_of_nonneg → ajZ, tdiv_eq_ediv_of_nonneg → alU, fdiv_eq_ediv_of_nonneg → amG
open List renaming getElem?_eq_getElem → aiN, length_append → aiO, getElem?_cons_zero → aiP, getElem?_cons_succ → aiQ, take_succ_cons → aiT, set_cons_zero → aiV, set_cons_succ → aiW, length_map → aiX, drop_zero → aiY, take_zero → aiZ, append_assoc → ajB, getD_eq_getElem?_getD → ajD, mem_cons_of_mem → ajE, getElem?_append_left → ajF, getElem?_eq_none → ajJ, length_cons → ajK, length_take → ajL, getElem_mem → ajM, getElem?_map → ajO, getElem?_take_of_lt → ajR, getElem_of_mem → ajT, length_eq_zero_iff → ajV, getElem?_append_right → ajY, drop_eq_getElem_cons → akA, nil_append → akC, mem_cons → akE, mem_map → akF, length_drop → akG, getElem_map → akH, mem_singleton → akK, append_nil → akM, map_append → akN, getElem_range → akU, replicate_succ → akV, take_add_one → akW, length_replicate → akY, mem_cons_self → akZ, getElem?_drop → alB, mem_of_getElem? → alD, cons_append → alE, ext_getElem → alF, take_of_length_le → alG, count_append → alH, length_singleton → alJ, sum_cons → alN, mem_append → alO, length_pos_iff → alS, drop_of_length_le → alT, countP_cons → alW, take_append_drop → alX, mem_append_left → alZ, count_cons → amB, eq_of_mem_replicate → amC, map_cons → amE, set_append_right → amF, getLast?_eq_getElem? → amI, take_length → amK, map_set → amL, getElem?_replicate → amN, length_set → amO, getElem_cons_zero → amS, length_range → amT, mem_append_right → amU, countP_le_length → amY, count_singleton → anA, exists_mem_of_ne_nil → anC, sum_append → anD, drop_left → anI, getElem_cons_succ → anJ, takeWhile_sublist → anL, getElem_set → anN, range_succ → anR, mem_of_mem_drop → anU
open Nat renaming zero_add → aiR, le_refl → aiU, pow_le_pow_right → ajA, lt_or_ge → ajI, mod_eq_of_lt → ajP, two_pow_pos → ajU, mul_le_mul_right → ajX, add_zero → akJ, min_eq_left → akO, add_mul → akQ, add_sub_cancel → alC, eq_zero_or_pos → alK, add_assoc → alL, zero_le → alM, mod_lt → amA, lt_trichotomy → amD, le_trans → amJ, sub_self → amV, le_div_iff_mul_le → amX, div_mul_le_self → anB, succ_mul → anF, sub_zero → anG
open Option renaming isNone_some → ajN, map_some → akB
open Option.some renaming inj → ajG
open UInt8 renaming toNat_lt → akI
namespace Go.Pu
theorem WG {B : Nat} : ∀ {l : List Nat}, (∀ n ∈ l, n <= B) -> l.sum <= l.length * B
 | [], _ => by simp
 | n :: l, h => by
   have h1 := h n (akZ ..)
   have h2 := WG (l := l) fun m hm => h m (ajE _ hm)
   rw [alN, ajK, anF]; omega
theorem Ul {n : Nat} : ∀ {l : List Nat}, n ∈ l -> n <= l.sum
 | [], h => by cases h
 | m :: l, h => by
   rw [alN]
   rcases akE.1 h with rfl | h
   .omega
   .have := Ul h; omega
def lP (R S n : Nat) : Nat := if n = 0 then 0 else 1 + n * R / S
def mU (R S n : Nat) : Nat := n * R / S
def fP (n : Nat) : Bool := decide (0 < n)
def IJ (ns : List Nat) (i last : Nat) : Prop := (last = 0 /\ ∀ j, j < i -> ns.getD j 0 = 0) ∨ (last < i /\ 0 < ns.getD last 0 /\ ∀ j, last < j -> j < i -> ns.getD j 0 = 0)
theorem IJ.step {ns : List Nat} {i last : Nat} (h : IJ ns i last) : IJ ns (i + 1) (if 0 < ns.getD i 0 then i else last) := by
 split
 .rename_i h0
  exact .inr ⟨by omega, h0, fun j h1 h2 => by omega⟩
 .rename_i h0
  rcases h with ⟨rfl, h⟩ | ⟨h1, h2, h3⟩
  .refine .inl ⟨rfl, fun j hj => ?_⟩
   rcases ajI j i with h' | h'
   .exact h j h'
   .have : j = i := by omega
    subst this; omega
  .refine .inr ⟨by omega, h2, fun j hj hj2 => ?_⟩
   rcases ajI j i with h' | h'
   .exact h3 j hj h'
   .have : j = i := by omega
    subst this; omega
theorem IJ.one {ns : List Nat} {i a b : Nat} (ha : IJ ns i a) (hb : IJ ns i b) : a = b := by
 rcases ha with ⟨rfl, h⟩ | ⟨h1, h2, h3⟩
 .rcases hb with ⟨rfl, _⟩ | ⟨k1, k2, _⟩
  .rfl
  .have := h b k1; omega
 .rcases hb with ⟨rfl, k⟩ | ⟨k1, k2, k3⟩
  .have := k a h1; omega
  .rcases amD a b with h | h | h
   .have := h3 b h k1; omega
   .exact h
   .have := k3 a h h1; omega
theorem jK {ns : List Nat} {i : Nat} (h : i < ns.length) : ns.getD i 0 = ns[i] := by rw [ajD, aiN h] <;> rfl
theorem YY {α : Type} {ns : List α} {i : Nat} (h : i < ns.length) : ns.take (i + 1) = ns.take i ++ [ns[i]] := by
 rw [akW, aiN h] <;> rfl
theorem HQ {ns : List Nat} {i : Nat} (h : i < ns.length) : ns.take (i + 1) = ns.take i ++ [ns.getD i 0] := by rw [YY h, jK h]
theorem TL : ∀ {l : List Nat}, (∀ n ∈ l, n = 0) -> l.sum = 0
 | [], _ => rfl
 | n :: l, h => by rw [alN, h n (akZ ..), TL fun m hm => h m (ajE _ hm)]
theorem xD : ∀ {l : List Nat}, (∀ n ∈ l, n = 0) -> l.countP fP = 0
 | [], _ => rfl
 | n :: l, h => by
   rw [alW, h n (akZ ..), xD fun m hm => h m (ajE _ hm)] <;> rfl
theorem WI (a b S : Nat) : a / S + b / S <= (a + b) / S := by
 rcases alK S with h | h
 .subst h; simp
 .rw [amX h, akQ]
  have := anB a S
  have := anB b S
  omega
theorem Wo (R S : Nat) : ∀ l : List Nat, (l.map (mU R S)).sum <= l.sum * R / S
 | [] => by simp
 | n :: l => by
   rw [amE, alN, alN, akQ]
   have := Wo R S l
   have h2 := WI (n * R) (l.sum * R) S
   unfold mU at *
   omega
theorem Qy {R S : Nat} {l : List Nat} (h : l.sum <= S) (hS : 0 < S) : (l.map (mU R S)).sum <= R := by
 have h1 := Wo R S l
 have h2 : l.sum * R / S <= S * R / S := Nat.div_le_div_right (ajX _ h)
 rw [Nat.mul_div_cancel_left _ hS] at h2
 omega
theorem Wg (R S : Nat) : ∀ l : List Nat, (l.map (lP R S)).sum = l.countP fP + (l.map (mU R S)).sum
 | [] => by simp
 | n :: l => by
   rw [amE, alN, amE, alN, alW, Wg R S l]
   by_cases h : n = 0
   .subst h
    simp [lP, mU, fP]
   .have : fP n = true := by unfold fP; simpa using (by omega : 0 < n)
    rw [this]
    simp only [lP, mU, if_neg h, if_true]
    omega
theorem X3 : ∀ {l : List Nat} {i : Nat} (y : Nat) (h : i < l.length), (l.set i (l[i] + y)).sum = l.sum + y
 | [], i, y, h => by simp at h
 | n :: l, 0, y, h => by simp only [aiV, amS, alN]; omega
 | n :: l, i + 1, y, h => by
   simp only [aiW, anJ, alN]
   rw [X3 y (by simpa using h)]; omega
theorem Wa : ∀ l : List Nat, rB (l.map fun (n : Nat) => (n : Int)) = (l.sum : Nat)
 | [] => rfl
 | n :: l => by
   rw [amE, qF, Wa l, alN]
   have : bX (n : Int) = n := by unfold bX; rw [if_neg (by omega)]
   rw [this]; simp
theorem ZM {P : List Nat} {gr i : Nat} (x : Nat) (hg : gr < P.length) (hi : i < P.length) : (P.set gr x).getD i 0 = if i = gr then x else P.getD i 0 := by
 rw [ajD, ajD, List.getElem?_set]
 by_cases h : i = gr
 .subst h; simp [hi]
 .rw [if_neg (fun e => h e.symm), if_neg h]
def uZ (log there S last gr left : Nat) (ns : List Nat) : List Nat :=
 ((ns.take (last + 1)).map (lP (2 ^ log - there) S)).set gr (((ns.take (last + 1)).map (lP (2 ^ log - there) S)).getD gr 0 + left)
theorem afG {log there last gr left : Nat} {ns : List Nat} (h5 : 5 <= log) (h15 : log <= 15) (hlen : ns.length <= 256) (hth : there = ns.countP fP) (h2 : 2 <= there) (h3 : there <= 2 ^ log) (hl : IJ ns ns.length last) (hgr : gr <= last) (hgr2 : 0 < ns.getD gr 0)
 (hleft : left + ((ns.take (last + 1)).map (mU (2 ^ log - there) ns.sum)).sum = 2 ^ log - there) :
 MA log ((uZ log there ns.sum last gr left ns).map fun (n : Nat) => (n : Int)) /\ (uZ log there ns.sum last gr left ns).length = last + 1 /\ last < ns.length /\ ∀ i, i < last + 1 -> (0 < (uZ log there ns.sum last gr left ns).getD i 0 ↔ 0 < ns.getD i 0) := by
 have hlast : last < ns.length /\ 0 < ns.getD last 0 /\ ∀ j, last < j -> j < ns.length -> ns.getD j 0 = 0 := by
  rcases hl with ⟨rfl, h⟩ | h
  .exfalso
   have : ns.countP fP = 0 := xD fun n hn => by
    obtain ⟨i, hi, rfl⟩ := ajT hn
    rw [<- jK hi]; exact h i hi
   omega
  .exact h
 obtain ⟨l1, l2, l3⟩ := hlast
 have hz : ∀ n ∈ ns.drop (last + 1), n = 0 := fun n hn => by
  obtain ⟨i, hi, rfl⟩ := ajT hn
  rw [akG] at hi
  rw [List.getElem_drop, <- jK (by omega)]
  exact l3 _ (by omega) (by omega)
 have hcnt : (ns.take (last + 1)).countP fP = there := by
  have : ns.countP fP = (ns.take (last + 1) ++ ns.drop (last + 1)).countP fP := by rw [alX]
  rw [List.countP_append, xD hz] at this
  omega
 have hpl : ((ns.take (last + 1)).map (lP (2 ^ log - there) ns.sum)).length = last + 1 := by rw [aiX, ajL]; omega
 have hpart : ∀ i, i < last + 1 -> ((ns.take (last + 1)).map (lP (2 ^ log - there) ns.sum)).getD i 0 = lP (2 ^ log - there) ns.sum (ns.getD i 0) := fun i hi => by
  rw [jK (by omega), akH, List.getElem_take, jK (by omega)]
 have hsum := Wg (2 ^ log - there) ns.sum (ns.take (last + 1))
 rw [hcnt] at hsum
 have hl' : (uZ log there ns.sum last gr left ns).length = last + 1 := by unfold uZ; rw [amO, hpl]
 have hon : ∀ n, 0 < lP (2 ^ log - there) ns.sum n ↔ 0 < n := fun n => by
  unfold lP
  split
  .omega
  .generalize n * (2 ^ log - there) / ns.sum = q
   constructor <;> intro <;> omega
 have hget : ∀ i, i < last + 1 -> (uZ log there ns.sum last gr left ns).getD i 0 = if i = gr then lP (2 ^ log - there) ns.sum (ns.getD gr 0) + left else lP (2 ^ log - there) ns.sum (ns.getD i 0) := fun i hi => by
  unfold uZ
  rw [ZM _ (by omega) (by omega), hpart gr (by omega), hpart i hi]
 have hiff : ∀ i, i < last + 1 -> (0 < (uZ log there ns.sum last gr left ns).getD i 0 ↔ 0 < ns.getD i 0) := fun i hi => by
  rw [hget i hi]
  split
  .rename_i h
   subst h
   have := (hon (ns.getD i 0)).2 hgr2
   constructor <;> intro <;> omega
  .exact hon _
 refine ⟨⟨h5, h15, by rw [aiX, hl']; omega, by rw [aiX, hl']; omega, ?_, ?_, ?_⟩, hl', l1, hiff⟩
 .intro h
  rw [amI, aiX, hl', ajO, alC] at h
  have h1 := (hiff last (by omega)).2 l2
  rw [jK (by omega)] at h1
  rw [aiN (by omega)] at h
  have h2 := ajG h
  simp only at h2
  omega
 .intro p hp
  obtain ⟨n, _, rfl⟩ := akF.1 hp
  omega
 .rw [Wa]
  have : (uZ log there ns.sum last gr left ns).sum = 2 ^ log := by
   unfold uZ
   rw [jK (show gr < ((ns.take (last + 1)).map (lP (2 ^ log - there) ns.sum)).length by omega), X3 _ (by omega), hsum]
   omega
  rw [this]; simp
def D6 (S : List Int) : List Nat := (List.range 256).map fun (s : Nat) => S.count (s : Int)
theorem lQ (S : List Int) : (D6 S).length = 256 := by simp [D6]
theorem Ls {S : List Int} {s : Nat} (h : s < 256) : (D6 S).getD s 0 = S.count (s : Int) := by
 rw [jK (by rw [lQ]; exact h)]; simp [D6]
theorem Uh : D6 [] = List.replicate 256 0 := by
 unfold D6
 apply alF
 .rw [aiX, amT, akY]
 .intro i h1 h2
  simp only [akH, akU, List.count_nil, List.getElem_replicate]
theorem VR {S : List Int} {c : Nat} (h : c < 256) : D6 (S ++ [(c : Int)]) = (D6 S).set c (S.count (c : Int) + 1) := by
 apply alF
 .simp [D6]
 .intro j h1 h2
  have hj : j < 256 := by simpa [D6] using h1
  rw [anN]
  simp only [D6, akH, akU, alH, anA]
  by_cases hij : c = j
  .subst hij; simp
  .have : ((c : Int) == (j : Int)) = false := by simp; omega
   rw [if_neg hij, this]; simp
theorem MW : ∀ {l : List Nat} {i x : Nat} (h : i < l.length) (hx : 0 < x), (l.set i x).countP fP = l.countP fP + if l.getD i 0 = 0 then 1 else 0
 | n :: l, 0, x, h, hx => by
   have e1 : fP x = true := by unfold fP; simp; omega
   rw [aiV, alW, alW, e1]
   simp only [List.getD_cons_zero]
   by_cases hn : n = 0
   .subst hn; simp [fP]
   .have e2 : fP n = true := by unfold fP; simp; omega
    rw [e2, if_neg hn]; simp
 | n :: l, i + 1, x, h, hx => by
   have := MW (l := l) (i := i) (Nat.lt_of_succ_lt_succ h) hx
   rw [aiW, alW, alW, this, List.getD_cons_succ]
   omega
def U0 (S : List Int) : Int := S.foldl max 0
theorem Z2 (S : List Int) (c : Int) : U0 (S ++ [c]) = max (U0 S) c := by unfold U0; rw [List.foldl_append] <;> rfl
theorem aeO {S : List Int} {n : Int} : ∀ {a : Int}, a <= n -> (∀ x ∈ S, x <= n) -> a <= S.foldl max a /\ S.foldl max a <= n /\ ∀ x ∈ S, x <= S.foldl max a := by
 induction S with
 | nil => intro a h _; exact ⟨by simp, by simpa using h, by simp⟩
 | cons y S ih =>
   intro a h hx
   have hy := hx y (akZ ..)
   obtain ⟨h1, h2, h3⟩ := ih (a := max a y) (by omega) (fun x h => hx x (ajE _ h))
   rw [List.foldl_cons]
   refine ⟨by omega, h2, fun x hx' => ?_⟩
   rcases akE.1 hx' with rfl | hx'
   .omega
   .exact h3 x hx'
theorem PK {S : List Int} {x : Int} (h : x ∈ S) : 0 < S.count x := List.count_pos_iff.2 h
theorem XP {S : List Int} {n : Nat} (hn : n < 256) (h : ∀ x ∈ S, 0 <= x /\ x <= n) :
 ∃ g : Nat, U0 S = g /\ g <= n /\ ((D6 S).take (g + 1)).length = g + 1 /\ (∀ s, s <= g -> ((D6 S).take (g + 1)).getD s 0 = S.count (s : Int)) /\ (∀ x ∈ S, x <= g) /\
   ((D6 S).take (g + 1)).countP fP = (D6 S).countP fP := by
 obtain ⟨h1, h2, h3⟩ := aeO (S := S) (n := n) (a := 0) (by omega) (fun x hx => (h x hx).2)
 have h1 : 0 <= U0 S := h1
 have h2 : U0 S <= n := h2
 have h3 : ∀ x ∈ S, x <= U0 S := h3
 obtain ⟨g, hg⟩ : ∃ g : Nat, U0 S = g := ⟨(U0 S).toNat, by omega⟩
 rw [hg] at h2 h3
 refine ⟨g, hg, by omega, by rw [ajL, lQ]; omega, fun s hs => ?_, h3, ?_⟩
 .rw [ajD, ajR (by omega), <- ajD, Ls (by omega)]
 .have : (D6 S).countP fP = ((D6 S).take (g + 1) ++ (D6 S).drop (g + 1)).countP fP := by rw [alX]
  rw [this, List.countP_append]
  have hz : ((D6 S).drop (g + 1)).countP fP = 0 := xD fun x hx => ?_
  .omega
  obtain ⟨i, hi, rfl⟩ := ajT hx
  rw [akG, lQ] at hi
  rw [List.getElem_drop]
  simp only [D6, akH, akU]
  exact List.count_eq_zero.2 fun hm => by have := h3 _ hm; omega
theorem acD {S : List Int} (h : ∀ x ∈ S, 0 <= x /\ x <= 255) (hne : S ≠ []) : 0 < (D6 S).countP fP := by
 obtain ⟨x, hx⟩ := anC _ hne
 obtain ⟨h0, h1⟩ := h x hx
 rw [List.countP_pos_iff]
 obtain ⟨c, rfl⟩ : ∃ c : Nat, x = c := ⟨x.toNat, by omega⟩
 refine ⟨(D6 S).getD c 0, ?_, ?_⟩
 .rw [jK (by rw [lQ]; omega)]; exact ajM _
 .rw [Ls (by omega)]; unfold fP; simpa using hx
theorem UC : ∀ {l : List Nat} {i j : Nat}, i < j -> 0 < l.getD i 0 -> 0 < l.getD j 0 -> 2 <= l.countP fP
 | [], i, j, _, h, _ => by simp at h
 | n :: l, 0, j + 1, _, h1, h2 => by
   rw [List.getD_cons_zero] at h1
   rw [List.getD_cons_succ] at h2
   have e1 : fP n = true := by unfold fP; simp; omega
   have hj : j < l.length := by
    rcases ajI j l.length with h | h
    .exact h
    .rw [ajD, ajJ h] at h2; simp at h2
   have : 0 < l.countP fP := by
    rw [List.countP_pos_iff]
    refine ⟨l[j], ajM _, ?_⟩
    rw [jK hj] at h2
    unfold fP; simpa using h2
   rw [alW, if_pos e1]; omega
 | n :: l, i + 1, j + 1, h, h1, h2 => by
   rw [List.getD_cons_succ] at h1 h2
   have := UC (l := l) (by omega) h1 h2
   rw [alW]; omega
theorem acK {S : List Int} (h : ∀ x ∈ S, 0 <= x /\ x <= 255) (h1 : (D6 S).countP fP = 1) : ∀ x ∈ S, ∀ y ∈ S, x = y := by
 intro x hx y hy
 obtain ⟨a, rfl⟩ : ∃ c : Nat, x = c := ⟨x.toNat, by have := h x hx; omega⟩
 obtain ⟨b, rfl⟩ : ∃ c : Nat, y = c := ⟨y.toNat, by have := h y hy; omega⟩
 have ha := h _ hx
 have hb := h _ hy
 have c1 : 0 < (D6 S).getD a 0 := by rw [Ls (by omega)]; exact PK hx
 have c2 : 0 < (D6 S).getD b 0 := by rw [Ls (by omega)]; exact PK hy
 rcases amD a b with h | h | h
 .have := UC h c1 c2; omega
 .rw [h]
 .have := UC h c2 c1; omega
theorem X5 {S : List Int} {c : Nat} (hc : c < 256) (h : ∀ x ∈ S, x = (c : Int)) (hne : S ≠ []) : (D6 S).countP fP = 1 := by
 have e : D6 S = (List.replicate 256 0).set c S.length := by
  apply alF
  .rw [lQ, amO, akY]
  .intro j h1 h2
   have hj : j < 256 := by rw [lQ] at h1; exact h1
   rw [anN, List.getElem_replicate]
   simp only [D6, akH, akU]
   by_cases hij : c = j
   .subst hij
    rw [if_pos rfl, List.count_eq_length]
    intro b hb; exact (h b hb).symm
   .rw [if_neg hij]
    exact List.count_eq_zero.2 fun hm => by have := h _ hm; omega
 have hl : 0 < S.length := alS.2 hne
 rw [e, MW (by rw [akY]; exact hc) hl]
 rw [xD (l := List.replicate 256 0) (fun n hn => amC hn)]
 rw [ajD, amN]
 simp [hc]
theorem WN (S : List Int) : ∀ n, ((List.range n).map fun (s : Nat) => S.count (s : Int)).sum <= S.length := by
 induction S with
 | nil => intro n; rw [TL]; · simp
          intro x hx; obtain ⟨i, _, rfl⟩ := akF.1 hx; simp
 | cons y S ih =>
   intro n
   have key : ∀ m, ((List.range m).map fun (s : Nat) => (y :: S).count (s : Int)).sum = ((List.range m).map fun (s : Nat) => S.count (s : Int)).sum + (if 0 <= y /\ y < m then 1 else 0) := by
    intro m
    induction m with
    | zero => rw [if_neg (by omega)] <;> rfl
    | succ m im =>
      rw [anR, akN, akN, anD, anD, im]
      simp only [amE, List.map_nil, alN, List.sum_nil, amB]
      by_cases hy : y = (m : Int)
      .subst hy
       have a1 : ¬ (0 <= (m : Int) /\ (m : Int) < (m : Nat)) := by omega
       have a2 : 0 <= (m : Int) /\ (m : Int) < ((m + 1 : Nat) : Int) := by omega
       have a3 : ((m : Int) == (m : Int)) = true := beq_self_eq_true _
       rw [if_neg a1, if_pos a2, if_pos a3]; omega
      .have e1 : ¬ (y == (m : Int)) = true := by rw [beq_eq_false_iff_ne.2 hy]; decide
       rw [if_neg e1]
       by_cases h2 : 0 <= y /\ y < (m : Int)
       .have a2 : 0 <= y /\ y < ((m + 1 : Nat) : Int) := by omega
        rw [if_pos h2, if_pos a2]; omega
       .have a2 : ¬ (0 <= y /\ y < ((m + 1 : Nat) : Int)) := by omega
        rw [if_neg h2, if_neg a2]; omega
   rw [key n, ajK]
   have := ih n
   split <;> omega
theorem UZ (S : List Int) (k : Nat) (hk : k <= 256) : ((D6 S).take k).sum <= S.length := by
 have e : (D6 S).take k = (List.range k).map fun (s : Nat) => S.count (s : Int) := by
  unfold D6
  rw [<- List.map_take, List.take_range]
  congr 2; omega
 rw [e]; exact WN S k
theorem adW (S : List Int) : ∀ n ∈ D6 S, n <= S.length := by
 intro n hn
 obtain ⟨s, _, rfl⟩ := akF.1 hn
 exact List.count_le_length
end Go.Pu
namespace Go.Proofs.YtaggdjhhmbnhoaaDoor
open Go Go.En Go.Pu
set_option maxRecDepth 4000
structure RdS (w : anV) (p6 pf pc log st : Nat) (bv : anW) (L : List Bool) (ps : List Int) (v : anW) : Prop where
 o6 : cG w p6 [.int .i64 0, .slice none 0 0]
 of : cG w pf [bv, .int .i64 st]
 oc : cG w pc [.int .i64 log, v]
 os : uK w (pc + 1) 1 v ps.length (ps.map (Value.int .i64))
 bl : Bl w bv L
 at' : VK bv 0 pf
 h6 : p6 < pf
 hf : pf < pc
theorem RdS.ext {w w' : anV} {p6 pf pc log st : Nat} {bv : anW} {L : List Bool} {ps : List Int} {v : anW} (h : RdS w p6 pf pc log st bv L ps v) (hx : aX w w' dG) : RdS w' p6 pf pc log st bv L ps v :=
 ⟨h.o6.ext hx (fun h => h), h.of.ext hx (fun h => h), h.oc.ext hx (fun h => h), h.os.ext hx (fun _ _ h => h), h.bl.ext hx (bY _), h.at', h.h6, h.hf⟩
end Go.Proofs.YtaggdjhhmbnhoaaDoor
namespace Go.Pu
open Go Go.En
theorem abF {ps : List Int} (hlo : ∀ p ∈ ps, -1 <= p) (hne : ps ≠ []) (hlast : ps.getLast? ≠ some 0) : 0 < rB ps := by
 have h0 := Bz hlo
 rcases Int.lt_or_eq_of_le h0 with h | h
 .exact h
 .exfalso
  have hz : ∀ q ∈ ps, q = 0 := fun q hq => by
   have h1 := Us hlo hq
   have h2 := hlo q hq
   unfold bX at h1
   split at h1 <;> omega
  refine hlast ?_
  cases hg : ps.getLast? with
  | none => simp at hg; exact absurd hg hne
  | some y => rw [hz y (List.mem_of_getLast? hg)]
theorem VW {left v : Nat} (h : left <= 32768) : (Eh left v).length <= 17 := by
 have hb := qE (k := left + 1) (n := 17) (by omega)
 unfold Eh
 simp only
 split
 .rw [bR]; omega
 .split <;> rw [bR] <;> omega
theorem abW : ∀ k : Nat, (U6 k).length <= 2 * k + 2 := by
 intro k
 induction k using Nat.strongRecOn with
 | ind k ih =>
   rw [U6]
   split
   .rw [bR]; omega
   .have := ih (k - 3) (by omega)
    rw [aiO, bR]; omega
theorem Up : ∀ (g left : Nat) (ps : List Int), left <= 32768 -> (Nk g left ps).length <= 20 * ps.length
 | 0, left, ps, h => by simp [Nk]
 | g + 1, left, [], h => by simp [Nk]
 | g + 1, left, p :: ps, h => by
   rw [Nk]
   have hk : (ps.takeWhile (· == 0)).length <= ps.length := (anL _).length_le
   split
   .have h1 := VW (v := 1) h
    have h2 := abW (ps.takeWhile (· == 0)).length
    have h3 := Up g left (ps.drop (ps.takeWhile (· == 0)).length) h
    rw [akG] at h3
    simp only [aiO, ajK]
    omega
   .have h1 := VW (v := (p + 1).toNat) h
    have h3 := Up g (left - (bX p).toNat) ps (by omega)
    simp only [aiO, ajK]
    omega
theorem PC {log : Nat} {ps : List Int} (hm : MA log ps) : (B6 log ps).length <= 6000 := by
 have h15 := hm.log15
 have hp : 2 ^ log <= 2 ^ 15 := ajA (by omega) h15
 have := Up ps.length (2 ^ log) ps (by omega)
 have := hm.len256
 unfold B6
 rw [aiO, bR]
 omega
theorem SI : ∀ {ps : List Int} {j : Nat}, j < (ps.takeWhile (· == 0)).length -> ps[j]? = some 0
 | [], j, h => by simp at h
 | p :: ps, j, h => by
   rw [List.takeWhile_cons] at h
   by_cases hp : (p == 0) = true
   .rw [if_pos hp] at h
    cases j with
    | zero => simpa using hp
    | succ j => simpa using SI (ps := ps) (j := j) (by simpa using h)
   .rw [if_neg hp] at h; simp at h
theorem TP : ∀ {ps : List Int} {y : Int}, ps[(ps.takeWhile (· == 0)).length]? = some y -> y ≠ 0
 | [], y, h => by simp at h
 | p :: ps, y, h => by
   rw [List.takeWhile_cons] at h
   by_cases hp : (p == 0) = true
   .rw [if_pos hp] at h
    exact TP (ps := ps) (by simpa using h)
   .rw [if_neg hp] at h
    simp at h hp
    rw [<- h]; exact hp
theorem Zu {ps : List Int} (hlast : ps.getLast? ≠ some 0) (hne : ps ≠ []) : (ps.takeWhile (· == 0)).length < ps.length := by
 have hk : (ps.takeWhile (· == 0)).length <= ps.length := (anL _).length_le
 rcases ajI (ps.takeWhile (· == 0)).length ps.length with h | h
 .exact h
 .exfalso
  have hl : 0 < ps.length := alS.2 hne
  have := SI (ps := ps) (j := ps.length - 1) (by omega)
  apply hlast
  rw [amI, this]
end Go.Pu
namespace Go.Proofs.YtaggdjhhmbnhoaaDoor
open Go Go.En Go.Pu
set_option maxRecDepth 4000
theorem ahA {lo p : Nat} {B : List Bool} {w : anV} (h : Wr w lo p B) (hB : B.length <= 10000000) :
 aU pg qY #[.pointer (some ⟨p, 0, none⟩)] w (fun r w' => ∃ bytes, Qk B bytes /\ uK w' w.heap.size 1 r bytes.length (bytes.map D8) /\ aX w w' dG) := by
 refine Ki ?_
 obtain ⟨h0, v, bytes, o, os, hh⟩ := h
 have c0 := (eP o).cell (off := 0)
 have c0' := o.cell (off := 0)
 simp only [aiP, aiQ] at c0 c0'
 have hs : Bs w v bytes := by
  have h1 := os.1
  rcases os.2 with ⟨rfl, h2⟩ | ⟨b, c, rest, rfl, h2, h3, h4, h5⟩
  .exact ⟨_, _, _, rfl, by omega, by omega, fun h => by omega⟩
  .refine ⟨_, _, _, rfl, by omega, h5, fun _ => ⟨b, 0, rfl, fun i hi => ?_⟩⟩
   rw [h3.cell, aiR, ajF (by omega)]
 have hl := hh.len
 unfold IZ wL
 simp (disch := omega) only [aC, jG, ajN, nA, aA, gQ, eL, c0', aI, aD]
 refine (Lo hs (by omega)).mono ?_
 rintro r w1 ⟨o1, x1⟩
 exact ⟨bytes, hh, o1, x1⟩
structure Ye (w : anV) (w0 : anV) (pc lo pw log : Nat) (sv : anW) (ps : List Int) (B : List Bool) : Prop where
 oc : cG w pc [.int .i64 log, sv]
 sl : Sl w0 sv (ps.map (Value.int .i64))
 hw : Wr w lo pw B
 hc : pc < lo
 hx : aX w0 w dG
 hlo : w0.heap.size <= lo
theorem Ye.put {w w' w0 : anV} {pc lo pw log : Nat} {sv : anW} {ps : List Int} {B B' : List Bool} (h : Ye w w0 pc lo pw log sv ps B) (hw : Wr w' lo pw B') (hx : aX w w' (fun y => lo <= y)) : Ye w' w0 pc lo pw log sv ps B' :=
 ⟨h.oc.ext hx (by have := h.hc; omega), h.sl, hw, h.hc, h.hx.trans hx fun b hb hh => by have := h.hlo; omega, h.hlo⟩
theorem Yq {w w0 : anV} {pc lo pw log left i : Nat} {sv : anW} {ps : List Int} {B : List Bool} {p : Int} (h : Ye w w0 pc lo pw log sv ps B) (hB : B.length <= 1000000) (h0 : 0 < left) (h1 : left <= 32768) (hg : ps[i]? = some p) (hp0 : -1 <= p) (hpl : p <= left)
 {kn : anW -> anW -> anW -> anW -> anW -> anV -> Prop}
 (hK : ∀ w', Ye w' w0 pc lo pw log sv ps (B ++ Eh left (p + 1).toNat) -> kn (.pointer (some ⟨pc, 0, none⟩)) (.pointer (some ⟨pw, 0, none⟩)) (.int .i64 left) (.int .i64 i) (.int .i64 p) w') :
 sQ kn (.pointer (some ⟨pc, 0, none⟩)) (.pointer (some ⟨pw, 0, none⟩)) (.int .i64 left) (.int .i64 i) w := by
 unfold sQ
 have hi : i < ps.length := by
  rcases ajI i ps.length with h' | h'
  .exact h'
  .rw [ajJ h'] at hg; cases hg
 have hsl := h.sl.ext h.hx (bY _)
 obtain ⟨b', off', c', hv, _, hcell⟩ := hsl.openI (by omega)
 have g1 := hcell i hi
 rw [aiN hi] at hg
 rw [ajG hg] at g1
 have hoc := h.oc
 subst hv
 have c1 := hoc.cell (off := 1)
 simp only [aiP, aiQ] at c1
 obtain ⟨m, hm, hm1, hm2, hf1, hf2, hf3⟩ := Tq h0 h1
 have e1 : (left : Int) + 1 = ((left + 1 : Nat) : Int) := by omega
 simp (disch := omega) only [aC, aV, aiR, bK, e1, aW, aA, iR, jC, dU, c1, aI, dS, aiM, cP, g1, eN]
 refine (ZI (x := left + 1) (by omega) w).mono ?_
 rintro r w1 ⟨rfl, rfl⟩
 rw [hm]
 obtain ⟨v, hv⟩ : ∃ v : Nat, p + 1 = (v : Int) := ⟨(p + 1).toNat, by omega⟩
 have hvt : (p + 1).toNat = v := by omega
 rw [hvt] at hK
 have hvl : v <= left + 1 := by omega
 have hsh1 := UT (n := m + 1) (by omega)
 have hsh0 := UT (n := m) (by omega)
 have e2 : ((m + 1 : Nat) : Int) - 1 = (m : Int) := by omega
 have hp : 2 ^ m <= 2 ^ 16 := ajA (by omega) hm2
 unfold Eh at hK
 simp only [hm, alC] at hK
 rw [hf3] at *
 generalize hq : 2 ^ m = q at *
 have e3 : ((2 * q : Nat) : Int) - 2 - (left : Int) = ((2 * q - 2 - left : Nat) : Int) := by omega
 by_cases hfr : v < 2 * q - 2 - left
 .have d1 : decide ((v : Int) < ((2 * q - 2 - left : Nat) : Int)) = true := by simp only [decide_eq_true_eq]; omega
  rw [if_pos hfr] at hK
  simp (disch := omega) only [iX, aiM, hsh1, hv, dZ, e2, aW, aA, bD, e3, d1, bK, eN, jC, aG]
  refine (H0 (n := m) (x := v) h.hw (by omega) (by omega) (by omega)).mono ?_
  rintro r w2 ⟨rfl, hw2, x2⟩
  exact hK w2 (h.put hw2 x2)
 .have d1 : decide ((v : Int) < ((2 * q - 2 - left : Nat) : Int)) = false := by simp only [decide_eq_false_iff_not]; omega
  rw [if_neg hfr] at hK
  by_cases h2 : v < q
  .have d2 : decide ((v : Int) < (q : Int)) = true := by simp only [decide_eq_true_eq]; omega
   rw [if_pos h2] at hK
   simp (disch := omega) only [iX, aiM, hsh1, hv, dZ, e2, aW, aA, hsh0, bD, d2, aG, e3, d1, aD]
   refine (H0 (n := m + 1) (x := v) h.hw (by omega) (by omega) (by omega)).mono ?_
   rintro r w2 ⟨rfl, hw2, x2⟩
   exact hK w2 (h.put hw2 x2)
  .have d2 : decide ((v : Int) < (q : Int)) = false := by simp only [decide_eq_false_iff_not]; omega
   have e4 : (v : Int) + ((2 * q - 2 - left : Nat) : Int) = ((v + (2 * q - 2 - left) : Nat) : Int) := by omega
   rw [if_neg h2] at hK
   simp (disch := omega) only [iX, aiM, hsh1, hv, dZ, e2, aW, aA, hsh0, bD, d2, aD, e3, d1, bK, e4, eN, jC]
   refine (H0 (n := m + 1) (x := v + (2 * q - 2 - left)) h.hw (by omega) (by omega) (by omega)).mono ?_
   rintro r w2 ⟨rfl, hw2, x2⟩
   exact hK w2 (h.put hw2 x2)
theorem YZ {w w0 : anV} {pc lo pw log left i k : Nat} {sv : anW} {ps : List Int} {B : List Bool} (h : Ye w w0 pc lo pw log sv ps B) (hl : ps.length <= 1000000) (hz : ∀ j, j < k -> ps[i + 1 + j]? = some 0) (hy : ∃ y, ps[i + 1 + k]? = some y /\ y ≠ 0)
 {k3 : anW -> anW -> anW -> anW -> anW -> anV -> Prop}
 (hK : k3 (.pointer (some ⟨pc, 0, none⟩)) (.pointer (some ⟨pw, 0, none⟩)) (.int .i64 left) (.int .i64 i) (.int .i64 k) w) :
 sT k3 (.pointer (some ⟨pc, 0, none⟩)) (.pointer (some ⟨pw, 0, none⟩)) (.int .i64 left) (.int .i64 i) (.int .i64 0) w := by
 unfold sT
 have lt : ∀ {j : Nat} {y : Int}, ps[j]? = some y -> j < ps.length := fun {j y} h => by
  rcases ajI j ps.length with h' | h'
  .exact h'
  .rw [ajJ h'] at h; cases h
 obtain ⟨y, hy, hyn⟩ := hy
 have hyl := lt hy
 have hsl := h.sl.ext h.hx (bY _)
 obtain ⟨b', off', c', hv, _, hcell⟩ := hsl.openI (by omega)
 have hoc := h.oc
 subst hv
 have c1 := hoc.cell (off := 1)
 simp only [aiP, aiQ] at c1
 refine cO.rule (fun m (t : anW) w' => ∃ j : Nat, m = k - j /\ t = .int .i64 j /\ j <= k /\ w' = w) k ⟨0, rfl, rfl, by omega, rfl⟩ ?_
 rintro m t w1 ⟨j, rfl, rfl, hj, rfl⟩
 unfold tA
 have e1 : (i : Int) + 1 + (j : Int) = ((i + 1 + j : Nat) : Int) := by omega
 by_cases hlt : j < k
 .have g0 := hz j hlt
  have hl0 := lt g0
  have g1 := hcell (i + 1 + j) hl0
  rw [aiN hl0] at g0
  rw [ajG g0] at g1
  have n1 : ((0 : Int) == 0) = true := rfl
  simp (disch := omega) only [aC, aV, aiR, bK, aW, aA, e1, dU, c1, aI, dS, aiM, cP, g1, dJ, n1, and_true, aG]
  exact ⟨k - (j + 1), by omega, j + 1, rfl, rfl, by omega⟩
 .obtain rfl : j = k := by omega
  have g1 := hcell (i + 1 + j) hyl
  rw [aiN hyl] at hy
  rw [ajG hy] at g1
  have n1 : (y == 0) = false := by simpa using hyn
  simp (disch := omega) only [aC, aV, aiR, bK, aW, aA, e1, dU, c1, aI, dS, aiM, cP, g1, dJ, n1, and_true, aD]
  exact hK
theorem ZF {w w0 : anV} {pc lo pw log left i k : Nat} {sv : anW} {ps : List Int} {B : List Bool} (h : Ye w w0 pc lo pw log sv ps B) (hB : B.length <= 1000000) (hk : k <= 1000000)
 {kn : anW -> anW -> anW -> anW -> anV -> Prop}
 (hK : ∀ w', Ye w' w0 pc lo pw log sv ps (B ++ U6 k) -> kn (.pointer (some ⟨pc, 0, none⟩)) (.pointer (some ⟨pw, 0, none⟩)) (.int .i64 left) (.int .i64 i) w') :
 uV kn (.pointer (some ⟨pc, 0, none⟩)) (.pointer (some ⟨pw, 0, none⟩)) (.int .i64 left) (.int .i64 i) (.int .i64 k) w := by
 unfold uV BY BH
 refine cO.rule (fun m (t : anW) w' => ∃ C : List Bool, t = .int .i64 m /\ m <= k /\ C ++ U6 m = B ++ U6 k /\ C.length <= 1000000 + 2 * (k - m) /\ Ye w' w0 pc lo pw log sv ps C) k ⟨B, rfl, aiU _, rfl, by omega, h⟩ ?_
 rintro m t w1 ⟨C, rfl, hm, hC, hCl, h1⟩
 unfold uX
 rw [U6] at hC
 by_cases h3 : m < 3
 .have d1 : decide ((3 : Int) <= (m : Int)) = false := by simp; omega
  rw [dif_pos h3] at hC
  unfold uT
  simp (disch := omega) only [aC, rX, d1, dZ, aW, aA, eN, jC, aD]
  refine (H0 (n := 2) (x := m) h1.hw (by omega) (by omega) (by omega)).mono ?_
  rintro r w2 ⟨rfl, hw2, x2⟩
  rw [hC] at hw2
  exact hK w2 (h1.put hw2 x2)
 .have d1 : decide ((3 : Int) <= (m : Int)) = true := by simp; omega
  rw [dif_neg h3] at hC
  simp (disch := omega) only [aC, rX, d1, dZ, aW, aA, aG]
  refine (H0 (n := 2) (x := 3) h1.hw (by omega) (by omega) (by omega)).mono ?_
  rintro r w2 ⟨rfl, hw2, x2⟩
  have e1 : (m : Int) - 3 = ((m - 3 : Nat) : Int) := by omega
  simp (disch := omega) only [e1]
  refine ⟨m - 3, by omega, C ++ eD 3 2, rfl, by omega, by rw [ajB]; exact hC, ?_, h1.put hw2 x2⟩
  rw [aiO, bR]; omega
theorem Xp {w w0 : anV} {pc lo pw log : Nat} {sv : anW} {ps : List Int} (hm : MA log ps) (h : Ye w w0 pc lo pw log sv ps (eD (log - 5) 4)) {RR : anW -> anV -> Prop}
 (hR : ∀ w' pw, Ye w' w0 pc lo pw log sv ps (B6 log ps) -> qA RR (.pointer (some ⟨pw, 0, none⟩)) w') :
 tB RR (.pointer (some ⟨pc, 0, none⟩)) (.pointer (some ⟨pw, 0, none⟩)) (.int .i64 (2 ^ log : Nat)) w := by
 have hlen := hm.len256
 have h15 := hm.log15
 have hp15 : 2 ^ log <= 2 ^ 15 := ajA (by omega) h15
 have hD := PC hm
 have hpow : ((2 ^ log : Nat) : Int) = (2 : Int) ^ log := by simp
 generalize hDe : B6 log ps = D at *
 unfold tB Av Ar Au AB
 refine cO.rule (fun m (t : anW × anW) w' => ∃ (i left g : Nat) (B : List Bool), m = ps.length - i /\ t = (.int .i64 left, .int .i64 i) /\ i <= ps.length /\ ps.length - i <= g /\ rB (ps.drop i) = left /\ left <= 32768 /\ B ++ Nk g left (ps.drop i) = D /\ Ye w' w0 pc lo pw log sv ps B) ps.length
  ⟨0, 2 ^ log, ps.length, _, rfl, rfl, by omega, by omega, by rw [aiY, hm.sum, hpow], by omega, by rw [aiY]; exact hDe, h⟩ ?_
 rintro m t w1 ⟨i, left, g, B, rfl, rfl, hi, hg, hs, hleft, hB, h1⟩
 have hBl : B.length <= 6000 := by rw [<- hB, aiO] at hD; omega
 have hoc := h1.oc
 obtain ⟨sa, sc, hsv, _⟩ := h1.sl.lenI
 have hsv' := hsv
 subst hsv'
 have c1 := hoc.cell (off := 1)
 simp only [aiP, aiQ] at c1
 unfold tC Ah
 by_cases hlt : i < ps.length
 .have d1 : decide ((i : Int) < (ps.length : Int)) = true := by simp; omega
  have hdrop : ps.drop i = ps[i] :: ps.drop (i + 1) := akA hlt
  have hlo' : ∀ p ∈ ps.drop i, -1 <= p := fun p hp => hm.low p (anU hp)
  have hlast : ∀ j, j < ps.length -> (ps.drop j).getLast? ≠ some 0 := fun j hj => by
   rw [List.getLast?_drop, if_neg (by omega)]; exact hm.last
  have hpos : 0 < rB (ps.drop i) := abF hlo' (fun h => by have := List.drop_eq_nil_iff.1 h; omega) (hlast i hlt)
  have hp0 := hm.low _ (ajM hlt)
  have hpi := aiN hlt
  generalize ps[i] = p at *
  rw [hdrop, qF] at hs hpos
  have hlo2 : ∀ p ∈ ps.drop (i + 1), -1 <= p := fun p hp => hm.low p (anU hp)
  have hn := Bz hlo2
  have hpn := jH hp0
  have hple : p <= bX p := by unfold bX; split <;> omega
  obtain ⟨g, rfl⟩ : ∃ g', g = g' + 1 := ⟨g - 1, by omega⟩
  unfold AE Al GP
  simp (disch := omega) only [aC, aV, aiR, aA, dU, c1, aI, fV, bD, d1, aG]
  refine Yq (left := left) (i := i) h1 (by omega) (by omega) hleft hpi hp0 (by omega) fun w2 h2 => ?_
  unfold AF AK
  refine (RC _ _).mono ?_
  rintro r w3 ⟨rfl, rfl⟩
  obtain ⟨pq, hpq⟩ : ∃ pq : Nat, bX p = pq := ⟨(bX p).toNat, by omega⟩
  rw [hpq] at hs hpn hple ⊢
  have e1 : (left : Int) - (pq : Int) = ((left - pq : Nat) : Int) := by omega
  have e2 : (i : Int) + 1 = ((i + 1 : Nat) : Int) := by omega
  by_cases h0 : p = 0
  .subst h0
   have n1 : ((0 : Int) != 0) = false := rfl
   obtain rfl : pq = 0 := by
    have : bX 0 = 0 := rfl
    omega
   have hne : ps.drop (i + 1) ≠ [] := by
    intro he
    rw [he] at hpos
    exact absurd hpos (by decide)
   have hlt2 : i + 1 < ps.length := by
    rcases ajI (i + 1) ps.length with h | h
    .exact h
    .exact absurd (List.drop_eq_nil_of_le h) hne
   have hz1 := fun j => SI (ps := ps.drop (i + 1)) (j := j)
   have hz2 := fun y => TP (ps := ps.drop (i + 1)) (y := y)
   have hz3 := Zu (hlast (i + 1) hlt2) hne
   have hrep := Mt (ps.drop (i + 1))
   have hW : Nk (g + 1) left (0 :: ps.drop (i + 1)) = Eh left 1 ++ (U6 ((ps.drop (i + 1)).takeWhile (· == 0)).length ++ Nk g left ((ps.drop (i + 1)).drop ((ps.drop (i + 1)).takeWhile (· == 0)).length)) := by rw [Nk, if_pos rfl]
   rw [hdrop, hW] at hB
   generalize ((ps.drop (i + 1)).takeWhile (· == 0)).length = k at *
   rw [akG] at hz3
   simp only [alB] at hz1 hz2
   have hsum : rB (ps.drop (i + 1 + k)) = left := by
    have : rB (ps.drop (i + 1)) = rB (List.replicate k 0) + rB ((ps.drop (i + 1)).drop k) := by
     conv => lhs; rw [hrep]
     rw [EC]
    rw [Hx, List.drop_drop] at this
    have e0 : bX 0 = 0 := rfl
    omega
   have h2' : Ye w3 w0 pc lo pw log (.slice sa ps.length sc) ps (B ++ Eh left 1) := h2
   rw [List.drop_drop] at hB
   have hl1 : (B ++ Eh left 1).length <= 6000 := by
    have := congrArg List.length hB
    simp only [aiO] at this ⊢
    omega
   have e3 : (left : Int) - ((0 : Nat) : Int) = (left : Int) := by omega
   unfold AD Ao
   simp (disch := omega) only [aC, dZ, e3, aW, fU, n1, aA, aD]
   refine YZ (left := left) (k := k) h2' (by omega) hz1 ⟨_, aiN (show i + 1 + k < ps.length by omega), hz2 _ (aiN (by omega))⟩ ?_
   unfold B2 BI
   have e4 : (i : Int) + (k : Int) = ((i + k : Nat) : Int) := by omega
   simp (disch := omega) only [aC, bK, e4, aW, aA]
   refine ZF (left := left) (i := i + k) h2' (by omega) (by omega) fun w4 h4 => ?_
   unfold qB
   have e5 : ((i + k : Nat) : Int) + 1 = ((i + 1 + k : Nat) : Int) := by omega
   simp (disch := omega) only [aC, bK, e5, aW, aA]
   exact ⟨ps.length - (i + 1 + k), by omega, i + 1 + k, left, g, _, rfl, rfl, by omega, by omega, hsum, hleft, by rw [<- hB]; simp [ajB], h4⟩
  .have n1 : (p != 0) = true := by simpa using h0
   have hW : Nk (g + 1) left (p :: ps.drop (i + 1)) = Eh left (p + 1).toNat ++ Nk g (left - pq) (ps.drop (i + 1)) := by rw [Nk, if_neg h0, hpq, aiM]
   rw [hdrop, hW, <- ajB] at hB
   unfold qB
   simp (disch := omega) only [aC, dZ, e1, aW, fU, n1, bK, e2, aA, aG]
   exact ⟨ps.length - (i + 1), by omega, i + 1, left - pq, g, _, rfl, rfl, by omega, by omega, by omega, by omega, hB, h2⟩
 .have d1 : decide ((i : Int) < (ps.length : Int)) = false := by simp; omega
  have hnil : ps.drop i = [] := List.drop_eq_nil_of_le (by omega)
  have hB : B = D := by
   rw [hnil] at hB
   cases g with
   | zero => simpa [Nk] using hB
   | succ g => simpa [Nk] using hB
  rw [hB] at h1
  simp (disch := omega) only [aC, aV, aiR, aA, dU, c1, aI, fV, bD, d1, aD]
  exact hR w1 pw h1
theorem Vx {log : Nat} {sv : anW} {ps : List Int} {w : anV} (hm : MA log ps) (hs : Sl w sv (ps.map (Value.int .i64))) :
 aU pg yD #[.agg #[.int .i64 log, sv]] w (fun r w' => ∃ bytes v, r = .tuple #[v, .int .i64 0] /\ Qk (B6 log ps) bytes /\ uK w' w.heap.size 1 v bytes.length (bytes.map D8) /\ aX w w' dG) := by
 refine Oa ?_
 have hlen := hm.len256
 have h15 := hm.log15
 have h5 := hm.log5
 unfold Ok Ak Ap
 refine hY fun w1 o1 x1 s1 => ?_
 simp only [Value.cells] at o1
 have l1 := dV o1 (off := 0) (by simp)
 simp only [aiY, aiT, aiZ] at l1
 simp (disch := omega) only [aC, l1, cF, aA, cP]
 refine (adJ (hs.ext x1 (bY _)) (by omega)).mono ?_
 rintro r w2 ⟨rfl, x2⟩
 rw [hm.b]
 have z1 := x1.size
 have z2 := x2.size
 simp (disch := omega) only [Qr, akS, aA, aD]
 refine (Wf w2).mono ?_
 rintro r w3 ⟨rfl, hlt, hw3, x3⟩
 have z3 := x3.size
 have o13 := (o1.ext x2 (fun h => h)).ext x3 (fun h => h)
 have c0 := o13.cell (off := 0)
 simp only [aiP, aiQ] at c0
 have e1 : (log : Int) - 5 = ((log - 5 : Nat) : Int) := by omega
 simp (disch := omega) only [c0, aI, aA, dZ, e1, aW, eN, jC]
 refine (H0 (n := 4) (x := log - 5) hw3 (by omega) (by omega) (by simp)).mono ?_
 rintro r w4 ⟨rfl, hw4, x4⟩
 have o14 := o13.ext x4 (by omega)
 have c04 := o14.cell (off := 0)
 simp only [aiP, aiQ] at c04
 have hsh := UT (n := log) (by omega)
 simp (disch := omega) only [c04, aI, aA, iX, aiM, hsh]
 have x04 : aX w w4 dG := ((x1.seq x2).seq x3).trans x4 fun b hb h => by omega
 refine Xp (lo := w2.heap.size) (pw := w2.heap.size) hm ⟨o14, hs, hw4, by omega, x04, by omega⟩ ?_
 intro w5 pw h5
 have hD := PC hm
 unfold qA
 refine (ahA h5.hw (by omega)).mono ?_
 rintro r w6 ⟨bytes, hh, ho, x6⟩
 refine ⟨bytes, r, rfl, hh, ⟨ho.1, ?_⟩, h5.hx.seq x6⟩
 have := h5.hx.size
 rcases ho.2 with h | ⟨b, c, rest, q1, q2, q3⟩
 .exact .inl h
 .exact .inr ⟨b, c, rest, q1, by omega, q3⟩
def Ur (log : Int) (ns : List Nat) : Bool := decide (5 <= log /\ log <= 15 /\ ns.length <= 256 /\ 2 <= ns.countP fP /\ ns.countP fP <= 2 ^ log.toNat /\ ns.sum <= 2147483647)
theorem ZW {ov t4 : anW} {log : Int} {ns : List Nat} {w : anV} (hs : Sl w ov (ns.map fun (n : Nat) => Value.int .u32 n)) (hn : ∀ n ∈ ns, n <= 4294967295) (hl : ns.length <= 300) {RR : anW -> anV -> Prop}
 (hK : ∀ last, IJ ns ns.length last -> AW RR ov (.int .i64 log) t4 (.int .u64 ns.sum) (.int .i64 (ns.countP fP : Nat)) (.int .i64 last) w) :
 A7 RR ov (.int .i64 log) t4 (.int .u64 0) (.int .i64 0) (.int .i64 0) w := by
 unfold A7 F8 Fv
 obtain ⟨a, c, hv, hc⟩ := hs.len
 rw [aiX] at hv
 subst hv
 simp (disch := omega) only [aC, mH, aA]
 unfold EX FT
 refine cO.rule (fun m (t : anW × anW × anW × anW) w' => ∃ i last : Nat, m = ns.length - i /\ t = (.int .u64 (ns.take i).sum, .int .i64 ((ns.take i).countP fP : Nat), .int .i64 last, .int .i64 i) /\ i <= ns.length /\ IJ ns i last /\ last <= i /\ w' = w) ns.length
  ⟨0, 0, rfl, by simp, by omega, .inl ⟨rfl, fun j h => by omega⟩, by omega, rfl⟩ ?_
 rintro m t w1 ⟨i, last, rfl, rfl, hi, hla, hli, rfl⟩
 unfold AZ FM
 by_cases hlt : i < ns.length
 .have d1 : decide ((i : Int) < (ns.length : Int)) = true := by simp; omega
  obtain ⟨b, off, rfl, hcell⟩ := slA hs (by omega)
  have g1 := hcell i hlt
  rw [ajO, aiN hlt, <- jK hlt] at g1
  simp only [akB] at g1
  have hni : ns.getD i 0 <= 4294967295 := by rw [jK hlt]; exact hn _ (ajM hlt)
  have hsl := WG (B := 4294967295) (l := ns.take i) fun n hn' => hn n (List.mem_of_mem_take hn')
  rw [ajL, akO (by omega)] at hsl
  have hsl2 : i * 4294967295 <= 300 * 4294967295 := ajX _ (by omega)
  have hct : (ns.take i).countP fP <= i := by
   have := amY (l := ns.take i) (p := fP)
   rw [ajL] at this; omega
  have hsum : (ns.take (i + 1)).sum = (ns.take i).sum + ns.getD i 0 := by rw [HQ hlt, anD]; simp
  have hcnt : (ns.take (i + 1)).countP fP = (ns.take i).countP fP + (if 0 < ns.getD i 0 then 1 else 0) := by
   rw [HQ hlt, List.countP_append, List.countP_singleton]
   unfold fP; simp only [decide_eq_true_eq]
  have hstep := hla.step
  generalize ns.getD i 0 = n at *
  have e1 : (((ns.take i).sum : Nat) : Int) + (n : Int) = (((ns.take i).sum + n : Nat) : Int) := by omega
  by_cases h0 : 0 < n
  .have d2 : decide ((0 : Int) < (n : Int)) = true := by simp; omega
   rw [if_pos h0] at hcnt hstep
   unfold uG
   simp (disch := omega) only [aC, bD, d1, Co, aiM, bK, aW, aA, sS, g1, aI, nV, jC, fD, d2, aG, e1, and_true]
   exact ⟨ns.length - (i + 1), by omega, i + 1, i, rfl, by rw [hsum, hcnt] <;> rfl, by omega, hstep, by omega⟩
  .have d2 : decide ((0 : Int) < (n : Int)) = false := by simp; omega
   rw [if_neg h0] at hcnt hstep
   unfold uG
   simp (disch := omega) only [aC, bD, d1, Co, aiM, bK, aW, aA, sS, g1, aI, nV, jC, fD, d2, aD, e1, and_true, aG]
   exact ⟨ns.length - (i + 1), by omega, i + 1, last, rfl, by rw [hsum, hcnt] <;> rfl, by omega, hstep, by omega⟩
 .have d1 : decide ((i : Int) < (ns.length : Int)) = false := by simp; omega
  obtain rfl : i = ns.length := by omega
  rw [alG (aiU _)]
  simp (disch := omega) only [aC, bD, d1, bK, aA, aD]
  exact hK last hla
def O2 (R S last i : Nat) (ns : List Nat) : List Nat := (ns.take i).map (lP R S) ++ List.replicate (last + 1 - i) 0
theorem Ku {R S last i : Nat} {ns : List Nat} (h : i <= last + 1) (hl : last < ns.length) : (O2 R S last i ns).length = last + 1 := by
 unfold O2; rw [aiO, aiX, ajL, akY]; omega
theorem NT {R S last i j : Nat} {ns : List Nat} (h : i <= last + 1) (hl : last < ns.length) (hj : j <= last) : (O2 R S last i ns)[j]? = some (if j < i then lP R S (ns.getD j 0) else 0) := by
 unfold O2
 by_cases hji : j < i
 .rw [ajF (by rw [aiX, ajL]; omega), ajO, ajR hji, aiN (by omega), if_pos hji, jK (by omega)] <;> rfl
 .rw [ajY (by rw [aiX, ajL]; omega), amN, if_pos (by rw [aiX, ajL]; omega), if_neg hji]
theorem Wt {R S last i : Nat} {ns : List Nat} (h : i <= last) (hl : last < ns.length) : (O2 R S last i ns).set i (lP R S (ns.getD i 0)) = O2 R S last (i + 1) ns := by
 unfold O2
 have hm : ((ns.take i).map (lP R S)).length = i := by rw [aiX, ajL]; omega
 rw [amF _ _ (by omega), hm, amV, show last + 1 - i = (last + 1 - (i + 1)) + 1 from by omega, akV, aiV, HQ (by omega), akN, ajB] <;> rfl
theorem Yh {R S last i : Nat} {ns : List Nat} (h : i <= last) (hl : last < ns.length) (h0 : ns.getD i 0 = 0) : O2 R S last (i + 1) ns = O2 R S last i ns := by
 rw [<- Wt h hl, h0]
 have hp : lP R S 0 = 0 := by simp [lP]
 rw [hp]
 apply List.ext_getElem?
 intro j
 rw [List.getElem?_set]
 split
 .rename_i hj
  subst hj
  rw [if_pos (by rw [Ku (by omega) hl]; omega), NT (by omega) hl h, if_neg (by omega)]
 .rfl
abbrev XZ (R S last i : Nat) (ns : List Nat) : List anW := (O2 R S last i ns).map fun (n : Nat) => Value.int .i64 n
theorem ZH {pc pb log there last : Nat} {ov t4 : anW} {ns : List Nat} {w : anV} (hs : Sl w ov (ns.map fun (n : Nat) => Value.int .u32 n)) (hn : ∀ n ∈ ns, n <= 4294967295) (hl : last < ns.length) (hl2 : ns.length <= 256) (hlog : log <= 15) (hth : there <= 2 ^ log) (hS0 : 0 < ns.sum) (hS : ns.sum <= 2147483647)
 (hlast : 0 < ns.getD last 0) (oc : cG w pc [.int .i64 log, .slice (some ⟨pb, 0, none⟩) (last + 1) (last + 1)]) (ob : cG w pb (XZ (2 ^ log - there) ns.sum last 0 ns)) (hne : pc ≠ pb) (hat : ¬ U4 ov (fun y => y = pb)) {RR : anW -> anV -> Prop}
 (hK : ∀ (left gr : Nat) w', left + ((ns.take (last + 1)).map (mU (2 ^ log - there) ns.sum)).sum = 2 ^ log - there -> gr <= last -> 0 < ns.getD gr 0 -> cG w' pb (XZ (2 ^ log - there) ns.sum last (last + 1) ns) -> aX w w' (fun y => y = pb) -> zG RR t4 (.pointer (some ⟨pc, 0, none⟩)) (.int .i64 left) (.int .i64 gr) w') :
 Cp RR ov (.int .i64 log) t4 (.int .u64 ns.sum) (.int .i64 there) (.int .i64 last) (.pointer (some ⟨pc, 0, none⟩)) (.int .i64 (2 ^ log - there : Nat)) (.int .i64 last) w := by
 have hp15 : 2 ^ log <= 2 ^ 15 := ajA (by omega) hlog
 obtain ⟨a, c, hv, hc⟩ := hs.len
 rw [aiX] at hv hc
 subst hv
 obtain ⟨b0, off0, rfl, hcell⟩ := slA hs (by omega)
 have hsub : Sl w (.slice (some ⟨b0, off0, none⟩) (last + 1) c) ((ns.map fun (n : Nat) => Value.int .u32 n).take (last + 1)) := aeM hs (by omega)
 have hshl := UT (n := log) (by omega)
 generalize hR : 2 ^ log - there = R at *
 have hRl : R <= 32768 := by omega
 generalize hSe : ns.sum = S at *
 unfold Cp Ie Ix
 have e1 : (last : Int) + 1 = ((last + 1 : Nat) : Int) := by omega
 have e2 : gU (some ⟨b0, off0, none⟩) c 0 1 = some ⟨b0, off0, none⟩ := by have := WR (b := b0) (o := off0) (m := c) (l := 0) (by omega); simpa using this
 simp (disch := omega) only [aC, bK, e1, aW, aA, Q8, e2, aiM, anG, mH]
 unfold Io IE
 have hmsum : ∀ i, i <= ns.length -> ((ns.take i).map (mU R S)).sum <= R := fun i hi => by
  refine Qy ?_ hS0
  have : ns.sum = (ns.take i).sum + (ns.drop i).sum := by rw [<- anD, alX]
  omega
 refine cO.rule (fun m (t : anW × anW × anW) w' => ∃ left gr i : Nat, m = last + 1 - i /\ t = (.int .i64 left, .int .i64 gr, .int .i64 i) /\ i <= last + 1 /\ left + ((ns.take i).map (mU R S)).sum = R /\ gr <= last /\ 0 < ns.getD gr 0 /\ cG w' pb (XZ R S last i ns) /\ aX w w' (fun y => y = pb)) (last + 1)
  ⟨R, last, 0, rfl, rfl, by omega, by simp, by omega, hlast, ob, aX.refl _ _⟩ ?_
 rintro m t w1 ⟨left, gr, i, rfl, rfl, hi, hleft, hgr, hgr0, ob1, x1⟩
 unfold CF HE
 by_cases hlt : i < last + 1
 .have d1 : decide ((i : Int) < ((last + 1 : Nat) : Int)) = true := by simp only [decide_eq_true_eq]; omega
  have hs1 := hs.ext x1 hat
  obtain ⟨b1, off1, he, hcell1⟩ := slA hs1 (by omega)
  cases he
  have g1 := hcell1 i (by omega)
  rw [ajO, aiN (by omega), <- jK (by omega)] at g1
  simp only [akB] at g1
  have hni : ns.getD i 0 <= 4294967295 := by rw [jK (by omega)]; exact hn _ (ajM (by omega))
  have hmore : ((ns.take (i + 1)).map (mU R S)).sum = ((ns.take i).map (mU R S)).sum + mU R S (ns.getD i 0) := by rw [HQ (by omega), akN, anD]; simp
  have hml := hmsum (i + 1) (by omega)
  have hset := Wt (R := R) (S := S) (i := i) (by omega) hl
  have hzero := Yh (R := R) (S := S) (i := i) (by omega) hl
  have hgi := NT (R := R) (S := S) (i := i + 1) (j := i) (by omega) hl (by omega)
  have hgg := NT (R := R) (S := S) (i := i + 1) (j := gr) (by omega) hl hgr
  have hpl := Ku (R := R) (S := S) (i := i) (by omega) hl
  rw [if_pos (by omega)] at hgi
  unfold Cr
  generalize hgrv : (if gr < i + 1 then lP R S (ns.getD gr 0) else 0) = pv at *
  generalize hnv : ns.getD i 0 = n at *
  by_cases h0 : n = 0
  .subst h0
   have n1 : (((0 : Nat) : Int) == 0) = true := rfl
   have hm0 : mU R S 0 = 0 := by simp [mU]
   rw [hm0] at hmore
   simp (disch := omega) only [aC, bD, d1, Co, aiM, bK, aW, aA, iX, aV, aiR, true_and, dU, dZ, eN, jC, sS, g1, aI, dJ, n1, nV, Dc, Sk, dI, aG]
   exact ⟨last + 1 - (i + 1), by omega, left, gr, i + 1, rfl, rfl, by omega, by omega, hgr, hgr0, by unfold XZ; rw [hzero rfl]; exact ob1, x1⟩
  .have n1 : ((n : Int) == 0) = false := beq_eq_false_iff_ne.2 (by omega)
   have e3 : ((2 ^ log : Nat) : Int) - (there : Int) = (R : Int) := by omega
   have hnR : n * R <= 4294967295 * 32768 := Nat.mul_le_mul hni hRl
   have e4 : (n : Int) * (R : Int) = ((n * R : Nat) : Int) := by simp
   have e5 : ((n * R : Nat) : Int).tdiv (S : Int) = ((mU R S n : Nat) : Int) := by
    rw [alU (by omega)]; unfold mU; simp
   have n2 : ((S : Int) == 0) = false := beq_eq_false_iff_ne.2 (by omega)
   have hp : lP R S n = 1 + mU R S n := by unfold lP mU; rw [if_neg h0]
   have hml2 : mU R S n <= R := by omega
   rw [hp] at hset hgi
   have c1 := (oc.ext x1 hne).cell (off := 1)
   simp only [aiP, aiQ] at c1
   generalize mU R S n = q at *
   have e6 : (1 : Int) + (q : Int) = ((1 + q : Nat) : Int) := by omega
   have e7 : (left : Int) - (q : Int) = ((left - q : Nat) : Int) := by omega
   simp (disch := omega) only [aC, bD, d1, Co, aiM, bK, aW, aA, iX, hshl, aV, aiR, true_and, dU, dZ, e3, eN, jC, sS, g1, aI, dJ, n1, nV, Dc, e4, Sk, e5, dI, e6, c1, dS, aD, aG]
   refine xV ob1 rfl (by rw [aiX, hpl]; omega) fun w2 ob2 x2 s2 => ?_
   have hset2 : (XZ R S last i ns).set i (.int .i64 (1 + q : Nat)) = XZ R S last (i + 1) ns := by unfold XZ; rw [<- hset, amL]
   rw [hset2] at ob2
   have x12 := x1.seq x2
   have c2 := (oc.ext x12 hne).cell (off := 1)
   have c2d := (eP (oc.ext x12 hne)).cell (off := 1)
   simp only [aiP, aiQ] at c2 c2d
   have f1 := (eP ob2).cell (off := i)
   have f2 := (eP ob2).cell (off := gr)
   unfold XZ at f1 f2
   rw [ajO, hgi] at f1
   rw [ajO, hgg] at f2
   simp only [akB] at f1 f2
   have hpv : pv <= 1 + R := by
    rw [<- hgrv]
    split
    .unfold lP
     split
     .omega
     .have h1 : mU R S (ns.getD gr 0) <= R := by
       refine amJ ?_ (hmsum ns.length (aiU _))
       rw [alG (aiU _)]
       have : mU R S (ns.getD gr 0) ∈ ns.map (mU R S) := akF.2 ⟨_, by rw [jK (by omega)]; exact ajM _, rfl⟩
       exact Ul this
      unfold mU at h1
      omega
    .omega
   have x13 : aX w (dr w2) (fun y => y = pb) := x12.seq (aX.dr _ _)
   by_cases hbig : pv < 1 + q
   .have d2 : decide ((pv : Int) < ((1 + q : Nat) : Int)) = true := by simp only [decide_eq_true_eq]; omega
    simp (disch := omega) only [c2d, aI, e7, aA, dS, aiM, aiR, cP, f2, true_and, f1, fD, d2, aG]
    exact ⟨last + 1 - (i + 1), by omega, left - q, i, i + 1, rfl, rfl, by omega, by omega, by omega, by omega, eP ob2, x13⟩
   .have d2 : decide ((pv : Int) < ((1 + q : Nat) : Int)) = false := by simp only [decide_eq_false_iff_not]; omega
    simp (disch := omega) only [c2d, aI, e7, aA, dS, aiM, aiR, cP, f2, true_and, f1, fD, d2, aD]
    exact ⟨last + 1 - (i + 1), by omega, left - q, gr, i + 1, rfl, rfl, by omega, by omega, hgr, hgr0, eP ob2, x13⟩
 .have d1 : decide ((i : Int) < ((last + 1 : Nat) : Int)) = false := by simp only [decide_eq_false_iff_not]; omega
  obtain rfl : i = last + 1 := by omega
  simp (disch := omega) only [aC, bD, d1, iX, aiM, aV, aiR, true_and, aA, dU, dZ, aW, eN, jC, aD]
  exact hK left gr w1 hleft hgr hgr0 ob1 x1
theorem S0 {p4 : Nat} {w0 w : anV} (o4 : cG w p4 [.int .i64 0, .slice none 0 0]) (hx : aX w0 w dG) (hp : w0.heap.size <= p4) {RR : anW -> anV -> Prop}
 (hR : ∀ w', aX w0 w' dG -> RR (.tuple #[.agg #[.int .i64 0, .slice none 0 0], .int .i64 1]) w') :
 aC pg (aR 145 (.pointer (some ⟨p4, 0, none⟩)) (.agg #[.int .i64 0, .slice none 0 0])) w fun _u w => xA pg 145 (.pointer (some ⟨p4, 0, none⟩)) w fun r0 => RR (.tuple #[r0, .int .i64 1]) w := by
 refine cY o4 rfl (by simp [one]) (by simp) fun w6 o6 x6 s6 => ?_
 refine gX o6 (by simp [bQ]) ?_
 simp only [bQ, aiV, aiW, aiY, aiT, aiZ]
 exact hR _ (hx.new x6 hp)
def Z7 (w : anV) (base : Nat) (log : Int) (ns : List Nat) (r : anW) : Prop :=
 (Ur log ns = false /\ r = .tuple #[.agg #[.int .i64 0, .slice none 0 0], .int .i64 1]) ∨
 (Ur log ns = true /\ ∃ (l last pb : Nat) (ps : List Nat), log = l /\ IJ ns ns.length last /\ MA l (ps.map fun (n : Nat) => (n : Int)) /\ ps.length = last + 1 /\ last < ns.length /\ (∀ i, i < last + 1 -> (0 < ps.getD i 0 ↔ 0 < ns.getD i 0)) /\
  r = .tuple #[.agg #[.int .i64 l, .slice (some ⟨pb, 0, none⟩) (last + 1) (last + 1)], .int .i64 0] /\ base <= pb /\ cG w pb (ps.map fun (n : Nat) => Value.int .i64 n))
theorem SZ {ov : anW} {log : Int} {ns : List Nat} {w : anV} (hs : Sl w ov (ns.map fun (n : Nat) => Value.int .u32 n)) (hn : ∀ n ∈ ns, n <= 4294967295) (hl : ns.length <= 300) :
 aU pg xE #[ov, .int .i64 log] w (fun r w' => Z7 w' w.heap.size log ns r /\ aX w w' dG) := by
 refine SK ?_
 obtain ⟨RR, hRR⟩ : ∃ RR : anW -> anV -> Prop, RR = fun r w' => Z7 w' w.heap.size log ns r /\ aX w w' dG := ⟨_, rfl⟩
 rw [<- hRR]
 have bad : Ur log ns = false -> ∀ w', aX w w' dG -> RR (.tuple #[.agg #[.int .i64 0, .slice none 0 0], .int .i64 1]) w' := fun h w' hx => by
  rw [hRR]; exact ⟨.inl ⟨h, rfl⟩, hx⟩
 unfold T0 Gb Fx
 refine fQ fun w1 o1 x1 s1 => ?_
 have z1 := x1.size
 have hs1 := hs.ext x1 (bY _)
 refine ZW hs1 hn hl fun last hlast => ?_
 unfold AW FZ
 obtain ⟨a, c, hv, hc⟩ := hs.len
 rw [aiX] at hv hc
 subst hv
 have no : ¬ (5 <= log /\ log <= 15 /\ ns.length <= 256 /\ 2 <= ns.countP fP /\ ns.countP fP <= 2 ^ log.toNat /\ ns.sum <= 2147483647) -> Ur log ns = false := fun h => by unfold Ur; exact decide_eq_false h
 have hcl : ns.countP fP <= ns.length := amY
 have hsl := WG (B := 4294967295) hn
 have hsl2 : ns.length * 4294967295 <= 300 * 4294967295 := ajX _ (by omega)
 by_cases h1 : log < 5
 .have d1 : decide (log < 5) = true := by simpa using h1
  simp (disch := omega) only [aC, bD, d1, cK, aA, bK, lK, cD, if_true, aG, eZ]
  exact S0 (RR := RR) o1 x1 (aiU _) (bad (no (by omega)))
 have d1 : decide (log < 5) = false := by simpa using h1
 by_cases h2 : 15 < log
 .have d2 : decide (15 < log) = true := by simpa using h2
  simp (disch := omega) only [aC, bD, d1, cK, aA, bK, iX, dZ, eU, cD, aiS, if_false, cB, fD, d2, lK, if_true, aG, eZ]
  exact S0 (RR := RR) o1 x1 (aiU _) (bad (no (by omega)))
 have d2 : decide (15 < log) = false := by simpa using h2
 by_cases h3 : ns.length < 1
 .have d3 : decide ((ns.length : Int) < 1) = true := by simp; omega
  simp (disch := omega) only [aC, bD, d1, cK, aA, bK, iX, dZ, eU, cD, aiS, if_false, cB, fD, d2, mH, d3, lK, if_true, aG, eZ]
  exact S0 (RR := RR) o1 x1 (aiU _) (bad (no (by omega)))
 have d3 : decide ((ns.length : Int) < 1) = false := by simp; omega
 by_cases h4 : 256 < ns.length
 .have d4 : decide ((256 : Int) < (ns.length : Int)) = true := by simp; omega
  simp (disch := omega) only [aC, bD, d1, cK, aA, bK, iX, dZ, eU, cD, aiS, if_false, cB, fD, d2, mH, d3, d4, lK, if_true, aG, eZ]
  exact S0 (RR := RR) o1 x1 (aiU _) (bad (no (by omega)))
 have d4 : decide ((256 : Int) < (ns.length : Int)) = false := by simp; omega
 by_cases h5 : ns.countP fP < 2
 .have d5 : decide (((ns.countP fP : Nat) : Int) < 2) = true := by simp only [decide_eq_true_eq]; omega
  simp (disch := omega) only [aC, bD, d1, cK, aA, bK, iX, dZ, eU, cD, aiS, if_false, cB, fD, d2, mH, d3, d4, d5, lK, if_true, aG, eZ]
  exact S0 (RR := RR) o1 x1 (aiU _) (bad (no (by omega)))
 have d5 : decide (((ns.countP fP : Nat) : Int) < 2) = false := by simp only [decide_eq_false_iff_not]; omega
 obtain ⟨l, rfl⟩ : ∃ l : Nat, log = l := ⟨log.toNat, by omega⟩
 have hshl := UT (n := l) (by omega)
 have hp15 : 2 ^ l <= 2 ^ 15 := ajA (by omega) (by omega)
 rw [aiM] at no
 by_cases h6 : 2 ^ l < ns.countP fP
 .have d6 : decide (((2 ^ l : Nat) : Int) < ((ns.countP fP : Nat) : Int)) = true := by simp only [decide_eq_true_eq]; omega
  simp (disch := omega) only [aC, bD, d1, cK, aA, bK, iX, aiM, hshl, dZ, eU, cD, aiS, if_false, cB, fD, d2, mH, d3, d4, d5, d6, lK, if_true, aG, eZ]
  exact S0 (RR := RR) o1 x1 (aiU _) (bad (no (by omega)))
 have d6 : decide (((2 ^ l : Nat) : Int) < ((ns.countP fP : Nat) : Int)) = false := by simp only [decide_eq_false_iff_not]; omega
 by_cases h7 : 2147483647 < ns.sum
 .have d7 : decide ((2147483647 : Int) < ((ns.sum : Nat) : Int)) = true := by simp only [decide_eq_true_eq]; omega
  simp (disch := omega) only [aC, bD, d1, cK, aA, bK, iX, aiM, hshl, dZ, aW, eU, cD, aiS, if_false, cB, fD, d2, mH, d3, d4, d5, d6, d7, aG]
  exact S0 (RR := RR) o1 x1 (aiU _) (bad (no (by omega)))
 have d7 : decide ((2147483647 : Int) < ((ns.sum : Nat) : Int)) = false := by simp only [decide_eq_false_iff_not]; omega
 have hok : Ur (l : Int) ns = true := by unfold Ur; rw [aiM]; exact decide_eq_true (by omega)
 have hl2 : last < ns.length /\ 0 < ns.getD last 0 := by
  rcases hlast with ⟨rfl, h⟩ | ⟨q1, q2, _⟩
  .exfalso
   have : ns.countP fP = 0 := xD fun n hn => by
    obtain ⟨i, hi, rfl⟩ := ajT hn
    rw [<- jK hi]; exact h i hi
   omega
  .exact ⟨q1, q2⟩
 have hS0 : 0 < ns.sum := by
  have := Ul (l := ns) (n := ns.getD last 0) (by rw [jK hl2.1]; exact ajM _)
  omega
 have e1 : (last : Int) + 1 = ((last + 1 : Nat) : Int) := by omega
 simp (disch := omega) only [aC, bD, d1, cK, aA, bK, e1, aW, iX, aiM, hshl, dZ, eU, cD, aiS, if_false, cB, fD, d2, mH, d3, d4, d5, d6, d7, aD]
 refine Tx (by omega) (by omega) fun w2 o2 x2 s2 => ?_
 rw [aiM] at o2 ⊢
 simp (disch := omega) only [mO, aA]
 refine fQ fun w3 o3 x3 s3 => ?_
 refine cY o3 rfl (by simp [one]) (by simp) fun w4 o4 x4 s4 => ?_
 simp only [bQ, aiV, aiW] at o4
 have z2 := x2.size
 have z3 := x3.size
 have x14 : aX w1 w4 dG := (x2.seq x3).new x4 (by omega)
 have e2 : ((2 ^ l : Nat) : Int) - ((ns.countP fP : Nat) : Int) = ((2 ^ l - ns.countP fP : Nat) : Int) := by omega
 have l2 := o2.lt
 have hpb : XZ (2 ^ l - ns.countP fP) ns.sum last 0 ns = List.replicate (last + 1) (Value.int .i64 0) := by
  unfold XZ O2
  simp [List.map_replicate]
 have ob4 : cG w4 w1.heap.size (XZ (2 ^ l - ns.countP fP) ns.sum last 0 ns) := by
  rw [hpb]; exact (o2.ext x3 (fun h => h)).ext x4 (by omega)
 simp (disch := omega) only [e2]
 refine ZH (pc := w2.heap.size) (pb := w1.heap.size) (hs1.ext x14 (bY _)) hn hl2.1 (by omega) (by omega) (by omega) hS0 (by omega) hl2.2 o4 ob4 (by omega) (fun h => hs.old (VG h fun b hb => by omega)) fun left gr w5 hleft hgr hgr0 ob5 x5 => ?_
 unfold zG
 have o45 := o4.ext x5 (by omega)
 have c5 := o45.cell (off := 1)
 simp only [aiP, aiQ] at c5
 have hgg := NT (R := 2 ^ l - ns.countP fP) (S := ns.sum) (i := last + 1) (j := gr) (by omega) hl2.1 hgr
 rw [if_pos (by omega)] at hgg
 have f1 := ob5.cell (off := gr)
 unfold XZ at f1
 rw [ajO, hgg] at f1
 simp only [akB] at f1
 obtain ⟨hmay, hofl, _, hiff⟩ := afG (log := l) (there := ns.countP fP) (left := left) (gr := gr) (by omega) (by omega) (by omega) rfl (by omega) (by omega) hlast hgr hgr0 hleft
 have hpq : O2 (2 ^ l - ns.countP fP) ns.sum last (last + 1) ns = (ns.take (last + 1)).map (lP (2 ^ l - ns.countP fP) ns.sum) := by
  unfold O2; rw [amV]; simp
 have hgd : ((ns.take (last + 1)).map (lP (2 ^ l - ns.countP fP) ns.sum)).getD gr 0 = lP (2 ^ l - ns.countP fP) ns.sum (ns.getD gr 0) := by
  rw [hpq] at hgg
  rw [ajD, hgg] <;> rfl
 have hset : (XZ (2 ^ l - ns.countP fP) ns.sum last (last + 1) ns).set gr (.int .i64 (lP (2 ^ l - ns.countP fP) ns.sum (ns.getD gr 0) + left : Nat)) = (uZ l (ns.countP fP) ns.sum last gr left ns).map fun (n : Nat) => Value.int .i64 n := by
  unfold XZ uZ
  rw [hpq, hgd, amL]
 have hpl := Ku (R := 2 ^ l - ns.countP fP) (S := ns.sum) (i := last + 1) (by omega) hl2.1
 have hpb : lP (2 ^ l - ns.countP fP) ns.sum (ns.getD gr 0) + left <= 70000 := by
  have hq := Qy (R := 2 ^ l - ns.countP fP) (S := ns.sum) (l := ns) (aiU _) hS0
  have hq2 := Ul (n := mU (2 ^ l - ns.countP fP) ns.sum (ns.getD gr 0)) (l := ns.map (mU (2 ^ l - ns.countP fP) ns.sum)) (akF.2 ⟨_, by rw [jK (by omega)]; exact ajM _, rfl⟩)
  have hq3 : lP (2 ^ l - ns.countP fP) ns.sum (ns.getD gr 0) <= 1 + mU (2 ^ l - ns.countP fP) ns.sum (ns.getD gr 0) := by
   unfold lP mU
   split
   .exact alM _
   .exact aiU _
  omega
 generalize lP (2 ^ l - ns.countP fP) ns.sum (ns.getD gr 0) = pv at *
 have e3 : (pv : Int) + (left : Int) = ((pv + left : Nat) : Int) := by omega
 simp (disch := omega) only [aC, aV, aiR, aA, dU, c5, aI, dS, aiM, cP, f1, bK, e3, aW]
 refine xV ob5 rfl (by rw [aiX, hpl]; omega) fun w6 ob6 x6 s6 => ?_
 rw [hset] at ob6
 have o46 := o45.ext x6 (by omega)
 have lc := dV (off := 0) o46 (by simp)
 simp only [aiY, aiT, aiZ] at lc
 have o16 := ((o1.ext x14 (fun h => h)).ext x5 (by omega)).ext x6 (by omega)
 simp (disch := omega) only [lc, aA]
 refine cY o16 rfl (by simp [one]) (by simp) fun w7 o7 x7 s7 => ?_
 refine gX o7 (by simp [bQ]) ?_
 simp only [bQ, aiV, aiW, aiY, aiT, aiZ]
 rw [hRR]
 refine ⟨.inr ⟨hok, l, last, w1.heap.size, _, rfl, hlast, hmay, hofl, hl2.1, hiff, rfl, z1, ob6.ext x7 (by omega)⟩, ?_⟩
 have x06 : aX w w6 dG := ((x1.seq x14).trans x5 fun b hb h => by omega).trans x6 fun b hb h => by omega
 exact x06.new x7 (aiU _)
abbrev cN (S : List Int) : List anW := (D6 S).map fun (n : Nat) => Value.int .u32 n
abbrev aaS : anW := .agg #[.int .i64 0, .slice none 0 0]
theorem adZ {S : List Int} {c : Nat} (h : c < 256) : (cN S)[c]? = some (.int .u32 (S.count (c : Int) : Nat)) := by
 rw [ajO, aiN (by rw [lQ]; exact h), <- jK, Ls h] <;> rfl
theorem aeR {S : List Int} {c : Nat} (h : c < 256) : (cN S).set c (.int .u32 ((S.count (c : Int) + 1 : Nat))) = cN (S ++ [(c : Int)]) := by
 show _ = (D6 (S ++ [(c : Int)])).map _
 rw [VR h, amL]
theorem TY {p : Nat} {w0 w : anV} {x : Int} {a : Option Addr} {k c : Nat} {n e f : anW} (o : cG w p [.int .i64 0, .slice none 0 0]) (hx : aX w0 w dG) (hp : w0.heap.size <= p) {RR : anW -> anV -> Prop}
 (hR : ∀ w', aX w0 w' dG -> aX w w' (fun y => y = p) -> RR (.tuple #[.agg #[.int .i64 x, .slice a k c], n, e, f]) w') :
 aC pg (aR 27 (.pointer (some ⟨p, 0, none⟩)) (.agg #[.int .i64 x, .slice a k c])) w fun _u w => xA pg 27 (.pointer (some ⟨p, 0, none⟩)) w fun r0 => RR (.tuple #[r0, n, e, f]) w := by
 refine cI o rfl (by simp [one]) (by simp) fun w6 o6 x6 s6 => ?_
 refine lA o6 (by simp [bQ]) ?_
 simp only [bQ, aiV, aiW, aiY, aiT, aiZ]
 exact hR _ (hx.new x6 hp) x6
theorem adR {a : Int} {lv : anW} {l : List Int} {p4 po : Nat} {last : Int} {w0 w : anV} (hs : Sl w0 lv (l.map (Value.int .i64))) (hx : aX w0 w dG) (hp4 : w0.heap.size <= p4) (hpo : w0.heap.size <= po) (hne : p4 ≠ po)
 (o4 : cG w p4 [.int .i64 0, .slice none 0 0]) (oo : cG w po (cN [])) (hl0 : 0 <= last) (hl1 : last <= 60) (hlen : l.length <= 131072) {RR : anW -> anV -> Prop} {kn : anW -> anW -> anW -> anW -> anW -> anW -> anV -> Prop}
 (hbad : (∃ x ∈ l, ¬ (0 <= x /\ x <= last)) -> ∀ w', aX w0 w' dG -> RR (.tuple #[aaS, .int .i64 0, .slice none 0 0, .int .i64 1]) w')
 (hK : (∀ x ∈ l, 0 <= x /\ x <= last) -> ∀ w', cG w' p4 [.int .i64 0, .slice none 0 0] -> cG w' po (cN l) -> aX w0 w' dG →
  kn (.int .i64 a) lv (.pointer (some ⟨p4, 0, none⟩)) (.pointer (some ⟨po, 0, none⟩)) (.int .i64 ((D6 l).countP fP : Nat)) (.int .i64 (U0 l)) w') :
 tD kn RR (.int .i64 a) lv (.pointer (some ⟨p4, 0, none⟩)) (.int .i64 last) (.pointer (some ⟨po, 0, none⟩)) (.int .i64 0) (.int .i64 0) w := by
 unfold tD Ac
 obtain ⟨la, lc, rfl, _⟩ := hs.lenI
 simp (disch := omega) only [aC, fV, aA]
 unfold Aj An
 refine cO.rule (fun m (t : anW × anW × anW) w' => ∃ i : Nat, m = l.length - i /\ t = (.int .i64 ((D6 (l.take i)).countP fP : Nat), .int .i64 (U0 (l.take i)), .int .i64 i) /\ i <= l.length /\ (∀ x ∈ l.take i, 0 <= x /\ x <= last) /\
  cG w' po (cN (l.take i)) /\ aX w w' (fun y => y = po)) l.length ⟨0, rfl, ?_, by omega, by simp, by rw [aiZ]; exact oo, aX.refl _ _⟩ ?_
 .rw [aiZ, Uh, xD (fun n hn => amC hn)] <;> rfl
 rintro m t w1 ⟨i, rfl, rfl, hi, hok, o1, x1⟩
 have x01 : aX w0 w1 dG := hx.new x1 hpo
 have z1 := x01.size
 have o41 := o4.ext x1 (by omega)
 unfold sR AG
 by_cases hlt : i < l.length
 .have d1 : decide ((i : Int) < (l.length : Int)) = true := by simp; omega
  obtain ⟨lb, off, rfl, hcell⟩ := slA (hs.ext x01 (bY _)) (by omega)
  have g1 := hcell i hlt
  rw [ajO, aiN hlt] at g1
  simp only [akB] at g1
  have hmem : l[i] ∈ l := ajM hlt
  have htk : l.take (i + 1) = l.take i ++ [l[i]] := by rw [akW, aiN hlt] <;> rfl
  generalize l[i] = x at *
  unfold AA Ae Gy Aq
  by_cases h0 : x < 0
  .have d2 : decide (x < 0) = true := by simpa using h0
   simp (disch := omega) only [aC, bD, d1, dS, aiM, dQ, aA, bK, cP, g1, aI, d2, lK, cD, if_true, aG, eZ]
   exact TY o41 x01 hp4 fun w' x' _ => hbad ⟨x, hmem, by omega⟩ w' x'
  have d2 : decide (x < 0) = false := by simpa using h0
  by_cases h1 : last < x
  .have d3 : decide (last < x) = true := by simpa using h1
   simp (disch := omega) only [aC, bD, d1, dS, aiM, dQ, aA, bK, cP, g1, aI, d2, eU, cD, aiS, if_false, cB, fD, d3, aG]
   exact TY o41 x01 hp4 fun w' x' _ => hbad ⟨x, hmem, by omega⟩ w' x'
  have d3 : decide (last < x) = false := by simpa using h1
  obtain ⟨c, rfl⟩ : ∃ c : Nat, x = c := ⟨x.toNat, by omega⟩
  have f1 := o1.cell (off := c)
  rw [adZ (by omega)] at f1
  have hcnt : (l.take i).count (c : Int) <= i := by
   have := List.count_le_length (a := (c : Int)) (l := l.take i)
   rw [ajL] at this; omega
  have hset := aeR (S := l.take i) (c := c) (by omega)
  have hon : (D6 (l.take (i + 1))).countP fP = (D6 (l.take i)).countP fP + if (l.take i).count (c : Int) = 0 then 1 else 0 := by
   rw [htk, VR (by omega), MW (by rw [lQ]; omega) (by omega), Ls (by omega)]
  have hgm : U0 (l.take (i + 1)) = max (U0 (l.take i)) (c : Int) := by rw [htk, Z2]
  have hok' : ∀ x ∈ l.take (i + 1), 0 <= x /\ x <= last := by
   rw [htk]; intro x hx'
   rcases alO.1 hx' with h | h
   .exact hok x h
   .rw [akK.1 h]; omega
  have hcb : (D6 (l.take i)).countP fP <= 256 := by
   have := amY (l := D6 (l.take i)) (p := fP)
   rw [lQ] at this; exact this
  have hgm2 : max (U0 (l.take i)) (c : Int) = if (c : Int) > U0 (l.take i) then (c : Int) else U0 (l.take i) := by omega
  rw [hgm2] at hgm
  rw [<- htk] at hset
  generalize (l.take i).count (c : Int) = q at *
  generalize hG : U0 (l.take i) = G at *
  generalize hG2 : U0 (l.take (i + 1)) = G2 at *
  have e1 : (q : Int) + 1 = ((q + 1 : Nat) : Int) := by omega
  simp (disch := omega) only [aC, bD, d1, dS, aiM, dQ, aA, bK, aW, cP, g1, aI, d2, Q7, aiR, sS, eU, cD, aiS, if_false, cB, fD, d3, f1, e1, VF, aD, aG]
  refine Ln o1 rfl (by rw [aiX, lQ]; omega) fun w2 o2 x2 s2 => ?_
  rw [hset] at o2
  have f2 := o2.cell (off := c)
  have f2' : (cN (l.take (i + 1)))[c]? = some (.int .u32 ((q + 1 : Nat))) := by
   rw [<- hset, List.getElem?_set_self (by rw [aiX, lQ]; omega)]
  rw [f2'] at f2
  have x12 : aX w w2 (fun y => y = po) := x1.seq x2
  unfold sY sW
  by_cases hq : q = 0
  .have n1 : (((q + 1 : Nat) : Int) == 1) = true := by rw [hq] <;> rfl
   rw [if_pos hq] at hon
   simp (disch := omega) only [f2, aI, aC, We, bK, aW, aA, dJ, n1, aG]
   refine ⟨l.length - (i + 1), by omega, i + 1, rfl, ?_, by omega, hok', o2, x12⟩
   rw [hon, hG2, hgm] <;> rfl
  .have n1 : (((q + 1 : Nat) : Int) == 1) = false := beq_eq_false_iff_ne.2 (by omega)
   rw [if_neg hq] at hon
   simp (disch := omega) only [f2, aI, aC, We, bK, aW, aA, dJ, n1, aD]
   refine ⟨l.length - (i + 1), by omega, i + 1, rfl, ?_, by omega, hok', o2, x12⟩
   rw [hon, hG2, hgm] <;> rfl
 .have d1 : decide ((i : Int) < (l.length : Int)) = false := by simp; omega
  obtain rfl : i = l.length := by omega
  rw [alG (aiU _)] at *
  simp (disch := omega) only [aC, bD, d1, aA, aD]
  exact hK hok w1 o41 o1 x01
structure MX (a : Int) (l : List Int) (mode : Int) (lg : Nat) (L : List T3) (bytes : List UInt8) : Prop where
 mode0 : 0 <= mode
 mode2 : mode <= 2
 read : ∀ T more, iI a mode (bytes ++ more) T = .ok ((lg, L), bytes.length)
 has : ∀ x ∈ l, ∃ e ∈ L, e.1 = x
 one : (∀ x ∈ l, ∀ y ∈ l, x = y) -> mode = 1 /\ L.length = 1
 len1 : mode = 1 -> bytes.length = 1
 tab : (∃ ps, MA lg ps /\ L = iY lg ps) ∨ ∃ c : Int, 0 <= c /\ c <= 60 /\ lg = 0 /\ L = [(c, 0, 0)]
 log9 : lg <= 9
 blen : bytes.length <= 1000
theorem MX.len {a : Int} {l : List Int} {mode : Int} {lg : Nat} {L : List T3} {bytes : List UInt8} (h : MX a l mode lg L bytes) : L.length <= 512 := by
 rcases h.tab with ⟨ps, hm, rfl⟩ | ⟨c, _, _, rfl, rfl⟩
 .rw [gZ]; exact ajA (by omega) h.log9
 .simp
theorem aeL {a : Int} (h : 0 <= a /\ a <= 2) : (∀ x ∈ U3 a, x ≠ 0) /\ UF a <= 6 /\ (U3 a).length <= 53 := by
 rcases (show a = 0 ∨ a = 1 ∨ a = 2 by omega) with rfl | rfl | rfl <;> decide
theorem Vo {a : Int} (h : 0 <= a /\ a <= 2) : 8 <= Da a /\ Da a <= 9 := by
 rcases (show a = 0 ∨ a = 1 ∨ a = 2 by omega) with rfl | rfl | rfl <;> decide
theorem aaA {a : Int} {l : List Int} {c : Nat} (ha : 0 <= a /\ a <= 2) (hc : (c : Int) <= kH a) (hc2 : c < 256) (h : ∀ x ∈ l, x = (c : Int)) : MX a l 1 0 [((c : Nat), 0, 0)] [UInt8.ofNat c] := by
 have hcc : ((UInt8.ofNat c).toNat : Nat) = c := by simp; omega
 have := GY ha
 refine ⟨by omega, by omega, fun T more => ?_, fun x hx => ⟨_, akK.2 rfl, (h x hx).symm⟩, fun _ => ⟨rfl, rfl⟩, fun _ => rfl, .inr ⟨_, by omega, by omega, rfl, rfl⟩, by omega, by simp⟩
 unfold iI
 rw [if_neg (by omega), if_neg (by omega), if_pos rfl]
 show (if kH a < ((UInt8.ofNat c).toNat : Int) then _ else _) = _
 rw [hcc, if_neg (by omega)] <;> rfl
theorem Xk {a : Int} {l : List Int} (ha : 0 <= a /\ a <= 2) (h : ∀ x ∈ l, 0 <= x /\ x < ((U3 a).length : Nat)) (h1 : ¬ (∀ x ∈ l, ∀ y ∈ l, x = y)) : MX a l 0 (UF a) (iY (UF a) (U3 a)) [] := by
 obtain ⟨hnz, hl6, _⟩ := aeL ha
 have hm := T5 (a := a) (by omega)
 refine ⟨by omega, by omega, fun T more => ?_, fun x hx => ?_, fun h => absurd h h1, fun h => by omega, .inl ⟨_, hm, rfl⟩, by omega, by simp⟩
 .unfold iI
  rw [if_neg (by omega), if_pos rfl] <;> rfl
 .obtain ⟨h0, h2⟩ := h x hx
  obtain ⟨c, rfl⟩ : ∃ c : Nat, x = c := ⟨x.toNat, by omega⟩
  obtain ⟨i, hi, e⟩ := Sa hm (s := c) (by omega) (hnz _ (ajM _))
  exact ⟨_, ajM hi, e⟩
theorem YP {a : Int} {l : List Int} {lg : Nat} {ps : List Int} {bytes : List UInt8} (ha : 0 <= a /\ a <= 2) (hm : MA lg ps) (hh : Qk (B6 lg ps) bytes) (hlg : (lg : Int) = Da a) (hps : (ps.length : Int) <= kH a + 1) (h : ∀ x ∈ l, ∃ c : Nat, x = c /\ ∃ h : c < ps.length, ps[c] ≠ 0) (h1 : ¬ (∀ x ∈ l, ∀ y ∈ l, x = y)) :
 MX a l 2 lg (iY lg ps) bytes := by
 have hmo := Vo ha
 have hla := GY ha
 have hD := PC hm
 have hb := hh.len
 refine ⟨by omega, by omega, fun T more => ?_, fun x hx => ?_, fun h => absurd h h1, fun h => by omega, .inl ⟨_, hm, rfl⟩, by omega, by omega⟩
 .unfold iI
  rw [if_neg (by omega), if_neg (by omega), if_neg (by omega), if_neg (by omega), Ht, hh.bits, ajB, abM hm (by omega) (by omega)]
  show Except.ok _ = Except.ok _
  rw [hb]
 .obtain ⟨c, rfl, hc, hn⟩ := h x hx
  obtain ⟨i, hi, e⟩ := Sa hm (s := c) hc hn
  exact ⟨_, ajM hi, e⟩
def Ob (a : Int) (l : List Int) : Prop := (0 <= a /\ a <= 2) /\ l ≠ [] /\ ∀ x ∈ l, 0 <= x /\ x <= kH a
theorem adP {a : Int} {l : List Int} {p4 po : Nat} {g : Nat} {w0 w : anV} (hx : aX w0 w dG) (hg : nX w0) (hp4 : w0.heap.size <= p4) (hpo : w0.heap.size <= po) (hne : p4 ≠ po)
 (o4 : cG w p4 [.int .i64 0, .slice none 0 0]) (oo : cG w po (cN l)) (ha : 0 <= a /\ a <= 2) (hlen : l.length <= 131072) (hok : ∀ x ∈ l, 0 <= x /\ x <= kH a) (hgm : U0 l = g) (hcnt : 2 <= (D6 l).countP fP) {RR : anW -> anV -> Prop}
 (hK : ∀ w' mode lg L bytes t v, Bd w' w0.heap.size (lg, L) t -> uK w' w0.heap.size 1 v bytes.length (bytes.map D8) -> MX a l mode lg L bytes -> aX w0 w' dG -> RR (.tuple #[t, .int .i64 mode, v, .int .i64 0]) w') :
 pY RR (.int .i64 a) (.pointer (some ⟨p4, 0, none⟩)) (.pointer (some ⟨po, 0, none⟩)) (.int .i64 g) w := by
 have hmo := Vo ha
 have hla := GY ha
 obtain ⟨last, hlast⟩ : ∃ n : Nat, kH a = n := ⟨(kH a).toNat, by omega⟩
 obtain ⟨g', hg', hgl, hnl, hget, hle, hct⟩ := XP (S := l) (n := last) (by omega) (fun x hx => by have := hok x hx; omega)
 obtain rfl : g = g' := by omega
 obtain ⟨ns, hns⟩ : ∃ ns, ns = (D6 l).take (g + 1) := ⟨_, rfl⟩
 rw [<- hns] at hnl hget hct
 have hsum : ns.sum <= 131072 := by rw [hns]; have := UZ l (g + 1) (by omega); omega
 have hmem : ∀ n ∈ ns, n <= 4294967295 := fun n hn => by
  rw [hns] at hn
  have := adW l n (List.mem_of_mem_take hn); omega
 have hc53 : ns.countP fP <= 256 := by have := amY (l := ns) (p := fP); omega
 have hp8 : 2 ^ 8 <= 2 ^ (Da a).toNat := ajA (by omega) (by omega)
 have hofOk : Ur (Da a) ns = true := by
  unfold Ur
  exact decide_eq_true ⟨by omega, by omega, by omega, by omega, by omega, by omega⟩
 have hno1 : ¬ (∀ x ∈ l, ∀ y ∈ l, x = y) := fun h => by
  cases l with
  | nil => rw [Uh, xD (fun n hn => amC hn)] at hcnt; omega
  | cons y l =>
    have hy := hok y (akZ ..)
    have := X5 (S := y :: l) (c := y.toNat) (by omega) (fun x hx => by have := h x hx y (akZ ..); omega) (by simp)
    omega
 have hsh : pB ⟨po, 0, none⟩ 256 0 1 = ⟨po, 0, none⟩ := Az (by decide)
 have e1 : (g : Int) + 1 = ((g + 1 : Nat) : Int) := by omega
 have hsl : ∀ w', cG w' po (cN l) -> Sl w' (.slice (some ⟨po, 0, none⟩) (g + 1) 256) (ns.map fun (n : Nat) => Value.int .u32 n) := fun w' o => by
  refine ⟨_, _, _, rfl, by rw [aiX]; exact hnl.symm, by omega, fun _ => ⟨_, _, rfl, fun i hi => ?_⟩⟩
  rw [o.cell, aiR, hns, List.map_take, ajR hi]
 unfold pY
 have fin : ∀ (w' : anV) (pc pb : Nat) (lg last : Nat) (ps : List Nat), aX w0 w' dG -> w0.heap.size <= pc -> pc ≠ p4 -> w0.heap.size <= pb -> cG w' p4 [.int .i64 0, .slice none 0 0] -> (lg : Int) = Da a -> IJ ns ns.length last -> MA lg (ps.map fun (n : Nat) => (n : Int)) -> ps.length = last + 1 -> last < ns.length →
     (∀ i, i < last + 1 -> (0 < ps.getD i 0 ↔ 0 < ns.getD i 0)) -> cG w' pc [.int .i64 lg, .slice (some ⟨pb, 0, none⟩) (last + 1) (last + 1)] -> cG w' pb (ps.map fun (n : Nat) => Value.int .i64 n) →
     qC RR (.pointer (some ⟨p4, 0, none⟩)) (.pointer (some ⟨pc, 0, none⟩)) (.int .i64 0) w' := by
  intro w1 pc pb lg la ps x1 hpc hpc4 hpb o41 hlg hlast' hmay hpl hlan hiff oc ob
  unfold qC
  have n1 : ((0 : Int) != 0) = false := rfl
  have l1 := dV (off := 0) oc (by simp)
  simp only [aiY, aiT, aiZ] at l1
  have hs1 : Sl w1 (.slice (some ⟨pb, 0, none⟩) (la + 1) (la + 1)) ((ps.map fun (n : Nat) => (n : Int)).map (Value.int .i64)) := by
   rw [List.map_map]
   exact ⟨_, _, _, rfl, by rw [aiX, hpl], aiU _, fun _ => ⟨_, _, rfl, fun i hi => by rw [ob.cell, aiR] <;> rfl⟩⟩
  simp (disch := omega) only [aC, fU, n1, dQ, aA, l1, aD]
  refine (Vx hmay hs1).mono ?_
  rintro r w2 ⟨bytes, v, rfl, hh, ho, x2⟩
  have z1 := x1.size
  have z2 := x2.size
  obtain ⟨va, vc, rfl⟩ := ho.len
  have l1 := dV (off := 0) (oc.ext x2 (fun h => h)) (by simp)
  simp only [aiY, aiT, aiZ] at l1
  simp (disch := omega) only [JE, Jd, aA, fU, n1, aD, l1]
  refine (RF hmay (hs1.ext x2 (bY _))).mono ?_
  rintro r w3 ⟨b, t, rfl, ⟨rfl, hb1, ob3⟩, x3⟩
  have z3 := x3.size
  have hbl := ob3.lt
  simp (disch := omega) only [JE, Jd, aA]
  refine fI fun w8 o8 x8 s8 => ?_
  refine cI o8 rfl (by simp [one]) (by simp) fun w9 o9 x9 s9 => ?_
  have l2 := dX (off := 0) o9 (by simp [bQ])
  simp only [bQ, aiV, aiW, aiY, aiT, aiZ] at l2
  have x39 : aX w3 w9 dG := x8.new x9 (aiU _)
  have x29 : aX w2 w9 dG := x3.seq x39
  simp (disch := omega) only [l2, aA]
  refine TY ((o41.ext x2 (fun h => h)).ext x29 (fun h => h)) ((x1.seq x2).seq x29) hp4 fun w' x xx => ?_
  have h4 := o41.lt
  refine hK w' 2 lg (iY lg (ps.map fun (n : Nat) => (n : Int))) bytes _ _ (.inr ⟨b, rfl, by omega, ?_⟩) ?_ ?_ x
  .exact ((ob3.ext x8 (fun h => h)).ext x9 (by omega)).ext xx (by omega)
  .have h1 := (ho.ext x29 (fun b hb h => h)).ext xx (fun b hb => by omega)
   refine ⟨h1.1, ?_⟩
   rcases h1.2 with h | ⟨b, c, rest, q1, q2, q3⟩
   .exact .inl h
   .exact .inr ⟨b, c, rest, q1, by omega, q3⟩
  .refine YP ha hmay hh hlg (by rw [aiX]; omega) (fun x hx => ?_) hno1
   have hx1 := hok x hx
   have hx2 := hle x hx
   obtain ⟨c, rfl⟩ : ∃ c : Nat, x = c := ⟨x.toNat, by omega⟩
   have hon : 0 < ns.getD c 0 := by rw [hget c (by omega)]; exact PK hx
   have hcl : c < la + 1 := by
    rcases ajI c (la + 1) with h | h
    .exact h
    .exfalso
     rcases hlast' with ⟨rfl, h0⟩ | ⟨_, _, h0⟩
     .have := h0 c (by omega); omega
     .have := h0 c (by omega) (by omega); omega
   have hp := (hiff c hcl).2 hon
   refine ⟨c, rfl, by rw [aiX]; omega, ?_⟩
   rw [jK (by omega)] at hp
   rw [akH]; omega
 have res : ∀ {w1 : anV} {b1 : Nat} {r : anW}, Z7 w1 b1 (Da a) ns r -> ∃ (lg last pb : Nat) (ps : List Nat), (lg : Int) = Da a /\ IJ ns ns.length last /\ MA lg (ps.map fun (n : Nat) => (n : Int)) /\ ps.length = last + 1 /\ last < ns.length /\ (∀ i, i < last + 1 -> (0 < ps.getD i 0 ↔ 0 < ns.getD i 0)) /\
     r = .tuple #[.agg #[.int .i64 lg, .slice (some ⟨pb, 0, none⟩) (last + 1) (last + 1)], .int .i64 0] /\ b1 <= pb /\ cG w1 pb (ps.map fun (n : Nat) => Value.int .i64 n) := fun h => by
  rcases h with ⟨h, _⟩ | ⟨_, l, la, pb, ps, h1, h2⟩
  .rw [hofOk] at h; cases h
  .exact ⟨l, la, pb, ps, h1.symm, h2⟩
 have z0 := hx.size
 have l4 := o4.lt
 have lo := oo.lt
 unfold B0
 refine Gm (Gm ?_ ?_) ?_
 have hds : (dr w).heap.size = w.heap.size := rfl
 .simp (disch := omega) only [aC, bK, e1, aW, eE, Result.ok.injEq, Next.value.injEq, and_true, true_and, aA, wA, hsh, aiM, anG]
  refine (Ut a _).mono ?_
  rintro r w1 ⟨rfl, hw⟩
  rw [hw]; clear hw w1
  refine (SZ (hsl _ (eP oo)) hmem (by omega)).mono ?_
  rintro r w1 ⟨hr, x1⟩
  have x1 : aX w w1 dG := (aX.dr _ _).seq x1
  obtain ⟨lg, la, pb, ps, q1, q2, q3, q4, q5, q6, rfl, q7, q8⟩ := res hr
  have z1 := x1.size
  have lp := q8.lt
  simp (disch := omega) only [JE, Jd, Result.ok.injEq, Next.value.injEq, and_true, aA, true_and]
  refine fQ fun w2 o2 x2 s2 => ?_
  refine cY o2 rfl (by simp [one]) (by simp) fun w3 o3 x3 s3 => ?_
  simp only [bQ, aiV, aiW] at o3
  have x13 : aX w1 w3 dG := x2.new x3 (aiU _)
  exact fin w3 _ pb lg la ps ((hx.seq x1).seq x13) (by omega) (by omega) (by omega) ((o4.ext x1 (fun h => h)).ext x13 (fun h => h)) q1 q2 q3 q4 q5 q6 o3 ((q8.ext x2 (fun h => h)).ext x3 (by omega))
 .simp (disch := omega) only [aC, bK, e1, aW, eE, Result.ok.injEq, Next.value.injEq, and_true, true_and, aA, wA, hsh, aiM, anG]
  refine (Ut a _).mono ?_
  rintro r w1 ⟨rfl, hw⟩
  rw [hw]; clear hw w1
  refine fQ fun w2 o2 x2 s2 => ?_
  have x2 : aX w w2 dG := (aX.dr _ _).seq x2
  refine (SZ (hsl _ (oo.ext x2 (fun h => h))) hmem (by omega)).mono ?_
  rintro r w1 ⟨hr, x1⟩
  obtain ⟨lg, la, pb, ps, q1, q2, q3, q4, q5, q6, rfl, q7, q8⟩ := res hr
  have z2 := x2.size
  have lp := q8.lt
  simp (disch := omega) only [JE, Jd, Result.ok.injEq, Next.value.injEq, and_true, aA, true_and]
  refine cY (o2.ext x1 (fun h => h)) rfl (by simp [one]) (by simp) fun w3 o3 x3 s3 => ?_
  simp only [bQ, aiV, aiW] at o3
  have x13 : aX w w3 dG := (x2.seq x1).new x3 (aiU _)
  exact fin w3 w.heap.size pb lg la ps (hx.seq x13) (by omega) (by omega) (by omega) (o4.ext x13 (fun h => h)) q1 q2 q3 q4 q5 q6 o3 (q8.ext x3 (by omega))
 .simp (disch := omega) only [aC, bK, e1, aW, eE, Result.ok.injEq, Next.value.injEq, and_true, true_and, aA, wA, hsh, aiM, anG]
  refine fQ fun w2 o2 x2 s2 => ?_
  have x2 : aX w w2 dG := (aX.dr _ _).seq x2
  refine (Ut a _).mono ?_
  rintro r w1 ⟨rfl, hw⟩
  rw [hw]; clear hw w1
  refine (SZ (hsl _ (oo.ext x2 (fun h => h))) hmem (by omega)).mono ?_
  rintro r w1 ⟨hr, x1⟩
  obtain ⟨lg, la, pb, ps, q1, q2, q3, q4, q5, q6, rfl, q7, q8⟩ := res hr
  have z2 := x2.size
  have lp := q8.lt
  simp (disch := omega) only [JE, Jd, Result.ok.injEq, Next.value.injEq, and_true, aA, true_and]
  refine cY (o2.ext x1 (fun h => h)) rfl (by simp [one]) (by simp) fun w3 o3 x3 s3 => ?_
  simp only [bQ, aiV, aiW] at o3
  have x13 : aX w w3 dG := (x2.seq x1).new x3 (aiU _)
  exact fin w3 w.heap.size pb lg la ps (hx.seq x13) (by omega) (by omega) (by omega) (o4.ext x13 (fun h => h)) q1 q2 q3 q4 q5 q6 o3 (q8.ext x3 (by omega))
theorem agE {a : Int} {lv : anW} {l : List Int} {p4 : Nat} {w0 w : anV} (hs : Sl w0 lv (l.map (Value.int .i64))) (hx : aX w0 w dG) (hp4 : w0.heap.size <= p4)
 (o4 : cG w p4 [.int .i64 0, .slice none 0 0]) (ha : 0 <= a /\ a <= 2) (hne : l ≠ []) (hok : ∀ x ∈ l, 0 <= x /\ x <= kH a) (hall : ∀ x ∈ l, ∀ y ∈ l, x = y) {RR : anW -> anV -> Prop}
 (hK : ∀ w' mode lg L bytes t v, Bd w' w0.heap.size (lg, L) t -> uK w' w0.heap.size 1 v bytes.length (bytes.map D8) -> MX a l mode lg L bytes -> aX w0 w' dG -> RR (.tuple #[t, .int .i64 mode, v, .int .i64 0]) w') :
 BW RR lv (.pointer (some ⟨p4, 0, none⟩)) w := by
 have hla := GY ha
 have hl0 : 0 < l.length := alS.2 hne
 obtain ⟨la, lc, rfl, _⟩ := hs.lenI
 have hsx := hs.ext hx (bY _)
 obtain ⟨lb, off, rfl, hcell⟩ := slA hsx (by omega)
 have g1 := hcell 0 hl0
 rw [ajO, aiN hl0] at g1
 simp only [akB, akJ] at g1
 have hmem : l[0] ∈ l := ajM hl0
 have hc := hok _ hmem
 have hall' : ∀ x ∈ l, x = l[0] := fun x hx => hall x hx _ hmem
 generalize l[0] = x at *
 obtain ⟨c, rfl⟩ : ∃ c : Nat, x = c := ⟨x.toNat, by omega⟩
 have t0 : (0 : Int).toNat = 0 := rfl
 have hpos : (0 : Int) < (l.length : Nat) := by omega
 have hW := aaA (l := l) ha hc.2 (by omega) hall'
 have hcc : ((UInt8.ofNat c).toNat : Nat) = c := by simp; omega
 have z0 := hx.size
 have l4 := o4.lt
 have g2 : (dr w).cell? ⟨lb, off, none⟩ = some (.int .i64 (c : Nat)) := g1
 have Xa : ∀ {w' : anV} {M : Nat -> Prop}, aX w w' M -> (¬ U4 (.slice (some ⟨lb, off, none⟩) l.length lc) M) -> w'.cell? ⟨lb, off, none⟩ = some (.int .i64 (c : Nat)) := fun x hM => by
  have h := slA (hsx.ext x hM) (by omega)
  obtain ⟨b', o', e, h'⟩ := h
  cases e
  have := h' 0 hl0
  rw [akJ, hcell 0 hl0 |>.symm, akJ, g1] at this
  exact this
 have fin : ∀ (w2 : anV) (b bs : Nat), aX w0 w2 dG -> w0.heap.size <= b -> w0.heap.size <= bs -> cG w2 b (fe .u8 [((c : Nat), 0, 0)]) -> cG w2 bs [.int .u8 (c : Nat)] -> cG w2 p4 [.int .i64 0, .slice (some ⟨b, 0, none⟩) 1 1] →
     qD RR (.pointer (some ⟨p4, 0, none⟩)) (.int .i64 1) (.slice (some ⟨bs, 0, none⟩) 1 1) (.int .i64 0) w2 := by
  intro w2 b bs x2 hb hbs ob obs o42
  unfold qD
  refine lA o42 (by simp) ?_
  simp only [aiY, aiT, aiZ]
  refine hK w2 1 0 [((c : Nat), 0, 0)] [UInt8.ofNat c] _ _ (.inr ⟨b, rfl, hb, ob⟩) ?_ hW x2
  refine ⟨rfl, .inr ⟨bs, 1, [], rfl, hbs, ?_, rfl, aiU _⟩⟩
  have e : [UInt8.ofNat c].map D8 ++ [] = [.int .u8 (c : Nat)] := by
   rw [akM]
   show [Value.int .u8 ((UInt8.ofNat c).toNat : Nat)] = _
   rw [hcc]
  rw [e]; exact obs
 have hds : (dr w).heap.size = w.heap.size := rfl
 unfold BW B1
 refine Gm (Gm ?_ ?_) ?_
 .simp (disch := omega) only [aC, dS, t0, akJ, eE, Result.ok.injEq, Next.value.injEq, and_true, true_and, aA, cP, g2, aI, iN, LR]
  refine (X4 (c : Nat) _).mono ?_
  rintro r w1 ⟨b, ⟨rfl, hb1, ob⟩, x1⟩
  have x1 : aX w w1 dG := (aX.dr _ _).seq x1
  have z1 := x1.size
  have lb1 := ob.lt
  have g3 := Xa x1 (bY _)
  have g4 : (dr w1).cell? ⟨lb, off, none⟩ = some (.int .i64 (c : Nat)) := g3
  simp (disch := omega) only [g3, aI, aA, iN, LR, Result.ok.injEq, Next.value.injEq, and_true, true_and]
  refine rU (cells := #[.int .u8 (c : Nat)]) (by decide) (by decide) (by kernel_rfl) fun w2 o2 x2 s2 => ?_
  have hds1 : (dr w1).heap.size = w1.heap.size := rfl
  have z2 := x2.size
  refine cI ((o4.ext x1 (fun h => h)).ext x2 (fun h => h)) rfl (by simp [one]) (by simp) fun w3 o3 x3 s3 => ?_
  simp only [bQ, aiV, aiW] at o3
  exact fin w3 b w1.heap.size (((hx.seq x1).seq x2).new x3 hp4) (by omega) (by omega) ((ob.ext x2 (fun h => h)).ext x3 (by omega)) (o2.ext x3 (by omega)) o3
 .simp (disch := omega) only [aC, dS, t0, akJ, eE, Result.ok.injEq, Next.value.injEq, and_true, true_and, aA, cP, g2, aI, iN, LR]
  refine (X4 (c : Nat) _).mono ?_
  rintro r w1 ⟨b, ⟨rfl, hb1, ob⟩, x1⟩
  have x1 : aX w w1 dG := (aX.dr _ _).seq x1
  have z1 := x1.size
  have lb1 := ob.lt
  have g3 := Xa x1 (bY _)
  have g4 : (dr w1).cell? ⟨lb, off, none⟩ = some (.int .i64 (c : Nat)) := g3
  simp (disch := omega) only [g3, aI, aA, iN, LR, Result.ok.injEq, Next.value.injEq, and_true, true_and]
  refine cI (o4.ext x1 (fun h => h)) rfl (by simp [one]) (by simp) fun w2 o2 x2 s2 => ?_
  simp only [bQ, aiV, aiW] at o2
  have hds1 : (dr w1).heap.size = w1.heap.size := rfl
  have z2 := x2.size
  have x02 := (hx.seq x1).new x2 hp4
  have g5 : w2.cell? ⟨lb, off, none⟩ = some (.int .i64 (c : Nat)) := Xa ((x1.mono (N := fun y => y = p4) fun _ _ h => h.elim).seq x2) (by
   intro h
   exact hs.old (VG h fun y hy => by omega))
  simp (disch := omega) only [g5, aI, true_and]
  refine rU (cells := #[.int .u8 (c : Nat)]) (by decide) (by decide) (by kernel_rfl) fun w3 o3 x3 s3 => ?_
  exact fin w3 b w2.heap.size (x02.seq x3) (by omega) (by omega) ((ob.ext x2 (by omega)).ext x3 (fun h => h)) o3 (o2.ext x3 (fun h => h))
 .simp (disch := omega) only [aC, dS, t0, akJ, eE, Result.ok.injEq, Next.value.injEq, and_true, true_and, aA, cP, g2, aI, iN, LR]
  refine rU (cells := #[.int .u8 (c : Nat)]) (by decide) (by decide) (by kernel_rfl) fun w2 o2 x2 s2 => ?_
  have x2 : aX w w2 dG := (aX.dr _ _).seq x2
  have z2 := x2.size
  have g3 := Xa x2 (bY _)
  have g4 : (dr w2).cell? ⟨lb, off, none⟩ = some (.int .i64 (c : Nat)) := g3
  simp (disch := omega) only [g3, aI, true_and]
  refine (X4 (c : Nat) _).mono ?_
  rintro r w1 ⟨b, ⟨rfl, hb1, ob⟩, x1⟩
  have hds1 : (dr w2).heap.size = w2.heap.size := rfl
  have z1 := x1.size
  have lb1 := ob.lt
  refine cI ((o4.ext x2 (fun h => h)).ext x1 (fun h => h)) rfl (by simp [one]) (by simp) fun w3 o3 x3 s3 => ?_
  simp only [bQ, aiV, aiW] at o3
  exact fin w3 b w.heap.size (((hx.seq x2).seq x1).new x3 hp4) (by omega) (by omega) (ob.ext x3 (by omega)) ((o2.ext x1 (fun h => h)).ext x3 (by omega)) o3
def WrR (w : anV) (base : Nat) (a : Int) (l : List Int) (r : anW) : Prop :=
 (¬ Ob a l /\ r = .tuple #[aaS, .int .i64 0, .slice none 0 0, .int .i64 1]) ∨
 (Ob a l /\ ∃ (mode : Int) (lg : Nat) (L : List T3) (bytes : List UInt8) (t v : anW), r = .tuple #[t, .int .i64 mode, v, .int .i64 0] /\ Bd w base (lg, L) t /\ uK w base 1 v bytes.length (bytes.map D8) /\ MX a l mode lg L bytes)
theorem ZE {a : Int} {lv : anW} {l : List Int} {w : anV} (hg : nX w) (hs : Sl w lv (l.map (Value.int .i64))) (hlen : l.length <= 131072) :
 aU pg jM #[.int .i64 a, lv] w (fun r w' => WrR w' w.heap.size a l r /\ aX w w' dG) := by
 refine OP ?_
 obtain ⟨RR, hRR⟩ : ∃ RR : anW -> anV -> Prop, RR = fun r w' => WrR w' w.heap.size a l r /\ aX w w' dG := ⟨_, rfl⟩
 rw [<- hRR]
 have bad : ¬ Ob a l -> ∀ w', aX w w' dG -> RR (.tuple #[aaS, .int .i64 0, .slice none 0 0, .int .i64 1]) w' := fun h w' x => by
  rw [hRR]; exact ⟨.inl ⟨h, rfl⟩, x⟩
 have good : Ob a l -> ∀ w' mode lg L bytes t v, Bd w' w.heap.size (lg, L) t -> uK w' w.heap.size 1 v bytes.length (bytes.map D8) -> MX a l mode lg L bytes -> aX w w' dG -> RR (.tuple #[t, .int .i64 mode, v, .int .i64 0]) w' := fun h w' mode lg L bytes t v h1 h2 h3 x => by
  rw [hRR]; exact ⟨.inr ⟨h, mode, lg, L, bytes, t, v, rfl, h1, h2, h3⟩, x⟩
 unfold Oi Ag Ax
 refine fI fun w1 o1 x1 s1 => ?_
 refine (Uz (hg.ext x1)).mono ?_
 rintro r w2 ⟨rfl, x2⟩
 have x02 := x1.seq x2
 have o12 := o1.ext x2 (fun h => h)
 have z1 := x1.size
 have z2 := x2.size
 by_cases ha : 0 <= a /\ a <= 2
 rotate_left
 .have d1 : decide (kH a < 0) = true := by rw [Vw ha] <;> rfl
  simp (disch := omega) only [aC, bD, d1, dQ, aA, lK, cD, if_true, aG, eZ]
  exact TY o12 x02 (aiU _) fun w' x _ => bad (fun h => ha h.1) w' x
 have hla := GY ha
 have d1 : decide (kH a < 0) = false := by simp; omega
 have hs0 := hs
 obtain ⟨la, lc, rfl, _⟩ := hs.lenI
 by_cases hl0 : l = []
 .have n1 : (((l.length : Nat) : Int) == 0) = true := by rw [hl0] <;> rfl
  simp (disch := omega) only [aC, bD, d1, dQ, aA, eU, cD, aiS, if_false, cB, fV, dJ, n1, lK, if_true, aG, eZ]
  exact TY o12 x02 (aiU _) fun w' x _ => bad (fun h => h.2.1 hl0) w' x
 have hlp : 0 < l.length := alS.2 hl0
 have n1 : (((l.length : Nat) : Int) == 0) = false := beq_eq_false_iff_ne.2 (by omega)
 have d2 : decide ((131072 : Int) < ((l.length : Nat) : Int)) = false := by simp; omega
 have hcs : cN [] = List.replicate 256 (Value.int .u32 0) := by
  show (D6 []).map _ = _
  rw [Uh, List.map_replicate] <;> rfl
 simp (disch := omega) only [aC, bD, d1, dQ, aA, eU, cD, aiS, if_false, cB, fV, dJ, n1, fD, d2, aD]
 refine QI fun w3 o3 x3 s3 => ?_
 have o3 : cG w3 w2.heap.size (cN []) := by rw [hcs]; exact o3
 have z3 := x3.size
 unfold Am
 refine adR (w0 := w) hs0 (x02.seq x3) (aiU _) (by omega) (by omega) (o12.ext x3 (fun h => h)) o3 (by omega) (by omega) hlen (fun ⟨x, hx, hn⟩ => bad fun h => hn (h.2.2 x hx)) fun hok w4 o4 oo x4 => ?_
 have hcok : Ob a l := ⟨ha, hl0, hok⟩
 unfold Ay AO
 have z4 := x4.size
 refine (XE (hg.ext x4)).mono ?_
 rintro r w5 ⟨gv, rfl, hsg, x5⟩
 have z5 := x5.size
 obtain ⟨ga, gc, rfl, _⟩ := hsg.lenI
 refine fQ fun w6 o6 x6 s6 => ?_
 refine cY o6 rfl (by simp [one]) (by simp) fun w7 o7 x7 s7 => ?_
 simp only [bQ, aiV, aiW] at o7
 have x57 : aX w5 w7 dG := x6.new x7 (aiU _)
 have x47 := x5.seq x57
 have x07 := x4.seq x47
 have z7 := x57.size
 have l4 := o4.lt
 have o47 := o4.ext x47 (fun h => h)
 have oo7 := oo.ext x47 (fun h => h)
 unfold Af As GZ BT BK
 have hb255 : ∀ x ∈ l, 0 <= x /\ x <= 255 := fun x hx => by have := hok x hx; omega
 have hcp := acD hb255 hl0
 by_cases h1 : (D6 l).countP fP = 1
 .have n2 : ((((D6 l).countP fP : Nat) : Int) == 1) = true := by rw [h1] <;> rfl
  simp (disch := omega) only [aC, dJ, n2, aA, aG]
  exact agE hs0 x07 (aiU _) o47 ha hl0 hok (acK hb255 h1) (good hcok)
 have n2 : ((((D6 l).countP fP : Nat) : Int) == 1) = false := beq_eq_false_iff_ne.2 (by omega)
 obtain ⟨last, hlast⟩ : ∃ n : Nat, kH a = n := ⟨(kH a).toNat, by omega⟩
 obtain ⟨g, hg', hgl, hnl, hget, hle, hct⟩ := XP (S := l) (n := last) (by omega) (fun x hx => by have := hok x hx; omega)
 have told : pY RR (.int .i64 a) (.pointer (some ⟨w.heap.size, 0, none⟩)) (.pointer (some ⟨w2.heap.size, 0, none⟩)) (.int .i64 g) w7 :=
  adP x07 hg (aiU _) (by omega) (by omega) o47 oo7 ha hlen hok hg' (by omega) (good hcok)
 rw [hg']
 unfold BZ
 by_cases h64 : l.length < 64
 .have d3 : decide (((l.length : Nat) : Int) < 64) = true := by simp; omega
  have c1 := o7.cell (off := 1)
  simp only [aiP, aiQ] at c1
  by_cases hgv : g < (U3 a).length
  .have d4 : decide (((g : Nat) : Int) < (((U3 a).length : Nat) : Int)) = true := by simp; omega
   have l1 := dV (off := 0) o7 (by simp)
   simp only [aiY, aiT, aiZ] at l1
   have hm := T5 (a := a) (by omega)
   simp (disch := omega) only [aC, dJ, n2, fV, aV, aiR, aA, bD, d3, BL, cD, if_true, cB, dU, c1, aI, d4, l1, aG, aD]
   refine (RF hm (hsg.ext x57 (bY _))).mono ?_
   rintro r w8 ⟨b, t, rfl, ⟨rfl, hb1, ob⟩, x8⟩
   have z8 := x8.size
   have hbl := ob.lt
   simp (disch := omega) only [JE, Jd, aA]
   refine fI fun w9 o9 x9 s9 => ?_
   refine cI o9 rfl (by simp [one]) (by simp) fun wa oa xa sa => ?_
   have l2 := dX (off := 0) oa (by simp [bQ])
   simp only [bQ, aiV, aiW, aiY, aiT, aiZ] at l2
   have x8a : aX w8 wa dG := x9.new xa (aiU _)
   have x7a := x8.seq x8a
   simp (disch := omega) only [l2, aA]
   refine TY (o47.ext x7a (fun h => h)) (x07.seq x7a) (aiU _) fun w' x xx => ?_
   refine good hcok w' 0 (UF a) (iY (UF a) (U3 a)) [] _ _ (.inr ⟨b, rfl, by omega, ?_⟩) (uK.nil _ _ _) ?_ x
   .exact ((ob.ext x9 (fun h => h)).ext xa (by omega)).ext xx (by omega)
   .refine Xk ha (fun x hx => ?_) fun h => ?_
    .have h1 := hok x hx
     have h2 := hle x hx
     omega
    .obtain ⟨y, hy⟩ := anC _ hl0
     have hyb := hb255 y hy
     exact h1 (X5 (S := l) (c := y.toNat) (by omega) (fun x hx => by have := h x hx y hy; omega) hl0)
  .have d4 : decide (((g : Nat) : Int) < (((U3 a).length : Nat) : Int)) = false := by simp; omega
   simp (disch := omega) only [aC, dJ, n2, fV, aV, aiR, aA, bD, d3, BL, cD, if_true, cB, dU, c1, aI, d4, aD]
   exact told
 .have d3 : decide (((l.length : Nat) : Int) < 64) = false := by simp; omega
  simp (disch := omega) only [aC, dJ, n2, fV, aV, aiR, aA, bD, d3, MG, cD, aiS, if_false, aD, eZ]
  exact told
def R4 (L : List T3) : Prop := ∀ sy : Int, (∃ e ∈ L, e.1 = sy) -> ∀ s : Nat, s < L.length -> ∃ (i : Nat) (e : T3), L[i]? = some e /\ X6 sy s e = true
theorem Yd (c : Int) : R4 [(c, 0, 0)] := by
 rintro sy ⟨e, he, rfl⟩ s hs
 obtain rfl := akK.1 he
 have : s = 0 := by simp at hs; omega
 subst this
 exact ⟨0, _, rfl, by unfold X6; simp⟩
theorem Wi {log : Nat} {ps : List Int} (hm : MA log ps) : R4 (iY log ps) := by
 rintro sy ⟨e, he, rfl⟩ s hs
 rw [gZ] at hs
 obtain ⟨i, hi, rfl⟩ := ajT he
 have h2 : i < 2 ^ log := by rw [gZ] at hi; exact hi
 obtain ⟨sy, hsy, e, hp, _⟩ := PF hm (sI hm 0) h2
 have hn : ps[sy] ≠ 0 := fun h => by rw [h] at hp; revert hp; decide
 rw [MH log ps h2, e]
 obtain ⟨i', hi', h1, _⟩ := acJ hm hsy hn hs
 exact ⟨i', _, Pq hi', h1⟩
theorem Xu {a : Int} {l : List Int} {mode : Int} {lg : Nat} {L : List T3} {bytes : List UInt8} (h : MX a l mode lg L bytes) : R4 L := by
 rcases h.tab with ⟨ps, hm, rfl⟩ | ⟨c, _, _, _, rfl⟩
 .exact Wi hm
 .exact Yd c
theorem Qa {k : Nat} {l : List Int} {mode : Int} {lg : Nat} {L : List T3} {bytes : List UInt8} (hk : k < 3) (h : MX (k : Int) l mode lg L bytes) : uM k (lg, L) := by
 have h1 := h.read (0, []) []
 have h0 := h.mode0
 have h2 := h.mode2
 obtain ⟨m, rfl⟩ : ∃ m : Nat, mode = m := ⟨mode.toNat, by omega⟩
 exact (RU hk (fun h3 => by omega) h1).1
def Vb (last : Bool) (L : List T3) (c s t : Nat) (u : List Bool) : Prop := (∃ e, L[s]? = some e /\ e.1 = (c : Int)) /\ (if last then u = [] else StB L s t u)
def Vf (r : Nat) : Nat := if r = 0 then 1 else if r = 1 then 2 else 0
def YA (k : Nat) : Nat := if k = 1 then 0 else if k = 2 then 1 else 2
def W8 (us : Nat -> List Bool) (r : Nat) : List Bool := if r = 0 then [] else if r = 1 then us 1 else if r = 2 then us 1 ++ us 2 else us 1 ++ us 2 ++ us 0
def upU (us : Nat -> List Bool) (k : Nat) (x : List Bool) : Nat -> List Bool := fun i => if i = k then x else us i
theorem Lv (us : Nat -> List Bool) {r : Nat} (h : r < 3) (x : List Bool) : W8 (upU us (Vf r) x) (r + 1) = W8 us r ++ x := by
 rcases (show r = 0 ∨ r = 1 ∨ r = 2 by omega) with rfl | rfl | rfl <;> simp [W8, upU, Vf]
theorem abR (r : Nat) : Vf r < 3 := by unfold Vf; split <;> (try split) <;> omega
theorem Of {r k : Nat} (hr : r < 3) (hk : k < 3) : (YA k < r + 1) ↔ (YA k < r ∨ k = Vf r) := by
 rcases (show r = 0 ∨ r = 1 ∨ r = 2 by omega) with rfl | rfl | rfl <;> rcases (show k = 0 ∨ k = 1 ∨ k = 2 by omega) with rfl | rfl | rfl <;> decide
theorem YS {r : Nat} (hr : r < 3) : YA (Vf r) = r := by
 rcases (show r = 0 ∨ r = 1 ∨ r = 2 by omega) with rfl | rfl | rfl <;> rfl
theorem Y9 {w : anV} {base : Nat} {L : Nat -> List Nat} {v : Nat -> anW} {D : Nat -> Nat -> Prop} (h : C3 w base L v D) {k i c : Nat} (hk : k < 3) (hc : (L k)[i]? = some c) :
 ∃ b off cc, v k = .slice (some ⟨b, off, none⟩) (L k).length cc /\ w.cell? ⟨b, off + i, none⟩ = some (.int .i64 c) := by
 have hi : i < (L k).length := by
  rcases ajI i (L k).length with h | h
  .exact h
  .rw [ajJ h] at hc; cases hc
 have o := h.row k hk
 rcases o.2 with ⟨_, hz⟩ | ⟨b, c', rest, h1, h2, h3, h4, h5⟩
 .omega
 .refine ⟨b, 0, c', h1, ?_⟩
  rw [h3.cell, aiR, ajF (by rw [aiX]; exact hi), ajO, hc]
  rfl
theorem U8 {k2 : K6} {RR : K1} {la : Option Addr} {n lc pe pt p ps i : Nat} {t : Nat -> TT} {a : Nat -> Option Addr} {L : Nat -> List Nat} {v : Nat -> anW} {D : Nat -> Nat -> Prop} {st cc : Nat -> Nat} {B : List Bool} {wc w : anV}
 (hTc : Gc wc t a) (hCc : C3 wc 0 L v D) (xc : aX wc w dG) (hge : wc.heap.size <= pe /\ pe < pt /\ pt < p /\ p < ps) (oE : cG w pe (vL v)) (oT : cG w pt (c6 t a)) (oS : cG w ps (Pj st)) (hW : Ws w (fun b => ps < b) p B)
 (hi : i < n) (hn : n <= 1000000) (hcc : ∀ k, k < 3 -> (L k)[i]? = some (cc k) /\ cc k < iO k) (hG : ∀ k, k < 3 -> uM k (t k) /\ R4 (t k).2 /\ ∃ e ∈ (t k).2, e.1 = (cc k : Int)) (hst : i + 1 < n -> ∀ k, k < 3 -> st k < (t k).2.length) (hB : B.length <= 90000000)
 (hk : ∀ (w' : anV) (st' : Nat -> Nat) (us : Nat -> List Bool), cG w' ps (Pj st') -> (∀ k, k < 3 -> Vb (decide (i + 1 = n)) (t k).2 (cc k) (st' k) (st k) (us k)) -> Ws w' (fun b => ps < b) p (B ++ (us 1 ++ us 2 ++ us 0)) -> aX w w' (fun y => y = p ∨ y = ps ∨ ps < y) -> k2 (.slice la n lc) (.pointer (some ⟨pe, 0, none⟩)) (.pointer (some ⟨pt, 0, none⟩)) (.pointer (some ⟨p, 0, none⟩)) (.pointer (some ⟨ps, 0, none⟩)) (.int .i64 i) w') :
 mL k2 RR (.slice la n lc) (.pointer (some ⟨pe, 0, none⟩)) (.pointer (some ⟨pt, 0, none⟩)) (.pointer (some ⟨p, 0, none⟩)) (.pointer (some ⟨ps, 0, none⟩)) (.int .i64 i) (.agg #[.int .i64 1, .int .i64 2, .int .i64 0]) (.int .i64 0) w := by
 have hps := oS.lt
 unfold mL
 refine cO.rule (fun m (x : anW) w' => ∃ (j : Nat) (st' : Nat -> Nat) (us : Nat -> List Bool), m = j /\ j <= 3 /\ x = .int .i64 (3 - j : Nat) /\ cG w' ps (Pj st') /\ (∀ k, k < 3 -> YA k < 3 - j -> Vb (decide (i + 1 = n)) (t k).2 (cc k) (st' k) (st k) (us k)) /\ (∀ k, k < 3 -> ¬ YA k < 3 - j -> st' k = st k) /\
  Ws w' (fun b => ps < b) p (B ++ W8 us (3 - j)) /\ (W8 us (3 - j)).length <= 20 * (3 - j) /\ aX w w' (fun y => y = p ∨ y = ps ∨ ps < y)) 3
  ⟨3, st, fun _ => [], rfl, aiU _, rfl, oS, fun k _ h => by omega, fun _ _ _ => rfl, by simpa [W8] using hW, by simp [W8], aX.refl _ _⟩ ?_
 rintro j x w1 ⟨m, st', us, rfl, hj, rfl, oS1, hD, hU, hW1, hlen, x1⟩
 unfold mP rK
 rcases j with _ | j
 .have d1 : decide (((3 - 0 : Nat) : Int) < 3) = false := rfl
  simp (disch := omega) only [aC, bD, d1, dF, true_and, aA, dZ, aW, dJ, aD]
  exact hk _ st' us oS1 (fun k hk => hD k hk (by unfold YA; split <;> (try split) <;> omega)) hW1 x1
 obtain ⟨r, hr⟩ : ∃ r, r = 2 - j := ⟨_, rfl⟩
 have hr3 : r < 3 := by omega
 have ek : ((3 - (j + 1) : Nat) : Int) = (r : Int) := by omega
 have ek2 : 3 - (j + 1) = r := by omega
 have ek3 : 3 - j = r + 1 := by omega
 have d1 : decide ((r : Int) < 3) = true := by simp; omega
 have hx : (#[Value.int .i64 1, .int .i64 2, .int .i64 0] : Array anW)[r]? = some (.int .i64 (Vf r : Nat)) := by
  rcases (show r = 0 ∨ r = 1 ∨ r = 2 by omega) with rfl | rfl | rfl <;> rfl
 have hk3 := abR r
 have hpo := YS hr3
 obtain ⟨k, hkk⟩ : ∃ k, k = Vf r := ⟨_, rfl⟩
 rw [ek]
 rw [ek2] at hD hU hW1 hlen
 rw [<- hkk] at hx hk3 hpo
 obtain ⟨hck, hcl⟩ := hcc k hk3
 obtain ⟨hGk, hRk, hEk⟩ := hG k hk3
 have xc1 : aX wc w1 dG := xc.trans x1 fun b hb h => by have := xc.size; omega
 have hT1 := hTc.ext xc1
 have hC1 := hCc.ext xc1 (fun _ _ _ h => h)
 have oE1 := oE.ext x1 (by omega)
 have oT1 := oT.ext x1 (by omega)
 obtain ⟨b, off, c', ev, hcell⟩ := Y9 hC1 hk3 hck
 have cE := oE1.cell (off := k)
 rw [X1 _ hk3, ev] at cE
 have hc53 : iO k <= 53 := by rcases (show k = 0 ∨ k = 1 ∨ k = 2 by omega) with rfl | rfl | rfl <;> decide
 have hiL : i < (L k).length := by
  rcases ajI i (L k).length with h | h
  .exact h
  .rw [ajJ h] at hck; cases hck
 have ew : IntKind.u8.wrap ((cc k : Nat) : Int) = ((cc k : Nat) : Int) := LR (by omega) (by omega)
 have l1 := dX (off := k * 2) oT1 (by simp [c6]; omega)
 rw [TI _ _ hk3] at l1
 have hlt512 : (t k).2.length <= 512 := by rw [hGk.len]; exact ajA (by omega) hGk.lg
 have hlpos : 0 < (t k).2.length := by rw [hGk.len]; exact ajU _
 obtain ⟨tb, htb⟩ := (hT1 k hk3).tbl hlpos
 have n0 : ((0 : Int) != 0) = false := rfl
 by_cases hlast : i + 1 = n
 .have n1 : ((i : Int) == (n : Int) - 1) = true := by simp; omega
  simp (disch := omega) only [aC, bD, d1, DT, aiM, hx, aI, dF, true_and, aA, dZ, aW, dJ, n1, aG, uI, aiR, cW, AM, dU, cE, dS, cP, hcell, iN, ew, l1]
  refine (abT htb (by omega) (cc k : Nat)).mono ?_
  rintro rr w2 ⟨hF, x2⟩
  rcases hF with ⟨s', hs', rfl, hsy, _⟩ | ⟨_, hno⟩
  rotate_left
  .obtain ⟨e, he, hes⟩ := hEk
   obtain ⟨y, hy, rfl⟩ := ajT he
   exact absurd hes (hno y hy)
  have oS2 := oS1.ext x2 (fun h => h)
  simp (disch := omega) only [JE, Jd, aA, fU, n0, aD]
  refine xV oS2 rfl (by simp [Pj]; omega) fun w3 o3 x3 s3 => ?_
  rw [Uk _ hk3] at o3
  have e1 : (r : Int) + 1 = ((3 - j : Nat) : Int) := by omega
  unfold jN
  simp (disch := omega) only [aC, bK, e1, aW, aA]
  refine ⟨j, by omega, j, UP st' k s', upU us k [], rfl, by omega, rfl, o3, fun q hq hqp => ?_, fun q hq hqp => ?_, ?_, ?_, ?_⟩
  .rw [ek3, Of hr3 hq, <- hkk] at hqp
   unfold UP upU
   by_cases hqk : q = k
   .subst hqk
    rw [if_pos rfl, if_pos rfl]
    refine ⟨⟨_, aiN hs', hsy⟩, ?_⟩
    rw [decide_eq_true hlast] <;> rfl
   .rw [if_neg hqk, if_neg hqk]
    exact hD q hq (by rcases hqp with h | h
                      .exact h
                      .exact absurd h hqk)
  .rw [ek3, Of hr3 hq, <- hkk] at hqp
   unfold UP
   rw [if_neg (fun h => hqp (.inr h))]
   exact hU q hq (fun h => hqp (.inl h))
  .rw [ek3, hkk, Lv us hr3, akM]
   exact (hW1.ext x2 (fun h => h) (fun _ _ h => h)).ext x3 (by omega) (fun b hb h => by omega)
  .rw [ek3, hkk, Lv us hr3, akM]; omega
  .exact (x1.more x2).seq (x3.mono fun _ _ h => .inr (.inl h))
 .have n1 : ((i : Int) == (n : Int) - 1) = false := by simp; omega
  have hstk := hst (by omega) k hk3
  have hUk := hU k hk3 (by rw [hpo]; omega)
  have l1d := dX (off := k * 2) (eP oT1) (by simp [c6]; omega)
  rw [TI _ _ hk3] at l1d
  have c1d := (eP oS1).cell (off := k)
  rw [T4 _ hk3, hUk] at c1d
  simp (disch := omega) only [aC, bD, d1, DT, aiM, hx, aI, dF, true_and, aA, dZ, aW, dJ, n1, aD, uI, aiR, cW, AM, cP, dU, cE, dS, hcell, iN, ew, l1d, c1d, aG]
  obtain ⟨tb, htb⟩ := (hT1.ext (aX.dr w1 dG) k hk3).tbl hlpos
  refine (Zl htb hGk.low (by omega) (st k) hstk (cc k : Nat)).mono ?_
  rintro rr w2 ⟨hF, x2⟩
  have x12 : aX w1 w2 dG := (aX.dr _ _).seq x2
  rcases hF with ⟨s', e, hs', hin, rfl⟩ | ⟨hno, _⟩
  rotate_left
  .obtain ⟨y, e, hy, hin⟩ := hRk (cc k : Nat) hEk (st k) hstk
   rw [hno y e hy] at hin; cases hin
  obtain ⟨nb, hnb1, hnb2, hnb3, hnb4⟩ := hGk.low _ (alD hs')
  obtain ⟨e0, e1', e2⟩ := e
  simp only at hnb1 hnb3 hnb4
  subst hnb1
  unfold X6 at hin
  simp only [decide_eq_true_eq, aiM] at hin
  obtain ⟨g0, g1, g2⟩ := hin
  obtain ⟨xx, hxx⟩ : ∃ xx : Nat, (st k : Int) - e2 = xx := ⟨((st k : Int) - e2).toNat, by omega⟩
  have hp2 : (2 : Int) ^ nb = ((2 ^ nb : Nat) : Int) := by simp
  rw [hp2] at g2
  have hxl : xx < 2 ^ nb := by omega
  have hp20 : 2 ^ nb <= 2 ^ 20 := ajA (by omega) hnb2
  have hs's : s' < (t k).2.length := by
   rcases ajI s' (t k).2.length with h | h
   .exact h
   .rw [ajJ h] at hs'; cases hs'
  simp (disch := omega) only [hxx, x40, x41, x42, x43, aA, fU, n0, aD, true_and]
  have hW2 := hW1.ext x12 (fun h => h) (fun _ _ h => h)
  refine (RG (x := xx) (n := nb) hW2 (fun b hb => by have := x12.size; have := x1.size; omega) (by omega) (by omega) (by rw [aiO]; omega)).mono ?_
  rintro rr w3 ⟨rfl, hW3, x3⟩
  have oS3 := (oS1.ext x12 (fun h => h)).ext x3 (by omega)
  refine xV oS3 rfl (by simp [Pj]; omega) fun w4 o4 x4 s4 => ?_
  rw [Uk _ hk3] at o4
  have e1 : (r : Int) + 1 = ((3 - j : Nat) : Int) := by omega
  unfold jN
  simp (disch := omega) only [aC, bK, e1, aW, aA]
  refine ⟨j, by omega, j, UP st' k s', upU us k (eD xx nb), rfl, by omega, rfl, o4, fun q hq hqp => ?_, fun q hq hqp => ?_, ?_, ?_, ?_⟩
  .rw [ek3, Of hr3 hq, <- hkk] at hqp
   unfold UP upU
   by_cases hqk : q = k
   .subst hqk
    rw [if_pos rfl, if_pos rfl]
    refine ⟨⟨_, hs', g0⟩, ?_⟩
    rw [decide_eq_false hlast]
    exact ⟨_, nb, xx, hs', rfl, hxl, by simp only; omega, rfl⟩
   .rw [if_neg hqk, if_neg hqk]
    exact hD q hq (by rcases hqp with h | h
                      .exact h
                      .exact absurd h hqk)
  .rw [ek3, Of hr3 hq, <- hkk] at hqp
   unfold UP
   rw [if_neg (fun h => hqp (.inr h))]
   exact hU q hq (fun h => hqp (.inl h))
  .rw [ek3, hkk, Lv us hr3, <- ajB]
   exact hW3.ext x4 (by omega) (fun b hb h => by omega)
  .rw [ek3, hkk, Lv us hr3, aiO, bR]; omega
  .exact ((x1.more x12).seq (x3.mono fun _ _ h => by rcases h with h | h; exact .inl h; exact .inr (.inr h))).seq (x4.mono fun _ _ h => .inr (.inl h))
def vb (q : Sq) (cc : Nat -> Nat) (k : Nat) : List Bool := eD (kv q k - (oY k).getD (cc k) 0) ((iM k).getD (cc k) 0)
def W0 (us : Nat -> List Bool) (r : Nat) : List Bool := if r = 0 then [] else if r = 1 then us 0 else if r = 2 then us 0 ++ us 2 else us 0 ++ us 2 ++ us 1
theorem Yk (us : Nat -> List Bool) {r : Nat} (h : r < 3) : W0 us (r + 1) = W0 us r ++ us (C9 r) := by
 rcases (show r = 0 ∨ r = 1 ∨ r = 2 by omega) with rfl | rfl | rfl <;> simp [W0, C9]
theorem YT {k4 : K6} {lv : anW} {pe pt p ps pv i : Nat} {L : Nat -> List Nat} {v : Nat -> anW} {D : Nat -> Nat -> Prop} {cc : Nat -> Nat} {q : Sq} {B : List Bool} {wc w : anV}
 (hg : nX wc) (hCc : C3 wc 0 L v D) (xc : aX wc w dG) (hge : wc.heap.size <= pe /\ pe < pt /\ pt < p /\ p < ps /\ ps < pv) (oE : cG w pe (vL v)) (oV : cG w pv (kvL q)) (hW : Ws w (fun b => ps < b /\ b ≠ pv) p B)
 (hcc : ∀ k, k < 3 -> (L k)[i]? = some (cc k) /\ oJ k (kv q k) (cc k)) (hB : B.length <= 90000000)
 (hk : ∀ (w' : anV), Ws w' (fun b => ps < b /\ b ≠ pv) p (B ++ (vb q cc 0 ++ vb q cc 2 ++ vb q cc 1)) -> aX w w' (fun y => y = p ∨ (ps < y /\ y ≠ pv)) -> k4 lv (.pointer (some ⟨pe, 0, none⟩)) (.pointer (some ⟨pt, 0, none⟩)) (.pointer (some ⟨p, 0, none⟩)) (.pointer (some ⟨ps, 0, none⟩)) (.int .i64 i) w') :
 mT k4 lv (.pointer (some ⟨pe, 0, none⟩)) (.pointer (some ⟨pt, 0, none⟩)) (.pointer (some ⟨p, 0, none⟩)) (.pointer (some ⟨ps, 0, none⟩)) (.int .i64 i) (.pointer (some ⟨pv, 0, none⟩)) (.agg #[.int .i64 0, .int .i64 2, .int .i64 1]) (.int .i64 0) w := by
 have hpv := oV.lt
 unfold mT
 refine cO.rule (fun m (x : anW) w' => ∃ (j : Nat), m = j /\ j <= 3 /\ x = .int .i64 (3 - j : Nat) /\ Ws w' (fun b => ps < b /\ b ≠ pv) p (B ++ W0 (vb q cc) (3 - j)) /\ (W0 (vb q cc) (3 - j)).length <= 31 * (3 - j) /\ aX w w' (fun y => y = p ∨ (ps < y /\ y ≠ pv))) 3
  ⟨3, rfl, aiU _, rfl, by simpa [W0] using hW, by simp [W0], aX.refl _ _⟩ ?_
 rintro j x w1 ⟨m, rfl, hj, rfl, hW1, hlen, x1⟩
 unfold nG
 rcases j with _ | j
 .have d1 : decide (((3 - 0 : Nat) : Int) < 3) = false := rfl
  simp (disch := omega) only [aC, bD, d1, bK, aW, aA, aD]
  exact hk _ hW1 x1
 obtain ⟨r, hr⟩ : ∃ r, r = 2 - j := ⟨_, rfl⟩
 have hr3 : r < 3 := by omega
 have ek : ((3 - (j + 1) : Nat) : Int) = (r : Int) := by omega
 have ek2 : 3 - (j + 1) = r := by omega
 have ek3 : 3 - j = r + 1 := by omega
 have d1 : decide ((r : Int) < 3) = true := by simp; omega
 have hx : (#[Value.int .i64 0, .int .i64 2, .int .i64 1] : Array anW)[r]? = some (.int .i64 (C9 r : Nat)) := by
  rcases (show r = 0 ∨ r = 1 ∨ r = 2 by omega) with rfl | rfl | rfl <;> rfl
 have hk3 := Nq r
 obtain ⟨k, hkk⟩ : ∃ k, k = C9 r := ⟨_, rfl⟩
 rw [ek]
 rw [ek2] at hW1 hlen
 have hOS := Yk (vb q cc) hr3
 rw [<- hkk] at hx hk3 hOS
 obtain ⟨hck, hcv⟩ := hcc k hk3
 have xc1 : aX wc w1 dG := xc.trans x1 fun b hb h => by have := xc.size; omega
 have hC1 := hCc.ext xc1 (fun _ _ _ h => h)
 have oE1 := oE.ext x1 (by omega)
 have oV1 := oV.ext x1 (by omega)
 obtain ⟨b, off, c', ev, hcell⟩ := Y9 hC1 hk3 hck
 have cE := oE1.cell (off := k)
 rw [X1 _ hk3, ev] at cE
 have hiL : i < (L k).length := by
  rcases ajI i (L k).length with h | h
  .exact h
  .rw [ajJ h] at hck; cases hck
 simp (disch := omega) only [aC, bD, d1, DT, aiM, hx, aI, bK, aW, aA, uI, aiR, Ti, sS, dU, cE, dS, cP, hcell, aG]
 refine (ZC (hg.ext xc1) hk3 hcv.1).mono ?_
 rintro rr w2 ⟨rfl, x2⟩
 have cV := (oV1.ext x2 (fun h => h)).cell (off := k)
 have hkv : (kvL q)[k]? = some (.int .u32 (kv q k : Nat)) := by
  rcases (show k = 0 ∨ k = 1 ∨ k = 2 by omega) with rfl | rfl | rfl <;> rfl
 rw [hkv] at cV
 have hcl := hcv.lt hk3
 have hc1 := hcv.2.1
 have ha := RE hk3 (cc k)
 have hvb : vb q cc k = eD (kv q k - (oY k).getD (cc k) 0) ((iM k).getD (cc k) 0) := rfl
 have e1 : (r : Int) + 1 = ((3 - j : Nat) : Int) := by omega
 generalize (oY k).getD (cc k) 0 = bg at *
 generalize (iM k).getD (cc k) 0 = ad at *
 obtain ⟨y, hy⟩ : ∃ y, y = kv q k - bg := ⟨_, rfl⟩
 rw [<- hy] at hvb
 have es : IntKind.u32.wrap (((kv q k : Nat) : Int) - (bg : Int)) = (y : Int) := by rw [w32 (by omega) (by omega)]; omega
 have ey : IntKind.u64.wrap (y : Int) = (y : Int) := jC (by omega) (by omega)
 simp (disch := omega) only [Wv, Ww, WA, aA, cV, aI, dZ, es, nV, ey]
 refine (RG (x := y) (n := ad) (hW1.ext x2 (fun h => h) (fun _ _ h => h)) (fun b hb => by have := x2.size; have := x1.size; omega) (by omega) (by omega) (by rw [aiO]; omega)).mono ?_
 rintro rr w3 ⟨rfl, hW3, x3⟩
 simp (disch := omega) only [e1]
 rw [ajB, <- hvb, <- hOS, <- ek3] at hW3
 refine ⟨j, by omega, j, rfl, by omega, rfl, hW3, ?_, (x1.more x2).seq x3⟩
 rw [ek3, hOS, aiO, hvb, bR]; omega
theorem ZT {k6 : K1} {pt p ps : Nat} {t : Nat -> TT} {a : Nat -> Option Addr} {st : Nat -> Nat} {B : List Bool} {w : anV} (hge : pt < p /\ p < ps) (oT : cG w pt (c6 t a)) (oS : cG w ps (Pj st)) (hW : Ws w (fun b => ps < b) p B) (hlg : ∀ k, k < 3 -> (t k).1 <= 9) (hst : ∀ k, k < 3 -> st k < 1000) (hB : B.length <= 90000000)
 (hk : ∀ (w' : anV), Ws w' (fun b => ps < b) p (B ++ eD (st 2) (t 2).1 ++ eD (st 1) (t 1).1 ++ eD (st 0) (t 0).1) -> aX w w' (fun y => y = p ∨ ps < y) -> k6 (.pointer (some ⟨p, 0, none⟩)) w') :
 nC k6 (.pointer (some ⟨pt, 0, none⟩)) (.pointer (some ⟨p, 0, none⟩)) (.pointer (some ⟨ps, 0, none⟩)) (.agg #[.int .i64 2, .int .i64 1, .int .i64 0]) (.int .i64 0) w := by
 have hps := oS.lt
 have hsum : ∃ f : Nat -> List Bool, f 0 = B /\ f 1 = B ++ eD (st 2) (t 2).1 /\ f 2 = B ++ eD (st 2) (t 2).1 ++ eD (st 1) (t 1).1 /\ f 3 = B ++ eD (st 2) (t 2).1 ++ eD (st 1) (t 1).1 ++ eD (st 0) (t 0).1 := by
  exact ⟨fun r => if r = 0 then B else if r = 1 then B ++ eD (st 2) (t 2).1 else if r = 2 then B ++ eD (st 2) (t 2).1 ++ eD (st 1) (t 1).1 else B ++ eD (st 2) (t 2).1 ++ eD (st 1) (t 1).1 ++ eD (st 0) (t 0).1, rfl, rfl, rfl, rfl⟩
 obtain ⟨f, f0, f1, f2, f3⟩ := hsum
 have hf : ∀ r, r < 3 -> f (r + 1) = f r ++ eD (st (2 - r)) (t (2 - r)).1 := fun r hr => by
  rcases (show r = 0 ∨ r = 1 ∨ r = 2 by omega) with rfl | rfl | rfl
  .rw [f1, f0]
  .rw [f2, f1]
  .rw [f3, f2]
 rw [<- f3] at hk
 unfold nC
 refine cO.rule (fun m (x : anW) w' => ∃ (j : Nat), m = j /\ j <= 3 /\ x = .int .i64 (3 - j : Nat) /\ Ws w' (fun b => ps < b) p (f (3 - j)) /\ (f (3 - j)).length <= B.length + 9 * (3 - j) /\ aX w w' (fun y => y = p ∨ ps < y)) 3
  ⟨3, rfl, aiU _, rfl, by rw [show 3 - 3 = 0 from rfl, f0]; exact hW, by rw [show 3 - 3 = 0 from rfl, f0]; omega, aX.refl _ _⟩ ?_
 rintro j x w1 ⟨m, rfl, hj, rfl, hW1, hlen, x1⟩
 unfold nH
 rcases j with _ | j
 .have d1 : decide (((3 - 0 : Nat) : Int) < 3) = false := rfl
  simp (disch := omega) only [aC, bD, d1, bK, aW, aA, true_and, aD]
  exact hk _ hW1 x1
 obtain ⟨r, hr⟩ : ∃ r, r = 2 - j := ⟨_, rfl⟩
 have hr3 : r < 3 := by omega
 have ek : ((3 - (j + 1) : Nat) : Int) = (r : Int) := by omega
 have ek2 : 3 - (j + 1) = r := by omega
 have ek3 : 3 - j = r + 1 := by omega
 have d1 : decide ((r : Int) < 3) = true := by simp; omega
 have hx : (#[Value.int .i64 2, .int .i64 1, .int .i64 0] : Array anW)[r]? = some (.int .i64 (2 - r : Nat)) := by
  rcases (show r = 0 ∨ r = 1 ∨ r = 2 by omega) with rfl | rfl | rfl <;> rfl
 have hfr := hf r hr3
 obtain ⟨k, hkk⟩ : ∃ k, k = 2 - r := ⟨_, rfl⟩
 have hk3 : k < 3 := by omega
 rw [ek]
 rw [ek2] at hW1 hlen
 rw [<- hkk] at hx hfr
 have hlgk := hlg k hk3
 have hstk := hst k hk3
 have oT1 := eP (oT.ext x1 (by omega))
 have oS1 := eP (oS.ext x1 (by omega))
 have cS := oS1.cell (off := k)
 rw [T4 _ hk3] at cS
 have cT := oT1.cell (off := k * 2)
 have hcT : (c6 t a)[k * 2]? = some (.int .i64 (t k).1) := by
  rcases (show k = 0 ∨ k = 1 ∨ k = 2 by omega) with rfl | rfl | rfl <;> rfl
 rw [hcT] at cT
 have ey : IntKind.u64.wrap ((st k : Nat) : Int) = ((st k : Nat) : Int) := jC (by omega) (by omega)
 have e1 : (r : Int) + 1 = ((3 - j : Nat) : Int) := by omega
 simp (disch := omega) only [aC, bD, d1, DT, aiM, hx, aI, bK, aW, aA, true_and, AM, aiR, cW, Hb, cP, cS, cT, eN, ey, aG]
 refine (RG (x := st k) (n := (t k).1) (hW1.ext (aX.dr w1 dG) (fun h => h) (fun _ _ h => h)) (fun b hb => by have h1 : (dr w1).heap.size = w1.heap.size := rfl
                                                                                                             have := x1.size; omega) (by omega) (by omega) (by omega)).mono ?_
 rintro rr w3 ⟨rfl, hW3, x3⟩
 simp (disch := omega) only [e1]
 rw [<- hfr, <- ek3] at hW3
 refine ⟨j, by omega, j, rfl, by omega, rfl, hW3, ?_, x1.seq ((aX.dr _ _).seq x3)⟩
 rw [ek3, hfr, aiO, bR]; omega
def Uy (t : Nat -> TT) (st : Nat -> Nat) (X : List Bool) : List Bool := X ++ eD (st 2) (t 2).1 ++ eD (st 1) (t 1).1 ++ eD (st 0) (t 0).1
def agV (w : anV) (base : Nat) (l : List Sq) (t : Nat -> TT) (r : anW) : Prop :=
 ∃ bv bytes X st, r = .tuple #[bv, .int .i64 0] /\ Bs w bv bytes /\ VK bv base w.heap.size /\ Qk (Uy t st X ++ [true]) bytes /\ Enc (t 0).2 (t 1).2 (t 2).2 l (st 0) (st 1) (st 2) X /\ (∀ k, k < 3 -> st k < (t k).2.length) /\ X.length <= 200 * l.length
theorem Ws.wr {w : anV} {S : Nat -> Prop} {p : Nat} {B : List Bool} (h : Ws w S p B) : Wr w 0 p B := by
 have h1 := h.turn (T := fun b => 0 <= b /\ b ≠ p) (fun h => h.2 rfl) (fun b hb _ => ⟨alM _, fun e => h.1 (e ▸ hb)⟩)
 obtain ⟨h0, v, bytes, a, b, c⟩ := h1
 exact ⟨alM _, v, bytes, a, b, c⟩
theorem Uv (w : anV) : aU pg lG #[] w (fun r w' => r = .pointer (some ⟨w.heap.size, 0, none⟩) /\ w'.heap.size = w.heap.size + 1 /\ Ws w' (fun _ => False) w.heap.size [] /\ aX w w' dG) := by
 refine Cm ?_
 unfold C2 qZ
 simp (disch := omega) only [aC, IU, aA]
 refine hY fun w1 o1 x1 s1 => ?_
 simp only [Value.cells] at o1
 exact ⟨rfl, by omega, ⟨fun h => h, _, [], o1, ⟨rfl, .inl ⟨rfl, rfl⟩⟩, VV⟩, x1⟩
theorem WL {q : Sq} {k s t : Nat} {L : List T3} {cc : Nat -> Nat} {u : List Bool} {last : Bool} (hc : oJ k (kv q k) (cc k)) (h : Vb last L (cc k) s t u) : ValB k L s (kv q k) (vb q cc k) := by
 obtain ⟨⟨e, he, hes⟩, _⟩ := h
 exact ⟨cc k, e, hc, he, hes, rfl⟩
theorem aaL (q : Sq) (cc : Nat -> Nat) {k : Nat} (hk : k < 3) : (vb q cc k).length <= 31 := by
 unfold vb; rw [bR]; exact RE hk _
theorem CI {last : Bool} {L : List T3} {c s t : Nat} {u : List Bool} (hL : Low L) (h : Vb last L c s t u) : u.length <= 20 := by
 obtain ⟨_, h2⟩ := h
 split at h2
 .rw [h2]; simp
 .obtain ⟨e, n, x, he, hn, _, _, rfl⟩ := h2
  obtain ⟨m, h3, h4, _⟩ := hL _ (alD he)
  rw [bR]; omega
theorem Zq {last : Bool} {L : List T3} {c s t : Nat} {u : List Bool} (h : Vb last L c s t u) : s < L.length := by
 obtain ⟨⟨e, he, _⟩, _⟩ := h
 rcases ajI s L.length with h | h
 .exact h
 .rw [ajJ h] at he; cases he
theorem ZB {lv : anW} {l : List Sq} {L : Nat -> List Nat} {v : Nat -> anW} {D : Nat -> Nat -> Prop} {t : Nat -> TT} {a : Nat -> Option Addr} {w : anV} (hg : nX w) (h : Cl w 3 lv l.length (MT l)) (h0 : 0 < l.length) (hl : l.length <= 10000) (hC : C3 w 0 L v D) (hK : ∀ k, k < 3 -> M6 k l (L k)) (hT : Gc w t a)
 (hG : ∀ k, k < 3 -> uM k (t k) /\ R4 (t k).2 /\ ∀ c ∈ L k, ∃ e ∈ (t k).2, e.1 = (c : Int)) :
 aU pg pS #[lv, .agg (vL v).toArray, .agg (c6 t a).toArray] w (fun r w' => agV w' w.heap.size l t r /\ aX w w' dG) := by
 refine Jl ?_
 obtain ⟨RR, hRR⟩ : ∃ RR : anW -> anV -> Prop, RR = fun r w' => agV w' w.heap.size l t r /\ aX w w' dG := ⟨_, rfl⟩
 rw [<- hRR]
 have hf := h
 obtain ⟨la, lc, rfl, _⟩ := hf
 unfold G0 rQ rC
 refine hY fun w1 o1 x1 s1 => ?_
 refine hY fun w2 o2 x2 s2 => ?_
 obtain ⟨y0, y1, y2, f0, f1, f2⟩ := hC.form
 have o1 : cG w1 w.heap.size (vL v) := by
  have e : (Value.agg (vL v).toArray).cells.toList = vL v := by unfold vL; rw [f0, f1, f2] <;> rfl
  rw [e] at o1
  exact o1
 have o2 : cG w2 w1.heap.size (c6 t a) := o2
 refine (Uv w2).mono ?_
 rintro r w3 ⟨rfl, hlt3, hW3, x3⟩
 refine SA fun w4 o4 x4 s4 => ?_
 have o4 : cG w4 w3.heap.size (Pj (fun _ => 0)) := o4
 have x04 : aX w w4 dG := ((x1.seq x2).seq x3).seq x4
 obtain ⟨pe, hpe⟩ : ∃ pe, pe = w.heap.size := ⟨_, rfl⟩
 obtain ⟨pt, hpt⟩ : ∃ pt, pt = w1.heap.size := ⟨_, rfl⟩
 obtain ⟨p, hp⟩ : ∃ p, p = w2.heap.size := ⟨_, rfl⟩
 obtain ⟨ps, hps⟩ : ∃ ps, ps = w3.heap.size := ⟨_, rfl⟩
 have oE : cG w4 pe (vL v) := by rw [hpe]; exact ((o1.ext x2 (fun h => h)).ext x3 (fun h => h)).ext x4 (fun h => h)
 have oT : cG w4 pt (c6 t a) := by rw [hpt]; exact (o2.ext x3 (fun h => h)).ext x4 (fun h => h)
 have hW4 : Ws w4 (fun b => ps < b) p [] := by
  have h1 := hW3.ext x4 (fun h => h) (fun _ h => h.elim)
  rw [hp]
  exact h1.turn (by omega) (fun b h => h.elim)
 rw [<- hpe, <- hpt, <- hp, <- hps]
 rw [<- hps] at o4
 have hge : w.heap.size <= pe /\ pe < pt /\ pt < p /\ p < ps := ⟨by omega, by omega, by omega, by omega⟩
 have hlg : ∀ k, k < 3 -> (t k).1 <= 9 := fun k hk => (hG k hk).1.lg
 unfold sB rP sF
 simp (disch := omega) only [aC, dF, aA, dZ, aW]
 unfold rO sE
 refine cO.rule (fun k (x : anW) w' => ∃ (m : Nat) (st : Nat -> Nat) (B : List Bool), k = m /\ m <= l.length /\ x = .int .i64 ((m : Int) - 1) /\ cG w' ps (Pj st) /\ Ws w' (fun b => ps < b) p B /\ (m < l.length -> Enc (t 0).2 (t 1).2 (t 2).2 (l.drop m) (st 0) (st 1) (st 2) B /\ ∀ k, k < 3 -> st k < (t k).2.length) /\ (m = l.length -> B = []) /\ B.length <= 200 * (l.length - m) /\ aX w4 w' (fun y => y = p ∨ y = ps ∨ ps < y)) l.length
  ⟨l.length, fun _ => 0, [], rfl, aiU _, rfl, o4, hW4, fun h => by omega, fun _ => rfl, by simp, aX.refl _ _⟩ ?_
 rintro k x w5 ⟨m, st, B, rfl, hm, rfl, o5, hW5, hEn, hE0, hBl, x5⟩
 unfold mF sK
 have z04 := x04.size
 have x05 : aX w w5 dG := x04.trans x5 fun b hb h => by omega
 have oE5 := oE.ext x5 (by omega)
 have oT5 := oT.ext x5 (by omega)
 rcases k with _ | i
 .obtain ⟨hEn, hst⟩ := hEn h0
  rw [aiY] at hEn
  have d1 : decide ((0 : Int) <= ((0 : Nat) : Int) - 1) = false := rfl
  simp (disch := omega) only [aC, rX, d1, aA, aD]
  unfold tP tW tY
  simp (disch := omega) only [aC, sX, aA]
  unfold tS
  have hst' : ∀ k, k < 3 -> st k < 1000 := fun k hk => by
   have h1 := hst k hk
   have h2 : (t k).2.length <= 512 := by rw [(hG k hk).1.len]; exact ajA (by omega) (hlg k hk)
   omega
  refine ZT ⟨hge.2.2.1, hge.2.2.2⟩ oT5 o5 hW5 hlg hst' (by omega) fun w6 hW6 x6 => ?_
  unfold nI
  have hlen : (B ++ eD (st 2) (t 2).1 ++ eD (st 1) (t 1).1 ++ eD (st 0) (t 0).1).length <= 10000000 := by
   simp only [aiO, bR]
   have := hlg 0 (by omega); have := hlg 1 (by omega); have := hlg 2 (by omega)
   omega
  refine (Zp hW6.wr hlen).mono ?_
  rintro r w7 ⟨bytes, hb7, hh, hat, x7⟩
  rw [hRR]
  have x06 : aX w w6 dG := x05.trans x6 fun b hb h => by omega
  have z6 := x06.size
  refine ⟨⟨r, bytes, B, st, rfl, hb7, fun M hM => hat M fun b h1 h2 => hM b (by omega) h2, hh, hEn, hst, by omega⟩, x06.seq x7⟩
 .have d1 : decide ((0 : Int) <= ((i + 1 : Nat) : Int) - 1) = true := by simp
  have e1 : ((i + 1 : Nat) : Int) - 1 = (i : Int) := by omega
  have d2 : decide ((0 : Int) <= (i : Int)) = true := by simp
  rw [e1]
  simp (disch := omega) only [aC, rX, d2, aA, aG]
  unfold sJ sG BB rR rZ
  simp (disch := omega) only [aC, sX, aA]
  unfold sH
  obtain ⟨q, hq⟩ : ∃ q, l[i]? = some q := ⟨_, aiN hm⟩
  have hcx : ∃ cc : Nat -> Nat, ∀ k, k < 3 -> (L k)[i]? = some (cc k) := by
   have hj : ∀ k, k < 3 -> ∃ c, (L k)[i]? = some c := fun k hk => ⟨_, aiN (by rw [(hK k hk).1]; exact hm)⟩
   obtain ⟨c0, h0⟩ := hj 0 (by omega)
   obtain ⟨c1, h1⟩ := hj 1 (by omega)
   obtain ⟨c2, h2⟩ := hj 2 (by omega)
   refine ⟨fun k => if k = 0 then c0 else if k = 1 then c1 else c2, fun k hk => ?_⟩
   rcases (show k = 0 ∨ k = 1 ∨ k = 2 by omega) with rfl | rfl | rfl
   .exact h0
   .exact h1
   .exact h2
  obtain ⟨cc, hcc⟩ := hcx
  have hcv : ∀ k, k < 3 -> oJ k (kv q k) (cc k) := fun k hk => (hK k hk).2 i q _ hq (hcc k hk)
  refine U8 (n := l.length) (cc := cc) hT hC x05 hge oE5 oT5 o5 hW5 hm (by omega) (fun k hk => ⟨hcc k hk, (hcv k hk).1⟩) (fun k hk => ⟨(hG k hk).1, (hG k hk).2.1, (hG k hk).2.2 _ (alD (hcc k hk))⟩) (fun h => (hEn h).2) (by omega) fun w6 st' us o6 hS hW6 x6 => ?_
  have z5 := x5.size
  have x06 : aX w w6 dG := x05.trans x6 fun b hb h => by omega
  unfold rH rT
  obtain ⟨b, off, c', e, lq⟩ := Np (Fz h x06 (bY _) (by omega)) hq
  cases e
  have lq6 := lq w6 (fun _ => rfl)
  simp only [I4] at lq6
  simp (disch := omega) only [aC, jF, aiM, sX, aA, lq6]
  refine (Wm q _).mono ?_
  rintro r w7 ⟨rfl, x7⟩
  refine Mj fun w8 o8 x8 s8 => ?_
  refine Kd o8 rfl (by simp [one, kvL]) (by simp) fun w9 o9 x9 s9 => ?_
  obtain ⟨pv, hpv⟩ : ∃ pv, pv = w7.heap.size := ⟨_, rfl⟩
  rw [<- hpv] at o9 ⊢
  have o9 : cG w9 pv (kvL q) := o9
  have x69 : aX w6 w9 dG := x7.seq (x8.new x9 (aiU _))
  have z7 := x7.size
  have hps6 := o6.lt
  have x09 := x06.seq x69
  have hW9 : Ws w9 (fun b => ps < b /\ b ≠ pv) p (B ++ (us 1 ++ us 2 ++ us 0)) := by
   have h1 := hW6.turn (T := fun b => ps < b /\ b < w6.heap.size) (by omega) (fun b hb hl => ⟨hb, hl⟩)
   have h2 := h1.ext x69 (fun h => h) (fun _ _ h => h)
   exact h2.turn (by omega) (fun b hb _ => ⟨hb.1, by omega⟩)
  unfold rG
  have oE9 := (oE5.ext x6 (by omega)).ext x69 (fun h => h)
  refine YT (q := q) (cc := cc) (i := i) hg hC x09 ⟨hge.1, hge.2.1, hge.2.2.1, hge.2.2.2, by omega⟩ oE9 o9 hW9 (fun k hk => ⟨hcc k hk, hcv k hk⟩) ?_ fun w10 hW10 x10 => ?_
  .have u0 := CI (hG 0 (by omega)).1.low (hS 0 (by omega))
   have u1 := CI (hG 1 (by omega)).1.low (hS 1 (by omega))
   have u2 := CI (hG 2 (by omega)).1.low (hS 2 (by omega))
   simp only [aiO]; omega
  unfold nD
  simp (disch := omega) only [aC, dZ, aW, aA]
  have u0 := CI (hG 0 (by omega)).1.low (hS 0 (by omega))
  have u1 := CI (hG 1 (by omega)).1.low (hS 1 (by omega))
  have u2 := CI (hG 2 (by omega)).1.low (hS 2 (by omega))
  have v0 := aaL q cc (k := 0) (by omega)
  have v1 := aaL q cc (k := 1) (by omega)
  have v2 := aaL q cc (k := 2) (by omega)
  have hdr : l.drop i = q :: l.drop (i + 1) := by
   rw [akA hm]
   congr 1
   rw [aiN hm] at hq
   exact ajG hq
  have xz6 := x69.size
  have x6z : aX w4 w10 (fun y => y = p ∨ y = ps ∨ ps < y) := ((x5.seq x6).more x69).seq (x10.mono fun _ _ h => by
   rcases h with h | h
   .exact .inl h
   .exact .inr (.inr h.1))
  have o10 : cG w10 ps (Pj st') := (o6.ext x69 (fun h => h)).ext x10 (by omega)
  refine ⟨i, by omega, i, st', _, rfl, by omega, rfl, o10, hW10.turn (by omega) (fun b hb _ => hb.1), fun _ => ⟨?_, fun k hk => Zq (hS k hk)⟩, fun h => by omega, ?_, x6z⟩
  .have a0 := WL (hcv 0 (by omega)) (hS 0 (by omega))
   have a1 := WL (hcv 1 (by omega)) (hS 1 (by omega))
   have a2 := WL (hcv 2 (by omega)) (hS 2 (by omega))
   rw [hdr]
   by_cases hlast : i + 1 = l.length
   .have hB0 := hE0 hlast
    have hd0 : l.drop (i + 1) = [] := alT (by omega)
    have hus : ∀ k, k < 3 -> us k = [] := fun k hk => by
     have := (hS k hk).2
     rw [decide_eq_true hlast] at this
     exact this
    rw [hB0, hd0, hus 0 (by omega), hus 1 (by omega), hus 2 (by omega)]
    simp only [akC, akM]
    exact Enc.one a0 a1 a2
   .obtain ⟨hEn1, _⟩ := hEn (by omega)
    have hst : ∀ k, k < 3 -> StB (t k).2 (st' k) (st k) (us k) := fun k hk => by
     have := (hS k hk).2
     rw [decide_eq_false hlast] at this
     exact this
    cases hdd : l.drop (i + 1) with
    | nil =>
      have := congrArg List.length hdd
      rw [akG] at this
      simp at this; omega
    | cons p' r' =>
      rw [hdd] at hEn1
      have := Enc.cons hEn1 (hst 1 (by omega)) (hst 2 (by omega)) (hst 0 (by omega)) a0 a1 a2
      simp only [ajB] at this ⊢
      exact this
  .simp only [aiO]; omega
theorem Zh {t : Nat -> TT} {st : Nat -> Nat} {X T : List Bool} {l : List Sq} (hE : Enc (t 0).2 (t 1).2 (t 2).2 l (st 0) (st 1) (st 2) X) (hst : ∀ k, k < 3 -> st k < 2 ^ (t k).1) (hT : T.take (Uy t st X).length = Uy t st X) : runT t T l.length ((Uy t st X).length : Nat) = (l, 0) := by
 unfold Uy at hT ⊢
 obtain ⟨a1, a2, a3⟩ := SW (B := []) hT rfl (hst 0 (by omega))
 obtain ⟨b1, b2, b3⟩ := SW (B := []) a3 rfl (hst 1 (by omega))
 obtain ⟨c1, c2, c3⟩ := SW (B := []) b3 rfl (hst 2 (by omega))
 have := ZN hE c3
 unfold runT
 rw [a1, a2, b1, b2, c1, c2]
 exact this
theorem Yn {t : Nat -> TT} {st : Nat -> Nat} {X : List Bool} {l : List Sq} {bytes : List UInt8} (hE : Enc (t 0).2 (t 1).2 (t 2).2 l (st 0) (st 1) (st 2) X) (hst : ∀ k, k < 3 -> st k < 2 ^ (t k).1) (hh : Qk (Uy t st X ++ [true]) bytes) : Mu t l.length bytes = .ok (l, t) := by
 obtain ⟨h1, h2⟩ := Zn hh
 have h3 := Zh hE hst h2
 unfold Mu
 rw [h1]
 simp only
 rw [h3]
 rfl
def J5 (m : Nat -> Nat) : Nat := m 0 * 64 + m 1 * 16 + m 2 * 4
theorem T9 {m : Nat -> Nat} (hm : ∀ k, k < 3 -> m k <= 3) {k : Nat} (hk : k < 3) : mk2 (J5 m) k = m k := by
 have h0 := hm 0 (by omega); have h1 := hm 1 (by omega); have h2 := hm 2 (by omega)
 unfold mk2 J5
 rcases (show k = 0 ∨ k = 1 ∨ k = 2 by omega) with rfl | rfl | rfl
 .show (m 0 * 64 + m 1 * 16 + m 2 * 4) / 64 % 4 = m 0; omega
 .show (m 0 * 64 + m 1 * 16 + m 2 * 4) / 16 % 4 = m 1; omega
 .show (m 0 * 64 + m 1 * 16 + m 2 * 4) / 4 % 4 = m 2; omega
theorem Yj {m : Nat -> Nat} {c : Nat -> List Int} {t : Nat -> TT} {bs : Nat -> List UInt8} (h : ∀ k : Nat, k < 3 -> MX (k : Int) (c k) (m k : Nat) (t k).1 (t k).2 (bs k)) (o : Nat -> TT) (s : List UInt8) :
 Gq (J5 m) o 3 o (bs 0 ++ (bs 1 ++ (bs 2 ++ s))) = .ok (LN (LN (LN o 0 (t 0)) 1 (t 1)) 2 (t 2), s) := by
 have hm : ∀ k, k < 3 -> m k <= 3 := fun k hk => by have := (h k hk).mode2; omega
 have e0 := T9 hm (k := 0) (by omega)
 have e1 := T9 hm (k := 1) (by omega)
 have e2 := T9 hm (k := 2) (by omega)
 have r0 := (h 0 (by omega)).read (o 0) (bs 1 ++ (bs 2 ++ s))
 have r1 := (h 1 (by omega)).read (o 1) (bs 2 ++ s)
 have r2 := (h 2 (by omega)).read (o 2) s
 rw [Gq]
 simp only [show 2 - 2 = 0 from rfl, e0]
 rw [r0]
 simp only [anI]
 rw [Gq]
 simp only [show 2 - 1 = 1 from rfl, e1]
 rw [r1]
 simp only [anI]
 rw [Gq]
 simp only [show 2 - 0 = 2 from rfl, e2]
 rw [r2]
 simp only [anI]
 rfl
def Yr (n : Nat) (m : Nat -> Nat) (bs : Nat -> List UInt8) (s : List UInt8) : List UInt8 := Rp n ++ (UInt8.ofNat (J5 m) :: (bs 0 ++ (bs 1 ++ (bs 2 ++ s))))
theorem Z4 {l : List Sq} {m : Nat -> Nat} {c : Nat -> List Int} {t : Nat -> TT} {bs : Nat -> List UInt8} {st : Nat -> Nat} {X : List Bool} {s : List UInt8} (h0 : 0 < l.length) (hl : l.length <= 98047) (h : ∀ k : Nat, k < 3 -> MX (k : Int) (c k) (m k : Nat) (t k).1 (t k).2 (bs k))
 (hE : Enc (t 0).2 (t 1).2 (t 2).2 l (st 0) (st 1) (st 2) X) (hst : ∀ k, k < 3 -> st k < (t k).2.length) (hh : Qk (Uy t st X ++ [true]) s) (o : Nat -> TT) :
 ∃ t', Gn (Yr l.length m bs s) o = .ok (l, t') /\ ∀ k, k < 3 -> t' k = t k := by
 have hg : ∀ k, k < 3 -> uM k (t k) := fun k hk => Qa hk (h k hk)
 have hst' : ∀ k, k < 3 -> st k < 2 ^ (t k).1 := fun k hk => by rw [<- (hg k hk).len]; exact hst k hk
 have hm : ∀ k, k < 3 -> m k <= 2 := fun k hk => by have := (h k hk).mode2; omega
 have m0 := hm 0 (by omega); have m1 := hm 1 (by omega); have m2 := hm 2 (by omega)
 have hmod : J5 m < 256 := by unfold J5; omega
 refine ⟨LN (LN (LN o 0 (t 0)) 1 (t 1)) 2 (t 2), ?_, fun k hk => ?_⟩
 .unfold Gn Yr
  rw [YU hl]
  simp only
  rw [if_neg (by omega)]
  unfold VC
  simp only
  rw [Hw hmod, if_neg (by unfold J5; omega), Yj h]
  simp only
  have e0 : LN (LN (LN o 0 (t 0)) 1 (t 1)) 2 (t 2) 0 = t 0 := rfl
  have e1 : LN (LN (LN o 0 (t 0)) 1 (t 1)) 2 (t 2) 1 = t 1 := rfl
  have e2 : LN (LN (LN o 0 (t 0)) 1 (t 1)) 2 (t 2) 2 = t 2 := rfl
  refine Yn (st := st) (X := X) (by rw [e0, e1, e2]; exact hE) (fun k hk => ?_) (by unfold Uy at hh ⊢; rw [e0, e1, e2]; exact hh)
  rcases (show k = 0 ∨ k = 1 ∨ k = 2 by omega) with rfl | rfl | rfl
  .rw [e0]; exact hst' 0 hk
  .rw [e1]; exact hst' 1 hk
  .rw [e2]; exact hst' 2 hk
 .rcases (show k = 0 ∨ k = 1 ∨ k = 2 by omega) with rfl | rfl | rfl <;> rfl
def Cw (w : anV) (p : Nat) (S : Nat -> Prop) (l : List UInt8) : Prop := ¬ S p /\ ∃ v, cG w p [v] /\ Pk w S 1 v l.length (l.map D8)
theorem Cw.ext {w w' : anV} {p : Nat} {S M : Nat -> Prop} {l : List UInt8} (h : Cw w p S l) (x : aX w w' M) (hp : ¬ M p) (hM : ∀ b, S b -> ¬ M b) : Cw w' p S l := by
 obtain ⟨h0, v, h1, h2⟩ := h
 exact ⟨h0, v, h1.ext x hp, FO h2 x hM⟩
theorem Cw.lt {w : anV} {p : Nat} {S : Nat -> Prop} {l : List UInt8} (h : Cw w p S l) : p < w.heap.size := by
 obtain ⟨_, v, h1, _⟩ := h; exact h1.lt
theorem Cw.turn {w : anV} {p : Nat} {S T : Nat -> Prop} {l : List UInt8} (h : Cw w p S l) (hT : ∀ b, S b -> b < w.heap.size -> T b) (hp : ¬ T p) : Cw w p T l := by
 obtain ⟨h0, v, h1, h2, h3⟩ := h
 refine ⟨hp, v, h1, h2, ?_⟩
 rcases h3 with h3 | ⟨b, c, rest, g1, g2, g3, g4, g5⟩
 .exact .inl h3
 .exact .inr ⟨b, c, rest, g1, hT b g2 g3.lt, g3, g4, g5⟩
theorem Kc {w : anV} {S : Nat -> Prop} {sz n : Nat} {v : anW} {l : List anW} (o3 : Pk w S sz v n l) : ∃ a c, v = .slice a n c := by
 rcases o3.2 with ⟨rfl, rfl⟩ | ⟨b, c, rest, rfl, _⟩
 .exact ⟨_, _, rfl⟩
 .exact ⟨_, _, rfl⟩
theorem WT {w : anV} {S : Nat -> Prop} {n : Nat} {v : anW} {l : List anW} (o3 : Pk w S 1 v n l) : Sl w v l := by
 have : uK w 0 1 v n l := ⟨o3.1, by
  rcases o3.2 with h | ⟨b, c, rest, g1, g2, g3⟩
  .exact .inl h
  .exact .inr ⟨b, c, rest, g1, by omega, g3⟩⟩
 exact this.sl
theorem WZ (w : anV) : aU pg oU #[] w (fun r w' => r = .pointer (some ⟨w.heap.size, 0, none⟩) /\ w.heap.size < w'.heap.size /\ Cw w' w.heap.size (fun b => w.heap.size < b) [] /\ aX w w' dG) := by
 refine I5 ?_
 unfold Hl tT
 simp (disch := omega) only [aC, NF, aA]
 refine hY fun w1 o1 x1 s1 => ?_
 simp only [Value.cells] at o1
 exact ⟨rfl, by omega, ⟨by omega, _, o1, ⟨rfl, .inl ⟨rfl, rfl⟩⟩⟩, x1⟩
theorem R9 {p : Nat} {S : Nat -> Prop} {l m : List UInt8} {v : anW} {w : anV} (h : Cw w p S l) (hS : ∀ b, w.heap.size <= b -> S b) (hv : Bs w v m) (hl : l.length + m.length <= 1000000000) :
 aU pg jB #[.pointer (some ⟨p, 0, none⟩), v] w (fun r w' => r = .tuple #[] /\ Cw w' p S (l ++ m) /\ aX w w' (fun y => y = p ∨ S y)) := by
 refine F5 ?_
 unfold B5 oQ
 obtain ⟨h0, v0, o, os⟩ := h
 obtain ⟨va, vc, rfl⟩ := Kc os
 have c0 := o.cell (off := 0)
 simp only [aiP, aiQ] at c0
 have lp := o.lt
 simp (disch := omega) only [aC, J8, ajN, amW, nA, true_and, aA, pE, eL, c0, aI, aG]
 have hcl := hv.cl
 rw [aiX] at hcl
 refine rN (m := m.length) (news := m.map D8) (i := Tryd.t5) Tryd.underlying22 Tryd.underlying22 PH rfl rfl rfl os hcl (Xi _) (fun b hb => hS b hb) (by omega) (by rw [show Tryd.t5.bytes = 1 from rfl]; omega) (by decide) fun v3 w3 o3 x3 => ?_
 have op3 := o.ext x3 h0
 obtain ⟨a3, c3, rfl⟩ := Kc o3
 refine Bg op3 rfl (by simp) fun w4 o4 x4 s4 => ?_
 simp only [aiV, aiW] at o4
 refine ⟨⟨h0, _, o4, ?_⟩, (x3.mono fun y _ h => .inr h).seq (x4.mono fun y _ h => .inl h)⟩
 have := FO o3 x4 (fun b hb h => h0 (h ▸ hb))
 rw [aiO, akN]
 exact this
theorem EA {p x n : Nat} {S : Nat -> Prop} {l : List UInt8} {w : anV} (h : Cw w p S l) (hS : ∀ b, w.heap.size <= b -> S b) (hx : x < 2 ^ 64) (hn : 1 <= n /\ n <= 8) (hl : l.length <= 100000000) :
 aU pg eH #[.pointer (some ⟨p, 0, none⟩), .int .u64 x, .int .i64 n] w (fun r w' => r = .tuple #[] /\ Cw w' p S (l ++ GI x n) /\ aX w w' (fun y => y = p ∨ S y)) := by
 refine Eb ?_
 unfold Bk nN nQ
 have d1 : decide ((n : Int) < 1) = false := by simp; omega
 have d2 : decide ((8 : Int) < (n : Int)) = false := by simp; omega
 simp (disch := omega) only [aC, Bf, ajN, true_and, aA, eU, cD, aiS, if_false, cB, bD, d1, fD, d2, aD]
 unfold nT oD
 refine cO.rule (fun m (t : anW) w' => ∃ i : Nat, m = n - i /\ t = .int .i64 i /\ i <= n /\ Cw w' p S (l ++ GI x i) /\ aX w w' (fun y => y = p ∨ S y)) n
  ⟨0, rfl, rfl, by omega, by rw [GI, akM]; exact h, aX.refl _ _⟩ ?_
 rintro m t w1 ⟨i, rfl, rfl, hi, hw, x1⟩
 unfold kI
 by_cases hlt : i < n
 .have d3 : decide ((i : Int) < (n : Int)) = true := by simp; omega
  have e0 : ((8 : Int) * (i : Int)) = ((8 * i : Nat) : Int) := by omega
  have e1 : (x : Int).fdiv (2 ^ (min (8 * i) IntKind.u64.bits)) = ((x / 256 ^ i : Nat) : Int) := by
   rw [Xz]; exact Lt x (8 * i) (by omega)
  have e2 : IntKind.u8.wrap ((x / 256 ^ i : Nat) : Int) = (((UInt8.ofNat (x / 256 ^ i % 256)).toNat : Nat) : Int) := by
   rw [UInt8.toNat_ofNat']
   generalize x / 256 ^ i = y
   rw [show IntKind.u8.wrap (y : Int) = (y : Int) % 256 from rfl]
   omega
  obtain ⟨c, hc⟩ : ∃ c, c = UInt8.ofNat (x / 256 ^ i % 256) := ⟨_, rfl⟩
  rw [<- hc] at e2
  obtain ⟨h0, v0, o, os⟩ := hw
  obtain ⟨va, vc, rfl⟩ := Kc os
  have c0 := o.cell (off := 0)
  simp only [aiP, aiQ] at c0
  have lp := o.lt
  have hsz := x1.size
  have hpl := xF i x
  rw [aiO, hpl] at os
  rw [aiO, hpl] at c0
  simp (disch := omega) only [aC, bD, d3, nA, Dc, e0, aW, bK, aA, pE, iR, jC, tH, aiM, e1, pZ, e2, eL, c0, aI, aG]
  refine rU (cells := #[.int .u8 c.toNat]) (by decide) (by decide) (by kernel_rfl) fun w2 o2 x2 s2 => ?_
  refine rN (m := 1) (news := [D8 c]) (i := Tryd.t5) Tryd.underlying22 Tryd.underlying22 PH rfl rfl rfl (FO os x2 (fun _ _ h => h)) (o2.cl (off := 0) (l := [D8 c]) (n := 1) rfl (fun i hi => by rw [aiR] <;> rfl)) (by simp [one, D8]) (fun b hb => hS b (by omega)) (by omega) (by rw [show Tryd.t5.bytes = 1 from rfl]; omega) (by decide) fun v3 w3 o3 x3 => ?_
  have x13 : aX w1 w3 S := (x2.mono fun _ _ h => h.elim).seq x3
  have op3 := o.ext x13 h0
  obtain ⟨a3, c3, rfl⟩ := Kc o3
  refine Bg op3 rfl (by simp) fun w4 o4 x4 s4 => ?_
  simp only [aiV, aiW] at o4
  have x14 : aX w1 w4 (fun y => y = p ∨ S y) := (x13.mono fun y _ h => .inr h).seq (x4.mono fun y _ h => .inl h)
  refine ⟨n - (i + 1), by omega, i + 1, rfl, rfl, by omega, ⟨h0, _, o4, ?_⟩, x1.seq x14⟩
  have := FO o3 x4 (fun b hb h => h0 (h ▸ hb))
  rw [Tt, <- hc, <- ajB, akN, aiO, aiO, xF]
  exact this
 .have d3 : decide ((i : Int) < (n : Int)) = false := by simp; omega
  obtain rfl : i = n := by omega
  simp (disch := omega) only [aC, bD, d3, nA, Dc, aW, bK, aA, pE, iR, jC, tH, pZ, eL, aD]
  exact ⟨hw, x1⟩
theorem Zz {p : Nat} {S : Nat -> Prop} {l : List UInt8} {w : anV} (h : Cw w p S l) (hl : l.length <= 1000000000) :
 aU pg nJ #[.pointer (some ⟨p, 0, none⟩)] w (fun r w' => uK w' w.heap.size 1 r l.length (l.map D8) /\ aX w w' dG) := by
 refine Hz ?_
 unfold Ep rL
 obtain ⟨h0, v0, o, os⟩ := h
 obtain ⟨va, vc, rfl⟩ := Kc os
 have c0 := o.cell (off := 0)
 simp only [aiP, aiQ] at c0
 simp (disch := omega) only [aC, Bf, ajN, nA, aA, pE, eL, c0, aI, aD]
 exact Lo (WT os) hl
def Yp (m : Nat -> Nat) (k : Nat) : Nat := if k = 0 then 0 else if k = 1 then m 0 * 64 else if k = 2 then m 0 * 64 + m 1 * 16 else m 0 * 64 + m 1 * 16 + m 2 * 4
theorem Y0 {m : Nat -> Nat} {k x : Nat} (hk : k < 3) (hm : ∀ i, i < k -> m i <= 2) (hx : x <= 2) : Yp m k ||| (x * 2 ^ (6 - 2 * k)) = Yp (UP m k x) (k + 1) /\ Yp m k < 256 := by
 have h1 : ∀ x, x < 3 -> 0 ||| (x * 64) = x * 64 := by decide
 have h2 : ∀ a, a < 3 -> ∀ x, x < 3 -> (a * 64) ||| (x * 16) = a * 64 + x * 16 := by decide
 have h3 : ∀ a, a < 3 -> ∀ b, b < 3 -> ∀ x, x < 3 -> (a * 64 + b * 16) ||| (x * 4) = a * 64 + b * 16 + x * 4 := by decide
 rcases (show k = 0 ∨ k = 1 ∨ k = 2 by omega) with rfl | rfl | rfl
 .exact ⟨h1 x (by omega), by unfold Yp; simp⟩
 .have a := hm 0 (by omega)
  exact ⟨h2 (m 0) (by omega) x (by omega), by show m 0 * 64 < 256; omega⟩
 .have a := hm 0 (by omega)
  have b := hm 1 (by omega)
  exact ⟨h3 (m 0) (by omega) (m 1) (by omega) x (by omega), by show m 0 * 64 + m 1 * 16 < 256; omega⟩
def Td (bs : Nat -> List UInt8) (k : Nat) : List UInt8 := if k = 0 then [] else if k = 1 then bs 0 else if k = 2 then bs 0 ++ bs 1 else bs 0 ++ bs 1 ++ bs 2
def upB (bs : Nat -> List UInt8) (k : Nat) (x : List UInt8) : Nat -> List UInt8 := fun i => if i = k then x else bs i
theorem Yc {bs : Nat -> List UInt8} {k : Nat} (hk : k < 3) (x : List UInt8) : Td (upB bs k x) (k + 1) = Td bs k ++ x := by
 rcases (show k = 0 ∨ k = 1 ∨ k = 2 by omega) with rfl | rfl | rfl <;> simp [Td, upB]
def TbE (w : anV) (E : Nat -> Prop) (o : Nat -> TT) (a : Nat -> Option Addr) : Prop := ∀ k, k < 3 -> (o k = (0, []) /\ a k = none) ∨ ∃ b, E b /\ Xb w 0 b (o k).1 (o k).2 (tvL (o k) (a k))
theorem TbE.tb {w : anV} {E : Nat -> Prop} {o : Nat -> TT} {a : Nat -> Option Addr} (h : TbE w E o a) : Gc w o a := fun k hk => by
 rcases h k hk with ⟨h1, h2⟩ | ⟨b, _, h⟩
 .left; rw [h1, h2]; exact ⟨rfl, rfl⟩
 .exact .inr ⟨b, h⟩
theorem TbE.ext {w w' : anV} {E M : Nat -> Prop} {o : Nat -> TT} {a : Nat -> Option Addr} (h : TbE w E o a) (x : aX w w' M) (hM : ∀ b, E b -> ¬ M b) : TbE w' E o a := fun k hk => by
 rcases h k hk with h | ⟨b, hb, h1, h2, h3⟩
 .exact .inl h
 .exact .inr ⟨b, hb, h1, h2, h3.ext x (hM b hb)⟩
theorem C3.extD {w w' : anV} {base : Nat} {L : Nat -> List Nat} {v : Nat -> anW} {D : Nat -> Nat -> Prop} {M : Nat -> Prop} (h : C3 w base L v D) (x : aX w w' M) (hM : ∀ k, k < 3 -> ∀ b, D k b -> ¬ M b) : C3 w' base L v D :=
 ⟨fun k hk => (h.row k hk).ext x fun b hb => hM k hk b hb, fun k hk b hb => ⟨(h.bd k hk b hb).1, by have := (h.bd k hk b hb).2; have := x.size; omega⟩, h.sep⟩
def iL (L : List Nat) : List Int := L.map fun (n : Nat) => (n : Int)
theorem aaG {k1 : K6} {RR : K1} {lv wv : anW} {pe pt : Nat} {L : Nat -> List Nat} {v : Nat -> anW} {D : Nat -> Nat -> Prop} {w : anV} (hg : nX w) (oE : cG w pe (vL v)) (hC : C3 w 0 L v D) (oT : cG w pt (c6 (fun _ => (0, [])) (fun _ => none))) (hpe : pe ≠ pt) (hD : ∀ k, k < 3 -> ∀ b, D k b -> b ≠ pt) (x0 : ∀ w', aX w w' (fun y => y = pt) -> nX w')
 (hL : ∀ k, k < 3 -> L k ≠ [] /\ (L k).length <= 10000 /\ ∀ c ∈ L k, c < iO k)
 (hk : ∀ (w' : anV) (t : Nat -> TT) (a : Nat -> Option Addr) (m : Nat -> Nat) (bs : Nat -> List UInt8) (tv : anW), (∀ k : Nat, k < 3 -> MX (k : Int) (iL (L k)) (m k : Nat) (t k).1 (t k).2 (bs k)) -> cG w' pt (c6 t a) -> Gc w' t a -> Bs w' tv (bs 0 ++ bs 1 ++ bs 2) -> VK tv w.heap.size w'.heap.size -> aX w w' (fun y => y = pt) -> k1 lv wv (.pointer (some ⟨pe, 0, none⟩)) (.pointer (some ⟨pt, 0, none⟩)) (.int .i64 (J5 m)) tv w') :
 pA k1 RR lv wv (.pointer (some ⟨pe, 0, none⟩)) (.pointer (some ⟨pt, 0, none⟩)) (.int .i64 0) (.slice none 0 0) (.int .i64 0) w := by
 have hpt := oT.lt
 unfold pA
 refine cO.rule (fun n (x : anW × anW × anW) w' => ∃ (j : Nat) (t : Nat -> TT) (a : Nat -> Option Addr) (m : Nat -> Nat) (bs : Nat -> List UInt8) (tv : anW) (E Dt : Nat -> Prop), n = j /\ j <= 3 /\ x = (.int .i64 (Yp m (3 - j) : Nat), tv, .int .i64 (3 - j : Nat)) /\
  (∀ k : Nat, k < 3 - j -> MX (k : Int) (iL (L k)) (m k : Nat) (t k).1 (t k).2 (bs k)) /\ (∀ k, k < 3 -> ¬ k < 3 - j -> t k = (0, []) /\ a k = none) /\ cG w' pt (c6 t a) /\ TbE w' E t a /\ Pk w' Dt 1 tv (Td bs (3 - j)).length ((Td bs (3 - j)).map D8) /\ (Td bs (3 - j)).length <= 1000 * (3 - j) /\
  (∀ b, E b -> w.heap.size <= b /\ b < w'.heap.size) /\ (∀ b, Dt b -> w.heap.size <= b /\ b < w'.heap.size) /\ (∀ b, Dt b -> ¬ E b) /\ aX w w' (fun y => y = pt)) 3
  ⟨3, fun _ => (0, []), fun _ => none, fun _ => 0, fun _ => [], _, fun _ => False, fun _ => False, rfl, aiU _, rfl, fun k h => by omega, fun _ _ _ => ⟨rfl, rfl⟩, oT, fun _ _ => .inl ⟨rfl, rfl⟩, ⟨rfl, .inl ⟨rfl, rfl⟩⟩, aiU _, fun _ h => h.elim, fun _ h => h.elim, fun _ h => h.elim, aX.refl _ _⟩ ?_
 rintro j x w1 ⟨n, t, a, m, bs, tv, E, Dt, rfl, hj, rfl, hW, hU, o1, hE, hos, hlen, hEb, hDb, hsep, x1⟩
 have z1 := x1.size
 unfold oK
 rcases j with _ | j
 .have d1 : decide (((3 - 0 : Nat) : Int) < 3) = false := rfl
  simp (disch := omega) only [aC, bD, d1, Dc, aW, bK, aA, dZ, aD]
  refine hk _ t a m bs tv (fun k hk => hW k hk) o1 hE.tb (WT hos) (fun M hM => ?_) x1
  rcases hos.2 with ⟨rfl, _⟩ | ⟨b, c, rest, rfl, h2, h3, _⟩
  .exact fun h => h
  .exact At.at b 0 _ c M (hM b (hDb b h2).1 h3.lt)
 obtain ⟨k, hkk⟩ : ∃ k, k = 2 - j := ⟨_, rfl⟩
 have hk3 : k < 3 := by omega
 have ek : ((3 - (j + 1) : Nat) : Int) = (k : Int) := by omega
 have ek2 : 3 - (j + 1) = k := by omega
 have ek3 : 3 - j = k + 1 := by omega
 have d1 : decide ((k : Int) < 3) = true := by simp; omega
 rw [ek]
 rw [ek2] at hW hU hos hlen ⊢
 obtain ⟨hL1, hL2, hL3⟩ := hL k hk3
 have oE1 := oE.ext x1 hpe
 have hC1 := hC.extD x1 (fun k hk b hb => hD k hk b hb)
 have cE := oE1.cell (off := k)
 rw [X1 _ hk3] at cE
 simp (disch := omega) only [aC, bD, d1, uI, aiM, aiR, cW, Dc, aW, bK, aA, dZ, dU, cE, aI, aG]
 have hsl : Sl w1 (v k) ((iL (L k)).map (Value.int .i64)) := by
  have := WT (hC1.row k hk3)
  unfold iL
  rw [List.map_map]
  exact this
 refine (ZE (x0 w1 x1) hsl (by unfold iL; rw [aiX]; omega)).mono ?_
 rintro r w2 ⟨hr, x2⟩
 rcases hr with ⟨hno, _⟩ | ⟨_, mode, lg, T, bytes, tt, bv, rfl, hV, hob, hWr⟩
 .exfalso
  refine hno ⟨by omega, by unfold iL; intro h; exact hL1 (List.map_eq_nil_iff.1 h), fun x hx => ?_⟩
  unfold iL at hx
  obtain ⟨c, hc, rfl⟩ := akF.1 hx
  have := hL3 c hc
  rw [X0 hk3]
  omega
 have h0 := hWr.mode0
 have h2 := hWr.mode2
 obtain ⟨md, rfl⟩ : ∃ md : Nat, mode = md := ⟨mode.toNat, by omega⟩
 have hbl := hWr.blen
 obtain ⟨ta, rfl⟩ := hV.form
 have z2 := x2.size
 have n0 : ((0 : Int) != 0) = false := rfl
 simp (disch := omega) only [x40, x41, x42, x43, aA, fU, iX, WS]
 refine fI fun w3 o3 x3 s3 => ?_
 refine cI o3 rfl (by simp [one]) (by simp) fun w4 o4 x4 s4 => ?_
 have o4 : cG w4 w2.heap.size [.int .i64 lg, .slice ta T.length T.length] := o4
 have x24 : aX w2 w4 dG := x3.new x4 (aiU _)
 have z4 := x24.size
 have x14 := x2.seq x24
 have l4 := dX (off := 0) o4 (by simp)
 simp only [aiY, aiT, aiZ] at l4
 simp (disch := omega) only [n0, l4, aA, aD]
 refine cI (o1.ext x14 (fun h => h)) rfl (by simp [one]) (by simp [c6]; omega) fun w5 o5 x5 s5 => ?_
 have o5 : cG w5 pt (c6 (LN t k (lg, T)) (XQ a k ta)) := by rw [<- Xl _ _ hk3]; exact o5
 have e2 : (2 : Int) * (k : Int) = ((2 * k : Nat) : Int) := by omega
 have e6 : (6 : Int) - ((2 * k : Nat) : Int) = ((6 - 2 * k : Nat) : Int) := by omega
 have hm2 : ∀ i, i < k -> m i <= 2 := fun i hi => by have := (hW i hi).mode2; omega
 obtain ⟨hst, hp8⟩ := Y0 (m := m) hk3 hm2 (x := md) (by omega)
 have hb64 : IntKind.i64.bits = 64 := rfl
 have hpw : (md : Int) * 2 ^ min (6 - 2 * k) IntKind.i64.bits = ((md * 2 ^ (6 - 2 * k) : Nat) : Int) := by
  rw [hb64, akO (by omega)]; simp
 have hpl : 2 ^ (6 - 2 * k) <= 2 ^ 6 := ajA (by omega) (by omega)
 have hml : md * 2 ^ (6 - 2 * k) <= 2 * 2 ^ 6 := Nat.mul_le_mul (by omega) hpl
 have eor := UU (a := Yp m k) (b := md * 2 ^ (6 - 2 * k)) (by omega) (by omega)
 rw [hst] at eor
 have ew : IntKind.i64.wrap ((md * 2 ^ (6 - 2 * k) : Nat) : Int) = ((md * 2 ^ (6 - 2 * k) : Nat) : Int) := aW (by omega) (by omega)
 simp (disch := omega) only [e2, e6, aiM, hpw, ew, eor]
 have x15 : aX w1 w5 (fun y => y = pt) := (x14.mono fun _ _ h => h.elim).seq x5
 have z5 := x15.size
 have hDpt : ∀ b, Dt b -> b ≠ pt := fun b hb => by have := (hDb b hb).1; omega
 have hos5 : Pk w5 (fun b => Dt b ∨ w5.heap.size <= b) 1 tv (Td bs k).length ((Td bs k).map D8) := by
  have := (hos.ext x15 (fun b hb => hDpt b hb))
  refine ⟨this.1, ?_⟩
  rcases this.2 with h | ⟨b, c, rest, e, hb, r⟩
  .exact .inl h
  .exact .inr ⟨b, c, rest, e, .inl hb, r⟩
 have hob5 := (hob.ext x24 (fun _ _ h => h)).ext x5 (fun b hb h => by omega)
 refine rN (m := bytes.length) (news := bytes.map D8) (i := Tryd.t5) Tryd.underlying22 Tryd.underlying22 PH rfl rfl rfl hos5 hob5.cl (Xi _) (fun b hb => .inr hb) (by omega) (by rw [show Tryd.t5.bytes = 1 from rfl]; omega) (by decide) fun v6 w6 o6 x6 => ?_
 have z6 := x6.size
 have e1 : (k : Int) + 1 = ((3 - j : Nat) : Int) := by omega
 have hcs := Yc (bs := bs) hk3 bytes
 have hW6 : Pk w6 (fun b => (Dt b ∨ w5.heap.size <= b) /\ b < w6.heap.size) 1 v6 (Td (upB bs k bytes) (k + 1)).length ((Td (upB bs k bytes) (k + 1)).map D8) := by
  rw [hcs, aiO, akN]
  refine ⟨o6.1, ?_⟩
  rcases o6.2 with h | ⟨b, c, rest, e, hb, ho, r⟩
  .exact .inl h
  .exact .inr ⟨b, c, rest, e, ⟨hb, ho.lt⟩, ho, r⟩
 have hS6 : ∀ b, (Dt b ∨ w5.heap.size <= b) -> b < w5.heap.size -> Dt b := fun b hb hl => by
  rcases hb with h | h
  .exact h
  .omega
 simp (disch := omega) only [e1]
 refine ⟨j, by omega, j, LN t k (lg, T), XQ a k ta, UP m k md, upB bs k bytes, v6, fun b => E b ∨ (w1.heap.size <= b /\ b < w2.heap.size), fun b => (Dt b ∨ w5.heap.size <= b) /\ b < w6.heap.size, rfl, by omega, by rw [ek3], fun i hi => ?_, fun i hi hni => ?_, ?_, ?_, by rw [ek3]; exact hW6, ?_, ?_, ?_, ?_, ?_⟩
 .rw [ek3] at hi
  unfold LN UP upB
  by_cases he : i = k
  .subst he; simp only [if_pos rfl]; exact hWr
  .simp only [if_neg he]; exact hW i (by omega)
 .rw [ek3] at hni
  unfold LN XQ
  rw [if_neg (by omega), if_neg (by omega)]
  exact hU i hi (by omega)
 .refine o5.ext x6 fun h => ?_
  rcases h with h | h
  .exact hDpt pt h rfl
  .omega
 .intro i hi
  by_cases he : i = k
  .subst he
   rcases hV with ⟨e, e'⟩ | ⟨b, hb1, hb2, hb3⟩
   .have := hWr.has
    rw [Prod.mk.injEq] at e
    obtain ⟨c, hc⟩ := anC _ hL1
    obtain ⟨x, hx, _⟩ := hWr.has (c : Int) (akF.2 ⟨c, hc, rfl⟩)
    rw [e.2] at hx; cases hx
   .have hbl2 := hb3.lt
    have e1 : LN t i (lg, T) i = (lg, T) := by unfold LN; rw [if_pos rfl]
    have e2 : XQ a i ta i = ta := by unfold XQ; rw [if_pos rfl]
    rw [e1, e2]
    refine .inr ⟨b, .inr ⟨hb2, hbl2⟩, hb1, alM _, ?_⟩
    refine ((hb3.ext x24 (fun h => h)).ext x5 (by omega)).ext x6 fun h => ?_
    rcases h with h | h
    .have := (hDb b h).2; omega
    .omega
  .have e1 : LN t k (lg, T) i = t i := by unfold LN; rw [if_neg he]
   have e2 : XQ a k ta i = a i := by unfold XQ; rw [if_neg he]
   rw [e1, e2]
   rcases hE i hi with h | ⟨b, hb, h1, h2, h3⟩
   .exact .inl h
   .have hbE := hEb b hb
    refine .inr ⟨b, .inl hb, h1, h2, (h3.ext x15 (by omega)).ext x6 fun h => ?_⟩
    rcases h with h | h
    .exact hsep b h hb
    .omega
 .rw [ek3, hcs, aiO]; omega
 .intro b hb
  rcases hb with hb | hb
  .have := hEb b hb; omega
  .omega
 .intro b hb
  rcases hb.1 with h | h
  .have := (hDb b h).1; omega
  .omega
 .intro b hb hb2
  rcases hb.1 with h | h
  .rcases hb2 with h2 | h2
   .exact hsep b h h2
   .have := (hDb b h).2; omega
  .rcases hb2 with h2 | h2
   .have := hEb b h2; omega
   .omega
 .refine (x1.seq x15).trans x6 fun b hb h => ?_
  rcases h with h | h
  .have := (hDb b h).1; omega
  .omega
def Wj (l : List Sq) : Prop := ∀ q ∈ l, ∀ k, k < 3 -> ∃ c, oJ k (kv q k) c
def Zb (w : anV) (base : Nat) (l : List Sq) (r : anW) : Prop :=
 (¬ Wj l /\ r = .tuple #[.slice none 0 0, .int .i64 1]) ∨
 (Wj l /\ ∃ (bv : anW) (bytes : List UInt8), r = .tuple #[bv, .int .i64 0] /\ uK w base 1 bv bytes.length (bytes.map D8) /\ bytes.length <= 500000 /\ 0 < bytes.length /\ (l = [] -> bytes = [0]) /\
  ∀ o, ∃ t', Gn bytes o = .ok (l, t') /\ (l ≠ [] -> ∀ k, k < 3 -> (∀ p ∈ l, ∀ q ∈ l, p = q) -> (t' k).2.length = 1))
theorem ahN {n : Nat} (h : n < 65536) : ((n : Int).fdiv (2 ^ min (8 : Int).toNat IntKind.i64.bits)) = ((n / 256 : Nat) : Int) := by
 have h8 : min (8 : Int).toNat IntKind.i64.bits = 8 := rfl
 rw [h8, amG _ (by decide)]
 rfl
theorem WH {x : Nat} (h : x < 2 ^ 62) : RK .i64 (x : Int) 255 = ((x % 256 : Nat) : Int) := by
 unfold RK
 have e : IntKind.i64.bits = 64 := rfl
 have h1 : (BitVec.ofInt 64 (x : Int) &&& BitVec.ofInt 64 255).toNat = x % 256 := by
  rw [BitVec.toNat_and, BitVec.ofInt_natCast, show (255 : Int) = ((255 : Nat) : Int) from rfl, BitVec.ofInt_natCast, BitVec.toNat_ofNat, BitVec.toNat_ofNat, ajP (by omega), ajP (by omega)]
  exact Nat.and_two_pow_sub_one_eq_mod x 8
 rw [e, h1]
 exact aW (by omega) (by omega)
theorem M5 {lv : anW} {l : List Sq} {w : anV} (hg : nX w) (h : Cl w 3 lv l.length (MT l)) (hu : ∀ q ∈ l, ∀ k, kv q k < 4294967296) (hl : l.length <= 10000) :
 aU pg kC #[lv] w (fun r w' => Zb w' w.heap.size l r /\ aX w w' dG) := by
 refine Ky ?_
 obtain ⟨RR, hRR⟩ : ∃ RR : anW -> anV -> Prop, RR = fun r w' => Zb w' w.heap.size l r /\ aX w w' dG := ⟨_, rfl⟩
 rw [<- hRR]
 have hf := h
 obtain ⟨la, lc, rfl, _⟩ := hf
 unfold IP tJ tZ
 refine (WZ w).mono ?_
 rintro r w1 ⟨rfl, hz1, hw1, x1⟩
 obtain ⟨p, hp⟩ : ∃ p, p = w.heap.size := ⟨_, rfl⟩
 rw [<- hp] at hw1 ⊢
 have d1 : decide (98047 < (l.length : Int)) = false := by simp; omega
 by_cases h0 : l.length = 0
 .have n1 : ((l.length : Int) == 0) = true := by rw [h0] <;> rfl
  have hnil := ajV.1 h0
  simp (disch := omega) only [aC, dF, aA, fD, d1, dJ, n1, bD, eN, jC, tH, Mr, bK, dZ, aW, aG, aD]
  refine rU (cells := #[.int .u8 0]) (by decide) (by decide) (by kernel_rfl) fun w2 o2 x2 s2 => ?_
  rw [hRR]
  refine ⟨.inr ⟨?_, _, [0], rfl, ⟨rfl, .inr ⟨_, 1, [], rfl, by omega, o2, rfl, aiU _⟩⟩, by simp, by simp, fun _ => rfl, fun o => ⟨o, ?_, fun h => absurd hnil h⟩⟩, x1.seq x2⟩
  .rw [hnil]; intro q hq; cases hq
  .rw [hnil] <;> rfl
 have n1 : ((l.length : Int) == 0) = false := by simp; intro h; subst h; exact h0 rfl
 have hN : ∀ b, w1.heap.size <= b -> p < b := fun b hb => by omega
 have main : ∀ w2, Cw w2 p (fun b => p < b) (Rp l.length) -> aX w w2 dG -> oX RR (.slice la l.length lc) (.pointer (some ⟨p, 0, none⟩)) w2 := by
  intro w2 hw2 x02
  have z02 := x02.size
  have hg2 := hg.ext x02
  have h2 := Fz h x02 (bY _) (by omega)
  have hw2' := hw2.turn (T := fun b => p < b /\ b < w2.heap.size) (fun b hb hs => ⟨hb, hs⟩) (by omega)
  unfold oX vC
  refine (acE hg2 h2 hu (by omega)).mono ?_
  rintro r w3 ⟨hr, x3⟩
  have x03 := x02.seq x3
  rcases hr with ⟨v, D, L, rfl, hC, hK⟩ | ⟨⟨q, hq, k, hk, hno⟩, y0, y1, y2, rfl⟩
  rotate_left
  .have n2 : ((1 : Int) != 0) = true := rfl
   simp (disch := omega) only [aC, JE, Jd, aA, fU]
   refine AT fun w4 o4 x4 s4 => ?_
   refine CR o4 rfl (by simp [one]) (by simp) fun w5 o5 x5 s5 => ?_
   simp (disch := omega) only [n2, aG]
   rw [hRR]
   refine ⟨.inl ⟨fun hc => ?_, rfl⟩, (x03.seq x4).new x5 (by have := x03.size; omega)⟩
   obtain ⟨c, hc⟩ := hc q hq k hk
   exact hno c hc
  have n2 : ((0 : Int) != 0) = false := rfl
  have z3 := x3.size
  have hones := hC.ones
  simp (disch := omega) only [aC, JE, Jd, aA, fU]
  refine AT fun w4 o4 x4 s4 => ?_
  refine CR o4 rfl (by simpa [vL] using hones) (by simp [vL]) fun w5 o5 x5 s5 => ?_
  have o5 : cG w5 w3.heap.size (vL v) := by simpa [vL, bQ] using o5
  simp (disch := omega) only [n2, aD]
  refine gB fun w6 o6 x6 s6 => ?_
  have o6 : cG w6 w5.heap.size (c6 (fun _ => (0, [])) (fun _ => none)) := o6
  obtain ⟨pe, hpe⟩ : ∃ pe, pe = w3.heap.size := ⟨_, rfl⟩
  obtain ⟨pt, hpt⟩ : ∃ pt, pt = w5.heap.size := ⟨_, rfl⟩
  rw [<- hpe] at o5 ⊢
  rw [<- hpt] at o6 ⊢
  have x36 : aX w3 w6 dG := (x4.new x5 (aiU _)).seq x6
  have x26 := x3.seq x36
  have x06 := x02.seq x26
  have hC6 := (hC.ext x36 (fun _ _ _ h => h)).lower (alM _)
  have hDl : ∀ k, k < 3 -> ∀ b, D k b -> b < w3.heap.size := fun k hk b hb => (hC.bd k hk b hb).2
  unfold wN vT vV wQ
  have hcoded : Wj l := fun q hq k hk => by
   obtain ⟨i, hi, rfl⟩ := ajT hq
   have hlt : i < (L k).length := by rw [(hK k hk).1]; exact hi
   exact ⟨_, (hK k hk).2 i _ _ (aiN hi) (aiN hlt)⟩
  have hLp : ∀ k, k < 3 -> L k ≠ [] /\ (L k).length <= 10000 /\ ∀ c ∈ L k, c < iO k := fun k hk => by
   refine ⟨fun h => ?_, by rw [(hK k hk).1]; exact hl, fun c hc => ?_⟩
   .have := (hK k hk).1
    rw [h] at this
    simp at this; omega
   .obtain ⟨i, hi, rfl⟩ := ajT hc
    have hlt : i < l.length := by rw [<- (hK k hk).1]; exact hi
    exact ((hK k hk).2 i _ _ (aiN hlt) (aiN hi)).1
  have o56 : cG w6 pe (vL v) := o5.ext x6 (fun h => h)
  refine aaG (hg.ext x06) o56 hC6 o6 (by omega) (fun k hk b hb => by have := hDl k hk b hb; omega) (fun w' x => hg.ext (x06.trans x fun b hb h => by omega)) hLp fun w7 t a m bs tv hWr o7 hT7 hb7 hat7 x7 => ?_
  have z6 := x36.size
  have x27 : aX w2 w7 dG := x26.trans x7 fun b hb h => by omega
  have x07 := x02.seq x27
  have o57 := o56.ext x7 (by omega)
  have hC7 := hC6.extD x7 (fun k hk b hb => by have := hDl k hk b hb; omega)
  obtain ⟨y0, y1, y2, f0, f1, f2⟩ := hC.form
  have l5 := Dp (off := 0) o57 (by simp [vL])
  simp only [vL, aiY, aiT, aiZ] at l5
  have l7 := iD (off := 0) o7 (by simp [c6])
  simp only [c6, aiY, aiT, aiZ] at l7
  unfold pV
  simp (disch := omega) only [aC, l5, eN, aA, l7]
  refine (ZB (hg.ext x07) (Fz h x07 (bY _) (by omega)) (by omega) hl hC7 hK hT7 (fun k hk => ⟨Qa hk (hWr k hk), Xu (hWr k hk), fun c hc => (hWr k hk).has (c : Int) (akF.2 ⟨c, hc, rfl⟩)⟩)).mono ?_
  rintro r w8 ⟨⟨bv, s, X, st, rfl, hb8, hat8, hh, hEn, hst, hX⟩, x8⟩
  have x28 := x27.seq x8
  have hm2 : ∀ k, k < 3 -> m k <= 2 := fun k hk => by have := (hWr k hk).mode2; omega
  have m0 := hm2 0 (by omega); have m1 := hm2 1 (by omega); have m2 := hm2 2 (by omega)
  have hmod : J5 m < 256 := by unfold J5; omega
  have ew : IntKind.u64.wrap ((J5 m : Nat) : Int) = ((J5 m : Nat) : Int) := jC (by omega) (by omega)
  have b0 := (hWr 0 (by omega)).blen
  have b1 := (hWr 1 (by omega)).blen
  have b2 := (hWr 2 (by omega)).blen
  have hnw : (Rp l.length).length <= 3 := by unfold Rp; split <;> (try split) <;> simp [GI]
  have z7 := x7.size
  have z8 := x8.size
  have hlg : ∀ k, k < 3 -> (t k).1 <= 9 := fun k hk => (Qa hk (hWr k hk)).lg
  have hsl : s.length <= 300000 := by
   have h1 := hh.len
   have g0 := hlg 0 (by omega); have g1 := hlg 1 (by omega); have g2 := hlg 2 (by omega)
   rw [h1]
   unfold Uy
   simp only [aiO, bR, alJ]
   omega
  have hw8 := hw2'.ext x28 (fun h => h) (fun _ _ h => h)
  have hw8' := hw8.turn (T := fun b => (p < b /\ b < w2.heap.size) ∨ w8.heap.size <= b) (fun b hb _ => .inl hb) (by omega)
  simp (disch := omega) only [JE, Jd, ew, aA, fU, n2, aD]
  refine (EA (x := J5 m) (n := 1) hw8' (fun b hb => .inr hb) (by omega) (by omega) (by omega)).mono ?_
  rintro r w9 ⟨rfl, hw9, x9⟩
  have hb79 : Bs w9 tv (bs 0 ++ bs 1 ++ bs 2) := (hb7.ext x8 (bY _)).ext x9 (hat7 _ fun b h1 h2 h => by omega)
  have hb89 : Bs w9 bv s := hb8.ext x9 (hat8 _ fun b h1 h2 h => by omega)
  have hw9' := hw9.turn (T := fun b => ((p < b /\ b < w2.heap.size) ∨ w8.heap.size <= b)) (fun b hb _ => hb) (by omega)
  have z9 := x9.size
  refine (R9 hw9' (fun b hb => .inr (by omega)) hb79 (by simp only [aiO, xF]; omega)).mono ?_
  rintro r w10 ⟨rfl, hw10, x10⟩
  have hb810 : Bs w10 bv s := hb89.ext x10 (hat8 _ fun b h1 h2 h => by omega)
  have z10 := x10.size
  refine (R9 hw10 (fun b hb => .inr (by omega)) hb810 (by simp only [aiO, xF]; omega)).mono ?_
  rintro r w11 ⟨rfl, hw11, x11⟩
  have z11 := x11.size
  refine (Zz hw11 (by simp only [aiO, xF]; omega)).mono ?_
  rintro r w12 ⟨ho, x12⟩
  have hput : GI (J5 m) 1 = [UInt8.ofNat (J5 m)] := by
   show [UInt8.ofNat (J5 m % 256)] = _
   rw [ajP hmod]
  have hbytes : Rp l.length ++ GI (J5 m) 1 ++ (bs 0 ++ bs 1 ++ bs 2) ++ s = Yr l.length m bs s := by
   unfold Yr
   rw [hput]
   simp only [ajB, alE, akC]
  rw [hbytes] at ho
  have hsec : (Yr l.length m bs s).length = (Rp l.length).length + (1 + ((bs 0).length + ((bs 1).length + ((bs 2).length + s.length)))) := by
   unfold Yr
   simp only [aiO, ajK]; omega
  rw [hRR]
  refine ⟨.inr ⟨hcoded, r, _, rfl, ho.lower (by omega), by omega, by omega, fun hn => absurd (by rw [hn] <;> rfl) h0, fun o => ?_⟩, ?_⟩
  .obtain ⟨t', ht, htt⟩ := Z4 (by omega) (by omega) hWr hEn hst hh o
   refine ⟨t', ht, fun _ k hk hall => ?_⟩
   rw [htt k hk]
   refine ((hWr k hk).one fun x hx y hy => ?_).2
   unfold iL at hx hy
   obtain ⟨c, hc, rfl⟩ := akF.1 hx
   obtain ⟨d, hd, rfl⟩ := akF.1 hy
   obtain ⟨i, hi, rfl⟩ := ajT hc
   obtain ⟨j, hj, rfl⟩ := ajT hd
   have hil : i < l.length := by rw [<- (hK k hk).1]; exact hi
   have hjl : j < l.length := by rw [<- (hK k hk).1]; exact hj
   have q1 := (hK k hk).2 i _ _ (aiN hil) (aiN hi)
   have q2 := (hK k hk).2 j _ _ (aiN hjl) (aiN hj)
   rw [hall _ (ajM hil) _ (ajM hjl)] at q1
   rw [q1.one hk q2]
  .have x211 : aX w w11 dG := by
    refine aX.trans (x02.seq x28) (((x9.mono fun _ _ h => h).seq x10).seq x11 : aX w8 w11 (fun y => y = p ∨ ((p < y /\ y < w2.heap.size) ∨ w8.heap.size <= y))) fun b hb h => ?_
    omega
   exact x211.seq x12
 by_cases h128 : l.length < 128
 .have d2 : decide ((l.length : Int) < 128) = true := by simp; omega
  have ew : IntKind.u64.wrap (l.length : Int) = (l.length : Int) := jC (by omega) (by omega)
  simp (disch := omega) only [aC, dF, aA, fD, d1, dJ, n1, bD, d2, eN, ew, tH, Mr, bK, dZ, aW, aG, aD]
  refine (EA (x := l.length) (n := 1) hw1 hN (by omega) (by omega) (by simp)).mono ?_
  rintro r w2 ⟨rfl, hw2, x2⟩
  refine main w2 ?_ (x1.trans x2 fun b hb h => by omega)
  have e : [] ++ GI l.length 1 = Rp l.length := by
   unfold Rp
   rw [if_pos h128]
   show [UInt8.ofNat (l.length % 256)] = _
   rw [ajP (by omega)]
  rw [e] at hw2
  exact hw2
 .have d2 : decide ((l.length : Int) < 128) = false := by simp; omega
  have d3 : decide ((l.length : Int) < 32512) = true := by simp; omega
  have e1 := ahN (n := l.length) (by omega)
  have e2 : ((l.length / 256 : Nat) : Int) + 128 = ((l.length / 256 + 128 : Nat) : Int) := by omega
  have ew : IntKind.u64.wrap ((l.length / 256 + 128 : Nat) : Int) = ((l.length / 256 + 128 : Nat) : Int) := jC (by omega) (by omega)
  have e3 := WH (x := l.length) (by omega)
  have ew3 : IntKind.u64.wrap ((l.length % 256 : Nat) : Int) = ((l.length % 256 : Nat) : Int) := jC (by omega) (by omega)
  have ew1 : IntKind.i64.wrap ((l.length / 256 + 128 : Nat) : Int) = ((l.length / 256 + 128 : Nat) : Int) := aW (by omega) (by omega)
  simp (disch := omega) only [aC, dF, aA, fD, d1, dJ, n1, bD, d2, eN, jC, d3, tH, e1, Mr, bK, e2, ew1, ew, dZ, aW, aG, aD]
  refine (EA (x := l.length / 256 + 128) (n := 1) hw1 hN (by omega) (by omega) (by simp)).mono ?_
  rintro r w2 ⟨rfl, hw2, x2⟩
  simp (disch := omega) only [e3]
  have z2 := x2.size
  refine (EA (x := l.length % 256) (n := 1) hw2 (fun b hb => by omega) (by omega) (by omega) (by simp [GI])).mono ?_
  rintro r w3 ⟨rfl, hw3, x3⟩
  refine main w3 ?_ ((x1.trans x2 fun b hb h => by omega).trans x3 fun b hb h => by omega)
  have e : [] ++ GI (l.length / 256 + 128) 1 ++ GI (l.length % 256) 1 = Rp l.length := by
   unfold Rp
   rw [if_neg h128, if_pos (by omega)]
   show [UInt8.ofNat ((l.length / 256 + 128) % 256)] ++ [UInt8.ofNat (l.length % 256 % 256)] = _
   rw [ajP (show l.length / 256 + 128 < 256 by omega), ajP (show l.length % 256 < 256 by omega)]
   rfl
  rw [e] at hw3
  exact hw3
theorem ZD {t : Nat -> TT} (h : ∀ k, k < 3 -> uM k (t k)) (B : List Bool) (st : Nat -> Nat) (left : Int) : Mk t (XL t B 3 st left).1 /\ left - 27 <= (XL t B 3 st left).2 /\ (XL t B 3 st left).2 <= left := by
 have g0 := (h 0 (by omega)).lg
 have g1 := (h 1 (by omega)).lg
 have g2 := (h 2 (by omega)).lg
 have e : (XL t B 3 st left).2 = left - (t 0).1 - (t 1).1 - (t 2).1 := rfl
 refine ⟨fun k hk => ⟨h k hk, ?_⟩, by omega, by omega⟩
 rw [(h k hk).len]
 rcases (show k = 0 ∨ k = 1 ∨ k = 2 by omega) with rfl | rfl | rfl
 .exact Ph B left (t 0).1
 .exact Ph B (left - (t 0).1) (t 1).1
 .exact Ph B (left - (t 0).1 - (t 1).1) (t 2).1
theorem SH (o : Nat -> TT) (n : Nat) (l : List UInt8) : VC o n l = match IL o l with
 | .error e => .error e
 | .ok (t, r) => Mu t n r := by
 cases l with
 | nil => rfl
 | cons m l =>
   unfold VC IL
   by_cases hm : m.toNat % 4 ≠ 0
   .simp only [if_pos hm]
   .simp only [if_neg hm]
    cases Gq m.toNat o 3 o l <;> rfl
theorem SU {o t : Nat -> TT} {l r : List UInt8} (ho : Vm o) (h : IL o l = .ok (t, r)) : (∀ k, k < 3 -> uM k (t k)) /\ r.length <= l.length := by
 cases l with
 | nil => cases h
 | cons m l =>
   have hh : IL o (m :: l) = if m.toNat % 4 ≠ 0 then .error 11 else Gq m.toNat o 3 o l := rfl
   rw [hh] at h
   by_cases hm : m.toNat % 4 ≠ 0
   .rw [if_pos hm] at h; cases h
   .rw [if_neg hm] at h
    obtain ⟨h1, h2⟩ := TK ho (by omega) (fun k hk => by omega) h
    exact ⟨h1, by simp; omega⟩
theorem abV {l r : List UInt8} {n : Nat} (h : Ov l = .ok (n, r)) : n <= 98047 /\ r.length <= l.length := by
 cases l with
 | nil => cases h
 | cons f l =>
   have hf : f.toNat < 256 := akI f
   rw [Ov] at h
   split at h
   .cases h; exact ⟨by omega, by simp⟩
   .split at h
    .cases l with
     | nil => cases h
     | cons x l =>
       have hx : x.toNat < 256 := akI x
       cases h; exact ⟨by omega, by simp; omega⟩
    .match l with
     | [] => cases h
     | [x] => cases h
     | x :: y :: l =>
       have hx : x.toNat < 256 := akI x
       have hy : y.toNat < 256 := akI y
       cases h; exact ⟨by omega, by simp; omega⟩
theorem Uq {k1 : K5} {t5 n8 : anW} {pt ps lo hi : Nat} {t : Nat -> TT} {a : Nat -> Option Addr} {st : Nat -> Nat} {l : List UInt8} {left : Int} {w : anV} (oT : cG w pt (c6 t a)) (hT : Gc w t a) (oS : cG w ps (Pj st)) (hB : Nj w lo hi l left)
 (h1 : pt < lo) (h2 : lo <= hi) (h3 : hi < ps) (hG : ∀ k, k < 3 -> uM k (t k)) (hl : l.length <= 1000000) (hb1 : left <= 8 * l.length) (hb2 : -90000000 <= left)
 (hk : ∀ w', cG w' ps (Pj (XL t (aY l) 3 st left).1) -> Nj w' lo hi l (XL t (aY l) 3 st left).2 -> aX w w' (fun y => y = hi ∨ y = ps) -> k1 t5 n8 (.pointer (some ⟨pt, 0, none⟩)) (.pointer (some ⟨hi, 0, none⟩)) (.pointer (some ⟨ps, 0, none⟩)) w') :
 pQ k1 t5 n8 (.pointer (some ⟨pt, 0, none⟩)) (.pointer (some ⟨hi, 0, none⟩)) (.pointer (some ⟨ps, 0, none⟩)) (.int .i64 0) w := by
 have hps := oS.lt
 unfold pQ
 refine cO.rule (fun n (v : anW) w' => ∃ (j : Nat) (st' : Nat -> Nat) (left' : Int), n = j /\ j <= 3 /\ v = .int .i64 (3 - j : Nat) /\ cG w' ps (Pj st') /\ Nj w' lo hi l left' /\ XL t (aY l) 3 st left = XL t (aY l) j st' left' /\ left - 20 * (3 - j : Nat) <= left' /\ left' <= left /\ aX w w' (fun y => y = hi ∨ y = ps)) 3
  ⟨3, st, left, rfl, aiU _, rfl, oS, hB, rfl, by simp, Int.le_refl _, aX.refl _ _⟩ ?_
 rintro j v w1 ⟨n, st', left', rfl, hj, rfl, oS1, hB1, hE, hc1, hc2, x1⟩
 unfold pD
 rcases j with _ | j
 .have d1 : decide (((3 - 0 : Nat) : Int) < 3) = false := rfl
  simp (disch := omega) only [aC, bD, d1, bK, aW, aA, aD]
  rw [hE] at hk
  exact hk _ oS1 hB1 x1
 .obtain ⟨k, hkk⟩ : ∃ k, k = 2 - j := ⟨_, rfl⟩
  have hk3 : k < 3 := by omega
  have ek : ((3 - (j + 1) : Nat) : Int) = (k : Int) := by omega
  have d1 : decide ((k : Int) < 3) = true := by simp; omega
  rw [ek]
  have hN : XL t (aY l) (j + 1) st' left' = XL t (aY l) j (UP st' k (WJ (aY l) left' (t k).1)) (left' - (t k).1) := by rw [hkk] <;> rfl
  have hGk := hG k hk3
  have hlg := hGk.lg
  have oT1 := oT.ext x1 (by omega)
  have l2 := dX (off := k * 2) oT1 (by simp [c6]; omega)
  rw [TI _ _ hk3] at l2
  simp (disch := omega) only [aC, bD, d1, cW, aiM, aiR, AM, bK, aW, aA, l2, aG]
  obtain ⟨cs, oc, hcs⟩ := hB1.hd
  refine (Xe hB1 h2 oc.lt (by omega) (by omega) (by omega) hl).mono ?_
  rintro v w2 ⟨rfl, hB2, x2⟩
  have q1 : Bt ((aY l).take left'.toNat) (t k).1 = WJ (aY l) left' (t k).1 := rfl
  rw [q1]
  have oS2 := oS1.ext x2 (by omega)
  refine xV oS2 rfl (by simp [Pj]; omega) fun w3 o3 x3 s3 => ?_
  rw [Uk _ hk3] at o3
  have e1 : (k : Int) + 1 = ((3 - j : Nat) : Int) := by omega
  simp (disch := omega) only [e1]
  refine ⟨j, by omega, _, _, _, rfl, by omega, rfl, o3, hB2.ext x3 (fun b _ _ => by omega) h2, by rw [hE, hN], by omega, by omega, (x1.seq (x2.mono fun _ _ h => .inl h)).seq (x3.mono fun _ _ h => .inr h)⟩
def Vs (w : anV) (base : Nat) (x : Except Int (List Sq × (Nat -> TT))) (r : anW) : Prop := match x with
 | .error e => r = .tuple #[.slice none 0 0, Tw, .int .i64 e]
 | .ok (q, t) => ∃ v a, r = .tuple #[v, .agg (c6 t a).toArray, .int .i64 0] /\ uK w base 3 v q.length (MT q) /\ Gc w t a
theorem Kw {p : Nat} {w : anV} {x0 x1 x2 : Int} {a0 a1 a2 : Option Addr} {n0 n1 n2 : Nat} {c : List anW} {s e : anW} (o : cG w p c) (hc : c.length = 6) {RR : anW -> anV -> Prop}
 (hR : ∀ w', aX w w' (fun y => y = p) -> RR (.tuple #[s, .agg #[.int .i64 x0, .slice a0 n0 n0, .int .i64 x1, .slice a1 n1 n1, .int .i64 x2, .slice a2 n2 n2], e]) w') :
 aC pg (aR 29 (.pointer (some ⟨p, 0, none⟩)) (.agg #[.int .i64 x0, .slice a0 n0 n0, .int .i64 x1, .slice a1 n1 n1, .int .i64 x2, .slice a2 n2 n2])) w fun _u w => xA pg 29 (.pointer (some ⟨p, 0, none⟩)) w fun r1 => RR (.tuple #[s, r1, e]) w := by
 match c, hc with
 | [c0, c1, c2, c3, c4, c5], _ =>
   refine gH o rfl (by simp [one]) (by simp) fun w6 o6 x6 s6 => ?_
   refine Bi o6 (by simp [bQ]) ?_
   simp only [bQ, aiV, aiW, aiY, aiT, aiZ]
   exact hR _ x6
theorem Tn {bv : anW} {l : List UInt8} {o : Nat -> TT} {a : Nat -> Option Addr} {w : anV} (hg : nX w) (hb : Bs w bv l) (hl : l.length <= 1000000) (hT : Gc w o a) (hO : Vm o) :
 aU pg oB #[bv, .agg (c6 o a).toArray] w (fun r w' => Vs w' w.heap.size (Gn l o) r /\ aX w w' dG) := by
 refine LF ?_
 obtain ⟨RR, hRR⟩ : ∃ RR : anW -> anV -> Prop, RR = fun r w' => Vs w' w.heap.size (Gn l o) r /\ aX w w' dG := ⟨_, rfl⟩
 rw [<- hRR]
 have err : ∀ {e : Int} {w' : anV}, Gn l o = .error e -> aX w w' dG -> RR (.tuple #[.slice none 0 0, Tw, .int .i64 e]) w' := fun h x => by
  rw [hRR]; unfold Vs; rw [h]; exact ⟨rfl, x⟩
 unfold KC vW wS
 refine hY fun w1 o1 x1 s1 => ?_
 have o1 : cG w1 w.heap.size (c6 o a) := o1
 refine gB fun w2 o2 x2 s2 => ?_
 have x02 := x1.seq x2
 refine (QG (hb.ext x02 (bY _)) (by omega)).mono ?_
 rintro r w3 ⟨p, rfl, h3, x3⟩
 have hp1 := h3.1
 have hp2 := h3.2.1
 have o1 := (o1.ext x2 (fun h => h)).ext x3 (fun h => h)
 have o2 := o2.ext x3 (fun h => h)
 have x03 := x02.seq x3
 have z2 := x02.size
 refine (Vq h3 (by omega)).mono ?_
 rintro r w4 ⟨hN, x4⟩
 have o1 := o1.ext x4 (by omega)
 have o2 := o2.ext x4 (by omega)
 have x04 := x03.new x4 (by omega)
 have fin : ∀ {w5 w' : anV}, aX w w5 dG -> aX w5 w' (fun y => y = w1.heap.size) -> aX w w' dG := fun h x => h.new x (by omega)
 unfold T6 at hN
 cases hn : Ov l with
 | error e =>
   rw [hn] at hN
   obtain ⟨he, n, l', rfl, h4⟩ := hN
   have hR : Gn l o = .error e := by unfold Gn; rw [hn]
   have n1 : (e != 0) = true := by simpa using he
   refine (Lu h4).mono ?_
   rintro r w5 ⟨rfl, hw⟩
   rw [hw]; clear hw w5
   simp (disch := omega) only [aC, fU, n1, dD, aA, dJ, true_and, cD, aG]
   refine (Lu h4).mono ?_
   rintro r w5 ⟨rfl, hw⟩
   rw [hw]; clear hw w5
   exact Kw o2 rfl fun w' x => err hR (fin x04 x)
 | ok y =>
   obtain ⟨n, l'⟩ := y
   rw [hn] at hN
   obtain ⟨rfl, h4⟩ := hN
   obtain ⟨hn1, hl'⟩ := abV hn
   have n1 : ((0 : Int) != 0) = false := rfl
   refine (Lu h4).mono ?_
   rintro r w5 ⟨rfl, hw⟩
   rw [hw]; clear hw w5
   have hR : Gn l o = if n = 0 then (if l' = [] then .ok ([], o) else .error 15) else VC o n l' := by unfold Gn; rw [hn]
   by_cases hn0 : n = 0
   .subst hn0
    rw [if_pos rfl] at hR
    have n2 : (((0 : Nat) : Int) == 0) = true := rfl
    simp (disch := omega) only [aC, fU, n1, dD, aA, dJ, n2, true_and, aG, BL, cD, if_true, cB, aD]
    refine (SD h4).mono ?_
    rintro r w5 ⟨rfl, hw⟩
    rw [hw]; clear hw w5
    by_cases hl0 : l' = []
    .subst hl0
     rw [if_pos rfl] at hR
     have d1 : decide (0 < ((([] : List UInt8).length : Nat) : Int)) = false := rfl
     have l1 := iD (off := 0) (eP o1) (by simp [c6])
     simp only [c6, aiY, aiT, aiZ] at l1
     simp (disch := omega) only [fD, d1, aA, l1, true_and, aD]
     refine Kw (eP o2) rfl fun w' x => ?_
     rw [hRR]; unfold Vs; rw [hR]
     have x' := fin (x04.seq (aX.dr _ _)) x
     exact ⟨⟨_, a, rfl, uK.nil _ _ _, hT.ext x'⟩, x'⟩
    .rw [if_neg hl0] at hR
     have hpos := alS.2 hl0
     have d1 : decide (0 < ((l'.length : Nat) : Int)) = true := by simp; exact hpos
     simp (disch := omega) only [fD, d1, aA, aG]
     exact Kw o2 rfl fun w' x => err hR (fin x04 x)
   .rw [if_neg hn0] at hR
    have n2 : ((n : Int) == 0) = false := by simp; exact hn0
    have l1 := iD (off := 0) o1 (by simp [c6])
    simp only [c6, aiY, aiT, aiZ] at l1
    simp (disch := omega) only [aC, fU, n1, dD, aA, dJ, n2, true_and, aD, MG, cD, aiS, if_false, eZ, l1]
    have hO6 : ∀ k, k < 3 -> (o k).2.length <= 1000000 := fun k hk => by
     rcases alK (o k).2.length with h | h
     .omega
     .have := hO k hk (alS.1 h)
      rw [this.len]
      have : 2 ^ (o k).1 <= 2 ^ 9 := ajA (by omega) this.lg
      omega
    have z4 := x4.size
    refine (afI hg x04 (by omega) h4 z4 (by omega) (hT.ext x04) hO6).mono ?_
    rintro r w5 ⟨hTo, x5⟩
    rw [SH] at hR
    have x05 := x04.new x5 (by omega)
    have o1 := o1.ext x5 (by omega)
    have o2 := o2.ext x5 (by omega)
    have z5 := x5.size
    cases hh : IL o l' with
    | error e =>
      rw [hh] at hR hTo
      obtain ⟨rfl, he⟩ := hTo
      have n3 : (e != 0) = true := by simpa using he
      unfold Tw
      simp (disch := omega) only [JE, Jd, aA, fU]
      refine gB fun w6 o6 x6 s6 => ?_
      refine gH o6 rfl (by simp [one]) (by simp) fun w7 o7 x7 s7 => ?_
      have x57 : aX w5 w7 dG := x6.new x7 (aiU _)
      simp (disch := omega) only [n3, aG]
      exact Kw (o2.ext x57 (fun h => h)) rfl fun w' x => err hR (fin (x05.seq x57) x)
    | ok y =>
      obtain ⟨t, l2⟩ := y
      rw [hh] at hR hTo
      have hR : Gn l o = Mu t n l2 := hR
      obtain ⟨ta, rfl, hT5, h5⟩ := hTo
      obtain ⟨hG, hl2⟩ := SU hO hh
      simp only [c6]
      simp (disch := omega) only [JE, Jd, aA, fU]
      refine gB fun w6 o6 x6 s6 => ?_
      refine gH o6 rfl (by simp [one]) (by simp) fun w7 o7 x7 s7 => ?_
      have o7 : cG w7 w5.heap.size (c6 t ta) := o7
      have x57 : aX w5 w7 dG := x6.new x7 (aiU _)
      have h7 := (h5.up (aiU _)).ext x57 (fun _ _ _ h => h)
      have x07 := x05.seq x57
      have z7 := x57.size
      simp (disch := omega) only [n1, aD]
      refine (SD h7).mono ?_
      rintro r w8 ⟨rfl, hw⟩
      rw [hw]; clear hw w8
      refine (TS h7 (by omega) (by omega)).mono ?_
      rintro bv8 w8 ⟨hb8, hat8, h8, x8⟩
      have htk : OJ l2 0 l2.length = (l2, [], 0) := by unfold OJ; rw [if_neg (by decide), if_neg (by omega), amK, List.drop_length]
      rw [htk] at hb8
      simp only at hb8
      have x08 := x07.new x8 (by omega)
      have z8 := x8.size
      have hp5 := h5.2.1
      have o8 := o7.ext x8 (by omega)
      have o2 := (o2.ext x57 (fun h => h)).ext x8 (by omega)
      have hT8 : Gc w8 t ta := (hT5.ext x57).rdr h7 x8
      cases he : Tk l2 with
      | none =>
        have hB : Mu t n l2 = .error 11 := by unfold Mu; rw [he]
        rw [hB] at hR
        have n3 : ((11 : Int) != 0) = true := rfl
        refine (Q2 hb8 he (by omega)).mono ?_
        rintro r w9 ⟨rfl, hw⟩
        rw [hw]; clear hw w9
        simp (disch := omega) only [JE, Jd, aA, fU, n3, aG]
        exact Kw o2 rfl fun w' x => err hR (fin x08 x)
      | some k =>
        obtain ⟨hk0, hk1, hk2, _⟩ := O4 he
        refine (Sc hb8 he (by omega)).mono ?_
        rintro r w9 ⟨hi, rfl, hhi1, hhi2, hB9, x9⟩
        simp (disch := omega) only [JE, Jd, aA, fU, n1, aD]
        refine SA fun w10 o10 x10 s10 => ?_
        have o10 : cG w10 w9.heap.size (Pj (fun _ => 0)) := o10
        have x89 := x9.seq x10
        have z10 := x10.size
        unfold wT vP vK wO
        refine Uq (o8.ext x89 (fun h => h)) (hT8.ext x89) o10 (hB9.ext x10 (fun _ _ _ h => h) hhi1) (by omega) hhi1 hhi2 hG (by omega) (by omega) (by omega) fun w11 o11 hB11 x11 => ?_
        obtain ⟨g1, g2, g3⟩ := ZD hG (aY l2) (fun _ => 0) (k : Int)
        have z11 := x11.size
        have z9 := x9.size
        have x011 : aX w w11 dG := (x08.seq x89).trans x11 fun b hb h => by omega
        have x811 : aX w8 w11 dG := x89.trans x11 fun b hb h => by omega
        unfold vZ vB wB vN wV vI
        refine W7 (n := n) (by omega) hg x011 (o8.ext x811 (fun h => h)) (hT8.ext x811) o11 hB11 (by omega) (by omega) hhi1 hhi2 g1 (by omega) (by omega) (by omega) fun w12 out os12 hB12 oT12 hT12 x12 => ?_
        obtain ⟨_, _, hlen⟩ := aaW (B := aY l2) (n := n) (left := (XL t (aY l2) 3 (fun _ => 0) (k : Int)).2) g1
        have hB : Mu t n l2 = if (runT t (aY l2) n k).2 < 0 then .error 11 else if 0 < (runT t (aY l2) n k).2 then .error 15 else .ok ((runT t (aY l2) n k).1, t) := by unfold Mu; rw [he]
        rw [hB] at hR
        rw [<- Ze] at os12 hB12 hlen
        have x012 : aX w w12 dG := x011.trans x12 fun b hb h => by omega
        have x812 : aX w8 w12 dG := x811.trans x12 fun b hb h => by omega
        have o2 := o2.ext x812 (fun h => h)
        unfold qR
        refine (TR hB12).mono ?_
        rintro r w13 ⟨rfl, hw⟩
        rw [hw]; clear hw w13
        generalize hq : runT t (aY l2) n k = q at *
        by_cases hneg : q.2 < 0
        .have d1 : decide (q.2 < 0) = true := by simpa using hneg
         rw [if_pos hneg] at hR
         simp (disch := omega) only [aC, bD, d1, dD, aA, true_and, aG]
         exact Kw o2 rfl fun w' x => err hR (fin x012 x)
        .have d1 : decide (q.2 < 0) = false := by simpa using hneg
         rw [if_neg hneg] at hR
         simp (disch := omega) only [aC, bD, d1, dD, aA, true_and, aD]
         refine (TR hB12).mono ?_
         rintro r w13 ⟨rfl, hw⟩
         rw [hw]; clear hw w13
         by_cases hps : 0 < q.2
         .have d2 : decide (0 < q.2) = true := by simpa using hps
          rw [if_pos hps] at hR
          simp (disch := omega) only [fD, d2, aA, aG]
          exact Kw o2 rfl fun w' x => err hR (fin x012 x)
         .have d2 : decide (0 < q.2) = false := by simpa using hps
          rw [if_neg hps] at hR
          have l9 := iD (off := 0) (eP oT12) (by simp [c6])
          simp only [c6, aiY, aiT, aiZ] at l9
          simp (disch := omega) only [fD, d2, aA, l9, true_and, aD]
          refine Kw (eP o2) rfl fun w' x => ?_
          rw [hRR]; unfold Vs; rw [hR]
          have x' := fin (x012.seq (aX.dr _ _)) x
          have xd : aX w12 w' (fun y => y = w1.heap.size) := (aX.dr _ _).seq x
          refine ⟨⟨out, ta, rfl, ?_, hT12.own o2 (by simp) (fun u => by simp) xd⟩, x'⟩
          rw [hlen]
          exact (os12.ext xd (fun b hb h => by omega)).lower (by omega)
def RT (w : anV) (b log : Nat) (L : List T3) (v : anW) : Prop := ∃ cc rest, v = .agg #[.int .i64 log, .slice (some ⟨b, 0, none⟩) L.length cc] /\ cG w b (fe .i64 L ++ rest)
theorem RT.ext {w w' : anV} {b log : Nat} {L : List T3} {v : anW} {M : Nat -> Prop} (h : RT w b log L v) (hx : aX w w' M) (hM : ¬ M b) : RT w' b log L v := by
 obtain ⟨cc, rest, h1, h2⟩ := h
 exact ⟨cc, rest, h1, h2.ext hx hM⟩
def W2 (w : anV) (base : Nat) (T : Nat × List T3) (v : anW) : Prop := (T = (0, []) /\ v = .agg #[.int .i64 0, .slice none 0 0]) ∨ ∃ b, base <= b /\ RT w b T.1 T.2 v
theorem W2.nil (w : anV) (base : Nat) : W2 w base (0, []) (.agg #[.int .i64 0, .slice none 0 0]) := .inl ⟨rfl, rfl⟩
theorem RT.lt {w : anV} {b log : Nat} {L : List T3} {v : anW} (h : RT w b log L v) : b < w.heap.size := by
 obtain ⟨cc, rest, h1, h2⟩ := h; exact h2.lt
theorem W2.form {w : anV} {base : Nat} {T : Nat × List T3} {v : anW} (h : W2 w base T v) : ∃ a c, v = .agg #[.int .i64 T.1, .slice a T.2.length c] := by
 rcases h with ⟨rfl, rfl⟩ | ⟨b, _, cc, rest, rfl, _⟩
 .exact ⟨_, _, rfl⟩
 .exact ⟨_, _, rfl⟩
theorem W2.ext {w w' : anV} {base : Nat} {T : Nat × List T3} {v : anW} {M : Nat -> Prop} (h : W2 w base T v) (x : aX w w' M) (hM : ∀ b, base <= b -> b < w.heap.size -> ¬ M b) : W2 w' base T v := by
 rcases h with h | ⟨b, hb, h⟩
 .exact .inl h
 .exact .inr ⟨b, hb, h.ext x (hM b hb h.lt)⟩
theorem W2.lower {w : anV} {base base' : Nat} {T : Nat × List T3} {v : anW} (h : W2 w base T v) (hb : base' <= base) : W2 w base' T v := by
 rcases h with h | ⟨b, h1, h2⟩
 .exact .inl h
 .exact .inr ⟨b, by omega, h2⟩
def RBl (w : anV) (lo hi : Nat) (b : anW) (B : List Bool) (left : Int) : Prop := RB w lo hi b (B.take left.toNat) (-left).toNat
theorem RBl.ext {w w' : anV} {lo hi : Nat} {b : anW} {B : List Bool} {left : Int} {M : Nat -> Prop} (h : RBl w lo hi b B left) (x : aX w w' M) (hM : ∀ b, lo <= b -> b < hi -> ¬ M b) : RBl w' lo hi b B left := RB.ext h x hM
theorem RBl.form {w : anV} {lo hi : Nat} {b : anW} {B : List Bool} {left : Int} (h : RBl w lo hi b B left) (hl : left <= B.length) : ∃ a c, b = .agg #[.slice a left.toNat c, .int .i64 ((-left).toNat : Nat)] := by
 obtain ⟨v, rfl, hs, _⟩ := h
 obtain ⟨a, c, rfl, _⟩ := afX hs
 have : (B.take left.toNat).length = left.toNat := by rw [ajL]; omega
 rw [this]
 exact ⟨_, _, rfl⟩
theorem RBl.step {w : anV} {lo hi n : Nat} {b : anW} {B : List Bool} {left : Int} (hl : left <= B.length)
 (h : RB w lo hi b ((B.take left.toNat).take ((B.take left.toNat).length - min n (B.take left.toNat).length)) ((-left).toNat + (n - min n (B.take left.toNat).length))) : RBl w lo hi b B (left - n) := by
 have hlen : (B.take left.toNat).length = left.toNat := by rw [ajL]; omega
 rw [hlen, List.take_take] at h
 have e1 : min (left.toNat - min n left.toNat) left.toNat = (left - n).toNat := by omega
 have e2 : (-left).toNat + (n - min n left.toNat) = (-(left - n)).toNat := by omega
 rw [e1, e2] at h
 exact h
def tvR (T : TT) (a : Option Addr) (c : Nat) : anW := .agg #[.int .i64 T.1, .slice a T.2.length c]
def Rb3 (w : anV) (o : Nat -> TT) (a : Nat -> Option Addr) (c : Nat -> Nat) : Prop := ∀ k, k < 3 -> W2 w 0 (o k) (tvR (o k) (a k) (c k))
theorem Rb3.ext {w w' : anV} {o : Nat -> TT} {a : Nat -> Option Addr} {c : Nat -> Nat} (h : Rb3 w o a c) (x : aX w w' dG) : Rb3 w' o a c := fun k hk => (h k hk).ext x fun _ _ _ h => h
theorem W2.own {w w' : anV} {base p : Nat} {T : TT} {v : anW} {cs cs' : List anW} (h : W2 w base T v) (o : cG w p cs) (o' : cG w' p cs') (hc : ∀ u x, ¬ (cs[0]? = some (.int .i64 u) /\ cs[1]? = some (.int .i64 x))) (x : aX w w' (fun y => y = p)) : W2 w' base T v := by
 rcases h with h | ⟨b, h0, cc, rest, h1, h2⟩
 .exact .inl h
 .by_cases hb : b = p
  .subst hb
   have e := Lk h2 o
   cases hT : T.2 with
   | nil => exact .inr ⟨b, h0, cc, cs', h1, by rw [hT]; exact o'⟩
   | cons y r =>
     obtain ⟨g0, g1, _⟩ := NN (k := .i64) (L := T.2) (i := 0) (e := y) (by rw [hT] <;> rfl)
     subst e
     have hl : 3 <= (fe .i64 T.2).length := by rw [sU, hT, ajK]; omega
     exact absurd ⟨by rw [ajF (by omega)]; exact g0, by rw [ajF (by omega)]; exact g1⟩ (hc y.1 y.2.1)
  .exact .inr ⟨b, h0, cc, rest, h1, h2.ext x hb⟩
theorem Rb3.own {w w' : anV} {o : Nat -> TT} {a : Nat -> Option Addr} {c : Nat -> Nat} {p : Nat} {cs cs' : List anW} (h : Rb3 w o a c) (ho : cG w p cs) (ho' : cG w' p cs') (hc : ∀ u x, ¬ (cs[0]? = some (.int .i64 u) /\ cs[1]? = some (.int .i64 x))) (x : aX w w' (fun y => y = p)) : Rb3 w' o a c := fun k hk => (h k hk).own ho ho' hc x
theorem Rb3.up {w : anV} {o : Nat -> TT} {a : Nat -> Option Addr} {c : Nat -> Nat} {k : Nat} {T : TT} {x : Option Addr} {y : Nat} (h : Rb3 w o a c) (hx : W2 w 0 T (tvR T x y)) : Rb3 w (LN o k T) (XQ a k x) (UP c k y) := fun i hi => by
 unfold LN XQ UP
 split
 .exact hx
 .exact h i hi
def z6 : List anW := [(.int .i64 0), (.slice none 0 0), (.int .i64 0), (.slice none 0 0), (.int .i64 0), (.slice none 0 0)]
theorem acL {ox oy : Operand} (a b c a' b' c' : Int) (w : anV) : (aF .neq 47 ox oy (.agg #[.int .u32 a, .int .u32 b, .int .u32 c]) (.agg #[.int .u32 a', .int .u32 b', .int .u32 c'])).run pg w = .ok (.value (.bool (!(a == a' && b == b' && c == c')))) w := by
 have a3 : ∀ w, (isAgg 43).run pg w = .ok false w := fun w => by kernel_rfl
 have u3 := Tryd.underlying43
 have g0 : pg.eqGuardType pg.depth 47 = false := by kernel_rfl
 have g1 : pg.underlying 47 = some (.struct (pg.fieldsOf 47)) := by kernel_rfl
 have g2 : pg.stoodInHeld 47 = false := by kernel_rfl
 unfold aF
 simp only [Gh, oH, Sem.run_bind, run_eqGuard_agg w .neq 47 ox oy _ _ g0, Result.andThen_ok, run_neq_struct]
 rw [run_equalIn_agg w 9999 47 _ _ g1 g2]
 simp only [Program.fieldsOf, Tryd.underlying47, Op.eqFields]
 simp [part, a3, run_equalIn_int w 9998 43 _ _ _ _ u3]
 by_cases h1 : a = a' <;> by_cases h2 : b = b' <;> by_cases h3 : c = c' <;> simp [h1, h2, h3]
theorem Zg {v u : anW} {l : List Sq} {w : anV} (h1 : Cl w 3 v l.length (MT l)) (h2 : Cl w 3 u l.length (MT l)) (hl : l.length <= 1000000) :
 aU pg CA #[v, u] w (fun r w' => r = .bool true /\ aX w w' dG) := by
 refine Q5 ?_
 have f1 := h1
 have f2 := h2
 obtain ⟨va, vc, rfl, _⟩ := f1
 obtain ⟨ua, uc, rfl, _⟩ := f2
 unfold So ES FC
 have n1 : (((l.length : Nat) : Int) != ((l.length : Nat) : Int)) = false := by simp
 simp (disch := omega) only [aC, dF, aA, fU, n1, aD]
 unfold F4 F0 FR Fc FI
 refine cO.rule (fun m (t : anW) w' => ∃ i : Nat, m = l.length - i /\ t = .int .i64 i /\ i <= l.length /\ aX w w' dG) l.length ⟨0, rfl, rfl, by omega, aX.refl _ _⟩ ?_
 rintro m t w1 ⟨i, rfl, rfl, hi, x1⟩
 unfold A5
 by_cases hlt : i < l.length
 .have d3 : decide ((i : Int) < (l.length : Int)) = true := by simp; omega
  obtain ⟨q, hq⟩ : ∃ q, l[i]? = some q := ⟨_, aiN hlt⟩
  obtain ⟨b, off, c, e, l1⟩ := Np (Fz h1 x1 (bY _) (by omega)) hq
  obtain ⟨b', off', c', e', l2⟩ := Np (Fz h2 x1 (bY _) (by omega)) hq
  cases e
  cases e'
  have q1 := l1 w1 (fun _ => rfl)
  have q2 := l2 w1 (fun _ => rfl)
  have q1d := l1 (dr w1) (fun _ => rfl)
  have q2d := l2 (dr w1) (fun _ => rfl)
  simp only [I4] at q1 q2 q1d q2d
  have nn : ∀ a c d : Int, (!(a == a && c == c && d == d)) = false := fun a c d => by simp
  have e1 : (i : Int) + 1 = ((i + 1 : Nat) : Int) := by omega
  simp (disch := omega) only [aC, dF, jF, aiM, bK, e1, aW, aA, true_and, bD, d3, q1d, q2d, acL, nn, aD, aG]
  exact ⟨l.length - (i + 1), by omega, i + 1, rfl, rfl, by omega, x1.seq (aX.dr _ _)⟩
 .have d3 : decide ((i : Int) < (l.length : Int)) = false := by simp; omega
  unfold Bb
  simp (disch := omega) only [aC, dF, bK, aW, aA, true_and, bD, d3, aD]
  exact x1
theorem UH {k v : Nat} (h : k = 0 ∨ k = 2) (hl : uB k <= v) : ∀ i, tG k + i <= iO k -> v < eS k i -> ∃ c, oJ k v c
 | 0, _, hv => by
   have := adO h
   unfold eS at hv
   exact ⟨_, SO h hl (by omega)⟩
 | i + 1, hi, hv => by
   rcases ajI v (eS k i) with h' | h'
   .exact UH h hl i (by omega) h'
   .exact ⟨_, Tv h (by omega) h' (by unfold eS at hv; exact hv)⟩
theorem ZO {v : Nat} (h : v < 131072) : ∃ c, oJ 0 v c := by
 have e : eS 0 20 = 131072 := by decide
 exact UH (.inl rfl) (alM _) 20 (by decide) (by omega)
theorem Zk {v : Nat} (h0 : 3 <= v) (h : v < 131075) : ∃ c, oJ 2 v c := by
 have e : eS 2 21 = 131075 := by decide
 exact UH (.inr rfl) h0 21 (by decide) (by omega)
theorem VN {l : List Sq} (h : ∀ q ∈ l, q.ll < 131072 /\ 3 <= q.ml /\ q.ml < 131075 /\ 0 < q.of /\ q.of < 4294967296) : Wj l := fun q hq k hk => by
 obtain ⟨h1, h2, h3, h4, h5⟩ := h q hq
 rcases (show k = 0 ∨ k = 1 ∨ k = 2 by omega) with rfl | rfl | rfl
 .exact ZO h1
 .exact ⟨_, Wh h4 h5⟩
 .exact Zk h2 h3
theorem WM {l : List UInt8} {o t : Nat -> TT} {q : List Sq} (ho : Vm o) (h : Gn l o = .ok (q, t)) (hq : q ≠ []) : ∀ k, k < 3 -> uM k (t k) := by
 unfold Gn at h
 cases hn : Ov l with
 | error e => rw [hn] at h; cases h
 | ok y =>
   obtain ⟨n, r⟩ := y
   rw [hn] at h
   by_cases h0 : n = 0
   .simp only [if_pos h0] at h
    split at h
    .cases h; exact absurd rfl hq
    .cases h
   .simp only [if_neg h0] at h
    rw [SH] at h
    cases hh : IL o r with
    | error e => rw [hh] at h; cases h
    | ok z =>
      obtain ⟨t0, r'⟩ := z
      rw [hh] at h
      simp only at h
      unfold Mu at h
      split at h
      .cases h
      .split at h
       .cases h
       .split at h
        .cases h
        .cases h
         exact (SU ho hh).1
def oN : Nat -> TT := fun _ => (0, [])
def aN : Nat -> Option Addr := fun _ => none
theorem ZK : Vm oN := fun k _ h => absurd rfl h
theorem agF (w : anV) : Gc w oN aN := fun k _ => .inl ⟨rfl, rfl⟩
theorem Z9 {w : anV} {base : Nat} {v : anW} {l : List UInt8} (h : uK w base 1 v l.length (l.map D8)) : Bs w v l := h.sl
def Y5 : List Sq := [⟨20, 3, 9⟩, ⟨0, 70, 1⟩]
theorem YL {w : anV} (hg : nX w) : aU pg Bc #[] w (fun r w' => r = .bool true /\ aX w w' dG) := by
 refine OU ?_
 obtain ⟨RR, hRR⟩ : ∃ RR : anW -> anV -> Prop, RR = fun r w' => r = .bool true /\ aX w w' dG := ⟨_, rfl⟩
 rw [<- hRR]
 unfold Qu CZ
 have hc0 : Cl w 3 (.slice none 0 0) ([] : List Sq).length (MT []) := ⟨none, 0, rfl, rfl, fun h => by simp at h⟩
 refine (M5 (l := []) hg hc0 (fun q hq => by cases hq) (by simp)).mono ?_
 rintro r w1 ⟨hr, x1⟩
 rcases hr with ⟨hno, _⟩ | ⟨_, bv, bytes, rfl, ob, _, _, hb0, _⟩
 .exact absurd (fun q hq => by cases hq) hno
 have hb0 := hb0 rfl
 subst hb0
 simp (disch := omega) only [aC, JE, Jd, zU, dD, aA]
 refine lS (cells := #[.int .u32 20, .int .u32 3, .int .u32 9, .int .u32 0, .int .u32 70, .int .u32 1]) (by decide) (by decide) (by kernel_rfl) fun w2 o2 x2 s2 => ?_
 have o2 : cG w2 w1.heap.size (MT Y5) := o2
 have x02 := x1.seq x2
 have hcl : Cl w2 3 (.slice (some ⟨w1.heap.size, 0, none⟩) 2 2) Y5.length (MT Y5) := o2.cl (off := 0) (l := MT Y5) (n := 2) rfl (fun i hi => by rw [aiR])
 refine (M5 (l := Y5) (hg.ext x02) hcl (fun q hq k => ?_) (by decide)).mono ?_
 .rcases akE.1 hq with rfl | hq
  .unfold kv; split <;> (try split) <;> decide
  .obtain rfl := akK.1 hq
   unfold kv; split <;> (try split) <;> decide
 rintro r w3 ⟨hr, x3⟩
 have hcd : Wj Y5 := VN (by decide)
 rcases hr with ⟨hno, _⟩ | ⟨_, bv2, bytes2, rfl, ob2, hlen, _, _, hrd⟩
 .exact absurd hcd hno
 have x03 := x02.seq x3
 obtain ⟨t', ht', _⟩ := hrd oN
 simp (disch := omega) only [JE, Jd, aA]
 refine (Tn (o := oN) (a := aN) (hg.ext x03) (Z9 ob2) (by omega) (agF _) ZK).mono ?_
 rintro r w4 ⟨hr, x4⟩
 rw [ht'] at hr
 obtain ⟨v, ta, rfl, os, hT⟩ := hr
 have hgt := WM ZK ht' (by decide)
 have x04 := x03.seq x4
 have hp0 : 0 < (t' 0).2.length := by rw [(hgt 0 (by omega)).len]; exact ajU _
 simp only [c6]
 simp (disch := omega) only [Wv, Ww, WA, aA]
 refine gB fun w5 o5 x5 s5 => ?_
 refine gH o5 rfl (by simp [one]) (by simp) fun w6 o6 x6 s6 => ?_
 have o6 : cG w6 w4.heap.size (c6 t' ta) := o6
 have x46 : aX w4 w6 dG := x5.new x6 (aiU _)
 rcases os.2 with ⟨_, hz⟩ | ⟨b, c, rest, rfl, hbase, ho, hc, hn⟩
 .cases hz
 rcases ob.2 with ⟨_, hz⟩ | ⟨b1, c1, rest1, rfl, hbase1, ho1, hc1, hn1⟩
 .cases hz
 have ho6 := ho.ext x46 (fun h => h)
 have ho16 := ((ho1.ext (x2.seq x3) (fun h => h)).ext x4 (fun h => h)).ext x46 (fun h => h)
 have g1 := ho16.cell (off := 0)
 have g2 := ho6.cell (off := 0)
 have g3 := ho6.cell (off := 2)
 have g4 := ho6.cell (off := 4)
 have g5 := ho6.cell (off := 5)
 have g6 := o6.cell (off := 1)
 rw [ajF (by decide)] at g1
 rw [ajF (by decide)] at g2 g3 g4 g5
 have f1 : (List.map D8 [0])[0]? = some (.int .u8 0) := rfl
 have f2 : (MT Y5)[0]? = some (.int .u32 20) := rfl
 have f3 : (MT Y5)[2]? = some (.int .u32 9) := rfl
 have f4 : (MT Y5)[4]? = some (.int .u32 70) := rfl
 have f5 : (MT Y5)[5]? = some (.int .u32 1) := rfl
 have f6 : (c6 t' ta)[1]? = some (.slice (ta 0) (t' 0).2.length (t' 0).2.length) := rfl
 rw [f1] at g1
 rw [f2] at g2
 rw [f3] at g3
 rw [f4] at g4
 rw [f5] at g5
 rw [f6] at g6
 have t0 : (0 : Int).toNat = 0 := rfl
 have t1 : (1 : Int).toNat = 1 := rfl
 have el : ((Y5.length : Nat) : Int) = 2 := rfl
 have eb : ((([0] : List UInt8).length : Nat) : Int) = 1 := rfl
 have dl : decide (0 < (((t' 0).2.length : Nat) : Int)) = true := by simp; exact hp0
 have k0 : ((0 : Int) == 0) = true := rfl
 have k1 : ((1 : Int) == 1) = true := rfl
 have k2 : ((2 : Int) == 2) = true := rfl
 have k9 : ((9 : Int) == 9) = true := rfl
 have k20 : ((20 : Int) == 20) = true := rfl
 have k70 : ((70 : Int) == 70) = true := rfl
 simp (disch := omega) only [eT, eb, cW, t0, aiR, aA, dJ, k1, BL, cD, if_true, cB, mC, jY, g1, aI, k0, dF, el, k2, jF, jJ, sS, g2, k20, kW, g3, k9, t1, lZ, g4, k70, g5, bE, bZ, g6, fO, fD, dl]
 rw [hRR]
 exact ⟨rfl, x04.seq x46⟩
def BR (q : Sq) : Sq := ⟨q.ll % 131072, 3 + q.ml % 131072, 1 + q.of % 2147483648⟩
theorem aaQ {l : List Sq} {v : anW} {w : anV} (h : Cl w 3 v l.length (MT l)) {i : Nat} {q : Sq} (hq : l[i]? = some q) : ∃ b off c, v = .slice (some ⟨b, off, none⟩) l.length c /\
 w.cell? ⟨b, off + i * 3, none⟩ = some (.int .u32 q.ll) /\ w.cell? ⟨b, off + i * 3 + 1, none⟩ = some (.int .u32 q.ml) /\ w.cell? ⟨b, off + i * 3 + 2, none⟩ = some (.int .u32 q.of) := by
 obtain ⟨a, c, rfl, h1, h2⟩ := h
 have hi : i < l.length := by
  rcases ajI i l.length with h | h
  .exact h
  .rw [ajJ h] at hq; cases hq
 obtain ⟨b, off, rfl, h3⟩ := h2 (by omega)
 have key : ∀ j, j < 3 -> w.cell? ⟨b, off + i * 3 + j, none⟩ = (I4 q)[j]? := fun j hj => by
  have h4 := h3 (i * 3 + j) (by rw [h1]; omega)
  rw [alL, h4, <- XN hq, ajR hj, alB]
 exact ⟨b, off, c, rfl, key 0 (by omega), key 1 (by omega), key 2 (by omega)⟩
theorem Zm {v : anW} {l : List Sq} {w : anV} (h : Cl w 3 v l.length (MT l)) (hu : ∀ q ∈ l, ∀ k, kv q k < 4294967296) (hl : l.length <= 1000000) :
 aU pg xR #[v] w (fun r w' => uK w' w.heap.size 3 r l.length (MT (l.map BR)) /\ aX w w' dG) := by
 refine NV ?_
 have hf := h
 obtain ⟨va, vc, rfl, _⟩ := hf
 unfold Nt BQ B4 BO B3 BN BV BX
 refine cO.rule (fun m (t : anW × anW) w' => ∃ i : Nat, m = l.length - i /\ t.2 = .int .i64 i /\ i <= l.length /\ uK w' w.heap.size 3 t.1 i (MT ((l.take i).map BR)) /\ aX w w' dG) l.length
  ⟨0, rfl, rfl, by omega, uK.nil _ _ _, aX.refl _ _⟩ ?_
 rintro m ⟨t1, t2⟩ w1 ⟨i, rfl, rfl, hi, os, x1⟩
 have z1 := x1.size
 unfold uS
 by_cases hlt : i < l.length
 .have d3 : decide ((i : Int) < (l.length : Int)) = true := by simp; omega
  obtain ⟨q, hq⟩ : ∃ q, l[i]? = some q := ⟨_, aiN hlt⟩
  have hm := hu q (alD hq)
  have u0 := hm 0
  have u1 := hm 1
  have u2 := hm 2
  unfold kv at u0 u1 u2
  simp at u0 u1 u2
  obtain ⟨b, off, c, e, c0, c1, c2⟩ := aaQ (Fz h x1 (bY _) (by omega)) hq
  cases e
  have c0d : (dr w1).cell? ⟨b, off + i * 3, none⟩ = some (.int .u32 q.ll) := c0
  have c1d : (dr w1).cell? ⟨b, off + i * 3 + 1, none⟩ = some (.int .u32 q.ml) := c1
  have c2d : (dr w1).cell? ⟨b, off + i * 3 + 2, none⟩ = some (.int .u32 q.of) := c2
  have m0 : ((q.ll : Int).tmod 131072) = ((q.ll % 131072 : Nat) : Int) := by rw [ajZ (by omega)]; omega
  have m1 : ((q.ml : Int).tmod 131072) = ((q.ml % 131072 : Nat) : Int) := by rw [ajZ (by omega)]; omega
  have m2 : ((q.of : Int).tmod 2147483648) = ((q.of % 2147483648 : Nat) : Int) := by rw [ajZ (by omega)]; omega
  have e1 : (i : Int) + 1 = ((i + 1 : Nat) : Int) := by omega
  have w1' : IntKind.u32.wrap (3 + ((q.ml % 131072 : Nat) : Int)) = ((3 + q.ml % 131072 : Nat) : Int) := by rw [w32 (by omega) (by omega)]; omega
  have w2' : IntKind.u32.wrap (1 + ((q.of % 2147483648 : Nat) : Int)) = ((1 + q.of % 2147483648 : Nat) : Int) := by rw [w32 (by omega) (by omega)]; omega
  simp (disch := omega) only [aC, dF, jF, aiM, bK, e1, aW, aA, true_and, kW, sS, lZ, jJ, bD, d3, c0d, aI, c1d, c2d, IQ, m2, w2', m1, w1', m0, zU, aG]
  refine lS (cells := #[.int .u32 ((BR q).ll : Nat), .int .u32 ((BR q).ml : Nat), .int .u32 ((BR q).of : Nat)]) (by decide) (by decide) (by kernel_rfl) fun w6 o6 x6 s6 => ?_
  have z6 := x6.size
  have zd : (dr w1).heap.size = w1.heap.size := rfl
  have os6 := (os.ext (aX.dr _ dG) (fun _ _ h => h)).ext x6 (fun _ _ h => h)
  refine hZ (m := 1) (news := I4 (BR q)) os6 (o6.cl (off := 0) (l := I4 (BR q)) (n := 1) rfl (fun i hi => by rw [aiR] <;> rfl)) (by simp [I4, one]) (by omega) (by omega) fun v7 w7 o7 x7 => ?_
  have e7 : (l.take (i + 1)).map BR = (l.take i).map BR ++ [BR q] := by rw [akW, hq, akN] <;> rfl
  rw [<- Sj, <- e7] at o7
  exact ⟨l.length - (i + 1), by omega, i + 1, rfl, rfl, by omega, o7, ((x1.seq (aX.dr _ _)).seq x6).trans x7 fun b hb h => by omega⟩
 .have d3 : decide ((i : Int) < (l.length : Int)) = false := by simp; omega
  unfold uW
  obtain rfl : i = l.length := by omega
  rw [amK] at os
  simp (disch := omega) only [aC, dF, bK, aW, aA, true_and, bD, d3, aD]
  exact ⟨os, x1⟩
theorem afJ (l : List Sq) : ∀ q ∈ l.map BR, q.ll < 131072 /\ 3 <= q.ml /\ q.ml < 131075 /\ 0 < q.of /\ q.of < 4294967296 := fun q hq => by
 obtain ⟨p, _, rfl⟩ := akF.1 hq
 have h1 := amA p.ll (show 0 < 131072 by decide)
 have h2 := amA p.ml (show 0 < 131072 by decide)
 have h3 := amA p.of (show 0 < 2147483648 by decide)
 unfold BR
 refine ⟨h1, ?_, ?_, ?_, ?_⟩ <;> simp only <;> omega
theorem agW {l : List Sq} (h : ∀ q ∈ l, q.ll < 131072 /\ 3 <= q.ml /\ q.ml < 131075 /\ 0 < q.of /\ q.of < 4294967296) : ∀ q ∈ l, ∀ k, kv q k < 4294967296 := fun q hq k => by
 obtain ⟨h1, h2, h3, h4, h5⟩ := h q hq
 unfold kv
 split <;> (try split) <;> omega
theorem Q3 {q : Sq} {n : Nat} {w : anV} (hg : nX w) (hq : ∀ k, kv q k < 4294967296) (hn : n < 256) :
 aU pg lW #[.agg (I4 q).toArray, .int .u8 n] w (fun r w' => r = .bool true /\ aX w w' dG) := by
 refine Fl ?_
 obtain ⟨RR, hRR⟩ : ∃ RR : anW -> anV -> Prop, RR = fun r w' => r = .bool true /\ aX w w' dG := ⟨_, rfl⟩
 rw [<- hRR]
 unfold B8 pL pP
 refine hY fun w1 o1 x1 s1 => ?_
 have o1 : cG w1 w.heap.size (I4 q) := o1
 refine (YL (hg.ext x1)).mono ?_
 rintro r w2 ⟨rfl, x2⟩
 have x02 := x1.seq x2
 have o2 := o1.ext x2 (fun h => h)
 have l2 := Aw (off := 0) o2 (by simp [I4])
 simp only [I4, aiY, aiT, aiZ] at l2
 obtain ⟨k, hk⟩ : ∃ k, k = n % 100 + 1 := ⟨_, rfl⟩
 have m0 : ((n : Int).tmod 100) = ((n % 100 : Nat) : Int) := by rw [ajZ (by omega)]; omega
 have m1 : IntKind.i64.wrap ((n % 100 : Nat) : Int) = ((n % 100 : Nat) : Int) := aW (by omega) (by omega)
 have m2 : ((n % 100 : Nat) : Int) + 1 = ((k : Nat) : Int) := by omega
 simp (disch := omega) only [aC, Qr, akS, IQ, m0, aA, pC, m1, bK, m2, aW, l2, aD]
 refine lS (cells := #[.int .u32 q.ll, .int .u32 q.ml, .int .u32 q.of]) (by decide) (by decide) (by kernel_rfl) fun w3 o3 x3 s3 => ?_
 have o3 : cG w3 w2.heap.size (MT [q]) := o3
 refine (Zm (l := [q]) (o3.cl (off := 0) (l := MT [q]) (n := 1) rfl (fun i hi => by rw [aiR])) (fun p hp k => by obtain rfl := akK.1 hp; exact hq k) (by simp)).mono ?_
 rintro v w4 ⟨os4, x4⟩
 have x04 := (x02.seq x3).seq x4
 obtain ⟨va, vc, rfl⟩ := os4.len
 have hc4 := os4.cl
 have z04 := x04.size
 have hF : ∀ l : List Sq, (∀ p ∈ l, p = BR q) -> ∀ p ∈ l, p.ll < 131072 /\ 3 <= p.ml /\ p.ml < 131075 /\ 0 < p.of /\ p.of < 4294967296 := fun l h p hp => by
  rw [h p hp]
  exact afJ [q] _ (akK.2 rfl)
 unfold pX pW oP pJ oM
 refine cO.rule (fun m (t : anW × anW) w' => ∃ i : Nat, m = k - i /\ t.2 = .int .i64 i /\ i <= k /\ uK w' w4.heap.size 3 t.1 i (MT (List.replicate i (BR q))) /\ aX w4 w' dG) k
  ⟨0, rfl, rfl, by omega, uK.nil _ _ _, aX.refl _ _⟩ ?_
 rintro m ⟨t1, t2⟩ w5 ⟨i, rfl, rfl, hi, os, x5⟩
 have z5 := x5.size
 unfold kR
 by_cases hlt : i < k
 .have d3 : decide ((i : Int) < (k : Int)) = true := by simp; omega
  obtain ⟨b, off, c, e, l3⟩ := Np (l := [BR q]) (i := 0) (Fz hc4 x5 (bY _) (by omega)) rfl
  cases e
  have l3 := l3 w5 (fun _ => rfl)
  simp only [I4] at l3
  have e1 : (i : Int) + 1 = ((i + 1 : Nat) : Int) := by omega
  have t0 : (0 : Int).toNat = 0 := rfl
  have el : [q].length = 1 := rfl
  simp (disch := omega) only [aC, bD, d3, el, jF, t0, bK, e1, aW, aA, l3, aG]
  refine lS (cells := #[.int .u32 ((BR q).ll : Nat), .int .u32 ((BR q).ml : Nat), .int .u32 ((BR q).of : Nat)]) (by decide) (by decide) (by kernel_rfl) fun w6 o6 x6 s6 => ?_
  have z6 := x6.size
  refine hZ (m := 1) (news := I4 (BR q)) (os.ext x6 (fun _ _ h => h)) (o6.cl (off := 0) (l := I4 (BR q)) (n := 1) rfl (fun i hi => by rw [aiR] <;> rfl)) (by simp [I4, one]) (by omega) (by omega) fun v7 w7 o7 x7 => ?_
  have e7 : List.replicate (i + 1) (BR q) = List.replicate i (BR q) ++ [BR q] := List.replicate_succ'
  rw [<- Sj, <- e7] at o7
  exact ⟨k - (i + 1), by omega, i + 1, rfl, rfl, by omega, o7, (x5.seq x6).trans x7 fun b hb h => by omega⟩
 .have d3 : decide ((i : Int) < (k : Int)) = false := by simp; omega
  obtain rfl : i = k := by omega
  unfold kQ
  obtain ⟨ua, uc, rfl⟩ := os.len
  simp (disch := omega) only [aC, bD, d3, bK, aW, aA, dD, aD]
  have x05 := x04.seq x5
  obtain ⟨l, hl⟩ : ∃ l, l = List.replicate i (BR q) := ⟨_, rfl⟩
  have hll : l.length = i := by rw [hl, akY]
  have hall : ∀ p ∈ l, p = BR q := fun p hp => by rw [hl] at hp; exact amC hp
  have hcl : Cl w5 3 (.slice ua i uc) l.length (MT l) := by rw [hll, hl]; exact os.cl
  rw [<- hll] at hcl ⊢
  refine (M5 (l := l) (hg.ext x05) hcl (agW (hF l hall)) (by omega)).mono ?_
  rintro r w6 ⟨hr, x6⟩
  rcases hr with ⟨hno, _⟩ | ⟨_, bv2, bytes2, rfl, ob2, hlen, _, _, hrd⟩
  .exact absurd (VN (hF l hall)) hno
  obtain ⟨t', ht', h1⟩ := hrd oN
  have hne : l ≠ [] := by rw [hl]; intro h; have := congrArg List.length h; rw [akY] at this; simp at this; omega
  have h1 := h1 hne
  have h1 : ∀ k, k < 3 -> (t' k).2.length = 1 := fun k hk => h1 k hk fun p hp p' hp' => by rw [hall p hp, hall p' hp']
  have x06 := x05.seq x6
  simp (disch := omega) only [JE, Jd, aA, dJ, cD]
  refine (Tn (o := oN) (a := aN) (hg.ext x06) (Z9 ob2) (by omega) (agF _) ZK).mono ?_
  rintro r w7 ⟨hr, x7⟩
  rw [ht'] at hr
  obtain ⟨v7, ta, rfl, os7, hT7⟩ := hr
  have x07 := x06.seq x7
  simp only [c6]
  have n0 : ((0 : Int) == 0) = true := rfl
  simp (disch := omega) only [Wv, Ww, WA, n0, BL, if_true, cB, aA, dJ, cD]
  refine gB fun w8 o8 x8 s8 => ?_
  refine gH o8 rfl (by simp [one]) (by simp) fun w9 o9 x9 s9 => ?_
  have o9 : cG w9 w7.heap.size (c6 t' ta) := o9
  have x79 : aX w7 w9 dG := x8.new x9 (aiU _)
  obtain ⟨va7, vc7, rfl⟩ := os7.len
  simp (disch := omega) only [cW, aiR, aA]
  refine (Zg (l := l) (Fz os7.cl x79 (bY _) (by omega)) (Fz hcl ((x6.seq x7).seq x79) (bY _) (by omega)) (by omega)).mono ?_
  rintro r w10 ⟨rfl, x10⟩
  have o10 := o9.ext x10 (fun h => h)
  have g1 := o10.cell (off := 1)
  have g3 := o10.cell (off := 3)
  have g5 := o10.cell (off := 5)
  have f1 : (c6 t' ta)[1]? = some (.slice (ta 0) (t' 0).2.length (t' 0).2.length) := rfl
  have f3 : (c6 t' ta)[3]? = some (.slice (ta 1) (t' 1).2.length (t' 1).2.length) := rfl
  have f5 : (c6 t' ta)[5]? = some (.slice (ta 2) (t' 2).2.length (t' 2).2.length) := rfl
  rw [f1, h1 0 (by omega)] at g1
  rw [f3, h1 1 (by omega)] at g3
  rw [f5, h1 2 (by omega)] at g5
  have k1 : (((1 : Nat) : Int) == 1) = true := rfl
  have t0 : (0 : Int).toNat = 0 := rfl
  have t1 : (1 : Int).toNat = 1 := rfl
  have t2 : (2 : Int).toNat = 2 := rfl
  simp (disch := omega) only [BL, t0, cD, if_true, t1, t2, aA, cB, bE, bZ, g1, aI, fO, dJ, k1, g3, g5]
  rw [hRR]
  exact ⟨rfl, (x07.seq x79).seq x10⟩
end Go.Proofs.YtaggdjhhmbnhoaaDoor
namespace Go.En
open Go Go.ChangeShapes Go.WideShapes Go.ChangeAt Go.RowKit
theorem Ta {H : Type} {enc : TypeId × anW -> H} {P : Program} (hl : laidOutB P = true) {W W' : anV} (hb : Below W.heap.size W W') : ∀ (ts : List TypeId) (vs : List anW) (ds : List (DataW H)) (ps : List MemPlace),
 (ts.all fun t => P.readableRec t && decide (t < P.types.size)) = true -> DataW.TrodAll enc P W 0 (fun _ => true) true ts vs ds ps -> (∀ x ∈ ps, x.block < W.heap.size) →
 DataW.TrodAll enc P W' 0 (fun b => decide (b < W.heap.size)) true ts vs ds ps := by
 intro ts
 induction ts with
 | nil =>
   intro vs ds ps _ h _
   cases vs <;> cases ds <;> simp [DataW.TrodAll] at h ⊢
   exact h
 | cons t ts ih =>
   intro vs ds ps hr h hlt
   cases vs with
   | nil => simp [DataW.TrodAll] at h
   | cons v vs =>
     cases ds with
     | nil => simp [DataW.TrodAll] at h
     | cons d ds =>
       obtain ⟨p, q, h1, h2, rfl⟩ := h
       rw [List.all_cons, ajH, ajH, decide_eq_true_eq] at hr
       exact ⟨p, q, Below.trod hl hr.1.1 hr.1.2 h1 hb (fun x hx => hlt x (alZ _ hx)), ih _ _ _ hr.2 h2 (fun x hx => hlt x (amU _ hx)), rfl⟩
theorem aaD {H : Type} {enc : TypeId × anW -> H} {P : Program} {f : Func} {s : ChangeSpec} {apart fresh handsOn : Bool} {tb : TypeId} {W W' : anV} {args : Array anW} {ds gs : List (DataW H)} {before : List MemPlace}
 (hl : laidOutB P = true) (hr : (f.params.toList.all fun t => P.readableRec t && decide (t < P.types.size)) = true) (hres : f.resultTypes = #[tb]) (hbool : P.underlying tb = some .bool)
 (hW : DataW.Whole enc P f.params.toList s.vars apart W args.toList ds gs before) (hvars : s.vars = []) (h1 : (s.fn H (ds ++ gs)).results = [.lit (.bool true)]) (h2 : (s.fn H (ds ++ gs)).args = ds) (h3 : (s.fn H (ds ++ gs)).vars = [])
 (hx : aX W W' dG) : s.post enc P f apart fresh handsOn false W args (.bool true) W' := by
 have hb := hx.below
 have hlt : ∀ x ∈ before, x.block < W.heap.size := fun x hx => hW.lt x hx
 have hW' := hW
 obtain ⟨p, q, hA, hV, rfl, _, _⟩ := hW
 rw [hvars] at hV
 obtain ⟨_, rfl⟩ := trodVars_none hV
 rw [akM] at hW' hlt
 refine ⟨ds, gs, p, [], p, [], hW', ?_, ?_, ?_, hb.frame _, fun h => by cases h⟩
 .rw [h1, hres]
  exact trodAll_cons_mk (shut_bool hbool _) trodAll_mk0
 .rw [h2]; exact Ta hl hb _ _ _ _ hr hA hlt
 .rw [h3, hvars] <;> rfl
end Go.En
namespace Go.En
open Go Go.ChangeShapes Go.WideShapes Go.ChangeAt Go.RowKit Go.Deep
def st3 (k : IntKind) (z : Int × Int × Int) : List anW := [.int k z.1, .int k z.2.1, .int k z.2.2]
def wf3 (k : IntKind) (z : Int × Int × Int) : Prop := (Lit.int k z.1).wf = true /\ (Lit.int k z.2.1).wf = true /\ (Lit.int k z.2.2).wf = true
theorem Zy {H : Type} {enc : TypeId × anW -> H} {P : Program} {W : anV} {base : Nat} {sp : Nat -> Bool} {hd : Bool} {t : TypeId} {f0 f1 f2 : Field} {k : IntKind} {fuel : Nat} {cs : List anW} {x : DataW H × List MemPlace}
 (ht : P.underlying t = some (.struct #[f0, f1, f2])) (h0 : P.underlying f0.type = some (.int k)) (h1 : P.underlying f1.type = some (.int k)) (h2 : P.underlying f2.type = some (.int k))
 (o0 : f0.offset = 0) (o1 : f1.offset = 1) (o2 : f2.offset = 2) (c0 : P.cellsOf f0.type = 1) (c1 : P.cellsOf f1.type = 1) (c2 : P.cellsOf f2.type = 1) (ct : P.cellsOf t = 3)
 (hf : DataW.trod enc P W base sp hd fuel t cs = some x) : ∃ z : Int × Int × Int, cs = st3 k z /\ wf3 k z := by
 obtain ⟨y0, y1, y2, n, _, hl, hf0, hf1, hf2⟩ := trod_struct3 ht hf
 rw [o0, c0] at hf0
 rw [o1, c1] at hf1
 rw [o2, c2] at hf2
 obtain ⟨a0, e0, _, w0⟩ := DataW.trod_int h0 hf0
 obtain ⟨a1, e1, _, w1⟩ := DataW.trod_int h1 hf1
 obtain ⟨a2, e2, _, w2⟩ := DataW.trod_int h2 hf2
 rw [ct] at hl
 match cs, hl with
 | [x0, x1, x2], _ =>
   simp at e0 e1 e2
   exact ⟨(a0, a1, a2), by rw [e0, e1, e2] <;> rfl, w0, w1, w2⟩
theorem aaH {H : Type} {enc : TypeId × anW -> H} {P : Program} {W : anV} {base b0 : Nat} {r : Reach} {sp : Nat -> Bool} {hd : Bool} {t : TypeId} {f0 f1 f2 : Field} {k : IntKind} {v : anW} {d : DataW H} {ps : List MemPlace}
 (ht : P.underlying t = some (.struct #[f0, f1, f2])) (h0 : P.underlying f0.type = some (.int k)) (h1 : P.underlying f1.type = some (.int k)) (h2 : P.underlying f2.type = some (.int k))
 (o0 : f0.offset = 0) (o1 : f1.offset = 1) (o2 : f2.offset = 2) (c0 : P.cellsOf f0.type = 1) (c1 : P.cellsOf f1.type = 1) (c2 : P.cellsOf f2.type = 1) (ct : P.cellsOf t = 3)
 (hval : Value.okWide P W r b0 t v) (h : DataW.Trod enc P W base sp hd t v d ps) : ∃ z : Int × Int × Int, v = .agg (st3 k z).toArray /\ wf3 k z := by
 obtain ⟨cs, rfl, hsz⟩ := okWide_struct ht hval
 obtain ⟨fuel, hf⟩ := h
 obtain ⟨z, hz, hw⟩ := Zy ht h0 h1 h2 o0 o1 o2 c0 c1 c2 ct hf
 refine ⟨z, ?_, hw⟩
 have hcl : (Value.cells (.agg cs)).toList = cs.toList := rfl
 rw [hcl] at hz
 rw [<- hz]
end Go.En
namespace Go.Proofs.YtaggdjhhmbnhoaaDoor
open Go Go.En Go.Pu
set_option maxRecDepth 4000
def sqI (z : Int × Int × Int) : Sq := ⟨z.1.toNat, z.2.1.toNat, z.2.2.toNat⟩
theorem wf_u32 {x : Int} (h : (Lit.int .u32 x).wf = true) : 0 <= x /\ x <= 4294967295 := by simpa [Lit.wf, IntKind.min, IntKind.max, IntKind.signed, IntKind.bits] using h
theorem adL {z : Int × Int × Int} (h : wf3 .u32 z) : st3 .u32 z = I4 (sqI z) /\ ∀ k, kv (sqI z) k < 4294967296 := by
 obtain ⟨h0, h1, h2⟩ := h
 have g0 := wf_u32 h0
 have g1 := wf_u32 h1
 have g2 := wf_u32 h2
 refine ⟨?_, fun k => ?_⟩
 .unfold st3 I4 sqI
  simp only
  rw [Int.toNat_of_nonneg g0.1, Int.toNat_of_nonneg g1.1, Int.toNat_of_nonneg g2.1]
 .unfold kv sqI
  split <;> (try split) <;> simp only <;> omega
theorem PG {z : Int × Int × Int} {n : Nat} {w : anV} (hg : nX w) (h : wf3 .u32 z) (hn : n < 256) : aU pg lW #[.agg (st3 .u32 z).toArray, .int .u8 n] w (fun r w' => r = .bool true /\ aX w w' dG) := by
 rw [(adL h).1]
 exact Q3 hg (adL h).2 hn
end Go.Proofs.YtaggdjhhmbnhoaaDoor

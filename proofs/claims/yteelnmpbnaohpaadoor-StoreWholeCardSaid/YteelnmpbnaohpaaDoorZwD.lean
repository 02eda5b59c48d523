/- Parts of the proof of StoreWhole: merged and given short names by a program of ours. -/
import Derived.Test.YteelnmpbnaohpaaDoorZwC
set_option linter.unusedVariables false
set_option linter.unusedSimpArgs false
open Array renaming getElem?_eq_none → aaL
open Bool renaming false_eq_true → ZS, not_false → ZW, not_true → ZX, or_false → acZ, false_or → adH, and_eq_false_iff → adN
open Int renaming toNat_natCast → ZV
open List renaming getElem?_eq_getElem → Z0, length_append → Z1, take_of_length_le → Z3, getD_eq_getElem?_getD → Z5, mem_cons_of_mem → Z7, length_drop → Z9, getElem?_cons_zero → ZQ, getElem?_cons_succ → ZR, length_map → ZZ, length_take → aaB, set_cons_zero → aaD, nil_append → aaF, length_eq_zero_iff → aaG, append_assoc → aaH, length_replicate → aaJ, getElem?_append_left → aaO, mem_range → aaS, toList_toArray → aaT, getElem?_map → aaV, set_cons_succ → aaW, mem_map → aaY, getElem?_eq_none → aaZ, getElem?_append_right → abA, map_append → abD, append_nil → abE, map_congr_left → abF, mem_cons_self → abH, take_succ_eq_append_getElem → abM, mem_append → abN, length_nil → abO, set_append_right → abQ, getElem_mem → abX, length_singleton → acG, map_drop → acH, getElem?_drop → acK, length_set → acL, map_take → acX, getElem_of_mem → adA, mem_singleton → adC, flatMap_cons → adE, length_range → adF, ext_getElem → adI, getElem_map → adJ, range_succ → adS
open Nat renaming le_refl → Z8, zero_add → ZY, add_sub_cancel_left → abK, mul_one → abV, add_assoc → acI, mul_add → acN, ne_of_lt → acP, le_trans → acR, sub_self → adQ
open Option renaming isNone_some → ZT, isNone_none → ZU, getD_some → abL, getD_none → adK
open Option.some renaming injEq → aaN
open Prod.mk renaming injEq → acW
namespace Go.Proofs.YteelnmpbnaohpaaDoor
open Go Go.En Go.Pu
structure Co (n : Nat) (S : jZ) : Prop where
 bd : YA S
 sz : iY S.seen <= 1000000000
 un : S.under.length + n <= 1000000
theorem Co.le {n m : Nat} {S : jZ} (h : Co n S) (hm : m <= n) : Co m S := ⟨h.bd, h.sz, by have := h.un; omega⟩
theorem Co.file {n : Nat} {S : jZ} (h : Co n S) {k : ByteArray} {b : List UInt8} (hb : jE k S.seen = some b) : b.length <= 1000000000 := by
 have h1 := Br (k := k) (c := S.seen)
 rw [hb] at h1
 have := h.sz
 have h1 : b.length <= iY S.seen := h1
 omega
theorem LF {l : Int} (h : -1 <= l /\ l <= 9223372036854775807) : -1 <= IK l /\ IK l <= 9223372036854775807 := by
 unfold IK
 split <;> omega
theorem Qp {n : Nat} {S : jZ} {o : RZ} (h : Co (n + 1) S) (hs : iY (NU o S.seen) <= 1000000000) : Co n (AZ S o).1 := by
 have hb := h.bd
 have hu := h.un
 have hz := h.sz
 unfold AZ
 split
 .exact ⟨⟨LF hb.left, hb.seen, hb.under, hb.room⟩, hz, by show S.under.length + n <= _; omega⟩
 .refine ⟨⟨LF hb.left, by show iY (NU o S.seen) <= _; omega, ?_, hb.room⟩, hs, ?_⟩
  .show (S.under ++ [o]).length <= _; rw [Z1]; simp; omega
  .show (S.under ++ [o]).length + n <= _; rw [Z1]; simp; omega
theorem Qd {n : Nat} {S : jZ} {k : ByteArray} {a : Int} {l : List UInt8} (h : Co (n + 1) S) : Co n (IW S k a l).1 := by
 unfold IW
 split
 .rename_i h0
  refine Qp h ?_
  unfold Ym at h0
  split at h0
  .omega
  split at h0
  .omega
  rename_i h1
  split at h0
  .omega
  split at h0
  .omega
  rename_i h2
  have hr := h.bd.room
  have e : NU ⟨0, k, ⟨#[]⟩, a.toNat, l⟩ S.seen = pR k (over (uW S k) a.toNat l) S.seen := rfl
  have hs := vP k (over (uW S k) a.toNat l) S.seen
  rw [Jj] at hs
  rw [e]
  unfold uW at *
  generalize ((jE k S.seen).getD []).length = q at *
  have : 0 <= a := by
   by_cases ha : a < 0
   .exact absurd (.inr ha) h1
   .omega
  omega
 .exact h.le (by omega)
theorem Rf {n : Nat} {S : jZ} {k : ByteArray} (h : Co (n + 1) S) : Co n (UB S k).1 := by
 unfold UB
 split
 .exact h.le (by omega)
 .split
  .exact h.le (by omega)
  .refine Qp h ?_
   have := FJ k S.seen
   have hz := h.sz
   show iY (CS k S.seen) <= _
   omega
theorem YS {n : Nat} {S : jZ} {k j : ByteArray} (h : Co (n + 1) S) : Co n (Ng S k j).1 := by
 unfold Ng
 split
 .exact h.le (by omega)
 .split
  .exact h.le (by omega)
  .split
   .exact h.le (by omega)
   .refine Qp h ?_
    have hz := h.sz
    unfold NU
    rw [if_neg (show ¬ (1 : Nat) = 0 by decide), if_pos (show (1 : Nat) = 1 from rfl)]
    show iY (match jE k S.seen with | none => S.seen | some old => pR j old (CS k S.seen)) <= _
    have h1 := FJ k S.seen
    cases hg : jE k S.seen with
    | none => exact hz
    | some old =>
      rw [hg] at h1
      have h1 : iY (CS k S.seen) + old.length = iY S.seen := h1
      have h2 := vP j old (CS k S.seen)
      show iY (pR j old (CS k S.seen)) <= _
      omega
theorem So {n : Nat} {S : jZ} (h : Co n S) : Co n (Ew S).1 := by
 have hb := h.bd
 have hu := h.un
 unfold Ew
 split
 .exact h
 .split
  .exact ⟨⟨LF hb.left, hb.seen, hb.under, hb.room⟩, h.sz, hu⟩
  .exact ⟨⟨LF hb.left, hb.seen, by simp, hb.room⟩, h.sz, by simp; omega⟩
structure Calm (S : jZ) : Prop where
 up : S.down = false
 left : S.left = -1
theorem TT {S : jZ} (h : Calm S) : TQ S = false := by unfold TQ; rw [h.up, h.left] <;> rfl
theorem Ql {S : jZ} (h : Calm S) (o : RZ) : AZ S o = ({ S with under := S.under ++ [o], seen := NU o S.seen }, 0) := by
 have h1 := h.up
 have h2 := h.left
 unfold AZ
 rw [TT h, if_neg (by decide)]
 obtain ⟨room, sure, seen, under, left, down⟩ := S
 simp only at h1 h2
 subst h1; subst h2
 rfl
theorem Lv {S : jZ} (h : Calm S) : Ew S = ({ S with sure := S.seen, under := [] }, 0) := by
 have h1 := h.up
 have h2 := h.left
 unfold Ew
 rw [TT h, h.up, if_neg (show ¬ false = true by decide), if_neg (show ¬ false = true by decide)]
 obtain ⟨room, sure, seen, under, left, down⟩ := S
 simp only at h1 h2
 subst h1; subst h2
 rfl
theorem QJ {S : jZ} {k : ByteArray} {a : Nat} {l : List UInt8} (h : Calm S) (hk : Lj k = true) (ha : a <= (uW S k).length) :
 IW S k a l = if S.room < ((iY S.seen + (a + l.length - (uW S k).length) : Nat) : Int) then (S, 22) else ({ S with under := S.under ++ [⟨0, k, ⟨#[]⟩, a, l⟩], seen := pR k (over (uW S k) a l) S.seen }, 0) := by
 have e : Ym S k a l.length = if S.room < ((iY S.seen + (a + l.length - (uW S k).length) : Nat) : Int) then 22 else 0 := by
  unfold Ym
  rw [h.up, if_neg (by decide), hk, if_neg (by rintro (h | h); cases h; omega), if_neg (by omega)]
  have : ((iY S.seen : Nat) : Int) + max ((a : Int) + (l.length : Int) - ((uW S k).length : Int)) 0 = ((iY S.seen + (a + l.length - (uW S k).length) : Nat) : Int) := by omega
  rw [this]
 unfold IW
 rw [e]
 by_cases h1 : S.room < ((iY S.seen + (a + l.length - (uW S k).length) : Nat) : Int)
 .rw [if_pos h1, if_pos h1, if_neg (by decide)]
 .rw [if_neg h1, if_neg h1, if_pos rfl, Ql h, ZV]
  rfl
end Go.Proofs.YteelnmpbnaohpaaDoor
namespace Go.Proofs.YteelnmpbnaohpaaDoor
open Go Go.En Go.Pu
set_option maxRecDepth 4000
abbrev Ns (m : TW) (lv : adW) : List adW := [.int .u64 (m.size : Nat), .int .u32 (m.part : Nat), lv]
abbrev Zy (p : Nat) (s : nS) (lv hv : adW) : List adW :=
 [dP p, .string s.nm, .int .u64 (s.man.size : Nat), .int .u32 (s.man.part : Nat), lv, .int .u64 (s.epoch : Nat), hv, .int .i64 (s.log : Nat), .bool s.fin, .int .i64 s.err]
abbrev U4 (l : List (List UInt8)) : List adW := l.flatMap fun x => x.map oY
structure Tx (m : TW) : Prop where
 size : m.size <= 1000000
 part : 1 <= m.part /\ m.part <= 65536
 cnt : m.leaves.length = mM m.size m.part
 max : mM m.size m.part <= 1024
 len : ∀ x ∈ m.leaves, x.length = 32
def Uu (w : adV) (T : Nat -> Prop) (lv : adW) (l : List (List UInt8)) : Prop := Cl w 32 lv l.length (U4 l) /\ ¬ wB lv T
theorem JB {w w' : adV} {sz n : Nat} {v : adW} {l : List adW} {M : Nat -> Prop} (h : Cl w sz v n l) (x : gX w w' M) (hM : ¬ wB v M) : Cl w' sz v n l := by
 obtain ⟨a, c, rfl, hl, hh⟩ := h
 refine ⟨a, c, rfl, hl, fun h0 => ?_⟩
 obtain ⟨b, off, rfl, h2⟩ := hh h0
 refine ⟨b, off, rfl, fun i hi => ?_⟩
 have hb : ¬ M b := fun hm => hM (by
  obtain ⟨n', rfl⟩ : ∃ n', n = n' + 1 := ⟨n - 1, by omega⟩
  exact hm)
 obtain ⟨y, hy⟩ : ∃ y, l[i]? = some y := ⟨_, Z0 hi⟩
 rw [<- h2 i hi]
 have h3 := h2 i hi
 rw [hy] at h3
 rw [Bo h3 x hb, h3]
theorem XC {w : adV} {sz n : Nat} {v : adW} {l : List adW} (h : Cl w sz v n l) (hsz : 0 < sz) : ¬ wB v (fun b => w.heap.size <= b) := by
 obtain ⟨a, c, rfl, hl, hh⟩ := h
 intro hi
 cases n with
 | zero => unfold wB at hi; split at hi <;> simp_all
 | succ n =>
   obtain ⟨b, off, rfl, h2⟩ := hh (by omega)
   have hi : w.heap.size <= b := hi
   have h3 := h2 0 (by rw [hl]; exact Nat.mul_pos (by omega) hsz)
   have hlt : 0 < l.length := by rw [hl]; exact Nat.mul_pos (by omega) hsz
   rw [Z0 hlt] at h3
   unfold World.cell? at h3
   rw [aaL hi] at h3
   cases h3
structure jX (n0 : Nat) (w : adV) (q p : Nat) (X D Y : Nat -> Prop) (S : jZ) (s : nS) (lv hv : adW) : Prop where
 glob : rD w
 g0 : 0 < n0 /\ 1 < n0
 lo : ∀ b, X b ∨ Y b -> n0 <= b
 hi : n0 <= w.heap.size
 dsk : lY w p X D S
 yq : Y q
 yd : ∀ b, Y b -> D b /\ ¬ X b
 own : jG w q (Zy p s lv hv)
 man : Tx s.man
 lv : Uu w (fun b => X b ∨ Y b) lv s.man.leaves
 hv : IB w (fun b => Y b /\ b ≠ q) 1 hv s.hv.length (s.hv.map Value.bool)
 ep : s.epoch < 18446744073709551616
 lg : s.log <= 1000000000
 hl : s.hv.length <= 1024
 nl : s.nm.size <= 27
def iH (n0 : Nat) (w : adV) (q p : Nat) (X D Y : Nat -> Prop) (S' : jZ) (s' : nS) (w' : adV) : Prop :=
 ∃ X' D' Y' lv hv, jX n0 w' q p X' D' Y' S' s' lv hv /\ (∀ b, X' b -> X b ∨ w.heap.size <= b) /\ (∀ b, D b -> D' b) /\ (∀ b, Y' b -> Y b ∨ w.heap.size <= b) /\ gX w w' (fun b => X b ∨ Y b)
theorem iH.refl {n0 : Nat} {w : adV} {q p : Nat} {X D Y : Nat -> Prop} {S : jZ} {s : nS} {lv hv : adW} (h : jX n0 w q p X D Y S s lv hv) : iH n0 w q p X D Y S s w :=
 ⟨X, D, Y, lv, hv, h, fun _ h => .inl h, fun _ h => h, fun _ h => .inl h, gX.refl _ _⟩
theorem iH.step {n0 : Nat} {w w1 w2 : adV} {q p : Nat} {X D Y X1 D1 Y1 : Nat -> Prop} {S2 : jZ} {s2 : nS} (x : gX w w1 (fun b => X b ∨ Y b)) (hX : ∀ b, X1 b -> X b ∨ w.heap.size <= b) (hD : ∀ b, D b -> D1 b) (hY : ∀ b, Y1 b -> Y b ∨ w.heap.size <= b)
 (h : iH n0 w1 q p X1 D1 Y1 S2 s2 w2) : iH n0 w q p X D Y S2 s2 w2 := by
 obtain ⟨X2, D2, Y2, lv, hv, h1, h2, h3, h4, h5⟩ := h
 have z := x.size
 refine ⟨X2, D2, Y2, lv, hv, h1, fun b hb => ?_, fun b hb => h3 b (hD b hb), fun b hb => ?_, x.trans h5 fun b hb hx => ?_⟩
 .rcases h2 b hb with h | h
  .exact hX b h
  .exact .inr (by omega)
 .rcases h4 b hb with h | h
  .exact hY b h
  .exact .inr (by omega)
 .rcases hx with h | h
  .rcases hX b h with h | h
   .exact .inl h
   .omega
  .rcases hY b h with h | h
   .exact .inr h
   .omega
theorem lY.xd' {w : adV} {p : Nat} {X D : Nat -> Prop} {S : jZ} (h : lY w p X D S) : ∀ b, X b -> D b := by
 obtain ⟨_, _, _, _, _, _, _, _, _, _, _, _, h7, _⟩ := h; exact h7
theorem Uu.keep {w w' : adV} {T : Nat -> Prop} {lv : adW} {l : List (List UInt8)} (h : Uu w T lv l) (x : gX w w' T) {T' : Nat -> Prop} (hT : ∀ b, T' b -> T b ∨ w.heap.size <= b) : Uu w' T' lv l := by
 refine ⟨JB h.1 x h.2, fun hi => ?_⟩
 have h3 := XC h.1 (by decide)
 obtain ⟨a, c, rfl, hl, hh⟩ := h.1
 have h2 := h.2
 unfold wB at hi h2 h3
 split at hi
 .rename_i e
  simp only [Value.slice.injEq] at e
  obtain ⟨rfl, e2, rfl⟩ := e
  rw [e2] at h2 h3
  rcases hT _ hi with h4 | h4
  .exact h2 h4
  .exact h3 h4
 .exact hi
theorem jX.ext {n0 : Nat} {w w' : adV} {q p : Nat} {X D Y M : Nat -> Prop} {S : jZ} {s : nS} {lv hv : adW} (h : jX n0 w q p X D Y S s lv hv) (x : gX w w' M) (hM : ∀ b, M b -> D b /\ ¬ X b /\ ¬ Y b /\ n0 <= b) (hl : ¬ wB lv M) : jX n0 w' q p X D Y S s lv hv := by
 have hg := h.g0
 refine ⟨h.glob.extM x (fun hm => by have := (hM _ hm).2.2.2; omega) (fun hm => by have := (hM _ hm).2.2.2; omega), h.g0, h.lo, acR h.hi x.size, h.dsk.ext x fun b hb => ⟨(hM b hb).1, (hM b hb).2.1⟩, h.yq, h.yd, h.own.ext x (fun hm => (hM _ hm).2.2.1 h.yq), h.man, ⟨JB h.lv.1 x hl, h.lv.2⟩, h.hv.ext x fun b hb hm => (hM _ hm).2.2.1 hb.1, h.ep, h.lg, h.hl, h.nl⟩
theorem jX.new {n0 : Nat} {w w' : adV} {q p : Nat} {X D Y : Nat -> Prop} {S : jZ} {s : nS} {lv hv : adW} (h : jX n0 w q p X D Y S s lv hv) (x : gX w w' jK) : jX n0 w' q p X D Y S s lv hv :=
 h.ext x (fun _ h => h.elim) (jJ _)
theorem jX.lt {n0 : Nat} {w : adV} {q p : Nat} {X D Y : Nat -> Prop} {S : jZ} {s : nS} {lv hv : adW} (h : jX n0 w q p X D Y S s lv hv) : ∀ b, X b ∨ Y b -> b < w.heap.size := fun b hb => by
 rcases hb with hb | hb
 .exact lY.lt h.dsk b (lY.xd' h.dsk b hb)
 .exact lY.lt h.dsk b (h.yd b hb).1
theorem jX.disk {n0 : Nat} {w w' : adV} {q p : Nat} {X D Y : Nat -> Prop} {S S' : jZ} {s : nS} {lv hv : adW} (h : jX n0 w q p X D Y S s lv hv) (hp : BM w p X D S' w') :
 ∃ X' D', jX n0 w' q p X' D' Y S' s lv hv /\ (∀ b, X' b -> X b ∨ w.heap.size <= b) /\ (∀ b, D b -> D' b) /\ gX w w' X := by
 obtain ⟨X', D', h1, h2, h3, x⟩ := hp
 have z := x.size
 have hh := h.hi
 have hn : ∀ b, Y b -> ¬ X b := fun b hb => (h.yd b hb).2
 refine ⟨X', D', ⟨h.glob.extM x (fun hm => by have := h.lo _ (.inl hm); have := h.g0; omega) (fun hm => by have := h.lo _ (.inl hm); have := h.g0; omega), h.g0, fun b hb => ?_, by omega, h1, h.yq, fun b hb => ⟨h3 b (h.yd b hb).1, fun hx => ?_⟩, h.own.ext x (hn _ h.yq), h.man, h.lv.keep (x.mono fun _ _ h => .inl h) fun b hb => ?_, h.hv.ext x fun b hb => hn b hb.1, h.ep, h.lg, h.hl, h.nl⟩, h2, h3, x⟩
 .rcases hb with hb | hb
  .rcases h2 b hb with h4 | h4
   .exact h.lo b (.inl h4)
   .omega
  .exact h.lo b (.inr hb)
 .rcases h2 b hx with h4 | h4
  .exact (h.yd b hb).2 h4
  .have := jX.lt h b (.inr hb); omega
 .rcases hb with hb | hb
  .rcases h2 b hb with h4 | h4
   .exact .inl (.inl h4)
   .exact .inr h4
  .exact .inl (.inr hb)
theorem jX.cells {n0 : Nat} {w : adV} {q p : Nat} {X D Y : Nat -> Prop} {S : jZ} {s : nS} {lv hv : adW} (h : jX n0 w q p X D Y S s lv hv) :
 w.cell? ⟨q, 0, none⟩ = some (dP p) /\ w.cell? ⟨q, 1, none⟩ = some (.string s.nm) /\ w.cell? ⟨q, 2, none⟩ = some (.int .u64 (s.man.size : Nat)) /\ w.cell? ⟨q, 3, none⟩ = some (.int .u32 (s.man.part : Nat)) /\ w.cell? ⟨q, 4, none⟩ = some lv /\
 w.cell? ⟨q, 5, none⟩ = some (.int .u64 (s.epoch : Nat)) /\ w.cell? ⟨q, 6, none⟩ = some hv /\ w.cell? ⟨q, 7, none⟩ = some (.int .i64 (s.log : Nat)) /\ w.cell? ⟨q, 8, none⟩ = some (.bool s.fin) /\ w.cell? ⟨q, 9, none⟩ = some (.int .i64 s.err) :=
 ⟨h.own.cell (off := 0), h.own.cell (off := 1), h.own.cell (off := 2), h.own.cell (off := 3), h.own.cell (off := 4), h.own.cell (off := 5), h.own.cell (off := 6), h.own.cell (off := 7), h.own.cell (off := 8), h.own.cell (off := 9)⟩
theorem jX.set {n0 : Nat} {w w' : adV} {q p : Nat} {X D Y : Nat -> Prop} {S : jZ} {s s' : nS} {lv hv : adW} (h : jX n0 w q p X D Y S s lv hv) (x : gX w w' (fun y => y = q)) (o : jG w' q (Zy p s' lv hv)) (hm : s'.man = s.man) (hh : s'.hv = s.hv) (hn : s'.nm = s.nm)
 (he : s'.epoch < 18446744073709551616) (hl : s'.log <= 1000000000) : jX n0 w' q p X D Y S s' lv hv := by
 have hq := h.yd q h.yq
 have hqn := h.lo q (.inr h.yq)
 have hg := h.g0
 refine ⟨h.glob.extM x (by omega) (by omega), h.g0, h.lo, acR h.hi x.size, h.dsk.ext x fun b hb => hb ▸ hq, h.yq, h.yd, o, hm ▸ h.man, ?_, ?_, he, hl, hh ▸ h.hl, hn ▸ h.nl⟩
 .rw [hm]
  exact h.lv.keep (x.mono fun b _ hb => .inr (hb ▸ h.yq)) fun b hb => .inl hb
 .rw [hh]
  exact h.hv.ext x fun b hb h => hb.2 h
theorem WW {ox oy : Operand} {a b : List UInt8} (ha : a.length = 32) (hb : b.length = 32) (w : adV) : (gO .eql 49 ox oy (.agg (a.map oY).toArray) (.agg (b.map oY).toArray)).run pg w = .ok (.value (.bool (a == b))) w := by
 have g0 : pg.eqGuardType pg.depth 49 = false := by kernel_rfl
 unfold gO
 simp only [Cv, mU, Sem.run_bind, run_eqGuard_agg w .eql 49 ox oy _ _ g0, Result.andThen_ok, run_eql_struct]
 rw [Sv 9998 32 Tryd.underlying49 Tryd.underlying5 IC rfl a b ha hb]
 simp only [Result.andThen_ok]
 rw [show decide (a = b) = (a == b) from (by cases h : (a == b) <;> simp_all)]
theorem Td : ∀ {l : List (List UInt8)} {i j : Nat}, (∀ x ∈ l, x.length = 32) -> i < l.length -> j < 32 -> (U4 l)[i * 32 + j]? = ((l.getD i []).map oY)[j]?
 | [], i, j, _, hi, _ => by simp at hi
 | x :: l, 0, j, h, _, hj => by
   show (List.flatMap _ (x :: l))[0 * 32 + j]? = _
   rw [adE, aaO (by rw [ZZ, h x abH]; omega)]
   simp
 | x :: l, i + 1, j, h, hi, hj => by
   show (List.flatMap _ (x :: l))[(i + 1) * 32 + j]? = _
   rw [adE, abA (by rw [ZZ, h x abH]; omega), ZZ, h x abH, show (i + 1) * 32 + j - 32 = i * 32 + j from by omega]
   exact Td (l := l) (fun y hy => h y (Z7 _ hy)) (by simpa using hi) hj
theorem NM {n0 q p : Nat} {X D Y : Nat -> Prop} {S : jZ} {s : nS} {lv hv : adW} {w : adV} (h : jX n0 w q p X D Y S s lv hv) : gU pg mE #[dP q] w (fun r w' => r = .int .i64 s.err /\ w' = w) := by
 refine Jx ?_
 obtain ⟨c0, c1, c2, c3, c4, c5, c6, c7, c8, c9⟩ := h.cells
 unfold HP xU
 simp (disch := omega) only [eY, gN, dX, stepR_skip, fP, fZ, fO, gK, gE, gC, gR, gA, eU, fV, fT, gG, fS, fM, fU, fR, fX, gH, fY, fQ, fC, gB, gI, fL, iS, iQ, iO, iR, iM, iN, iP, iU, iT, eP, Result.ok.injEq, Next.value.injEq, true_and, and_true, fK, fJ, gJ, fN, gD, gS, ZV, fE, fH, fF, fD, eZ, eX, fB, eT, eQ, eH, if_true, if_false, ZS, ZY, ZT, ZU, ZX, ZW, ZR, ZQ, eA, dV, aB, dI, dE, cJ, eB, eS, eE, dK, eD, fA, dQ, eN, bQ, dG, bJ, dL, aI, aH, eL, aV, bZ, eI, aF, eJ, dF, aR, bF, eF, bH, bE, bB, aO, aL, cD, fG, dY, cA, cI, dA, cH, dT, bC, eK, bX, dH, bP, aU, bU, aC, bY, bO, cF, bW, aY, bA, aX, bV, dM, cU, bR, aZ, aK, aJ, bG, aE, dC, dW, aN, aM, aT, aD, cY, aG, cL, bT, bD, aP, cM, cG, aA, dN, cQ, cV, cC, dO, cB, dJ, dU, cP, eC, eM, bN, aS, dZ, bS, aQ, bL, dS, dB, cO, cS, cN, bK, bM, cX, dR, cR, dD, cZ, c9]
theorem VZ {n0 q p : Nat} {X D Y : Nat -> Prop} {S : jZ} {s : nS} {lv hv : adW} {w : adV} (h : jX n0 w q p X D Y S s lv hv) : gU pg lA #[dP q] w (fun r w' => r = .bool s.fin /\ w' = w) := by
 refine AK ?_
 obtain ⟨c0, c1, c2, c3, c4, c5, c6, c7, c8, c9⟩ := h.cells
 unfold Bn qD
 simp (disch := omega) only [eY, gN, dX, stepR_skip, fP, fZ, fO, gK, gE, gC, gR, gA, eU, fV, fT, gG, fS, fM, fU, fR, fX, gH, fY, fQ, fC, gB, gI, fL, iS, iQ, iO, iR, iM, iN, iP, iU, iT, eP, Result.ok.injEq, Next.value.injEq, true_and, and_true, fK, fJ, gJ, fN, gD, gS, ZV, fE, fH, fF, fD, eZ, eX, fB, eT, eQ, eH, if_true, if_false, ZS, ZY, ZT, ZU, ZX, ZW, ZR, ZQ, eA, dV, aB, dI, dE, cJ, eB, eS, eE, dK, eD, fA, dQ, eN, bQ, dG, bJ, dL, aI, aH, eL, aV, bZ, eI, aF, eJ, dF, aR, bF, eF, bH, bE, bB, aO, aL, cD, fG, dY, cA, cI, dA, cH, dT, bC, eK, bX, dH, bP, aU, bU, aC, bY, bO, cF, bW, aY, bA, aX, bV, dM, cU, bR, aZ, aK, aJ, bG, aE, dC, dW, aN, aM, aT, aD, cY, aG, cL, bT, bD, aP, cM, cG, aA, dN, cQ, cV, cC, dO, cB, dJ, dU, cP, eC, eM, bN, aS, dZ, bS, aQ, bL, dS, dB, cO, cS, cN, bK, bM, cX, dR, cR, dD, cZ, c8]
theorem UX {n0 q p : Nat} {X D Y : Nat -> Prop} {S : jZ} {s : nS} {lv hv : adW} {w : adV} (h : jX n0 w q p X D Y S s lv hv) : gU pg mG #[dP q] w (fun r w' => r = .int .u64 (s.epoch : Nat) /\ w' = w) := by
 refine Hx ?_
 obtain ⟨c0, c1, c2, c3, c4, c5, c6, c7, c8, c9⟩ := h.cells
 unfold EL uQ
 simp (disch := omega) only [eY, gN, dX, stepR_skip, fP, fZ, fO, gK, gE, gC, gR, gA, eU, fV, fT, gG, fS, fM, fU, fR, fX, gH, fY, fQ, fC, gB, gI, fL, iS, iQ, iO, iR, iM, iN, iP, iU, iT, eP, Result.ok.injEq, Next.value.injEq, true_and, and_true, fK, fJ, gJ, fN, gD, gS, ZV, fE, fH, fF, fD, eZ, eX, fB, eT, eQ, eH, if_true, if_false, ZS, ZY, ZT, ZU, ZX, ZW, ZR, ZQ, eA, dV, aB, dI, dE, cJ, eB, eS, eE, dK, eD, fA, dQ, eN, bQ, dG, bJ, dL, aI, aH, eL, aV, bZ, eI, aF, eJ, dF, aR, bF, eF, bH, bE, bB, aO, aL, cD, fG, dY, cA, cI, dA, cH, dT, bC, eK, bX, dH, bP, aU, bU, aC, bY, bO, cF, bW, aY, bA, aX, bV, dM, cU, bR, aZ, aK, aJ, bG, aE, dC, dW, aN, aM, aT, aD, cY, aG, cL, bT, bD, aP, cM, cG, aA, dN, cQ, cV, cC, dO, cB, dJ, dU, cP, eC, eM, bN, aS, dZ, bS, aQ, bL, dS, dB, cO, cS, cN, bK, bM, cX, dR, cR, dD, cZ, c5]
theorem OG {q p : Nat} {X D : Nat -> Prop} {S : jZ} {n : ByteArray} {w : adV} (hd : lY w p X D S) (hB : Co 0 S) (hc : w.cell? ⟨q, 0, none⟩ = some (dP p)) :
 gU pg mQ #[dP q, .string n] w (fun r w' => ∃ v, r = .tuple #[v, .bool (iX S n).2.1, .int .i64 (iX S n).2.2] /\ zH w' w.heap.size 1 v (iX S n).1.length ((iX S n).1.map oY) /\ gX w w' jK) := by
 refine Iq ?_
 unfold GP wM
 simp (disch := omega) only [eY, gN, dX, stepR_skip, fP, fZ, fO, gK, gE, gC, gR, gA, eU, fV, fT, gG, fS, fM, fU, fR, fX, gH, fY, fQ, fC, gB, gI, fL, iS, iQ, iO, iR, iM, iN, iP, iU, iT, eP, Result.ok.injEq, Next.value.injEq, true_and, and_true, fK, fJ, gJ, fN, gD, gS, ZV, fE, fH, fF, fD, eZ, eX, fB, eT, eQ, eH, if_true, if_false, ZS, ZY, ZT, ZU, ZX, ZW, ZR, ZQ, eA, dV, aB, dI, dE, cJ, eB, eS, eE, dK, eD, fA, dQ, eN, bQ, dG, bJ, dL, aI, aH, eL, aV, bZ, eI, aF, eJ, dF, aR, bF, eF, bH, bE, bB, aO, aL, cD, fG, dY, cA, cI, dA, cH, dT, bC, eK, bX, dH, bP, aU, bU, aC, bY, bO, cF, bW, aY, bA, aX, bV, dM, cU, bR, aZ, aK, aJ, bG, aE, dC, dW, aN, aM, aT, aD, cY, aG, cL, bT, bD, aP, cM, cG, aA, dN, cQ, cV, cC, dO, cB, dJ, dU, cP, eC, eM, bN, aS, dZ, bS, aQ, bL, dS, dB, cO, cS, cN, bK, bM, cX, dR, cR, dD, cZ, hc]
 refine (Qu hd hB.bd (fun b hb => hB.file hb)).mono ?_
 rintro r w1 ⟨hr, x1⟩
 unfold iX
 rcases hr with ⟨h1, rfl⟩ | ⟨h1, h2, rfl⟩ | ⟨h1, b, v, h2, rfl, ho⟩
 .have n1 : ((20 : Int) == 21) = false := rfl
  have n2 : ((20 : Int) == 0) = false := rfl
  rw [if_pos h1]
  simp (disch := omega) only [eY, gN, dX, stepR_skip, fP, fZ, fO, gK, gE, gC, gR, gA, eU, fV, fT, gG, fS, fM, fU, fR, fX, gH, fY, fQ, fC, gB, gI, fL, iS, iQ, iO, iR, iM, iN, iP, iU, iT, eP, Result.ok.injEq, Next.value.injEq, true_and, and_true, fK, fJ, gJ, fN, gD, gS, ZV, fE, fH, fF, fD, eZ, eX, fB, eT, eQ, eH, if_true, if_false, ZS, ZY, ZT, ZU, ZX, ZW, ZR, ZQ, eA, dV, aB, dI, dE, cJ, eB, eS, eE, dK, eD, fA, dQ, eN, bQ, dG, bJ, dL, aI, aH, eL, aV, bZ, eI, aF, eJ, dF, aR, bF, eF, bH, bE, bB, aO, aL, cD, fG, dY, cA, cI, dA, cH, dT, bC, eK, bX, dH, bP, aU, bU, aC, bY, bO, cF, bW, aY, bA, aX, bV, dM, cU, bR, aZ, aK, aJ, bG, aE, dC, dW, aN, aM, aT, aD, cY, aG, cL, bT, bD, aP, cM, cG, aA, dN, cQ, cV, cC, dO, cB, dJ, dU, cP, eC, eM, bN, aS, dZ, bS, aQ, bL, dS, dB, cO, cS, cN, bK, bM, cX, dR, cR, dD, cZ, n1, n2]
  exact ⟨_, rfl, zH.nil _ _ _, x1⟩
 .have n1 : ((21 : Int) == 21) = true := rfl
  rw [if_neg (by rw [h1]; decide), h2]
  simp (disch := omega) only [eY, gN, dX, stepR_skip, fP, fZ, fO, gK, gE, gC, gR, gA, eU, fV, fT, gG, fS, fM, fU, fR, fX, gH, fY, fQ, fC, gB, gI, fL, iS, iQ, iO, iR, iM, iN, iP, iU, iT, eP, Result.ok.injEq, Next.value.injEq, true_and, and_true, fK, fJ, gJ, fN, gD, gS, ZV, fE, fH, fF, fD, eZ, eX, fB, eT, eQ, eH, if_true, if_false, ZS, ZY, ZT, ZU, ZX, ZW, ZR, ZQ, eA, dV, aB, dI, dE, cJ, eB, eS, eE, dK, eD, fA, dQ, eN, bQ, dG, bJ, dL, aI, aH, eL, aV, bZ, eI, aF, eJ, dF, aR, bF, eF, bH, bE, bB, aO, aL, cD, fG, dY, cA, cI, dA, cH, dT, bC, eK, bX, dH, bP, aU, bU, aC, bY, bO, cF, bW, aY, bA, aX, bV, dM, cU, bR, aZ, aK, aJ, bG, aE, dC, dW, aN, aM, aT, aD, cY, aG, cL, bT, bD, aP, cM, cG, aA, dN, cQ, cV, cC, dO, cB, dJ, dU, cP, eC, eM, bN, aS, dZ, bS, aQ, bL, dS, dB, cO, cS, cN, bK, bM, cX, dR, cR, dD, cZ, n1]
  exact ⟨_, rfl, zH.nil _ _ _, x1⟩
 .have n1 : ((0 : Int) == 21) = false := rfl
  have n2 : ((0 : Int) == 0) = true := rfl
  rw [if_neg (by rw [h1]; decide), h2]
  simp (disch := omega) only [eY, gN, dX, stepR_skip, fP, fZ, fO, gK, gE, gC, gR, gA, eU, fV, fT, gG, fS, fM, fU, fR, fX, gH, fY, fQ, fC, gB, gI, fL, iS, iQ, iO, iR, iM, iN, iP, iU, iT, eP, Result.ok.injEq, Next.value.injEq, true_and, and_true, fK, fJ, gJ, fN, gD, gS, ZV, fE, fH, fF, fD, eZ, eX, fB, eT, eQ, eH, if_true, if_false, ZS, ZY, ZT, ZU, ZX, ZW, ZR, ZQ, eA, dV, aB, dI, dE, cJ, eB, eS, eE, dK, eD, fA, dQ, eN, bQ, dG, bJ, dL, aI, aH, eL, aV, bZ, eI, aF, eJ, dF, aR, bF, eF, bH, bE, bB, aO, aL, cD, fG, dY, cA, cI, dA, cH, dT, bC, eK, bX, dH, bP, aU, bU, aC, bY, bO, cF, bW, aY, bA, aX, bV, dM, cU, bR, aZ, aK, aJ, bG, aE, dC, dW, aN, aM, aT, aD, cY, aG, cL, bT, bD, aP, cM, cG, aA, dN, cQ, cV, cC, dO, cB, dJ, dU, cP, eC, eM, bN, aS, dZ, bS, aQ, bL, dS, dB, cO, cS, cN, bK, bM, cX, dR, cR, dD, cZ, n1, n2]
  exact ⟨_, rfl, ho, x1⟩
theorem Tu {n0 q p i : Nat} {X D Y : Nat -> Prop} {S : jZ} {s : nS} {lv hv bv : adW} {b : List UInt8} {w : adV} (h : jX n0 w q p X D Y S s lv hv) (hi : i < s.man.leaves.length) (hb : Bs w bv b) (hl : b.length <= 1000000) :
 gU pg nU #[dP q, .int .i64 (i : Nat), bv] w (fun r w' => r = .bool (Bk hU s.man i b) /\ gX w w' jK) := by
 refine G0 ?_
 obtain ⟨RR, hRR⟩ : ∃ RR : adW -> adV -> Prop, RR = fun r w' => r = .bool (Bk hU s.man i b) /\ gX w w' jK := ⟨_, rfl⟩
 rw [<- hRR]
 have hm := h.man
 have hc1 := hm.cnt
 have hc2 := hm.max
 have h' := h.new (gX.dr w jK)
 obtain ⟨c0, c1, c2, c3, c4, c5, c6, c7, c8, c9⟩ := h'.cells
 obtain ⟨ba, bc, rfl, hbc⟩ := hb.len
 rw [ZZ] at hb hbc
 unfold Eu tP
 have e1 : IntKind.i64.wrap ((s.man.part : Nat) : Int) = ((s.man.part : Nat) : Int) := fK (by omega) (by have := hm.part; omega)
 simp (disch := omega) only [eY, gN, dX, stepR_skip, fP, fZ, fO, gK, gE, gC, gR, gA, eU, fV, fT, gG, fS, fM, fU, fR, fX, gH, fY, fQ, fC, gB, gI, fL, iS, iQ, iO, iR, iM, iN, iP, iU, iT, eP, Result.ok.injEq, Next.value.injEq, true_and, and_true, fK, fJ, gJ, fN, gD, gS, ZV, fE, fH, fF, fD, eZ, eX, fB, eT, eQ, eH, if_true, if_false, ZS, ZY, ZT, ZU, ZX, ZW, ZR, ZQ, eA, dV, aB, dI, dE, cJ, eB, eS, eE, dK, eD, fA, dQ, eN, bQ, dG, bJ, dL, aI, aH, eL, aV, bZ, eI, aF, eJ, dF, aR, bF, eF, bH, bE, bB, aO, aL, cD, fG, dY, cA, cI, dA, cH, dT, bC, eK, bX, dH, bP, aU, bU, aC, bY, bO, cF, bW, aY, bA, aX, bV, dM, cU, bR, aZ, aK, aJ, bG, aE, dC, dW, aN, aM, aT, aD, cY, aG, cL, bT, bD, aP, cM, cG, aA, dN, cQ, cV, cC, dO, cB, dJ, dU, cP, eC, eM, bN, aS, dZ, bS, aQ, bL, dS, dB, cO, cS, cN, bK, bM, cX, dR, cR, dD, cZ, c2, c3, e1, ZZ]
 have hsz := hm.size
 refine (OQ (by omega) hm.part.1 hm.part.2 hc2 (by omega)).mono ?_
 rintro r w1 ⟨rfl, hw⟩
 rw [hw]; clear hw w1
 have n0' : ((0 : Int) == 0) = true := rfl
 obtain ⟨N, hN⟩ : ∃ N, N = IX s.man.size s.man.part i := ⟨_, rfl⟩
 have hwb : Bk hU s.man i b = (b.length == N && hU b == s.man.leaves.getD i []) := by rw [hN] <;> rfl
 rw [<- hN]
 have key : ∀ W, gX w W jK -> ∃ la off lc, lv = .slice (some ⟨la, off, none⟩) s.man.leaves.length lc /\ (fW 49 (.pointer (some ⟨la, off + i * 32, none⟩))).run pg W = .ok (.value (.agg ((s.man.leaves.getD i []).map oY).toArray)) W := fun W x => by
  obtain ⟨a, c, hlv, hln, hh⟩ := JB h.lv.1 x (jJ _)
  obtain ⟨la, off, rfl, h2⟩ := hh (by omega)
  have hmem : s.man.leaves.getD i [] ∈ s.man.leaves := by
   rw [Z5, Z0 hi]; exact abX hi
  refine ⟨la, off, c, hlv, RH (by rw [ZZ, hm.len _ hmem]) fun j hj => ?_⟩
  rw [ZZ, hm.len _ hmem] at hj
  rw [acI, h2 _ (by rw [hln]; omega), Td hm.len hi hj]
 have hllen : (s.man.leaves.getD i []).length = 32 := hm.len _ (by rw [Z5, Z0 hi]; exact abX hi)
 by_cases hq : b.length = N
 rotate_left
 .have d1 : (((b.length : Nat) : Int) == ((N : Nat) : Int)) = false := by rw [beq_eq_false_iff_ne]; omega
  have d2 : (b.length == N) = false := by rw [beq_eq_false_iff_ne]; exact hq
  rw [d2, Bool.false_and] at hwb
  simp (disch := omega) only [eY, gN, dX, stepR_skip, fP, fZ, fO, gK, gE, gC, gR, gA, eU, fV, fT, gG, fS, fM, fU, fR, fX, gH, fY, fQ, fC, gB, gI, fL, iS, iQ, iO, iR, iM, iN, iP, iU, iT, eP, Result.ok.injEq, Next.value.injEq, true_and, and_true, fK, fJ, gJ, fN, gD, gS, ZV, fE, fH, fF, fD, eZ, eX, fB, eT, eQ, eH, if_true, if_false, ZS, ZY, ZT, ZU, ZX, ZW, ZR, ZQ, eA, dV, aB, dI, dE, cJ, eB, eS, eE, dK, eD, fA, dQ, eN, bQ, dG, bJ, dL, aI, aH, eL, aV, bZ, eI, aF, eJ, dF, aR, bF, eF, bH, bE, bB, aO, aL, cD, fG, dY, cA, cI, dA, cH, dT, bC, eK, bX, dH, bP, aU, bU, aC, bY, bO, cF, bW, aY, bA, aX, bV, dM, cU, bR, aZ, aK, aJ, bG, aE, dC, dW, aN, aM, aT, aD, cY, aG, cL, bT, bD, aP, cM, cG, aA, dN, cQ, cV, cC, dO, cB, dJ, dU, cP, eC, eM, bN, aS, dZ, bS, aQ, bL, dS, dB, cO, cS, cN, bK, bM, cX, dR, cR, dD, cZ, n0', d1]
  rw [hRR]
  exact ⟨by rw [hwb], (gX.dr w _).seq (gX.dr _ _)⟩
 have d1 : (((b.length : Nat) : Int) == ((N : Nat) : Int)) = true := by rw [beq_iff_eq]; omega
 have d2 : (b.length == N) = true := by rw [beq_iff_eq]; exact hq
 rw [d2, Bool.true_and] at hwb
 simp (disch := omega) only [eY, gN, dX, stepR_skip, fP, fZ, fO, gK, gE, gC, gR, gA, eU, fV, fT, gG, fS, fM, fU, fR, fX, gH, fY, fQ, fC, gB, gI, fL, iS, iQ, iO, iR, iM, iN, iP, iU, iT, eP, Result.ok.injEq, Next.value.injEq, true_and, and_true, fK, fJ, gJ, fN, gD, gS, ZV, fE, fH, fF, fD, eZ, eX, fB, eT, eQ, eH, if_true, if_false, ZS, ZY, ZT, ZU, ZX, ZW, ZR, ZQ, eA, dV, aB, dI, dE, cJ, eB, eS, eE, dK, eD, fA, dQ, eN, bQ, dG, bJ, dL, aI, aH, eL, aV, bZ, eI, aF, eJ, dF, aR, bF, eF, bH, bE, bB, aO, aL, cD, fG, dY, cA, cI, dA, cH, dT, bC, eK, bX, dH, bP, aU, bU, aC, bY, bO, cF, bW, aY, bA, aX, bV, dM, cU, bR, aZ, aK, aJ, bG, aE, dC, dW, aN, aM, aT, aD, cY, aG, cL, bT, bD, aP, cM, cG, aA, dN, cQ, cV, cC, dO, cB, dJ, dU, cP, eC, eM, bN, aS, dZ, bS, aQ, bL, dS, dB, cO, cS, cN, bK, bM, cX, dR, cR, dD, cZ, n0', d1]
 have xd2 : gX w (dr (dr w)) jK := (gX.dr w _).seq (gX.dr _ _)
 refine (VE (l := b) (h.glob.ext xd2) (hb.ext xd2 (jJ _)) (by omega)).mono ?_
 rintro r w2 ⟨rfl, x2⟩
 have x02 := xd2.seq x2
 obtain ⟨la, off, lc, hlv, ld2⟩ := key w2 x02
 obtain ⟨_, _, _, hlv', ldd⟩ := key _ xd2
 rw [hlv] at hlv'
 cases hlv'
 obtain ⟨a0, a1, a2, a3, a4, a5, a6, a7, a8, a9⟩ := (h.new x02).cells
 obtain ⟨b0, b1, b2, b3, b4, b5, b6, b7, b8, b9⟩ := (h.new xd2).cells
 rw [hlv] at a4 b4
 have hs := fun ox oy => WW (ox := ox) (oy := oy) (a := hU b) (b := s.man.leaves.getD i []) (zP _) hllen w2
 simp (disch := omega) only [eY, gN, dX, stepR_skip, fP, fZ, fO, gK, gE, gC, gR, gA, eU, fV, fT, gG, fS, fM, fU, fR, fX, gH, fY, fQ, fC, gB, gI, fL, iS, iQ, iO, iR, iM, iN, iP, iU, iT, eP, Result.ok.injEq, Next.value.injEq, true_and, and_true, fK, fJ, gJ, fN, gD, gS, ZV, fE, fH, fF, fD, eZ, eX, fB, eT, eQ, eH, if_true, if_false, ZS, ZY, ZT, ZU, ZX, ZW, ZR, ZQ, eA, dV, aB, dI, dE, cJ, eB, eS, eE, dK, eD, fA, dQ, eN, bQ, dG, bJ, dL, aI, aH, eL, aV, bZ, eI, aF, eJ, dF, aR, bF, eF, bH, bE, bB, aO, aL, cD, fG, dY, cA, cI, dA, cH, dT, bC, eK, bX, dH, bP, aU, bU, aC, bY, bO, cF, bW, aY, bA, aX, bV, dM, cU, bR, aZ, aK, aJ, bG, aE, dC, dW, aN, aM, aT, aD, cY, aG, cL, bT, bD, aP, cM, cG, aA, dN, cQ, cV, cC, dO, cB, dJ, dU, cP, eC, eM, bN, aS, dZ, bS, aQ, bL, dS, dB, cO, cS, cN, bK, bM, cX, dR, cR, dD, cZ, a4, b4, ld2, ldd, hs]
 rw [hRR]
 exact ⟨by rw [hwb], x02⟩
theorem Ks (L k i : Nat) (b : List UInt8) : (yP L k i b).length <= b.length := by
 unfold yP
 rw [aaB, Z9]; omega
theorem Oa {n0 q p : Nat} {X D Y : Nat -> Prop} {S : jZ} {s : nS} {lv hv bv : adW} {b : List UInt8} {w : adV} (h : jX n0 w q p X D Y S s lv hv) (hb : Bs w bv b) (hl : b.length <= 1000000) :
 gU pg lU #[dP q, bv] w (fun r w' => ∃ ob, r = .slice (some ⟨ob, 0, none⟩) s.man.leaves.length s.man.leaves.length /\ w.heap.size <= ob /\ jG w' ob ((jC hU s.man b).map Value.bool) /\ gX w w' jK) := by
 refine FV ?_
 obtain ⟨RR, hRR⟩ : ∃ RR : adW -> adV -> Prop, RR = fun r w' => ∃ ob, r = .slice (some ⟨ob, 0, none⟩) s.man.leaves.length s.man.leaves.length /\ w.heap.size <= ob /\ jG w' ob ((jC hU s.man b).map Value.bool) /\ gX w w' jK := ⟨_, rfl⟩
 rw [<- hRR]
 have hm := h.man
 have hc1 := hm.cnt
 have hc2 := hm.max
 have hsz := hm.size
 obtain ⟨c0, c1, c2, c3, c4, c5, c6, c7, c8, c9⟩ := h.cells
 obtain ⟨la, lc, hlv, _⟩ := h.lv.1
 obtain ⟨ba, bc, rfl, hbc⟩ := hb.len
 rw [ZZ] at hb hbc ⊢
 obtain ⟨n, hn⟩ : ∃ n, n = s.man.leaves.length := ⟨_, rfl⟩
 rw [hlv] at c4
 rw [<- hn] at c4 hc1
 unfold Dx sH sM
 simp (disch := omega) only [eY, gN, dX, stepR_skip, fP, fZ, fO, gK, gE, gC, gR, gA, eU, fV, fT, gG, fS, fM, fU, fR, fX, gH, fY, fQ, fC, gB, gI, fL, iS, iQ, iO, iR, iM, iN, iP, iU, iT, eP, Result.ok.injEq, Next.value.injEq, true_and, and_true, fK, fJ, gJ, fN, gD, gS, ZV, fE, fH, fF, fD, eZ, eX, fB, eT, eQ, eH, if_true, if_false, ZS, ZY, ZT, ZU, ZX, ZW, ZR, ZQ, eA, dV, aB, dI, dE, cJ, eB, eS, eE, dK, eD, fA, dQ, eN, bQ, dG, bJ, dL, aI, aH, eL, aV, bZ, eI, aF, eJ, dF, aR, bF, eF, bH, bE, bB, aO, aL, cD, fG, dY, cA, cI, dA, cH, dT, bC, eK, bX, dH, bP, aU, bU, aC, bY, bO, cF, bW, aY, bA, aX, bV, dM, cU, bR, aZ, aK, aJ, bG, aE, dC, dW, aN, aM, aT, aD, cY, aG, cL, bT, bD, aP, cM, cG, aA, dN, cQ, cV, cC, dO, cB, dJ, dU, cP, eC, eM, bN, aS, dZ, bS, aQ, bL, dS, dB, cO, cS, cN, bK, bM, cX, dR, cR, dD, cZ, c4]
 refine O0 (by omega) (by omega) fun w1 o1 x1 s1 => ?_
 rw [ZV] at o1 ⊢
 obtain ⟨ob, hob⟩ : ∃ ob, ob = w.heap.size := ⟨_, rfl⟩
 rw [<- hob] at o1 ⊢
 unfold sC sU sB sK sL
 simp (disch := omega) only [eY, gN, dX, stepR_skip, fP, fZ, fO, gK, gE, gC, gR, gA, eU, fV, fT, gG, fS, fM, fU, fR, fX, gH, fY, fQ, fC, gB, gI, fL, iS, iQ, iO, iR, iM, iN, iP, iU, iT, eP, Result.ok.injEq, Next.value.injEq, true_and, and_true, fK, fJ, gJ, fN, gD, gS, ZV, fE, fH, fF, fD, eZ, eX, fB, eT, eQ, eH, if_true, if_false, ZS, ZY, ZT, ZU, ZX, ZW, ZR, ZQ, eA, dV, aB, dI, dE, cJ, eB, eS, eE, dK, eD, fA, dQ, eN, bQ, dG, bJ, dL, aI, aH, eL, aV, bZ, eI, aF, eJ, dF, aR, bF, eF, bH, bE, bB, aO, aL, cD, fG, dY, cA, cI, dA, cH, dT, bC, eK, bX, dH, bP, aU, bU, aC, bY, bO, cF, bW, aY, bA, aX, bV, dM, cU, bR, aZ, aK, aJ, bG, aE, dC, dW, aN, aM, aT, aD, cY, aG, cL, bT, bD, aP, cM, cG, aA, dN, cQ, cV, cC, dO, cB, dJ, dU, cP, eC, eM, bN, aS, dZ, bS, aQ, bL, dS, dB, cO, cS, cN, bK, bM, cX, dR, cR, dD, cZ]
 refine jW.rule (fun m (t : adW) w' => ∃ i : Nat, m = n - i /\ i <= n /\ t = .int .i64 (i : Nat) /\ jG w' ob (((List.range i).map fun j => Value.bool (wholeAt hU s.man b j)) ++ List.replicate (n - i) (.bool false)) /\ gX w w' jK) n ⟨0, rfl, by omega, rfl, o1, x1⟩ ?_
 clear o1
 rintro m t w2 ⟨i, rfl, hi, rfl, o2, x2⟩
 unfold pC
 by_cases hlt : i < n
 .have d1 : decide ((i : Int) < (n : Int)) = true := by simp; omega
  have x2d : gX w (dr w2) jK := x2.seq (gX.dr _ _)
  obtain ⟨a0, a1, a2, a3, a4, a5, a6, a7, a8, a9⟩ := (h.new x2d).cells
  have e1 : IntKind.i64.wrap ((s.man.part : Nat) : Int) = ((s.man.part : Nat) : Int) := fK (by omega) (by have := hm.part; omega)
  simp (disch := omega) only [eY, gN, dX, stepR_skip, fP, fZ, fO, gK, gE, gC, gR, gA, eU, fV, fT, gG, fS, fM, fU, fR, fX, gH, fY, fQ, fC, gB, gI, fL, iS, iQ, iO, iR, iM, iN, iP, iU, iT, eP, Result.ok.injEq, Next.value.injEq, true_and, and_true, fK, fJ, gJ, fN, gD, gS, ZV, fE, fH, fF, fD, eZ, eX, fB, eT, eQ, eH, if_true, if_false, ZS, ZY, ZT, ZU, ZX, ZW, ZR, ZQ, eA, dV, aB, dI, dE, cJ, eB, eS, eE, dK, eD, fA, dQ, eN, bQ, dG, bJ, dL, aI, aH, eL, aV, bZ, eI, aF, eJ, dF, aR, bF, eF, bH, bE, bB, aO, aL, cD, fG, dY, cA, cI, dA, cH, dT, bC, eK, bX, dH, bP, aU, bU, aC, bY, bO, cF, bW, aY, bA, aX, bV, dM, cU, bR, aZ, aK, aJ, bG, aE, dC, dW, aN, aM, aT, aD, cY, aG, cL, bT, bD, aP, cM, cG, aA, dN, cQ, cV, cC, dO, cB, dJ, dU, cP, eC, eM, bN, aS, dZ, bS, aQ, bL, dS, dB, cO, cS, cN, bK, bM, cX, dR, cR, dD, cZ, d1, a2, a3, e1]
  refine (OQ (by omega) hm.part.1 hm.part.2 hc2 (by omega)).mono ?_
  rintro r w3 ⟨rfl, hw⟩
  rw [hw]; clear hw w3
  obtain ⟨P, hP⟩ : ∃ P, P = s.man.part * i := ⟨_, rfl⟩
  obtain ⟨N, hN⟩ : ∃ N, N = IX s.man.size s.man.part i := ⟨_, rfl⟩
  have hPl : P < s.man.size := hP ▸ (Au (by have := hm.part; omega)).1 (by omega)
  have hNl : N <= s.man.part := by rw [hN]; unfold IX; omega
  have hpm := hm.part
  rw [<- hP, <- hN]
  have n1 : ((0 : Int) == 0) = true := rfl
  have e2 : (P : Int) + (N : Int) = ((P + N : Nat) : Int) := by omega
  have hwa : wholeAt hU s.man b i = (decide (P + N <= b.length) && Bk hU s.man i (yP s.man.size s.man.part i b)) := by rw [hP, hN] <;> rfl
  have o3 := kJ o2
  have oset : ∀ (z : Bool), z = wholeAt hU s.man b i -> ((((List.range i).map fun j => Value.bool (wholeAt hU s.man b j)) ++ List.replicate (n - i) (Value.bool false)).set i (.bool z)) = ((List.range (i + 1)).map fun j => Value.bool (wholeAt hU s.man b j)) ++ List.replicate (n - (i + 1)) (.bool false) := fun z hz => by
   rw [abQ _ _ (by simp), ZZ, adF, adQ, show n - i = (n - (i + 1)) + 1 from by omega, List.replicate_succ, aaD, adS, abD, aaH, hz]
   rfl
  by_cases hfit : P + N <= b.length
  .have d2 : decide (((P + N : Nat) : Int) <= (b.length : Int)) = true := by simp only [decide_eq_true_eq]; omega
   rw [decide_eq_true hfit, Bool.true_and] at hwa
   simp (disch := omega) only [eY, gN, dX, stepR_skip, fP, fZ, fO, gK, gE, gC, gR, gA, eU, fV, fT, gG, fS, fM, fU, fR, fX, gH, fY, fQ, fC, gB, gI, fL, iS, iQ, iO, iR, iM, iN, iP, iU, iT, eP, Result.ok.injEq, Next.value.injEq, true_and, and_true, fK, fJ, gJ, fN, gD, gS, ZV, fE, fH, fF, fD, eZ, eX, fB, eT, eQ, eH, if_true, if_false, ZS, ZY, ZT, ZU, ZX, ZW, ZR, ZQ, eA, dV, aB, dI, dE, cJ, eB, eS, eE, dK, eD, fA, dQ, eN, bQ, dG, bJ, dL, aI, aH, eL, aV, bZ, eI, aF, eJ, dF, aR, bF, eF, bH, bE, bB, aO, aL, cD, fG, dY, cA, cI, dA, cH, dT, bC, eK, bX, dH, bP, aU, bU, aC, bY, bO, cF, bW, aY, bA, aX, bV, dM, cU, bR, aZ, aK, aJ, bG, aE, dC, dW, aN, aM, aT, aD, cY, aG, cL, bT, bD, aP, cM, cG, aA, dN, cQ, cV, cC, dO, cB, dJ, dU, cP, eC, eM, bN, aS, dZ, bS, aQ, bL, dS, dB, cO, cS, cN, bK, bM, cX, dR, cR, dD, cZ, n1, e2, d2]
   have hbd : Bs (dr w2) (.slice (jO ba bc P 1) (P + N - P) (bc - P)) (yP s.man.size s.man.part i b) := by
    have := Sl.mid (hb.ext x2d (jJ _)) (i := P) (j := P + N) (by omega) hfit
    rw [<- acH, <- acX, abK] at this
    rw [abK]
    unfold yP
    rw [<- hP, <- hN]
    exact this
   refine (Tu (h.new x2d) (by omega) hbd (by have := Ks s.man.size s.man.part i b; omega)).mono ?_
   rintro r w4 ⟨rfl, x4⟩
   refine Hy (o3.ext x4 (fun h => h)) rfl (by rw [Z1, ZZ, adF, aaJ]; omega) fun w5 o5 x5 s5 => ?_
   rw [oset _ hwa.symm] at o5
   exact ⟨n - (i + 1), by omega, i + 1, rfl, by omega, rfl, o5, (x2d.seq x4).trans x5 fun y hy h => by omega⟩
  .have d2 : decide (((P + N : Nat) : Int) <= (b.length : Int)) = false := by simp only [decide_eq_false_iff_not]; omega
   rw [decide_eq_false hfit, Bool.false_and] at hwa
   simp (disch := omega) only [eY, gN, dX, stepR_skip, fP, fZ, fO, gK, gE, gC, gR, gA, eU, fV, fT, gG, fS, fM, fU, fR, fX, gH, fY, fQ, fC, gB, gI, fL, iS, iQ, iO, iR, iM, iN, iP, iU, iT, eP, Result.ok.injEq, Next.value.injEq, true_and, and_true, fK, fJ, gJ, fN, gD, gS, ZV, fE, fH, fF, fD, eZ, eX, fB, eT, eQ, eH, if_true, if_false, ZS, ZY, ZT, ZU, ZX, ZW, ZR, ZQ, eA, dV, aB, dI, dE, cJ, eB, eS, eE, dK, eD, fA, dQ, eN, bQ, dG, bJ, dL, aI, aH, eL, aV, bZ, eI, aF, eJ, dF, aR, bF, eF, bH, bE, bB, aO, aL, cD, fG, dY, cA, cI, dA, cH, dT, bC, eK, bX, dH, bP, aU, bU, aC, bY, bO, cF, bW, aY, bA, aX, bV, dM, cU, bR, aZ, aK, aJ, bG, aE, dC, dW, aN, aM, aT, aD, cY, aG, cL, bT, bD, aP, cM, cG, aA, dN, cQ, cV, cC, dO, cB, dJ, dU, cP, eC, eM, bN, aS, dZ, bS, aQ, bL, dS, dB, cO, cS, cN, bK, bM, cX, dR, cR, dD, cZ, n1, e2, d2]
   refine Hy o3 rfl (by rw [Z1, ZZ, adF, aaJ]; omega) fun w5 o5 x5 s5 => ?_
   rw [oset _ hwa.symm] at o5
   exact ⟨n - (i + 1), by omega, i + 1, rfl, by omega, rfl, o5, x2d.trans x5 fun y hy h => by omega⟩
 .have d1 : decide ((i : Int) < (n : Int)) = false := by simp; omega
  obtain rfl : i = n := by omega
  unfold oZ
  simp (disch := omega) only [eY, gN, dX, stepR_skip, fP, fZ, fO, gK, gE, gC, gR, gA, eU, fV, fT, gG, fS, fM, fU, fR, fX, gH, fY, fQ, fC, gB, gI, fL, iS, iQ, iO, iR, iM, iN, iP, iU, iT, eP, Result.ok.injEq, Next.value.injEq, true_and, and_true, fK, fJ, gJ, fN, gD, gS, ZV, fE, fH, fF, fD, eZ, eX, fB, eT, eQ, eH, if_true, if_false, ZS, ZY, ZT, ZU, ZX, ZW, ZR, ZQ, eA, dV, aB, dI, dE, cJ, eB, eS, eE, dK, eD, fA, dQ, eN, bQ, dG, bJ, dL, aI, aH, eL, aV, bZ, eI, aF, eJ, dF, aR, bF, eF, bH, bE, bB, aO, aL, cD, fG, dY, cA, cI, dA, cH, dT, bC, eK, bX, dH, bP, aU, bU, aC, bY, bO, cF, bW, aY, bA, aX, bV, dM, cU, bR, aZ, aK, aJ, bG, aE, dC, dW, aN, aM, aT, aD, cY, aG, cL, bT, bD, aP, cM, cG, aA, dN, cQ, cV, cC, dO, cB, dJ, dU, cP, eC, eM, bN, aS, dZ, bS, aQ, bL, dS, dB, cO, cS, cN, bK, bM, cX, dR, cR, dD, cZ, d1]
  rw [hRR]
  refine ⟨ob, by rw [<- hn], by omega, ?_, x2⟩
  rw [adQ, List.replicate_zero, abE] at o2
  unfold jC
  rw [<- hn, List.map_map]
  exact o2
theorem TP {n : ByteArray} (h : n.size <= 27) (t : TypeId) (ox oy : Operand) (w : adV) : (gO .add t ox oy (.string n) (.string ⟨#[46, 108, 111, 103]⟩)).run pg w = .ok (.value (.string (jH n))) w := Wl n _ (by show ((n.size + 4 : Nat) : Int) <= _; omega)
theorem OI {n : ByteArray} (h : n.size <= 27) (t : TypeId) (ox oy : Operand) (w : adV) : (gO .add t ox oy (.string n) (.string ⟨#[46, 112, 97, 114, 116]⟩)).run pg w = .ok (.value (.string (iC n))) w := Wl n _ (by show ((n.size + 5 : Nat) : Int) <= _; omega)
theorem R0 {n0 q p k v : Nat} {X D Y : Nat -> Prop} {S : jZ} {s : nS} {lv hv : adW} {w : adV} (h : jX n0 w q p X D Y S s lv hv) (hB : Co 1 S) (hk : k = 1 ∨ k = 2) (hv' : v < 2 ^ 64) (hlg : s.log + 13 <= 1000000000) :
 gU pg nC #[dP q, U5 k v] w (fun r w' => r = .int .i64 (kO iE S s k v).2.2 /\ iH n0 w q p X D Y (kO iE S s k v).1 (kO iE S s k v).2.1 w') := by
 refine Gn ?_
 obtain ⟨RR, hRR⟩ : ∃ RR : adW -> adV -> Prop, RR = fun r w' => r = .int .i64 (kO iE S s k v).2.2 /\ iH n0 w q p X D Y (kO iE S s k v).1 (kO iE S s k v).2.1 w' := ⟨_, rfl⟩
 rw [<- hRR]
 unfold CX sI sE
 refine oE fun w1 o1 x1 s1 => ?_
 have o1 : jG w1 w.heap.size (Ba (k, v)) := o1
 have l1 := tI (off := 0) o1 (by simp)
 have l1 : (fW 77 (.pointer (some ⟨w.heap.size, 0, none⟩))).run pg w1 = .ok (.value (U5 k v)) w1 := l1
 simp (disch := omega) only [eY, gN, dX, stepR_skip, fP, fZ, fO, gK, gE, gC, gR, gA, eU, fV, fT, gG, fS, fM, fU, fR, fX, gH, fY, fQ, fC, gB, gI, fL, iS, iQ, iO, iR, iM, iN, iP, iU, iT, eP, Result.ok.injEq, Next.value.injEq, true_and, and_true, fK, fJ, gJ, fN, gD, gS, ZV, fE, fH, fF, fD, eZ, eX, fB, eT, eQ, eH, if_true, if_false, ZS, ZY, ZT, ZU, ZX, ZW, ZR, ZQ, eA, dV, aB, dI, dE, cJ, eB, eS, eE, dK, eD, fA, dQ, eN, bQ, dG, bJ, dL, aI, aH, eL, aV, bZ, eI, aF, eJ, dF, aR, bF, eF, bH, bE, bB, aO, aL, cD, fG, dY, cA, cI, dA, cH, dT, bC, eK, bX, dH, bP, aU, bU, aC, bY, bO, cF, bW, aY, bA, aX, bV, dM, cU, bR, aZ, aK, aJ, bG, aE, dC, dW, aN, aM, aT, aD, cY, aG, cL, bT, bD, aP, cM, cG, aA, dN, cQ, cV, cC, dO, cB, dJ, dU, cP, eC, eM, bN, aS, dZ, bS, aQ, bL, dS, dB, cO, cS, cN, bK, bM, cX, dR, cR, dD, cZ, l1]
 refine (Ra (h.glob.ext x1) (by omega) hv').mono ?_
 rintro r w2 ⟨hr, x2⟩
 rw [if_pos hk] at hr
 obtain ⟨b, rfl, hb⟩ := hr
 have h13 := rG iE k v
 have h2 := h.new (x1.seq x2)
 have h2d := h2.new (gX.dr w2 jK)
 obtain ⟨a0, a1, a2, a3, a4, a5, a6, a7, a8, a9⟩ := h2d.cells
 have n1 : ((0 : Int) == 0) = true := rfl
 have hbd : Bs (dr w2) b (tJ iE k v) := (show Bs w2 b (tJ iE k v) from hb.sl).ext (gX.dr w2 jK) (jJ _)
 obtain ⟨ba, bc, rfl, _⟩ := hbd.len
 rw [ZZ] at hbd hb ⊢
 have ct := TP h.nl
 simp (disch := omega) only [eY, gN, dX, stepR_skip, fP, fZ, fO, gK, gE, gC, gR, gA, eU, fV, fT, gG, fS, fM, fU, fR, fX, gH, fY, fQ, fC, gB, gI, fL, iS, iQ, iO, iR, iM, iN, iP, iU, iT, eP, Result.ok.injEq, Next.value.injEq, true_and, and_true, fK, fJ, gJ, fN, gD, gS, ZV, fE, fH, fF, fD, eZ, eX, fB, eT, eQ, eH, if_true, if_false, ZS, ZY, ZT, ZU, ZX, ZW, ZR, ZQ, eA, dV, aB, dI, dE, cJ, eB, eS, eE, dK, eD, fA, dQ, eN, bQ, dG, bJ, dL, aI, aH, eL, aV, bZ, eI, aF, eJ, dF, aR, bF, eF, bH, bE, bB, aO, aL, cD, fG, dY, cA, cI, dA, cH, dT, bC, eK, bX, dH, bP, aU, bU, aC, bY, bO, cF, bW, aY, bA, aX, bV, dM, cU, bR, aZ, aK, aJ, bG, aE, dC, dW, aN, aM, aT, aD, cY, aG, cL, bT, bD, aP, cM, cG, aA, dN, cQ, cV, cC, dO, cB, dJ, dU, cP, eC, eM, bN, aS, dZ, bS, aQ, bL, dS, dB, cO, cS, cN, bK, bM, cX, dR, cR, dD, cZ, n1, a0, a1, a7, ct]
 have x02 : gX w (dr w2) (fun b => X b ∨ Y b) := ((x1.seq x2).seq (gX.dr _ _)).mono fun _ _ h => h.elim
 refine (OW (name := jH s.nm) (a := (s.log : Nat)) h2d.dsk hB.bd hbd (by omega) (by omega) (by omega)).mono ?_
 rintro r w3 ⟨rfl, hp⟩
 obtain ⟨X', D', h3, hX, hD, x3⟩ := h2d.disk hp
 have hrec : kO iE S s k v = if (IW S (jH s.nm) s.log (tJ iE k v)).2 = 0 then ((IW S (jH s.nm) s.log (tJ iE k v)).1, { s with log := s.log + 13 }, 0) else ((IW S (jH s.nm) s.log (tJ iE k v)).1, s, (IW S (jH s.nm) s.log (tJ iE k v)).2) := rfl
 generalize IW S (jH s.nm) s.log (tJ iE k v) = W at *
 obtain ⟨S', e⟩ := W
 simp only at h3 hrec
 unfold sN sR pA
 have x3' : gX (dr w2) w3 (fun b => X b ∨ Y b) := x3.mono fun _ _ h => .inl h
 by_cases he : e = 0
 .subst he
  rw [if_pos rfl] at hrec
  obtain ⟨c0, c1, c2, c3, c4, c5, c6, c7, c8, c9⟩ := h3.cells
  have e1 : (s.log : Int) + (13 : Int) = ((s.log + 13 : Nat) : Int) := by omega
  rw [h13] at *
  simp (disch := omega) only [eY, gN, dX, stepR_skip, fP, fZ, fO, gK, gE, gC, gR, gA, eU, fV, fT, gG, fS, fM, fU, fR, fX, gH, fY, fQ, fC, gB, gI, fL, iS, iQ, iO, iR, iM, iN, iP, iU, iT, eP, Result.ok.injEq, Next.value.injEq, true_and, and_true, fK, fJ, gJ, fN, gD, gS, ZV, fE, fH, fF, fD, eZ, eX, fB, eT, eQ, eH, if_true, if_false, ZS, ZY, ZT, ZU, ZX, ZW, ZR, ZQ, eA, dV, aB, dI, dE, cJ, eB, eS, eE, dK, eD, fA, dQ, eN, bQ, dG, bJ, dL, aI, aH, eL, aV, bZ, eI, aF, eJ, dF, aR, bF, eF, bH, bE, bB, aO, aL, cD, fG, dY, cA, cI, dA, cH, dT, bC, eK, bX, dH, bP, aU, bU, aC, bY, bO, cF, bW, aY, bA, aX, bV, dM, cU, bR, aZ, aK, aJ, bG, aE, dC, dW, aN, aM, aT, aD, cY, aG, cL, bT, bD, aP, cM, cG, aA, dN, cQ, cV, cC, dO, cB, dJ, dU, cP, eC, eM, bN, aS, dZ, bS, aQ, bL, dS, dB, cO, cS, cN, bK, bM, cX, dR, cR, dD, cZ, n1, c7, e1]
  refine Ku h3.own rfl (by simp) fun w4 o4 x4 s4 => ?_
  have h4 := h3.set (s' := { s with log := s.log + 13 }) x4 o4 rfl rfl rfl h.ep hlg
  rw [hRR, hrec]
  exact ⟨rfl, iH.step x02 (fun _ h => .inl h) (fun _ h => h) (fun _ h => .inl h) ⟨X', D', Y, _, _, h4, hX, hD, fun _ h => .inl h, x3'.seq (x4.mono fun y _ hy => .inr (hy ▸ h.yq))⟩⟩
 .rw [if_neg he] at hrec
  have n2 : (e == 0) = false := beq_eq_false_iff_ne.2 he
  simp (disch := omega) only [eY, gN, dX, stepR_skip, fP, fZ, fO, gK, gE, gC, gR, gA, eU, fV, fT, gG, fS, fM, fU, fR, fX, gH, fY, fQ, fC, gB, gI, fL, iS, iQ, iO, iR, iM, iN, iP, iU, iT, eP, Result.ok.injEq, Next.value.injEq, true_and, and_true, fK, fJ, gJ, fN, gD, gS, ZV, fE, fH, fF, fD, eZ, eX, fB, eT, eQ, eH, if_true, if_false, ZS, ZY, ZT, ZU, ZX, ZW, ZR, ZQ, eA, dV, aB, dI, dE, cJ, eB, eS, eE, dK, eD, fA, dQ, eN, bQ, dG, bJ, dL, aI, aH, eL, aV, bZ, eI, aF, eJ, dF, aR, bF, eF, bH, bE, bB, aO, aL, cD, fG, dY, cA, cI, dA, cH, dT, bC, eK, bX, dH, bP, aU, bU, aC, bY, bO, cF, bW, aY, bA, aX, bV, dM, cU, bR, aZ, aK, aJ, bG, aE, dC, dW, aN, aM, aT, aD, cY, aG, cL, bT, bD, aP, cM, cG, aA, dN, cQ, cV, cC, dO, cB, dJ, dU, cP, eC, eM, bN, aS, dZ, bS, aQ, bL, dS, dB, cO, cS, cN, bK, bM, cX, dR, cR, dD, cZ, n1, n2]
  rw [hRR, hrec]
  exact ⟨rfl, iH.step x02 (fun _ h => .inl h) (fun _ h => h) (fun _ h => .inl h) ⟨X', D', Y, _, _, h3, hX, hD, fun _ h => .inl h, x3'⟩⟩
theorem V2 {n0 q p : Nat} {X D Y : Nat -> Prop} {S : jZ} {s : nS} {lv hv : adW} {w : adV} (h : jX n0 w q p X D Y S s lv hv) (hB : Co 2 S) :
 gU pg pP #[dP q] w (fun r w' => ∃ bv, r = .tuple #[bv, .int .i64 (jS S s).2.2] /\ Bs w' bv (jS S s).2.1 /\ (∀ b, (X b ∨ Y b) -> ¬ wB bv (fun y => y = b)) /\ iH n0 w q p X D Y (jS S s).1 s w') := by
 refine GA ?_
 obtain ⟨RR, hRR⟩ : ∃ RR : adW -> adV -> Prop, RR = fun r w' => ∃ bv, r = .tuple #[bv, .int .i64 (jS S s).2.2] /\ Bs w' bv (jS S s).2.1 /\ (∀ b, (X b ∨ Y b) -> ¬ wB bv (fun y => y = b)) /\ iH n0 w q p X D Y (jS S s).1 s w' := ⟨_, rfl⟩
 rw [<- hRR]
 obtain ⟨c0, c1, c2, c3, c4, c5, c6, c7, c8, c9⟩ := h.cells
 have ct := OI h.nl
 unfold DV sP sJ
 simp (disch := omega) only [eY, gN, dX, stepR_skip, fP, fZ, fO, gK, gE, gC, gR, gA, eU, fV, fT, gG, fS, fM, fU, fR, fX, gH, fY, fQ, fC, gB, gI, fL, iS, iQ, iO, iR, iM, iN, iP, iU, iT, eP, Result.ok.injEq, Next.value.injEq, true_and, and_true, fK, fJ, gJ, fN, gD, gS, ZV, fE, fH, fF, fD, eZ, eX, fB, eT, eQ, eH, if_true, if_false, ZS, ZY, ZT, ZU, ZX, ZW, ZR, ZQ, eA, dV, aB, dI, dE, cJ, eB, eS, eE, dK, eD, fA, dQ, eN, bQ, dG, bJ, dL, aI, aH, eL, aV, bZ, eI, aF, eJ, dF, aR, bF, eF, bH, bE, bB, aO, aL, cD, fG, dY, cA, cI, dA, cH, dT, bC, eK, bX, dH, bP, aU, bU, aC, bY, bO, cF, bW, aY, bA, aX, bV, dM, cU, bR, aZ, aK, aJ, bG, aE, dC, dW, aN, aM, aT, aD, cY, aG, cL, bT, bD, aP, cM, cG, aA, dN, cQ, cV, cC, dO, cB, dJ, dU, cP, eC, eM, bN, aS, dZ, bS, aQ, bL, dS, dB, cO, cS, cN, bK, bM, cX, dR, cR, dD, cZ, c1, ct]
 refine (OG (n := iC s.nm) h.dsk (hB.le (by omega)) c0).mono ?_
 rintro r w1 ⟨v, rfl, ho, x1⟩
 have h1 := h.new x1
 obtain ⟨rb, hrb⟩ : ∃ rb, rb = iX S (iC s.nm) := ⟨_, rfl⟩
 rw [<- hrb] at ho ⊢
 obtain ⟨b, th, e⟩ := rb
 simp only at ho ⊢
 have hno : ∀ b, (X b ∨ Y b) -> ¬ wB v (fun y => y = b) := fun y hy hi => by
  have hlt := jX.lt h y hy
  rcases ho.2 with ⟨rfl, _⟩ | ⟨bb, cc, rest, rfl, g2, _⟩
  .exact hi
  .unfold wB at hi
   split at hi
   .rename_i e
    simp only [Value.slice.injEq, aaN] at e
    obtain ⟨rfl, _⟩ := e
    have hi : bb = y := hi
    omega
   .exact hi
 have hnn : ∀ y : Nat, (X y ∨ Y y) -> ¬ wB (.slice none 0 0) (fun z => z = y) := fun y _ h => h
 have hf : jS S s = if e ≠ 0 then (S, [], e) else if s.man.size < b.length then (if (UB S (iC s.nm)).2 ≠ 0 then ((UB S (iC s.nm)).1, [], (UB S (iC s.nm)).2) else ((IW (UB S (iC s.nm)).1 (iC s.nm) 0 (List.replicate s.man.size 0)).1, [], (IW (UB S (iC s.nm)).1 (iC s.nm) 0 (List.replicate s.man.size 0)).2))
     else if b.length < s.man.size ∨ th = false then ((IW S (iC s.nm) b.length (List.replicate (s.man.size - b.length) 0)).1, b, (IW S (iC s.nm) b.length (List.replicate (s.man.size - b.length) 0)).2) else (S, b, 0) := by
  unfold jS
  rw [<- hrb]
 have hsz := h.man.size
 by_cases he : e = 0
 rotate_left
 .have n1 : (e != 0) = true := bne_iff_ne.2 he
  rw [if_pos he] at hf
  simp (disch := omega) only [eY, gN, dX, stepR_skip, fP, fZ, fO, gK, gE, gC, gR, gA, eU, fV, fT, gG, fS, fM, fU, fR, fX, gH, fY, fQ, fC, gB, gI, fL, iS, iQ, iO, iR, iM, iN, iP, iU, iT, eP, Result.ok.injEq, Next.value.injEq, true_and, and_true, fK, fJ, gJ, fN, gD, gS, ZV, fE, fH, fF, fD, eZ, eX, fB, eT, eQ, eH, if_true, if_false, ZS, ZY, ZT, ZU, ZX, ZW, ZR, ZQ, eA, dV, aB, dI, dE, cJ, eB, eS, eE, dK, eD, fA, dQ, eN, bQ, dG, bJ, dL, aI, aH, eL, aV, bZ, eI, aF, eJ, dF, aR, bF, eF, bH, bE, bB, aO, aL, cD, fG, dY, cA, cI, dA, cH, dT, bC, eK, bX, dH, bP, aU, bU, aC, bY, bO, cF, bW, aY, bA, aX, bV, dM, cU, bR, aZ, aK, aJ, bG, aE, dC, dW, aN, aM, aT, aD, cY, aG, cL, bT, bD, aP, cM, cG, aA, dN, cQ, cV, cC, dO, cB, dJ, dU, cP, eC, eM, bN, aS, dZ, bS, aQ, bL, dS, dB, cO, cS, cN, bK, bM, cX, dR, cR, dD, cZ, n1]
  rw [hRR, hf]
  exact ⟨_, rfl, Sl.nil _, hnn, iH.step (x1.mono fun _ _ h => h.elim) (fun _ h => .inl h) (fun _ h => h) (fun _ h => .inl h) (iH.refl h1)⟩
 subst he
 rw [if_neg (by decide)] at hf
 have n1 : ((0 : Int) != 0) = false := rfl
 have hbs : Bs w1 v b := ho.sl
 obtain ⟨va, vc, rfl, _⟩ := hbs.len
 rw [ZZ] at hbs hno ho
 have hbl : b.length <= 1000000000 := by
  unfold iX at hrb
  split at hrb
  .cases hrb
  .cases hg : jE (iC s.nm) S.seen with
   | none => rw [hg] at hrb; cases hrb; simp
   | some b' => rw [hg] at hrb; cases hrb; exact hB.file hg
 have tail : ∀ {w2 : adV} {X2 D2 : Nat -> Prop} {S2 : jZ} {b2 : List UInt8} {a2 : Option Addr} {c2 : Nat} {th2 : Bool}, jX n0 w2 q p X2 D2 Y S2 s lv hv -> Co 1 S2 -> Bs w2 (.slice a2 b2.length c2) b2 -> (∀ y, (X2 y ∨ Y y) -> ¬ wB (.slice a2 b2.length c2) (fun z => z = y)) -> b2.length <= s.man.size →
     (∀ w3 e3 S3, (if b2.length < s.man.size ∨ th2 = false then ((IW S2 (iC s.nm) b2.length (List.replicate (s.man.size - b2.length) 0)).1, (IW S2 (iC s.nm) b2.length (List.replicate (s.man.size - b2.length) 0)).2) else (S2, 0)) = (S3, e3) -> Bs w3 (.slice a2 b2.length c2) b2 -> iH n0 w2 q p X2 D2 Y S3 s w3 -> RR (.tuple #[.slice a2 b2.length c2, .int .i64 e3]) w3) →
     mL RR (dP q) (.slice a2 b2.length c2) (.bool th2) w2 := by
  intro w2 X2 D2 S2 b2 a2 c2 th2 h2 hB2 hb2 hn2 hle hK
  obtain ⟨d0, d1, d2, d3, d4, d5, d6, d7, d8, d9⟩ := h2.cells
  have e1 : IntKind.i64.wrap ((s.man.size : Nat) : Int) = ((s.man.size : Nat) : Int) := fK (by omega) (by omega)
  have e2 : (s.man.size : Int) - (b2.length : Int) = ((s.man.size - b2.length : Nat) : Int) := by omega
  have fin : ∀ {w3 : adV}, (b2.length < s.man.size ∨ th2 = false) -> jG w3 (dr w2).heap.size (List.replicate (s.man.size - b2.length) (.int .u8 0)) -> gX (dr w2) w3 jK -> gU pg lM #[dP p, .string (iC s.nm), .int .i64 (b2.length : Nat), .slice (some ⟨(dr w2).heap.size, 0, none⟩) (s.man.size - b2.length) (s.man.size - b2.length)] w3 fun t74 w4 => RR (.tuple #[.slice a2 b2.length c2, t74]) w4 := by
   intro w3 hc o3 x3
   rw [if_pos hc] at hK
   have x23 : gX w2 w3 jK := (gX.dr _ _).seq x3
   have h3 := h2.new x23
   have hbz : Bs w3 (.slice (some ⟨(dr w2).heap.size, 0, none⟩) (s.man.size - b2.length) (s.man.size - b2.length)) (List.replicate (s.man.size - b2.length) 0) := by
    refine jG.whole (l := List.replicate (s.man.size - b2.length) (0 : UInt8)) (c := s.man.size - b2.length) ?_ ?_ |> fun hh => by rw [aaJ] at hh; exact hh
    .rw [TV]; exact o3
    .simp
   have hdw := OW (name := iC s.nm) (a := (b2.length : Nat)) h3.dsk hB2.bd hbz (by rw [aaJ]; omega) (by omega) (by omega)
   refine hdw.mono ?_
   rintro r w4 ⟨rfl, hp⟩
   obtain ⟨X', D', h4, hX, hD, x4⟩ := h3.disk hp
   refine hK w4 _ _ rfl ((hb2.ext x23 (jJ _)).ext x4 fun hi => ?_) (iH.step (x23.mono fun _ _ h => h.elim) (fun _ h => .inl h) (fun _ h => h) (fun _ h => .inl h) ⟨X', D', Y, _, _, h4, hX, hD, fun _ h => .inl h, x4.mono fun _ _ h => .inl h⟩)
   unfold wB at hi
   split at hi
   .rename_i b' _ m _ he
    have := hn2 _ (.inl hi)
    rw [he] at this
    exact this rfl
   .exact hi
  have h2d := (h2.new (gX.dr w2 jK))
  obtain ⟨f0, f1, f2, f3, f4, f5, f6, f7, f8, f9⟩ := h2d.cells
  unfold mL
  have mk : (b2.length < s.man.size ∨ th2 = false) -> eY pg (wP 22 (.int .i64 ((s.man.size - b2.length : Nat) : Int)) (.int .i64 ((s.man.size - b2.length : Nat) : Int))) (dr w2) fun t73 w3 =>
      (NZ (w3.cell? ⟨q, 1, none⟩) w3 (Ps pg 9 ⟨q, 1, none⟩ w3) = Result.ok (Next.value (Value.string s.nm)) w3 /\ NZ (w3.cell? ⟨q, 0, none⟩) w3 (Ps pg 32 ⟨q, 0, none⟩ w3) = Result.ok (Next.value (dP p)) w3) /\
      gU pg lM #[dP p, .string (iC s.nm), .int .i64 (b2.length : Nat), t73] w3 fun t74 w4 => RR (.tuple #[.slice a2 b2.length c2, t74]) w4 := fun hc => by
   refine M5 (by omega) (by omega) fun w3 o3 x3 s3 => ?_
   rw [ZV] at o3 ⊢
   obtain ⟨g0, g1, _⟩ := (h2.new ((gX.dr _ _).seq x3)).cells
   refine ⟨⟨by rw [g1] <;> rfl, by rw [g0] <;> rfl⟩, fin hc o3 x3⟩
  by_cases hlt : b2.length < s.man.size
  .have q1 : decide ((0 : Int) < ((s.man.size - b2.length : Nat) : Int)) = true := by simp only [decide_eq_true_eq]; omega
   simp (disch := omega) only [eY, gN, dX, stepR_skip, fP, fZ, fO, gK, gE, gC, gR, gA, eU, fV, fT, gG, fS, fM, fU, fR, fX, gH, fY, fQ, fC, gB, gI, fL, iS, iQ, iO, iR, iM, iN, iP, iU, iT, eP, Result.ok.injEq, Next.value.injEq, true_and, and_true, fK, fJ, gJ, fN, gD, gS, ZV, fE, fH, fF, fD, eZ, eX, fB, eT, eQ, eH, if_true, if_false, ZS, ZY, ZT, ZU, ZX, ZW, ZR, ZQ, eA, dV, aB, dI, dE, cJ, eB, eS, eE, dK, eD, fA, dQ, eN, bQ, dG, bJ, dL, aI, aH, eL, aV, bZ, eI, aF, eJ, dF, aR, bF, eF, bH, bE, bB, aO, aL, cD, fG, dY, cA, cI, dA, cH, dT, bC, eK, bX, dH, bP, aU, bU, aC, bY, bO, cF, bW, aY, bA, aX, bV, dM, cU, bR, aZ, aK, aJ, bG, aE, dC, dW, aN, aM, aT, aD, cY, aG, cL, bT, bD, aP, cM, cG, aA, dN, cQ, cV, cC, dO, cB, dJ, dU, cP, eC, eM, bN, aS, dZ, bS, aQ, bL, dS, dB, cO, cS, cN, bK, bM, cX, dR, cR, dD, cZ, d2, e1, e2, q1, f0, f1, ct]
   exact mk (.inl hlt)
  .have q1 : decide ((0 : Int) < ((s.man.size - b2.length : Nat) : Int)) = false := by simp only [decide_eq_false_iff_not]; omega
   cases th2 with
   | false =>
     simp (disch := omega) only [eY, gN, dX, stepR_skip, fP, fZ, fO, gK, gE, gC, gR, gA, eU, fV, fT, gG, fS, fM, fU, fR, fX, gH, fY, fQ, fC, gB, gI, fL, iS, iQ, iO, iR, iM, iN, iP, iU, iT, eP, Result.ok.injEq, Next.value.injEq, true_and, and_true, fK, fJ, gJ, fN, gD, gS, ZV, fE, fH, fF, fD, eZ, eX, fB, eT, eQ, eH, if_true, if_false, ZS, ZY, ZT, ZU, ZX, ZW, ZR, ZQ, eA, dV, aB, dI, dE, cJ, eB, eS, eE, dK, eD, fA, dQ, eN, bQ, dG, bJ, dL, aI, aH, eL, aV, bZ, eI, aF, eJ, dF, aR, bF, eF, bH, bE, bB, aO, aL, cD, fG, dY, cA, cI, dA, cH, dT, bC, eK, bX, dH, bP, aU, bU, aC, bY, bO, cF, bW, aY, bA, aX, bV, dM, cU, bR, aZ, aK, aJ, bG, aE, dC, dW, aN, aM, aT, aD, cY, aG, cL, bT, bD, aP, cM, cG, aA, dN, cQ, cV, cC, dO, cB, dJ, dU, cP, eC, eM, bN, aS, dZ, bS, aQ, bL, dS, dB, cO, cS, cN, bK, bM, cX, dR, cR, dD, cZ, d2, e1, e2, q1, f0, f1, ct]
     exact mk (.inr rfl)
   | true =>
     rw [if_neg (by rintro (h | h); exact hlt h; cases h)] at hK
     simp (disch := omega) only [eY, gN, dX, stepR_skip, fP, fZ, fO, gK, gE, gC, gR, gA, eU, fV, fT, gG, fS, fM, fU, fR, fX, gH, fY, fQ, fC, gB, gI, fL, iS, iQ, iO, iR, iM, iN, iP, iU, iT, eP, Result.ok.injEq, Next.value.injEq, true_and, and_true, fK, fJ, gJ, fN, gD, gS, ZV, fE, fH, fF, fD, eZ, eX, fB, eT, eQ, eH, if_true, if_false, ZS, ZY, ZT, ZU, ZX, ZW, ZR, ZQ, eA, dV, aB, dI, dE, cJ, eB, eS, eE, dK, eD, fA, dQ, eN, bQ, dG, bJ, dL, aI, aH, eL, aV, bZ, eI, aF, eJ, dF, aR, bF, eF, bH, bE, bB, aO, aL, cD, fG, dY, cA, cI, dA, cH, dT, bC, eK, bX, dH, bP, aU, bU, aC, bY, bO, cF, bW, aY, bA, aX, bV, dM, cU, bR, aZ, aK, aJ, bG, aE, dC, dW, aN, aM, aT, aD, cY, aG, cL, bT, bD, aP, cM, cG, aA, dN, cQ, cV, cC, dO, cB, dJ, dU, cP, eC, eM, bN, aS, dZ, bS, aQ, bL, dS, dB, cO, cS, cN, bK, bM, cX, dR, cR, dD, cZ, d2, e1, e2, q1]
     exact hK w2 0 S2 rfl hb2 (iH.refl h2)
 have x1' : gX w w1 (fun b => X b ∨ Y b) := x1.mono fun _ _ h => h.elim
 obtain ⟨d0, d1, d2, d3, d4, d5, d6, d7, d8, d9⟩ := h1.cells
 have e1 : IntKind.u64.wrap ((b.length : Nat) : Int) = ((b.length : Nat) : Int) := fJ (by omega) (by omega)
 by_cases hgt : s.man.size < b.length
 .rw [if_pos hgt] at hf
  have q1 : decide (((s.man.size : Nat) : Int) < ((b.length : Nat) : Int)) = true := by simp only [decide_eq_true_eq]; omega
  have h1d := h1.new (gX.dr w1 jK)
  obtain ⟨f0, f1, f2, f3, f4, f5, f6, f7, f8, f9⟩ := h1d.cells
  simp (disch := omega) only [eY, gN, dX, stepR_skip, fP, fZ, fO, gK, gE, gC, gR, gA, eU, fV, fT, gG, fS, fM, fU, fR, fX, gH, fY, fQ, fC, gB, gI, fL, iS, iQ, iO, iR, iM, iN, iP, iU, iT, eP, Result.ok.injEq, Next.value.injEq, true_and, and_true, fK, fJ, gJ, fN, gD, gS, ZV, fE, fH, fF, fD, eZ, eX, fB, eT, eQ, eH, if_true, if_false, ZS, ZY, ZT, ZU, ZX, ZW, ZR, ZQ, eA, dV, aB, dI, dE, cJ, eB, eS, eE, dK, eD, fA, dQ, eN, bQ, dG, bJ, dL, aI, aH, eL, aV, bZ, eI, aF, eJ, dF, aR, bF, eF, bH, bE, bB, aO, aL, cD, fG, dY, cA, cI, dA, cH, dT, bC, eK, bX, dH, bP, aU, bU, aC, bY, bO, cF, bW, aY, bA, aX, bV, dM, cU, bR, aZ, aK, aJ, bG, aE, dC, dW, aN, aM, aT, aD, cY, aG, cL, bT, bD, aP, cM, cG, aA, dN, cQ, cV, cC, dO, cB, dJ, dU, cP, eC, eM, bN, aS, dZ, bS, aQ, bL, dS, dB, cO, cS, cN, bK, bM, cX, dR, cR, dD, cZ, ZZ, n1, d2, e1, q1, f0, f1, ct]
  refine (Uo (name := iC s.nm) h1d.dsk hB.bd).mono ?_
  rintro r w2 ⟨rfl, hp⟩
  obtain ⟨X', D', h2, hX, hD, x2⟩ := h1d.disk hp
  have hB2 : Co 1 (UB S (iC s.nm)).1 := Rf hB
  have x02 : gX w w2 (fun b => X b ∨ Y b) := (x1'.seq (gX.dr _ _)).seq (x2.mono fun _ _ h => .inl h)
  have hX0 : ∀ b, X' b -> X b ∨ w.heap.size <= b := fun b hb => by
   have := x1.size
   rcases hX b hb with h | h
   .exact .inl h
   .exact .inr (acR this h)
  generalize UB S (iC s.nm) = R at *
  obtain ⟨S2, e⟩ := R
  simp only at h2 hB2 hf
  by_cases he : e = 0
  .subst he
   rw [if_neg (by decide)] at hf
   simp (disch := omega) only [eY, gN, dX, stepR_skip, fP, fZ, fO, gK, gE, gC, gR, gA, eU, fV, fT, gG, fS, fM, fU, fR, fX, gH, fY, fQ, fC, gB, gI, fL, iS, iQ, iO, iR, iM, iN, iP, iU, iT, eP, Result.ok.injEq, Next.value.injEq, true_and, and_true, fK, fJ, gJ, fN, gD, gS, ZV, fE, fH, fF, fD, eZ, eX, fB, eT, eQ, eH, if_true, if_false, ZS, ZY, ZT, ZU, ZX, ZW, ZR, ZQ, eA, dV, aB, dI, dE, cJ, eB, eS, eE, dK, eD, fA, dQ, eN, bQ, dG, bJ, dL, aI, aH, eL, aV, bZ, eI, aF, eJ, dF, aR, bF, eF, bH, bE, bB, aO, aL, cD, fG, dY, cA, cI, dA, cH, dT, bC, eK, bX, dH, bP, aU, bU, aC, bY, bO, cF, bW, aY, bA, aX, bV, dM, cU, bR, aZ, aK, aJ, bG, aE, dC, dW, aN, aM, aT, aD, cY, aG, cL, bT, bD, aP, cM, cG, aA, dN, cQ, cV, cC, dO, cB, dJ, dU, cP, eC, eM, bN, aS, dZ, bS, aQ, bL, dS, dB, cO, cS, cN, bK, bM, cX, dR, cR, dD, cZ, n1]
   refine tail (th2 := false) (a2 := none) (c2 := 0) (b2 := []) h2 hB2 (Sl.nil _) (fun y _ h => h) (by simp) fun w3 e3 S3 h3 hb3 hp3 => ?_
   rw [if_pos (.inr rfl)] at h3
   have h3 : ((IW S2 (iC s.nm) 0 (List.replicate s.man.size 0)).1, (IW S2 (iC s.nm) 0 (List.replicate s.man.size 0)).2) = (S3, e3) := h3
   rw [hRR, hf]
   obtain ⟨ha, hb'⟩ := acW .. ▸ h3
   rw [ha, hb']
   exact ⟨_, rfl, Sl.nil _, hnn, iH.step x02 hX0 hD (fun _ h => .inl h) hp3⟩
  .have n2 : (e != 0) = true := bne_iff_ne.2 he
   rw [if_pos he] at hf
   simp (disch := omega) only [eY, gN, dX, stepR_skip, fP, fZ, fO, gK, gE, gC, gR, gA, eU, fV, fT, gG, fS, fM, fU, fR, fX, gH, fY, fQ, fC, gB, gI, fL, iS, iQ, iO, iR, iM, iN, iP, iU, iT, eP, Result.ok.injEq, Next.value.injEq, true_and, and_true, fK, fJ, gJ, fN, gD, gS, ZV, fE, fH, fF, fD, eZ, eX, fB, eT, eQ, eH, if_true, if_false, ZS, ZY, ZT, ZU, ZX, ZW, ZR, ZQ, eA, dV, aB, dI, dE, cJ, eB, eS, eE, dK, eD, fA, dQ, eN, bQ, dG, bJ, dL, aI, aH, eL, aV, bZ, eI, aF, eJ, dF, aR, bF, eF, bH, bE, bB, aO, aL, cD, fG, dY, cA, cI, dA, cH, dT, bC, eK, bX, dH, bP, aU, bU, aC, bY, bO, cF, bW, aY, bA, aX, bV, dM, cU, bR, aZ, aK, aJ, bG, aE, dC, dW, aN, aM, aT, aD, cY, aG, cL, bT, bD, aP, cM, cG, aA, dN, cQ, cV, cC, dO, cB, dJ, dU, cP, eC, eM, bN, aS, dZ, bS, aQ, bL, dS, dB, cO, cS, cN, bK, bM, cX, dR, cR, dD, cZ, n2]
   rw [hRR, hf]
   exact ⟨_, rfl, Sl.nil _, hnn, iH.step x02 hX0 hD (fun _ h => .inl h) (iH.refl h2)⟩
 .rw [if_neg hgt] at hf
  have q1 : decide (((s.man.size : Nat) : Int) < ((b.length : Nat) : Int)) = false := by simp only [decide_eq_false_iff_not]; omega
  simp (disch := omega) only [eY, gN, dX, stepR_skip, fP, fZ, fO, gK, gE, gC, gR, gA, eU, fV, fT, gG, fS, fM, fU, fR, fX, gH, fY, fQ, fC, gB, gI, fL, iS, iQ, iO, iR, iM, iN, iP, iU, iT, eP, Result.ok.injEq, Next.value.injEq, true_and, and_true, fK, fJ, gJ, fN, gD, gS, ZV, fE, fH, fF, fD, eZ, eX, fB, eT, eQ, eH, if_true, if_false, ZS, ZY, ZT, ZU, ZX, ZW, ZR, ZQ, eA, dV, aB, dI, dE, cJ, eB, eS, eE, dK, eD, fA, dQ, eN, bQ, dG, bJ, dL, aI, aH, eL, aV, bZ, eI, aF, eJ, dF, aR, bF, eF, bH, bE, bB, aO, aL, cD, fG, dY, cA, cI, dA, cH, dT, bC, eK, bX, dH, bP, aU, bU, aC, bY, bO, cF, bW, aY, bA, aX, bV, dM, cU, bR, aZ, aK, aJ, bG, aE, dC, dW, aN, aM, aT, aD, cY, aG, cL, bT, bD, aP, cM, cG, aA, dN, cQ, cV, cC, dO, cB, dJ, dU, cP, eC, eM, bN, aS, dZ, bS, aQ, bL, dS, dB, cO, cS, cN, bK, bM, cX, dR, cR, dD, cZ, ZZ, n1, d2, e1, q1]
  refine tail (th2 := th) h1 (hB.le (by omega)) hbs hno (by omega) fun w3 e3 S3 h3 hb3 hp3 => ?_
  rw [hRR, hf]
  by_cases hc : b.length < s.man.size ∨ th = false
  .rw [if_pos hc] at h3 ⊢
   obtain ⟨ha, hb'⟩ := acW .. ▸ h3
   rw [ha, hb']
   exact ⟨_, rfl, hb3, hno, iH.step x1' (fun _ h => .inl h) (fun _ h => h) (fun _ h => .inl h) hp3⟩
  .rw [if_neg hc] at h3 ⊢
   obtain ⟨ha, hb'⟩ := acW .. ▸ h3
   rw [ha, hb']
   exact ⟨_, rfl, hb3, hno, iH.step x1' (fun _ h => .inl h) (fun _ h => h) (fun _ h => .inl h) hp3⟩
theorem JJ {P : Program} {f : FuncId} {fn : Func} (hf : P.funcs[f]? = some fn) (hb : fn.body.isSome = true) (hn : (fn.name == "runtime.NumGoroutine") = false) (first cap : Array adW) (args : List adW) (w : adV) :
 (xZ (.func (.func f) first cap) args).run P w = .ok (.enter f (first ++ args.toArray ++ cap)) w := by
 unfold xZ Deferred.ofValue
 simp only [pure_bind, invoke]
 exact Ht hf hb hn _ _
theorem TM {fs : List adW} {b c : Nat} {w : adV} (J : Nat -> adV -> Prop) (E : Int -> adV -> Prop) (hl : fs.length <= 100) (h0 : J 0 w) (ho : ∀ i w', J i w' -> jG w' b fs)
 (hs : ∀ i w' f, fs[i]? = some f -> J i w' -> Nm pg ((xZ f []).run pg w') (fun r w'' => ∃ e : Int, r = .int .i64 e /\ (if e = 0 then J (i + 1) w'' else E e w''))) :
 gU pg wV #[.slice (some ⟨b, 0, none⟩) fs.length c] w (fun r w' => ∃ e : Int, r = .int .i64 e /\ (if e = 0 then J fs.length w' else E e w')) := by
 refine Mh ?_
 obtain ⟨RR, hRR⟩ : ∃ RR : adW -> adV -> Prop, RR = fun r w' => ∃ e : Int, r = .int .i64 e /\ (if e = 0 then J fs.length w' else E e w') := ⟨_, rfl⟩
 rw [<- hRR]
 unfold Nl C3 DD DE De Dg Df C9
 simp (disch := omega) only [eY, gN, dX, stepR_skip, fP, fZ, fO, gK, gE, gC, gR, gA, eU, fV, fT, gG, fS, fM, fU, fR, fX, gH, fY, fQ, fC, gB, gI, fL, iS, iQ, iO, iR, iM, iN, iP, iU, iT, eP, Result.ok.injEq, Next.value.injEq, true_and, and_true, fK, fJ, gJ, fN, gD, gS, ZV, fE, fH, fF, fD, eZ, eX, fB, eT, eQ, eH, if_true, if_false, ZS, ZY, ZT, ZU, ZX, ZW, ZR, ZQ, eA, dV, aB, dI, dE, cJ, eB, eS, eE, dK, eD, fA, dQ, eN, bQ, dG, bJ, dL, aI, aH, eL, aV, bZ, eI, aF, eJ, dF, aR, bF, eF, bH, bE, bB, aO, aL, cD, fG, dY, cA, cI, dA, cH, dT, bC, eK, bX, dH, bP, aU, bU, aC, bY, bO, cF, bW, aY, bA, aX, bV, dM, cU, bR, aZ, aK, aJ, bG, aE, dC, dW, aN, aM, aT, aD, cY, aG, cL, bT, bD, aP, cM, cG, aA, dN, cQ, cV, cC, dO, cB, dJ, dU, cP, eC, eM, bN, aS, dZ, bS, aQ, bL, dS, dB, cO, cS, cN, bK, bM, cX, dR, cR, dD, cZ]
 refine jW.rule (fun m (t : adW) w' => ∃ i : Nat, m = fs.length - i /\ i <= fs.length /\ t = .int .i64 (i : Nat) /\ J i w') fs.length ⟨0, rfl, by omega, rfl, h0⟩ ?_
 rintro m t w1 ⟨i, rfl, hi, rfl, hJ⟩
 unfold zK
 by_cases hlt : i < fs.length
 .have d1 : decide ((i : Int) < (fs.length : Int)) = true := by simp; omega
  have c1 := (ho _ _ hJ).cell (off := i)
  rw [Z0 hlt] at c1
  have hss := hs i w1 fs[i] (Z0 hlt) hJ
  simp (disch := omega) only [eY, gN, dX, stepR_skip, fP, fZ, fO, gK, gE, gC, gR, gA, eU, fV, fT, gG, fS, fM, fU, fR, fX, gH, fY, fQ, fC, gB, gI, fL, iS, iQ, iO, iR, iM, iN, iP, iU, iT, eP, Result.ok.injEq, Next.value.injEq, true_and, and_true, fK, fJ, gJ, fN, gD, gS, ZV, fE, fH, fF, fD, eZ, eX, fB, eT, eQ, eH, if_true, if_false, ZS, ZY, ZT, ZU, ZX, ZW, ZR, ZQ, eA, dV, aB, dI, dE, cJ, eB, eS, eE, dK, eD, fA, dQ, eN, bQ, dG, bJ, dL, aI, aH, eL, aV, bZ, eI, aF, eJ, dF, aR, bF, eF, bH, bE, bB, aO, aL, cD, fG, dY, cA, cI, dA, cH, dT, bC, eK, bX, dH, bP, aU, bU, aC, bY, bO, cF, bW, aY, bA, aX, bV, dM, cU, bR, aZ, aK, aJ, bG, aE, dC, dW, aN, aM, aT, aD, cY, aG, cL, bT, bD, aP, cM, cG, aA, dN, cQ, cV, cC, dO, cB, dJ, dU, cP, eC, eM, bN, aS, dZ, bS, aQ, bL, dS, dB, cO, cS, cN, bK, bM, cX, dR, cR, dD, cZ, d1, c1]
  have mono : ∀ {r : Result Next} {K K' : adW -> adV -> Prop}, Nm pg r K -> (∀ v w, K v w -> K' v w) -> Nm pg r K' := fun {r K K'} h hk => by
   unfold Nm at *
   split at h
   .exact hk _ _ h
   .exact hk _ _ h
   .exact h.mono hk
   .obtain ⟨v, w', h1, h2⟩ := h
    exact ⟨v, w', h1, hk _ _ h2⟩
   .exact h
  refine mono hss ?_
  rintro r w2 ⟨e, rfl, he⟩
  by_cases h0' : e = 0
  .subst h0'
   rw [if_pos rfl] at he
   have n1 : ((0 : Int) != 0) = false := rfl
   simp (disch := omega) only [eY, gN, dX, stepR_skip, fP, fZ, fO, gK, gE, gC, gR, gA, eU, fV, fT, gG, fS, fM, fU, fR, fX, gH, fY, fQ, fC, gB, gI, fL, iS, iQ, iO, iR, iM, iN, iP, iU, iT, eP, Result.ok.injEq, Next.value.injEq, true_and, and_true, fK, fJ, gJ, fN, gD, gS, ZV, fE, fH, fF, fD, eZ, eX, fB, eT, eQ, eH, if_true, if_false, ZS, ZY, ZT, ZU, ZX, ZW, ZR, ZQ, eA, dV, aB, dI, dE, cJ, eB, eS, eE, dK, eD, fA, dQ, eN, bQ, dG, bJ, dL, aI, aH, eL, aV, bZ, eI, aF, eJ, dF, aR, bF, eF, bH, bE, bB, aO, aL, cD, fG, dY, cA, cI, dA, cH, dT, bC, eK, bX, dH, bP, aU, bU, aC, bY, bO, cF, bW, aY, bA, aX, bV, dM, cU, bR, aZ, aK, aJ, bG, aE, dC, dW, aN, aM, aT, aD, cY, aG, cL, bT, bD, aP, cM, cG, aA, dN, cQ, cV, cC, dO, cB, dJ, dU, cP, eC, eM, bN, aS, dZ, bS, aQ, bL, dS, dB, cO, cS, cN, bK, bM, cX, dR, cR, dD, cZ, n1]
   exact ⟨fs.length - (i + 1), by omega, i + 1, rfl, by omega, rfl, he⟩
  .have n1 : (e != 0) = true := bne_iff_ne.2 h0'
   rw [if_neg h0'] at he
   simp (disch := omega) only [eY, gN, dX, stepR_skip, fP, fZ, fO, gK, gE, gC, gR, gA, eU, fV, fT, gG, fS, fM, fU, fR, fX, gH, fY, fQ, fC, gB, gI, fL, iS, iQ, iO, iR, iM, iN, iP, iU, iT, eP, Result.ok.injEq, Next.value.injEq, true_and, and_true, fK, fJ, gJ, fN, gD, gS, ZV, fE, fH, fF, fD, eZ, eX, fB, eT, eQ, eH, if_true, if_false, ZS, ZY, ZT, ZU, ZX, ZW, ZR, ZQ, eA, dV, aB, dI, dE, cJ, eB, eS, eE, dK, eD, fA, dQ, eN, bQ, dG, bJ, dL, aI, aH, eL, aV, bZ, eI, aF, eJ, dF, aR, bF, eF, bH, bE, bB, aO, aL, cD, fG, dY, cA, cI, dA, cH, dT, bC, eK, bX, dH, bP, aU, bU, aC, bY, bO, cF, bW, aY, bA, aX, bV, dM, cU, bR, aZ, aK, aJ, bG, aE, dC, dW, aN, aM, aT, aD, cY, aG, cL, bT, bD, aP, cM, cG, aA, dN, cQ, cV, cC, dO, cB, dJ, dU, cP, eC, eM, bN, aS, dZ, bS, aQ, bL, dS, dB, cO, cS, cN, bK, bM, cX, dR, cR, dD, cZ, n1]
   rw [hRR]
   exact ⟨e, rfl, by rw [if_neg h0']; exact he⟩
 .have d1 : decide ((i : Int) < (fs.length : Int)) = false := by simp; omega
  obtain rfl : i = fs.length := by omega
  unfold zO
  simp (disch := omega) only [eY, gN, dX, stepR_skip, fP, fZ, fO, gK, gE, gC, gR, gA, eU, fV, fT, gG, fS, fM, fU, fR, fX, gH, fY, fQ, fC, gB, gI, fL, iS, iQ, iO, iR, iM, iN, iP, iU, iT, eP, Result.ok.injEq, Next.value.injEq, true_and, and_true, fK, fJ, gJ, fN, gD, gS, ZV, fE, fH, fF, fD, eZ, eX, fB, eT, eQ, eH, if_true, if_false, ZS, ZY, ZT, ZU, ZX, ZW, ZR, ZQ, eA, dV, aB, dI, dE, cJ, eB, eS, eE, dK, eD, fA, dQ, eN, bQ, dG, bJ, dL, aI, aH, eL, aV, bZ, eI, aF, eJ, dF, aR, bF, eF, bH, bE, bB, aO, aL, cD, fG, dY, cA, cI, dA, cH, dT, bC, eK, bX, dH, bP, aU, bU, aC, bY, bO, cF, bW, aY, bA, aX, bV, dM, cU, bR, aZ, aK, aJ, bG, aE, dC, dW, aN, aM, aT, aD, cY, aG, cL, bT, bD, aP, cM, cG, aA, dN, cQ, cV, cC, dO, cB, dJ, dU, cP, eC, eM, bN, aS, dZ, bS, aQ, bL, dS, dB, cO, cS, cN, bK, bM, cX, dR, cR, dD, cZ, d1]
  rw [hRR]
  exact ⟨0, rfl, by rw [if_pos rfl]; exact hJ⟩
theorem Wb {n : Nat} {S : jZ} {s : nS} {k v : Nat} (h : Co (n + 1) S) : Co n (kO iE S s k v).1 := by
 have := Qd (k := jH s.nm) (a := s.log) (l := tJ iE k v) h
 unfold kO
 simp only
 split
 .exact this
 .exact this
theorem iH.keep {n0 : Nat} {w w' : adV} {q p b : Nat} {X D Y : Nat -> Prop} {S : jZ} {s : nS} {cs : List adW} (h : iH n0 w q p X D Y S s w') (o : jG w b cs) (hb : ¬ (X b ∨ Y b)) : jG w' b cs := by
 obtain ⟨_, _, _, _, _, _, _, _, _, x⟩ := h
 exact o.ext x hb
theorem iH.andThen {n0 : Nat} {w w1 w2 : adV} {q p : Nat} {X D Y : Nat -> Prop} {S1 S2 : jZ} {s1 s2 : nS} (h : iH n0 w q p X D Y S1 s1 w1) (h2 : ∀ {X' D' Y' lv hv}, jX n0 w1 q p X' D' Y' S1 s1 lv hv -> iH n0 w1 q p X' D' Y' S2 s2 w2) : iH n0 w q p X D Y S2 s2 w2 := by
 obtain ⟨X', D', Y', lv, hv, h1, hX, hD, hY, x⟩ := h
 exact iH.step x hX hD hY (h2 h1)
theorem QT {n0 q p : Nat} {X D Y : Nat -> Prop} {S : jZ} {s : nS} {w w1 : adV} (h : iH n0 w q p X D Y S s w1) (hB : Co 0 S) :
 gU pg jN #[dP p] w1 (fun r w2 => r = .int .i64 (Ew S).2 /\ iH n0 w q p X D Y (Ew S).1 s w2) := by
 obtain ⟨X', D', Y', lv, hv, h1, hX, hD, hY, x⟩ := h
 refine (Yk h1.dsk hB.bd).mono ?_
 rintro r w2 ⟨rfl, hp⟩
 obtain ⟨X2, D2, h2, hX2, hD2, x2⟩ := h1.disk hp
 exact ⟨rfl, iH.step x hX hD hY ⟨X2, D2, Y', _, _, h2, hX2, hD2, fun _ h => .inl h, x2.mono fun _ _ h => .inl h⟩⟩
theorem QB {S : jZ} {s : nS} {k v : Nat} : (kO iE S s k v).2.1.hv = s.hv /\ (kO iE S s k v).2.1.man = s.man /\ (kO iE S s k v).2.1.nm = s.nm /\ (kO iE S s k v).2.1.epoch = s.epoch := by
 unfold kO
 simp only
 split <;> exact ⟨rfl, rfl, rfl, rfl⟩
theorem Wa {S : jZ} {s : nS} {i : Nat} {b : List UInt8} : (mK iE S s i b).2.1.hv = s.hv := by
 unfold mK
 simp only
 split
 .rfl
 .split
  .rfl
  .split
   .exact QB.1
   .exact QB.1
theorem jX.setHv {n0 : Nat} {w : adV} {q p : Nat} {X D Y : Nat -> Prop} {S : jZ} {s : nS} {lv hv : adW} (h : jX n0 w q p X D Y S s lv hv) {i : Nat} (hi : i < s.hv.length) :
 ∃ hb c rest, hv = .slice (some ⟨hb, 0, none⟩) s.hv.length c /\ Y hb /\ hb ≠ q /\ jG w hb (s.hv.map Value.bool ++ rest) /\ ∀ {w' : adV} {z : Bool}, jG w' hb ((s.hv.map Value.bool ++ rest).set i (.bool z)) -> gX w w' (fun y => y = hb) -> jX n0 w' q p X D Y S { s with hv := s.hv.set i z } lv hv := by
 rcases h.hv.2 with ⟨_, h0⟩ | ⟨hb, c, rest, hhv, ⟨hbY, hbq⟩, o, ol, oc⟩
 .omega
 refine ⟨hb, c, rest, hhv, hbY, hbq, o, fun {w' z} o' x => ?_⟩
 have hg := h.g0
 have hn := h.lo hb (.inr hbY)
 have hd := h.yd hb hbY
 refine ⟨h.glob.extM x (by omega) (by omega), h.g0, h.lo, acR h.hi x.size, h.dsk.ext x fun b hb => hb ▸ hd, h.yq, h.yd, h.own.ext x (fun e => hbq e.symm), h.man, h.lv.keep (x.mono fun b _ hb => .inr (hb ▸ hbY)) fun b hb => .inl hb, ?_, h.ep, h.lg, ?_, h.nl⟩
 .refine ⟨by rw [ZZ]; simp, .inr ⟨hb, c, rest, ?_, ⟨hbY, hbq⟩, ?_, ?_, ?_⟩⟩
  .rw [hhv]; simp
  .rw [List.set_append_left _ _ (by rw [ZZ]; exact hi)] at o'
   rw [List.map_set]; exact o'
  .rw [Z1, ZZ] at ol ⊢
   rw [acL]; exact ol
  .rw [acL]; exact oc
 .show (s.hv.set i z).length <= 1024
  rw [acL]; exact h.hl
theorem Uw {n0 q p i s3 i4 b5 a7 : Nat} {X D Y : Nat -> Prop} {S : jZ} {s : nS} {lv hv bv : adW} {b : List UInt8} {w : adV} {RR : adW -> adV -> Prop} (h : jX n0 w q p X D Y S s lv hv) (hB : Co 2 S) (hi : i < s.hv.length) (hb : Bs w bv b) (hbl : b.length <= 1000000)
 (hbn : ¬ wB bv (fun y => X y ∨ Y y)) (hlg : s.log + 13 <= 1000000000) (hpi : s.man.part * i <= 1000000000) (o3 : jG w s3 [dP q]) (o4 : jG w i4 [.int .i64 (i : Nat)]) (o5 : jG w b5 [bv]) (o7 : jG w a7 [.int .u64 ((s.man.part * i : Nat) : Int)])
 (m3 : ¬ (X s3 ∨ Y s3)) (m4 : ¬ (X i4 ∨ Y i4)) (m5 : ¬ (X b5 ∨ Y b5)) (m7 : ¬ (X a7 ∨ Y a7))
 (hR : ∀ w', iH n0 w q p X D Y (mK iE S s i b).1 { (mK iE S s i b).2.1 with err := (mK iE S s i b).2.2, hv := (mK iE S s i b).2.1.hv.set i ((mK iE S s i b).2.2 == 0) } w' -> RR (.int .i64 (mK iE S s i b).2.2) w') :
 mP RR (.pointer (some ⟨s3, 0, none⟩)) (.pointer (some ⟨i4, 0, none⟩)) (.pointer (some ⟨b5, 0, none⟩)) (.pointer (some ⟨a7, 0, none⟩)) w := by
 unfold mP
 have hd := h.new (gX.dr w jK)
 obtain ⟨c0, c1, c2, c3, c4, c5, c6, c7, c8, c9⟩ := hd.cells
 have k3 := (kJ o3).cell (off := 0)
 simp only [ZQ] at k3
 have f1 := fun w => MR (P := pg) (f := oA) [] [.pointer (some ⟨s3, 0, none⟩), .pointer (some ⟨a7, 0, none⟩), .pointer (some ⟨b5, 0, none⟩)] w
 have f2 := fun w => MR (P := pg) (f := jN) [dP p] [] w
 have f3 := fun w => MR (P := pg) (f := nZ) [] [.pointer (some ⟨s3, 0, none⟩), .pointer (some ⟨i4, 0, none⟩)] w
 simp (disch := omega) only [eY, gN, dX, stepR_skip, fP, fZ, fO, gK, gE, gC, gR, gA, eU, fV, fT, gG, fS, fM, fU, fR, fX, gH, fY, fQ, fC, gB, gI, fL, iS, iQ, iO, iR, iM, iN, iP, iU, iT, eP, Result.ok.injEq, Next.value.injEq, true_and, and_true, fK, fJ, gJ, fN, gD, gS, ZV, fE, fH, fF, fD, eZ, eX, fB, eT, eQ, eH, if_true, if_false, ZS, ZY, ZT, ZU, ZX, ZW, ZR, ZQ, eA, dV, aB, dI, dE, cJ, eB, eS, eE, dK, eD, fA, dQ, eN, bQ, dG, bJ, dL, aI, aH, eL, aV, bZ, eI, aF, eJ, dF, aR, bF, eF, bH, bE, bB, aO, aL, cD, fG, dY, cA, cI, dA, cH, dT, bC, eK, bX, dH, bP, aU, bU, aC, bY, bO, cF, bW, aY, bA, aX, bV, dM, cU, bR, aZ, aK, aJ, bG, aE, dC, dW, aN, aM, aT, aD, cY, aG, cL, bT, bD, aP, cM, cG, aA, dN, cQ, cV, cC, dO, cB, dJ, dU, cP, eC, eM, bN, aS, dZ, bS, aQ, bL, dS, dB, cO, cS, cN, bK, bM, cX, dR, cR, dD, cZ, k3, c0, f1, f2, f3]
 obtain ⟨fs, hfs⟩ : ∃ fs : List adW, fs = [.func (.func oA) #[] #[.pointer (some ⟨s3, 0, none⟩), .pointer (some ⟨a7, 0, none⟩), .pointer (some ⟨b5, 0, none⟩)], .func (.func jN) #[dP p] #[], .func (.func nZ) #[] #[.pointer (some ⟨s3, 0, none⟩), .pointer (some ⟨i4, 0, none⟩)], .func (.func jN) #[dP p] #[]] := ⟨_, rfl⟩
 refine zU (cells := fs.toArray) (by decide) (by decide) (by rw [hfs]; kernel_rfl) fun w1 o1 x1 s1 => ?_
 have o1 : jG w1 (dr w).heap.size fs := o1
 obtain ⟨bb, hbb⟩ : ∃ bb, bb = (dr w).heap.size := ⟨_, rfl⟩
 rw [<- hbb] at o1 ⊢
 have hw0 : bb = w.heap.size := hbb
 have x01 : gX w w1 jK := (gX.dr w _).seq x1
 have h1 := h.new x01
 have mb : ¬ (X bb ∨ Y bb) := fun hx => by have := jX.lt h bb hx; omega
 have o3 := o3.ext x01 (fun h => h)
 have o4 := o4.ext x01 (fun h => h)
 have o5 := o5.ext x01 (fun h => h)
 have o7 := o7.ext x01 (fun h => h)
 have hb1 := hb.ext x01 (jJ _)
 obtain ⟨A1, hA1⟩ : ∃ A1, A1 = IW S (iC s.nm) (s.man.part * i : Nat) b := ⟨_, rfl⟩
 have hB1 : Co 1 A1.1 := hA1 ▸ Qd hB
 obtain ⟨A2, hA2⟩ : ∃ A2, A2 = Ew A1.1 := ⟨_, rfl⟩
 have hB2 : Co 1 A2.1 := hA2 ▸ So hB1
 obtain ⟨A3, hA3⟩ : ∃ A3, A3 = kO iE A2.1 s 2 i := ⟨_, rfl⟩
 have hB3 : Co 0 A3.1 := hA3 ▸ Wb hB2
 obtain ⟨A4, hA4⟩ : ∃ A4, A4 = Ew A3.1 := ⟨_, rfl⟩
 have hch : mK iE S s i b = if A1.2 ≠ 0 then (A1.1, s, A1.2) else if A2.2 ≠ 0 then (A2.1, s, A2.2) else if A3.2.2 ≠ 0 then (A3.1, A3.2.1, A3.2.2) else (A4.1, A3.2.1, A4.2) := by
  unfold mK
  simp only [<- hA1, <- hA2, <- hA3, <- hA4]
 obtain ⟨C, hC⟩ : ∃ C, C = mK iE S s i b := ⟨_, rfl⟩
 rw [<- hC] at hch hR
 let J : Nat -> adV -> Prop := fun k w' => match k with
  | 0 => iH n0 w1 q p X D Y S s w'
  | 1 => A1.2 = 0 /\ iH n0 w1 q p X D Y A1.1 s w'
  | 2 => A1.2 = 0 /\ A2.2 = 0 /\ iH n0 w1 q p X D Y A2.1 s w'
  | 3 => A1.2 = 0 /\ A2.2 = 0 /\ A3.2.2 = 0 /\ iH n0 w1 q p X D Y A3.1 A3.2.1 w'
  | _ => C.2.2 = 0 /\ iH n0 w1 q p X D Y C.1 C.2.1 w'
 let E : Int -> adV -> Prop := fun e w' => C.2.2 = e /\ iH n0 w1 q p X D Y C.1 C.2.1 w'
 have hJown : ∀ k w', J k w' -> ∃ S' s', iH n0 w1 q p X D Y S' s' w' := fun k w' hk => by
  match k, hk with
  | 0, hk => exact ⟨_, _, hk⟩
  | 1, hk => exact ⟨_, _, hk.2⟩
  | 2, hk => exact ⟨_, _, hk.2.2⟩
  | 3, hk => exact ⟨_, _, hk.2.2.2⟩
  | n + 4, hk => exact ⟨_, _, hk.2⟩
 have hmain := TM (fs := fs) (b := bb) (c := 4) (w := w1) J E (by rw [hfs]; simp) (iH.refl h1) (fun k w' hk => by
  obtain ⟨_, _, hp⟩ := hJown k w' hk
  exact hp.keep o1 mb) ?hs
 case hs =>
  intro k w' f hf hk
  rw [hfs] at hf
  match k, hf, hk with
  | 0, hf, hk =>
    simp only [ZQ, aaN] at hf
    rw [<- hf, JJ Tryd.func33 (by kernel_rfl) (by kernel_rfl)]
    show gU pg oA #[.pointer (some ⟨s3, 0, none⟩), .pointer (some ⟨a7, 0, none⟩), .pointer (some ⟨b5, 0, none⟩)] w' _
    have hk : iH n0 w1 q p X D Y S s w' := hk
    refine Hq ?_
    unfold ED uR
    have e3 := (kJ (hk.keep o3 m3)).cell (off := 0)
    have e7 := (kJ (hk.keep o7 m7)).cell (off := 0)
    have e5 := (kJ (hk.keep o5 m5)).cell (off := 0)
    simp only [ZQ] at e3 e7 e5
    obtain ⟨X', D', Y', lv', hv', g1, hX, hD, hY, gx⟩ := hk
    have g1d := g1.new (gX.dr w' jK)
    obtain ⟨d0, d1, d2, d3, d4, d5, d6, d7, d8, d9⟩ := g1d.cells
    have ct := OI h.nl
    have ew : IntKind.i64.wrap ((s.man.part * i : Nat) : Int) = ((s.man.part * i : Nat) : Int) := fK (by omega) (by omega)
    have hbw : Bs (dr w') bv b := (hb1.ext gx hbn).ext (gX.dr _ jK) (jJ _)
    generalize s.man.part * i = at' at *
    obtain ⟨ba, bc, rfl, _⟩ := hbw.len
    simp (disch := omega) only [eY, gN, dX, stepR_skip, fP, fZ, fO, gK, gE, gC, gR, gA, eU, fV, fT, gG, fS, fM, fU, fR, fX, gH, fY, fQ, fC, gB, gI, fL, iS, iQ, iO, iR, iM, iN, iP, iU, iT, eP, Result.ok.injEq, Next.value.injEq, true_and, and_true, fK, fJ, gJ, fN, gD, gS, ZV, fE, fH, fF, fD, eZ, eX, fB, eT, eQ, eH, if_true, if_false, ZS, ZY, ZT, ZU, ZX, ZW, ZR, ZQ, eA, dV, aB, dI, dE, cJ, eB, eS, eE, dK, eD, fA, dQ, eN, bQ, dG, bJ, dL, aI, aH, eL, aV, bZ, eI, aF, eJ, dF, aR, bF, eF, bH, bE, bB, aO, aL, cD, fG, dY, cA, cI, dA, cH, dT, bC, eK, bX, dH, bP, aU, bU, aC, bY, bO, cF, bW, aY, bA, aX, bV, dM, cU, bR, aZ, aK, aJ, bG, aE, dC, dW, aN, aM, aT, aD, cY, aG, cL, bT, bD, aP, cM, cG, aA, dN, cQ, cV, cC, dO, cB, dJ, dU, cP, eC, eM, bN, aS, dZ, bS, aQ, bL, dS, dB, cO, cS, cN, bK, bM, cX, dR, cR, dD, cZ, e3, e7, e5, d0, d1, ct, ew]
    refine (OW (name := iC s.nm) (a := (at' : Nat)) g1d.dsk hB.bd hbw (by omega) (by omega) (by omega)).mono ?_
    rintro r w2 ⟨rfl, hp⟩
    obtain ⟨X2, D2, g2, hX2, hD2, gx2⟩ := g1d.disk hp
    rw [<- hA1] at g2 ⊢
    have hpost : iH n0 w1 q p X D Y A1.1 s w2 := iH.step (gx.seq (gX.dr _ _)) hX hD hY ⟨X2, D2, Y', _, _, g2, hX2, hD2, fun _ h => .inl h, gx2.mono fun _ _ h => .inl h⟩
    refine ⟨_, rfl, ?_⟩
    split
    .rename_i he; exact ⟨he, hpost⟩
    .rename_i he
     rw [if_pos he] at hch
     show C.2.2 = _ /\ iH n0 w1 q p X D Y C.1 C.2.1 w2
     rw [hch]
     exact ⟨rfl, hpost⟩
  | 1, hf, hk =>
    simp only [ZQ, ZR, aaN] at hf
    rw [<- hf, JJ Tryd.func19 (by kernel_rfl) (by kernel_rfl)]
    show gU pg jN #[dP p] w' _
    have hk : A1.2 = 0 /\ iH n0 w1 q p X D Y A1.1 s w' := hk
    refine (QT hk.2 (hB1.le (by omega))).mono ?_
    rintro r w2 ⟨rfl, hp⟩
    rw [<- hA2] at hp ⊢
    refine ⟨_, rfl, ?_⟩
    split
    .rename_i he; exact ⟨hk.1, he, hp⟩
    .rename_i he
     rw [if_neg (by rw [hk.1]; decide), if_pos he] at hch
     show C.2.2 = _ /\ iH n0 w1 q p X D Y C.1 C.2.1 w2
     rw [hch]
     exact ⟨rfl, hp⟩
  | 2, hf, hk =>
    simp only [ZQ, ZR, aaN] at hf
    rw [<- hf, JJ Tryd.func34 (by kernel_rfl) (by kernel_rfl)]
    show gU pg nZ #[.pointer (some ⟨s3, 0, none⟩), .pointer (some ⟨i4, 0, none⟩)] w' _
    have hk : A1.2 = 0 /\ A2.2 = 0 /\ iH n0 w1 q p X D Y A2.1 s w' := hk
    refine Hl ?_
    unfold ER uP
    have e3 := (hk.2.2.keep o3 m3).cell (off := 0)
    have e4 := (hk.2.2.keep o4 m4).cell (off := 0)
    simp only [ZQ] at e3 e4
    have hi' := h.hl
    have ew : IntKind.u64.wrap (i : Int) = (i : Int) := fJ (by omega) (by omega)
    simp (disch := omega) only [eY, gN, dX, stepR_skip, fP, fZ, fO, gK, gE, gC, gR, gA, eU, fV, fT, gG, fS, fM, fU, fR, fX, gH, fY, fQ, fC, gB, gI, fL, iS, iQ, iO, iR, iM, iN, iP, iU, iT, eP, Result.ok.injEq, Next.value.injEq, true_and, and_true, fK, fJ, gJ, fN, gD, gS, ZV, fE, fH, fF, fD, eZ, eX, fB, eT, eQ, eH, if_true, if_false, ZS, ZY, ZT, ZU, ZX, ZW, ZR, ZQ, eA, dV, aB, dI, dE, cJ, eB, eS, eE, dK, eD, fA, dQ, eN, bQ, dG, bJ, dL, aI, aH, eL, aV, bZ, eI, aF, eJ, dF, aR, bF, eF, bH, bE, bB, aO, aL, cD, fG, dY, cA, cI, dA, cH, dT, bC, eK, bX, dH, bP, aU, bU, aC, bY, bO, cF, bW, aY, bA, aX, bV, dM, cU, bR, aZ, aK, aJ, bG, aE, dC, dW, aN, aM, aT, aD, cY, aG, cL, bT, bD, aP, cM, cG, aA, dN, cQ, cV, cC, dO, cB, dJ, dU, cP, eC, eM, bN, aS, dZ, bS, aQ, bL, dS, dB, cO, cS, cN, bK, bM, cX, dR, cR, dD, cZ, e3, e4, ew]
    obtain ⟨X', D', Y', lv', hv', g1, hX, hD, hY, gx⟩ := hk.2.2
    refine (R0 (k := 2) (v := i) g1 hB2 (.inr rfl) (by omega) hlg).mono ?_
    rintro r w2 ⟨rfl, hp⟩
    rw [<- hA3] at hp ⊢
    have hpost := iH.step gx hX hD hY hp
    refine ⟨_, rfl, ?_⟩
    split
    .rename_i he; exact ⟨hk.1, hk.2.1, he, hpost⟩
    .rename_i he
     rw [if_neg (by rw [hk.1]; decide), if_neg (by rw [hk.2.1]; decide), if_pos he] at hch
     show C.2.2 = _ /\ iH n0 w1 q p X D Y C.1 C.2.1 w2
     rw [hch]
     exact ⟨rfl, hpost⟩
  | 3, hf, hk =>
    simp only [ZQ, ZR, aaN] at hf
    rw [<- hf, JJ Tryd.func19 (by kernel_rfl) (by kernel_rfl)]
    show gU pg jN #[dP p] w' _
    have hk : A1.2 = 0 /\ A2.2 = 0 /\ A3.2.2 = 0 /\ iH n0 w1 q p X D Y A3.1 A3.2.1 w' := hk
    refine (QT hk.2.2.2 hB3).mono ?_
    rintro r w2 ⟨rfl, hp⟩
    rw [<- hA4] at hp ⊢
    rw [if_neg (by rw [hk.1]; decide), if_neg (by rw [hk.2.1]; decide), if_neg (by rw [hk.2.2.1]; decide)] at hch
    refine ⟨_, rfl, ?_⟩
    have hE : C.2.2 = A4.2 /\ iH n0 w1 q p X D Y C.1 C.2.1 w2 := by rw [hch]; exact ⟨rfl, hp⟩
    split
    .rename_i he; exact ⟨hE.1.trans he, hE.2⟩
    .exact hE
  | n + 4, hf, hk => simp at hf
 rw [show fs.length = 4 from by rw [hfs] <;> rfl] at hmain
 have k3' := (o3).cell (off := 0)
 simp only [ZQ] at k3'
 simp (disch := omega) only [eY, gN, dX, stepR_skip, fP, fZ, fO, gK, gE, gC, gR, gA, eU, fV, fT, gG, fS, fM, fU, fR, fX, gH, fY, fQ, fC, gB, gI, fL, iS, iQ, iO, iR, iM, iN, iP, iU, iT, eP, Result.ok.injEq, Next.value.injEq, true_and, and_true, fK, fJ, gJ, fN, gD, gS, ZV, fE, fH, fF, fD, eZ, eX, fB, eT, eQ, eH, if_true, if_false, ZS, ZY, ZT, ZU, ZX, ZW, ZR, ZQ, eA, dV, aB, dI, dE, cJ, eB, eS, eE, dK, eD, fA, dQ, eN, bQ, dG, bJ, dL, aI, aH, eL, aV, bZ, eI, aF, eJ, dF, aR, bF, eF, bH, bE, bB, aO, aL, cD, fG, dY, cA, cI, dA, cH, dT, bC, eK, bX, dH, bP, aU, bU, aC, bY, bO, cF, bW, aY, bA, aX, bV, dM, cU, bR, aZ, aK, aJ, bG, aE, dC, dW, aN, aM, aT, aD, cY, aG, cL, bT, bD, aP, cM, cG, aA, dN, cQ, cV, cC, dO, cB, dJ, dU, cP, eC, eM, bN, aS, dZ, bS, aQ, bL, dS, dB, cO, cS, cN, bK, bM, cX, dR, cR, dD, cZ, k3']
 refine hmain.mono ?_
 rintro r w2 ⟨e, rfl, he⟩
 have hfin : C.2.2 = e /\ iH n0 w1 q p X D Y C.1 C.2.1 w2 := by
  split at he
  .rename_i h0; rw [h0]; exact he
  .exact he
 clear he hmain
 obtain ⟨rfl, hp⟩ := hfin
 have q3 := (hp.keep o3 m3).cell (off := 0)
 simp only [ZQ] at q3
 obtain ⟨X2, D2, Y2, lv2, hv2, h2, hX2, hD2, hY2, x2⟩ := id hp
 have hChv : C.2.1.hv = s.hv := by rw [hC]; exact Wa
 have l1 : w.heap.size <= w1.heap.size := x01.size
 have notin : ∀ {y : Nat}, y < w1.heap.size -> ¬ (X y ∨ Y y) -> ¬ (X2 y ∨ Y2 y) := fun {y} hy hn h => by
  rcases h with h | h
  .rcases hX2 y h with h | h
   .exact hn (.inl h)
   .omega
  .rcases hY2 y h with h | h
   .exact hn (.inr h)
   .omega
 simp (disch := omega) only [eY, gN, dX, stepR_skip, fP, fZ, fO, gK, gE, gC, gR, gA, eU, fV, fT, gG, fS, fM, fU, fR, fX, gH, fY, fQ, fC, gB, gI, fL, iS, iQ, iO, iR, iM, iN, iP, iU, iT, eP, Result.ok.injEq, Next.value.injEq, true_and, and_true, fK, fJ, gJ, fN, gD, gS, ZV, fE, fH, fF, fD, eZ, eX, fB, eT, eQ, eH, if_true, if_false, ZS, ZY, ZT, ZU, ZX, ZW, ZR, ZQ, eA, dV, aB, dI, dE, cJ, eB, eS, eE, dK, eD, fA, dQ, eN, bQ, dG, bJ, dL, aI, aH, eL, aV, bZ, eI, aF, eJ, dF, aR, bF, eF, bH, bE, bB, aO, aL, cD, fG, dY, cA, cI, dA, cH, dT, bC, eK, bX, dH, bP, aU, bU, aC, bY, bO, cF, bW, aY, bA, aX, bV, dM, cU, bR, aZ, aK, aJ, bG, aE, dC, dW, aN, aM, aT, aD, cY, aG, cL, bT, bD, aP, cM, cG, aA, dN, cQ, cV, cC, dO, cB, dJ, dU, cP, eC, eM, bN, aS, dZ, bS, aQ, bL, dS, dB, cO, cS, cN, bK, bM, cX, dR, cR, dD, cZ, q3]
 refine CN h2.own rfl (by simp) fun w3 q3' x3 zz3 => ?_
 have h3 := h2.set (s' := { C.2.1 with err := C.2.2 }) x3 q3' rfl rfl rfl h2.ep h2.lg
 have x3Y : gX w2 w3 (fun b => X2 b ∨ Y2 b) := x3.mono fun y _ hy => .inr (hy ▸ h2.yq)
 have h3d := h3.new (gX.dr w3 jK)
 obtain ⟨d0, d1, d2, d3, d4, d5, d6, d7, d8, d9⟩ := h3d.cells
 obtain ⟨hb, c, rest, hhv, hbY, hbq, oh, hset⟩ := h3d.setHv (i := i) (by show i < C.2.1.hv.length; rw [hChv]; exact hi)
 have hlen : ({ C.2.1 with err := C.2.2 } : nS).hv.length = s.hv.length := by show C.2.1.hv.length = _; rw [hChv]
 rw [hlen] at hhv
 subst hhv
 have e3 : w3.cell? ⟨s3, 0, none⟩ = some (dP q) := (((hp.keep o3 m3).ext x3Y (notin o3.lt m3))).cell (off := 0)
 have e4 : w3.cell? ⟨i4, 0, none⟩ = some (.int .i64 (i : Nat)) := (((hp.keep o4 m4).ext x3Y (notin o4.lt m4))).cell (off := 0)
 have e3d : (dr w3).cell? ⟨s3, 0, none⟩ = some (dP q) := e3
 have e4d : (dr w3).cell? ⟨i4, 0, none⟩ = some (.int .i64 (i : Nat)) := e4
 simp (disch := omega) only [eY, gN, dX, stepR_skip, fP, fZ, fO, gK, gE, gC, gR, gA, eU, fV, fT, gG, fS, fM, fU, fR, fX, gH, fY, fQ, fC, gB, gI, fL, iS, iQ, iO, iR, iM, iN, iP, iU, iT, eP, Result.ok.injEq, Next.value.injEq, true_and, and_true, fK, fJ, gJ, fN, gD, gS, ZV, fE, fH, fF, fD, eZ, eX, fB, eT, eQ, eH, if_true, if_false, ZS, ZY, ZT, ZU, ZX, ZW, ZR, ZQ, eA, dV, aB, dI, dE, cJ, eB, eS, eE, dK, eD, fA, dQ, eN, bQ, dG, bJ, dL, aI, aH, eL, aV, bZ, eI, aF, eJ, dF, aR, bF, eF, bH, bE, bB, aO, aL, cD, fG, dY, cA, cI, dA, cH, dT, bC, eK, bX, dH, bP, aU, bU, aC, bY, bO, cF, bW, aY, bA, aX, bV, dM, cU, bR, aZ, aK, aJ, bG, aE, dC, dW, aN, aM, aT, aD, cY, aG, cL, bT, bD, aP, cM, cG, aA, dN, cQ, cV, cC, dO, cB, dJ, dU, cP, eC, eM, bN, aS, dZ, bS, aQ, bL, dS, dB, cO, cS, cN, bK, bM, cX, dR, cR, dD, cZ, e3d, e4d, d6, d9]
 refine Hy oh rfl (by rw [Z1, ZZ, hlen]; omega) fun w4 o4' x4 zz4 => ?_
 have h4 := hset o4' x4
 obtain ⟨g0, g1, g2, g3, g4, g5, g6, g7, g8, g9⟩ := h4.cells
 have e34 : w4.cell? ⟨s3, 0, none⟩ = some (dP q) := by
  have hk := ((kJ ((hp.keep o3 m3).ext x3Y (notin o3.lt m3))).ext x4 (fun e => (notin o3.lt m3) (.inr (e ▸ hbY))))
  exact hk.cell (off := 0)
 simp (disch := omega) only [eY, gN, dX, stepR_skip, fP, fZ, fO, gK, gE, gC, gR, gA, eU, fV, fT, gG, fS, fM, fU, fR, fX, gH, fY, fQ, fC, gB, gI, fL, iS, iQ, iO, iR, iM, iN, iP, iU, iT, eP, Result.ok.injEq, Next.value.injEq, true_and, and_true, fK, fJ, gJ, fN, gD, gS, ZV, fE, fH, fF, fD, eZ, eX, fB, eT, eQ, eH, if_true, if_false, ZS, ZY, ZT, ZU, ZX, ZW, ZR, ZQ, eA, dV, aB, dI, dE, cJ, eB, eS, eE, dK, eD, fA, dQ, eN, bQ, dG, bJ, dL, aI, aH, eL, aV, bZ, eI, aF, eJ, dF, aR, bF, eF, bH, bE, bB, aO, aL, cD, fG, dY, cA, cI, dA, cH, dT, bC, eK, bX, dH, bP, aU, bU, aC, bY, bO, cF, bW, aY, bA, aX, bV, dM, cU, bR, aZ, aK, aJ, bG, aE, dC, dW, aN, aM, aT, aD, cY, aG, cL, bT, bD, aP, cM, cG, aA, dN, cQ, cV, cC, dO, cB, dJ, dU, cP, eC, eM, bN, aS, dZ, bS, aQ, bL, dS, dB, cO, cS, cN, bK, bM, cX, dR, cR, dD, cZ, e34, g9]
 refine hR w4 (iH.step (x01.mono fun _ _ h => h.elim) (fun _ h => .inl h) (fun _ h => h) (fun _ h => .inl h) ⟨X2, D2, Y2, _, _, h4, hX2, hD2, hY2, ?_⟩)
 refine (x2.trans x3Y fun y hy h => ?_).trans ((gX.dr w3 _).seq x4) fun y hy h => ?_
 .rcases h with h | h
  .rcases hX2 y h with h | h
   .exact .inl h
   .omega
  .rcases hY2 y h with h | h
   .exact .inr h
   .omega
 .rcases hY2 y (h ▸ hbY) with h | h
  .exact .inr h
  .omega
theorem Vj {n0 q p : Nat} {i : Int} {X D Y : Nat -> Prop} {S : jZ} {s : nS} {lv hv bv : adW} {b : List UInt8} {w : adV} (h : jX n0 w q p X D Y S s lv hv) (hB : Co 2 S) (hlen : s.hv.length = s.man.leaves.length) (hb : Bs w bv b) (hbl : b.length <= 1000000)
 (hbn : ¬ wB bv (fun y => X y ∨ Y y)) (hlg : s.log + 13 <= 1000000000) (hi64 : -9223372036854775808 <= i /\ i <= 9223372036854775807) :
 gU pg jF #[dP q, .int .i64 i, bv] w (fun r w' => r = .int .i64 (BI hU iE S s i b).2.2 /\ iH n0 w q p X D Y (BI hU iE S s i b).1 (BI hU iE S s i b).2.1 w') := by
 refine IS ?_
 obtain ⟨RR, hRR⟩ : ∃ RR : adW -> adV -> Prop, RR = fun r w' => r = .int .i64 (BI hU iE S s i b).2.2 /\ iH n0 w q p X D Y (BI hU iE S s i b).1 (BI hU iE S s i b).2.1 w' := ⟨_, rfl⟩
 rw [<- hRR]
 unfold HN yI yS
 refine oE fun w1 o1 x1 s1 => ?_
 refine oE fun w2 o2 x2 s2 => ?_
 refine oE fun w3 o3 x3 s3 => ?_
 have hlt0 := fun y hy => jX.lt h y hy
 generalize hn : w.heap.size = n at *
 rw [s1] at o2
 rw [show w2.heap.size = n + 2 from by omega] at o3 ⊢
 rw [s1]
 have o1 : jG w3 n [dP q] := ((jG.ext (cs := [dP q]) o1 x2 (fun h => h)).ext x3 (fun h => h))
 have o2 : jG w3 (n + 1) [.int .i64 i] := jG.ext (cs := [.int .i64 i]) o2 x3 (fun h => h)
 have o3 : jG w3 (n + 2) [bv] := by
  obtain ⟨ba, bc, rfl, _⟩ := hb.len
  exact o3
 have x03 : gX w w3 jK := (x1.seq x2).seq x3
 have h3 := h.new x03
 have hb3 := hb.ext x03 (jJ _)
 have z3 : w3.heap.size = n + 3 := by omega
 clear x1 x2 x3
 have c1 := o1.cell (off := 0)
 have c2 := o2.cell (off := 0)
 have c3 := o3.cell (off := 0)
 simp only [ZQ] at c1 c2 c3
 have x03' : gX w w3 (fun y => X y ∨ Y y) := x03.mono fun _ _ h => h.elim
 have stay : ∀ {w' : adV} {e : Int}, gX w3 w' jK -> BI hU iE S s i b = (S, s, e) -> RR (.int .i64 e) w' := fun {w' e} x he => by
  rw [hRR, he]
  exact ⟨rfl, iH.step x03' (fun _ h => .inl h) (fun _ h => h) (fun _ h => .inl h) (iH.step (x.mono fun _ _ h => h.elim) (fun _ h => .inl h) (fun _ h => h) (fun _ h => .inl h) (iH.refl (h3.new x)))⟩
 simp (disch := omega) only [eY, gN, dX, stepR_skip, fP, fZ, fO, gK, gE, gC, gR, gA, eU, fV, fT, gG, fS, fM, fU, fR, fX, gH, fY, fQ, fC, gB, gI, fL, iS, iQ, iO, iR, iM, iN, iP, iU, iT, eP, Result.ok.injEq, Next.value.injEq, true_and, and_true, fK, fJ, gJ, fN, gD, gS, ZV, fE, fH, fF, fD, eZ, eX, fB, eT, eQ, eH, if_true, if_false, ZS, ZY, ZT, ZU, ZX, ZW, ZR, ZQ, eA, dV, aB, dI, dE, cJ, eB, eS, eE, dK, eD, fA, dQ, eN, bQ, dG, bJ, dL, aI, aH, eL, aV, bZ, eI, aF, eJ, dF, aR, bF, eF, bH, bE, bB, aO, aL, cD, fG, dY, cA, cI, dA, cH, dT, bC, eK, bX, dH, bP, aU, bU, aC, bY, bO, cF, bW, aY, bA, aX, bV, dM, cU, bR, aZ, aK, aJ, bG, aE, dC, dW, aN, aM, aT, aD, cY, aG, cL, bT, bD, aP, cM, cG, aA, dN, cQ, cV, cC, dO, cB, dJ, dU, cP, eC, eM, bN, aS, dZ, bS, aQ, bL, dS, dB, cO, cS, cN, bK, bM, cX, dR, cR, dD, cZ, c1]
 refine (NM h3).mono ?_
 rintro r w4 ⟨rfl, hw⟩
 rw [hw]; clear hw w4
 by_cases he : s.err = 0
 rotate_left
 .have n1 : (s.err != 0) = true := bne_iff_ne.2 he
  simp (disch := omega) only [eY, gN, dX, stepR_skip, fP, fZ, fO, gK, gE, gC, gR, gA, eU, fV, fT, gG, fS, fM, fU, fR, fX, gH, fY, fQ, fC, gB, gI, fL, iS, iQ, iO, iR, iM, iN, iP, iU, iT, eP, Result.ok.injEq, Next.value.injEq, true_and, and_true, fK, fJ, gJ, fN, gD, gS, ZV, fE, fH, fF, fD, eZ, eX, fB, eT, eQ, eH, if_true, if_false, ZS, ZY, ZT, ZU, ZX, ZW, ZR, ZQ, eA, dV, aB, dI, dE, cJ, eB, eS, eE, dK, eD, fA, dQ, eN, bQ, dG, bJ, dL, aI, aH, eL, aV, bZ, eI, aF, eJ, dF, aR, bF, eF, bH, bE, bB, aO, aL, cD, fG, dY, cA, cI, dA, cH, dT, bC, eK, bX, dH, bP, aU, bU, aC, bY, bO, cF, bW, aY, bA, aX, bV, dM, cU, bR, aZ, aK, aJ, bG, aE, dC, dW, aN, aM, aT, aD, cY, aG, cL, bT, bD, aP, cM, cG, aA, dN, cQ, cV, cC, dO, cB, dJ, dU, cP, eC, eM, bN, aS, dZ, bS, aQ, bL, dS, dB, cO, cS, cN, bK, bM, cX, dR, cR, dD, cZ, n1, c1]
  refine (NM h3).mono ?_
  rintro r w4 ⟨rfl, hw⟩
  rw [hw]; clear hw w4
  exact stay (gX.refl _ _) (by unfold BI; rw [if_pos he])
 have n1 : (s.err != 0) = false := bne_eq_false_iff_eq.2 he
 have P1 : BI hU iE S s i b = if i < 0 ∨ (s.hv.length : Int) <= i then (S, s, 17) else if s.fin || s.hv.getD i.toNat false then (S, s, 0) else if Bk hU s.man i.toNat b = false then (S, s, 13) else ((mK iE S s i.toNat b).1, { (mK iE S s i.toNat b).2.1 with err := (mK iE S s i.toNat b).2.2, hv := (mK iE S s i.toNat b).2.1.hv.set i.toNat ((mK iE S s i.toNat b).2.2 == 0) }, (mK iE S s i.toNat b).2.2) := by
  unfold BI
  rw [if_neg (by rw [he]; decide)]
 have h3d := h3.new (gX.dr w3 jK)
 obtain ⟨d0, d1, d2, d3, d4, d5, d6, d7, d8, d9⟩ := h3d.cells
 obtain ⟨ha, hc, hhv⟩ := DU h3.hv
 rw [hhv] at d6
 have c1d : (dr w3).cell? ⟨n, 0, none⟩ = some (dP q) := c1
 have c2d : (dr w3).cell? ⟨n + 1, 0, none⟩ = some (.int .i64 i) := c2
 have hx1 : gX w3 (dr w3) jK := gX.dr _ _
 by_cases hneg : i < 0
 .have q1 : decide (i < 0) = true := decide_eq_true hneg
  rw [if_pos (.inl hneg)] at P1
  simp (disch := omega) only [eY, gN, dX, stepR_skip, fP, fZ, fO, gK, gE, gC, gR, gA, eU, fV, fT, gG, fS, fM, fU, fR, fX, gH, fY, fQ, fC, gB, gI, fL, iS, iQ, iO, iR, iM, iN, iP, iU, iT, eP, Result.ok.injEq, Next.value.injEq, true_and, and_true, fK, fJ, gJ, fN, gD, gS, ZV, fE, fH, fF, fD, eZ, eX, fB, eT, eQ, eH, if_true, if_false, ZS, ZY, ZT, ZU, ZX, ZW, ZR, ZQ, eA, dV, aB, dI, dE, cJ, eB, eS, eE, dK, eD, fA, dQ, eN, bQ, dG, bJ, dL, aI, aH, eL, aV, bZ, eI, aF, eJ, dF, aR, bF, eF, bH, bE, bB, aO, aL, cD, fG, dY, cA, cI, dA, cH, dT, bC, eK, bX, dH, bP, aU, bU, aC, bY, bO, cF, bW, aY, bA, aX, bV, dM, cU, bR, aZ, aK, aJ, bG, aE, dC, dW, aN, aM, aT, aD, cY, aG, cL, bT, bD, aP, cM, cG, aA, dN, cQ, cV, cC, dO, cB, dJ, dU, cP, eC, eM, bN, aS, dZ, bS, aQ, bL, dS, dB, cO, cS, cN, bK, bM, cX, dR, cR, dD, cZ, n1, c2d, q1]
  exact stay hx1 P1
 have q1 : decide (i < 0) = false := decide_eq_false hneg
 obtain ⟨j, rfl⟩ : ∃ j : Nat, i = j := ⟨i.toNat, by omega⟩
 rw [ZV] at P1
 by_cases hge : s.hv.length <= j
 .have q2 : decide (((s.hv.length : Nat) : Int) <= (j : Int)) = true := by simp; omega
  rw [if_pos (.inr (by omega))] at P1
  simp (disch := omega) only [eY, gN, dX, stepR_skip, fP, fZ, fO, gK, gE, gC, gR, gA, eU, fV, fT, gG, fS, fM, fU, fR, fX, gH, fY, fQ, fC, gB, gI, fL, iS, iQ, iO, iR, iM, iN, iP, iU, iT, eP, Result.ok.injEq, Next.value.injEq, true_and, and_true, fK, fJ, gJ, fN, gD, gS, ZV, fE, fH, fF, fD, eZ, eX, fB, eT, eQ, eH, if_true, if_false, ZS, ZY, ZT, ZU, ZX, ZW, ZR, ZQ, eA, dV, aB, dI, dE, cJ, eB, eS, eE, dK, eD, fA, dQ, eN, bQ, dG, bJ, dL, aI, aH, eL, aV, bZ, eI, aF, eJ, dF, aR, bF, eF, bH, bE, bB, aO, aL, cD, fG, dY, cA, cI, dA, cH, dT, bC, eK, bX, dH, bP, aU, bU, aC, bY, bO, cF, bW, aY, bA, aX, bV, dM, cU, bR, aZ, aK, aJ, bG, aE, dC, dW, aN, aM, aT, aD, cY, aG, cL, bT, bD, aP, cM, cG, aA, dN, cQ, cV, cC, dO, cB, dJ, dU, cP, eC, eM, bN, aS, dZ, bS, aQ, bL, dS, dB, cO, cS, cN, bK, bM, cX, dR, cR, dD, cZ, n1, c2d, q1, c1d, d6, q2]
  exact stay hx1 P1
 have q2 : decide (((s.hv.length : Nat) : Int) <= (j : Int)) = false := by simp; omega
 rw [if_neg (by omega)] at P1
 have hj : j < s.hv.length := by omega
 have hx2 : gX w3 (dr (dr w3)) jK := hx1.seq (gX.dr _ _)
 have h3e := h3.new hx2
 obtain ⟨e0, e1, e2, e3, e4, e5, e6, e7, e8, e9⟩ := h3e.cells
 rw [hhv] at e6
 have c1e : (dr (dr w3)).cell? ⟨n, 0, none⟩ = some (dP q) := c1
 have c2e : (dr (dr w3)).cell? ⟨n + 1, 0, none⟩ = some (.int .i64 (j : Nat)) := c2
 have c3e : (dr (dr w3)).cell? ⟨n + 2, 0, none⟩ = some bv := c3
 cases hfin : s.fin with
 | true =>
   rw [hfin] at e8 P1
   rw [Bool.true_or, if_pos rfl] at P1
   simp (disch := omega) only [eY, gN, dX, stepR_skip, fP, fZ, fO, gK, gE, gC, gR, gA, eU, fV, fT, gG, fS, fM, fU, fR, fX, gH, fY, fQ, fC, gB, gI, fL, iS, iQ, iO, iR, iM, iN, iP, iU, iT, eP, Result.ok.injEq, Next.value.injEq, true_and, and_true, fK, fJ, gJ, fN, gD, gS, ZV, fE, fH, fF, fD, eZ, eX, fB, eT, eQ, eH, if_true, if_false, ZS, ZY, ZT, ZU, ZX, ZW, ZR, ZQ, eA, dV, aB, dI, dE, cJ, eB, eS, eE, dK, eD, fA, dQ, eN, bQ, dG, bJ, dL, aI, aH, eL, aV, bZ, eI, aF, eJ, dF, aR, bF, eF, bH, bE, bB, aO, aL, cD, fG, dY, cA, cI, dA, cH, dT, bC, eK, bX, dH, bP, aU, bU, aC, bY, bO, cF, bW, aY, bA, aX, bV, dM, cU, bR, aZ, aK, aJ, bG, aE, dC, dW, aN, aM, aT, aD, cY, aG, cL, bT, bD, aP, cM, cG, aA, dN, cQ, cV, cC, dO, cB, dJ, dU, cP, eC, eM, bN, aS, dZ, bS, aQ, bL, dS, dB, cO, cS, cN, bK, bM, cX, dR, cR, dD, cZ, n1, c2d, q1, c1d, d6, q2, c1e, e8]
   exact stay hx2 P1
 | false =>
   rw [hfin] at e8 P1
   rw [adH] at P1
   obtain ⟨sa, so, sc, hsv, hcell⟩ := Rm (show Sl (dr (dr w3)) hv (s.hv.map Value.bool) from MD h3e.hv) hj
   rw [hhv] at hsv
   cases hsv
   cases hvj : s.hv.getD j false with
   | true =>
     rw [hvj] at hcell P1
     rw [if_pos rfl] at P1
     simp (disch := omega) only [eY, gN, dX, stepR_skip, fP, fZ, fO, gK, gE, gC, gR, gA, eU, fV, fT, gG, fS, fM, fU, fR, fX, gH, fY, fQ, fC, gB, gI, fL, iS, iQ, iO, iR, iM, iN, iP, iU, iT, eP, Result.ok.injEq, Next.value.injEq, true_and, and_true, fK, fJ, gJ, fN, gD, gS, ZV, fE, fH, fF, fD, eZ, eX, fB, eT, eQ, eH, if_true, if_false, ZS, ZY, ZT, ZU, ZX, ZW, ZR, ZQ, eA, dV, aB, dI, dE, cJ, eB, eS, eE, dK, eD, fA, dQ, eN, bQ, dG, bJ, dL, aI, aH, eL, aV, bZ, eI, aF, eJ, dF, aR, bF, eF, bH, bE, bB, aO, aL, cD, fG, dY, cA, cI, dA, cH, dT, bC, eK, bX, dH, bP, aU, bU, aC, bY, bO, cF, bW, aY, bA, aX, bV, dM, cU, bR, aZ, aK, aJ, bG, aE, dC, dW, aN, aM, aT, aD, cY, aG, cL, bT, bD, aP, cM, cG, aA, dN, cQ, cV, cC, dO, cB, dJ, dU, cP, eC, eM, bN, aS, dZ, bS, aQ, bL, dS, dB, cO, cS, cN, bK, bM, cX, dR, cR, dD, cZ, n1, c2d, q1, c1d, d6, q2, c1e, e8, e6, c2e, hcell]
     exact stay hx2 P1
   | false =>
     rw [hvj] at hcell P1
     rw [if_neg (by decide)] at P1
     simp (disch := omega) only [eY, gN, dX, stepR_skip, fP, fZ, fO, gK, gE, gC, gR, gA, eU, fV, fT, gG, fS, fM, fU, fR, fX, gH, fY, fQ, fC, gB, gI, fL, iS, iQ, iO, iR, iM, iN, iP, iU, iT, eP, Result.ok.injEq, Next.value.injEq, true_and, and_true, fK, fJ, gJ, fN, gD, gS, ZV, fE, fH, fF, fD, eZ, eX, fB, eT, eQ, eH, if_true, if_false, ZS, ZY, ZT, ZU, ZX, ZW, ZR, ZQ, eA, dV, aB, dI, dE, cJ, eB, eS, eE, dK, eD, fA, dQ, eN, bQ, dG, bJ, dL, aI, aH, eL, aV, bZ, eI, aF, eJ, dF, aR, bF, eF, bH, bE, bB, aO, aL, cD, fG, dY, cA, cI, dA, cH, dT, bC, eK, bX, dH, bP, aU, bU, aC, bY, bO, cF, bW, aY, bA, aX, bV, dM, cU, bR, aZ, aK, aJ, bG, aE, dC, dW, aN, aM, aT, aD, cY, aG, cL, bT, bD, aP, cM, cG, aA, dN, cQ, cV, cC, dO, cB, dJ, dU, cP, eC, eM, bN, aS, dZ, bS, aQ, bL, dS, dB, cO, cS, cN, bK, bM, cX, dR, cR, dD, cZ, n1, c2d, q1, c1d, d6, q2, c1e, e8, e6, c2e, hcell, c3e]
     refine (Tu h3e (by omega) (hb3.ext hx2 (jJ _)) hbl).mono ?_
     rintro r w4 ⟨rfl, x4⟩
     cases hwh : Bk hU s.man j b with
     | false =>
       rw [hwh] at P1
       rw [if_pos rfl] at P1
       simp (disch := omega) only [eY, gN, dX, stepR_skip, fP, fZ, fO, gK, gE, gC, gR, gA, eU, fV, fT, gG, fS, fM, fU, fR, fX, gH, fY, fQ, fC, gB, gI, fL, iS, iQ, iO, iR, iM, iN, iP, iU, iT, eP, Result.ok.injEq, Next.value.injEq, true_and, and_true, fK, fJ, gJ, fN, gD, gS, ZV, fE, fH, fF, fD, eZ, eX, fB, eT, eQ, eH, if_true, if_false, ZS, ZY, ZT, ZU, ZX, ZW, ZR, ZQ, eA, dV, aB, dI, dE, cJ, eB, eS, eE, dK, eD, fA, dQ, eN, bQ, dG, bJ, dL, aI, aH, eL, aV, bZ, eI, aF, eJ, dF, aR, bF, eF, bH, bE, bB, aO, aL, cD, fG, dY, cA, cI, dA, cH, dT, bC, eK, bX, dH, bP, aU, bU, aC, bY, bO, cF, bW, aY, bA, aX, bV, dM, cU, bR, aZ, aK, aJ, bG, aE, dC, dW, aN, aM, aT, aD, cY, aG, cL, bT, bD, aP, cM, cG, aA, dN, cQ, cV, cC, dO, cB, dJ, dU, cP, eC, eM, bN, aS, dZ, bS, aQ, bL, dS, dB, cO, cS, cN, bK, bM, cX, dR, cR, dD, cZ]
       exact stay (hx2.seq x4) P1
     | true =>
       rw [hwh] at P1
       rw [if_neg (by decide)] at P1
       have x34 := hx2.seq x4
       have h4 := h3.new x34
       have hm := h.man
       have hm1 := hm.cnt
       have hm2 := hm.max
       have hm3 := hm.part
       have hm4 := hm.size
       have hpj : s.man.part * j < s.man.size := (Au (by omega)).1 (by omega)
       have o14 := o1.ext x34 (fun h => h)
       have o24 := o2.ext x34 (fun h => h)
       have o34 := o3.ext x34 (fun h => h)
       have z4 := x34.size
       have ew : IntKind.i64.wrap ((s.man.part : Nat) : Int) = ((s.man.part : Nat) : Int) := fK (by omega) (by omega)
       have tail : ∀ {w5 : adV} {a7 : Nat}, gX w4 w5 jK -> w4.heap.size <= a7 -> jG w5 a7 [.int .u64 ((s.man.part * j : Nat) : Int)] -> mP RR (.pointer (some ⟨n, 0, none⟩)) (.pointer (some ⟨n + 1, 0, none⟩)) (.pointer (some ⟨n + 2, 0, none⟩)) (.pointer (some ⟨a7, 0, none⟩)) w5 := fun {w5 a7} x ha o7 => by
        have x05 := x34.seq x
        have nin : ∀ y, n <= y -> ¬ (X y ∨ Y y) := fun y hy hm => by have := hlt0 y hm; omega
        refine Uw (i := j) (h3.new x05) hB hj ((hb3.ext x34 (jJ _)).ext x (jJ _)) hbl hbn hlg (by omega) (o14.ext x (fun h => h)) (o24.ext x (fun h => h)) (o34.ext x (fun h => h)) o7 (nin _ (by omega)) (nin _ (by omega)) (nin _ (by omega)) (nin _ (by omega)) fun w' hp => ?_
        rw [hRR, P1]
        exact ⟨rfl, iH.step (x03'.seq (x05.mono fun _ _ h => h.elim)) (fun _ h => .inl h) (fun _ h => h) (fun _ h => .inl h) hp⟩
       obtain ⟨f0, f1, f2, f3, f4, f5, f6, f7, f8, f9⟩ := (h4.new (gX.dr w4 jK)).cells
       have k1 : (dr w4).cell? ⟨n, 0, none⟩ = some (dP q) := o14.cell (off := 0)
       have k2 : (dr w4).cell? ⟨n + 1, 0, none⟩ = some (.int .i64 (j : Nat)) := o24.cell (off := 0)
       obtain ⟨pj, hpj'⟩ : ∃ pj, pj = s.man.part * j := ⟨_, rfl⟩
       rw [<- hpj'] at tail
       have zd : (dr w4).heap.size = w4.heap.size := rfl
       simp (disch := omega) only [eY, gN, dX, stepR_skip, fP, fZ, fO, gK, gE, gC, gR, gA, eU, fV, fT, gG, fS, fM, fU, fR, fX, gH, fY, fQ, fC, gB, gI, fL, iS, iQ, iO, iR, iM, iN, iP, iU, iT, eP, Result.ok.injEq, Next.value.injEq, true_and, and_true, fK, fJ, gJ, fN, gD, gS, ZV, fE, fH, fF, fD, eZ, eX, fB, eT, eQ, eH, if_true, if_false, ZS, ZY, ZT, ZU, ZX, ZW, ZR, ZQ, eA, dV, aB, dI, dE, cJ, eB, eS, eE, dK, eD, fA, dQ, eN, bQ, dG, bJ, dL, aI, aH, eL, aV, bZ, eI, aF, eJ, dF, aR, bF, eF, bH, bE, bB, aO, aL, cD, fG, dY, cA, cI, dA, cH, dT, bC, eK, bX, dH, bP, aU, bU, aC, bY, bO, cF, bW, aY, bA, aX, bV, dM, cU, bR, aZ, aK, aJ, bG, aE, dC, dW, aN, aM, aT, aD, cY, aG, cL, bT, bD, aP, cM, cG, aA, dN, cQ, cV, cC, dO, cB, dJ, dU, cP, eC, eM, bN, aS, dZ, bS, aQ, bL, dS, dB, cO, cS, cN, bK, bM, cX, dR, cR, dD, cZ]
       refine Wg ?_ ?_
       .simp (disch := omega) only [eY, gN, dX, stepR_skip, fP, fZ, fO, gK, gE, gC, gR, gA, eU, fV, fT, gG, fS, fM, fU, fR, fX, gH, fY, fQ, fC, gB, gI, fL, iS, iQ, iO, iR, iM, iN, iP, iU, iT, eP, Result.ok.injEq, Next.value.injEq, true_and, and_true, fK, fJ, gJ, fN, gD, gS, ZV, fE, fH, fF, fD, eZ, eX, fB, eT, eQ, eH, if_true, if_false, ZS, ZY, ZT, ZU, ZX, ZW, ZR, ZQ, eA, dV, aB, dI, dE, cJ, eB, eS, eE, dK, eD, fA, dQ, eN, bQ, dG, bJ, dL, aI, aH, eL, aV, bZ, eI, aF, eJ, dF, aR, bF, eF, bH, bE, bB, aO, aL, cD, fG, dY, cA, cI, dA, cH, dT, bC, eK, bX, dH, bP, aU, bU, aC, bY, bO, cF, bW, aY, bA, aX, bV, dM, cU, bR, aZ, aK, aJ, bG, aE, dC, dW, aN, aM, aT, aD, cY, aG, cL, bT, bD, aP, cM, cG, aA, dN, cQ, cV, cC, dO, cB, dJ, dU, cP, eC, eM, bN, aS, dZ, bS, aQ, bL, dS, dB, cO, cS, cN, bK, bM, cX, dR, cR, dD, cZ, k1, k2, f2, f3, ew]
        refine (OQ (by omega) hm3.1 hm3.2 hm2 (by omega)).mono ?_
        rintro r w5 ⟨rfl, hw⟩
        rw [hw]; clear hw w5
        rw [<- hpj']
        simp (disch := omega) only [eY, gN, dX, stepR_skip, fP, fZ, fO, gK, gE, gC, gR, gA, eU, fV, fT, gG, fS, fM, fU, fR, fX, gH, fY, fQ, fC, gB, gI, fL, iS, iQ, iO, iR, iM, iN, iP, iU, iT, eP, Result.ok.injEq, Next.value.injEq, true_and, and_true, fK, fJ, gJ, fN, gD, gS, ZV, fE, fH, fF, fD, eZ, eX, fB, eT, eQ, eH, if_true, if_false, ZS, ZY, ZT, ZU, ZX, ZW, ZR, ZQ, eA, dV, aB, dI, dE, cJ, eB, eS, eE, dK, eD, fA, dQ, eN, bQ, dG, bJ, dL, aI, aH, eL, aV, bZ, eI, aF, eJ, dF, aR, bF, eF, bH, bE, bB, aO, aL, cD, fG, dY, cA, cI, dA, cH, dT, bC, eK, bX, dH, bP, aU, bU, aC, bY, bO, cF, bW, aY, bA, aX, bV, dM, cU, bR, aZ, aK, aJ, bG, aE, dC, dW, aN, aM, aT, aD, cY, aG, cL, bT, bD, aP, cM, cG, aA, dN, cQ, cV, cC, dO, cB, dJ, dU, cP, eC, eM, bN, aS, dZ, bS, aQ, bL, dS, dB, cO, cS, cN, bK, bM, cX, dR, cR, dD, cZ]
        refine Qi fun w5 o5 x5 s5 => ?_
        refine JG o5 rfl (by simp) fun w6 o6 x6 s6 => ?_
        simp only [aaD] at o6
        exact tail (((gX.dr w4 _).seq x5).trans x6 fun y hy h => by omega) (Z8 _) o6
       .simp (disch := omega) only [eY, gN, dX, stepR_skip, fP, fZ, fO, gK, gE, gC, gR, gA, eU, fV, fT, gG, fS, fM, fU, fR, fX, gH, fY, fQ, fC, gB, gI, fL, iS, iQ, iO, iR, iM, iN, iP, iU, iT, eP, Result.ok.injEq, Next.value.injEq, true_and, and_true, fK, fJ, gJ, fN, gD, gS, ZV, fE, fH, fF, fD, eZ, eX, fB, eT, eQ, eH, if_true, if_false, ZS, ZY, ZT, ZU, ZX, ZW, ZR, ZQ, eA, dV, aB, dI, dE, cJ, eB, eS, eE, dK, eD, fA, dQ, eN, bQ, dG, bJ, dL, aI, aH, eL, aV, bZ, eI, aF, eJ, dF, aR, bF, eF, bH, bE, bB, aO, aL, cD, fG, dY, cA, cI, dA, cH, dT, bC, eK, bX, dH, bP, aU, bU, aC, bY, bO, cF, bW, aY, bA, aX, bV, dM, cU, bR, aZ, aK, aJ, bG, aE, dC, dW, aN, aM, aT, aD, cY, aG, cL, bT, bD, aP, cM, cG, aA, dN, cQ, cV, cC, dO, cB, dJ, dU, cP, eC, eM, bN, aS, dZ, bS, aQ, bL, dS, dB, cO, cS, cN, bK, bM, cX, dR, cR, dD, cZ, k1, k2, f2, f3, ew]
        refine Qi fun w5 o5 x5 s5 => ?_
        obtain ⟨g0, g1, g2, g3, g4, g5, g6, g7, g8, g9⟩ := (h4.new ((gX.dr w4 jK).seq x5)).cells
        have k1' : w5.cell? ⟨n, 0, none⟩ = some (dP q) := (o14.ext ((gX.dr w4 jK).seq x5) (fun h => h)).cell (off := 0)
        have k2' : w5.cell? ⟨n + 1, 0, none⟩ = some (.int .i64 (j : Nat)) := (o24.ext ((gX.dr w4 jK).seq x5) (fun h => h)).cell (off := 0)
        simp (disch := omega) only [eY, gN, dX, stepR_skip, fP, fZ, fO, gK, gE, gC, gR, gA, eU, fV, fT, gG, fS, fM, fU, fR, fX, gH, fY, fQ, fC, gB, gI, fL, iS, iQ, iO, iR, iM, iN, iP, iU, iT, eP, Result.ok.injEq, Next.value.injEq, true_and, and_true, fK, fJ, gJ, fN, gD, gS, ZV, fE, fH, fF, fD, eZ, eX, fB, eT, eQ, eH, if_true, if_false, ZS, ZY, ZT, ZU, ZX, ZW, ZR, ZQ, eA, dV, aB, dI, dE, cJ, eB, eS, eE, dK, eD, fA, dQ, eN, bQ, dG, bJ, dL, aI, aH, eL, aV, bZ, eI, aF, eJ, dF, aR, bF, eF, bH, bE, bB, aO, aL, cD, fG, dY, cA, cI, dA, cH, dT, bC, eK, bX, dH, bP, aU, bU, aC, bY, bO, cF, bW, aY, bA, aX, bV, dM, cU, bR, aZ, aK, aJ, bG, aE, dC, dW, aN, aM, aT, aD, cY, aG, cL, bT, bD, aP, cM, cG, aA, dN, cQ, cV, cC, dO, cB, dJ, dU, cP, eC, eM, bN, aS, dZ, bS, aQ, bL, dS, dB, cO, cS, cN, bK, bM, cX, dR, cR, dD, cZ, k1', k2', g2, g3, ew]
        refine (OQ (by omega) hm3.1 hm3.2 hm2 (by omega)).mono ?_
        rintro r w6 ⟨rfl, hw⟩
        rw [hw]; clear hw w6
        rw [<- hpj']
        simp (disch := omega) only [eY, gN, dX, stepR_skip, fP, fZ, fO, gK, gE, gC, gR, gA, eU, fV, fT, gG, fS, fM, fU, fR, fX, gH, fY, fQ, fC, gB, gI, fL, iS, iQ, iO, iR, iM, iN, iP, iU, iT, eP, Result.ok.injEq, Next.value.injEq, true_and, and_true, fK, fJ, gJ, fN, gD, gS, ZV, fE, fH, fF, fD, eZ, eX, fB, eT, eQ, eH, if_true, if_false, ZS, ZY, ZT, ZU, ZX, ZW, ZR, ZQ, eA, dV, aB, dI, dE, cJ, eB, eS, eE, dK, eD, fA, dQ, eN, bQ, dG, bJ, dL, aI, aH, eL, aV, bZ, eI, aF, eJ, dF, aR, bF, eF, bH, bE, bB, aO, aL, cD, fG, dY, cA, cI, dA, cH, dT, bC, eK, bX, dH, bP, aU, bU, aC, bY, bO, cF, bW, aY, bA, aX, bV, dM, cU, bR, aZ, aK, aJ, bG, aE, dC, dW, aN, aM, aT, aD, cY, aG, cL, bT, bD, aP, cM, cG, aA, dN, cQ, cV, cC, dO, cB, dJ, dU, cP, eC, eM, bN, aS, dZ, bS, aQ, bL, dS, dB, cO, cS, cN, bK, bM, cX, dR, cR, dD, cZ]
        refine JG o5 rfl (by simp) fun w6 o6 x6 s6 => ?_
        simp only [aaD] at o6
        exact tail (((gX.dr w4 _).seq x5).trans x6 fun y hy h => by omega) (Z8 _) o6
theorem jX.newHv {n0 : Nat} {w w1 w2 : adV} {q p ob : Nat} {X D Y : Nat -> Prop} {S : jZ} {s s' : nS} {lv hv : adW} {l : List Bool} (h : jX n0 w q p X D Y S s lv hv) (x1 : gX w w1 jK) (hob : w.heap.size <= ob) (o1 : jG w1 ob (l.map Value.bool)) (hl : l.length <= 1024)
 (x2 : gX w1 w2 (fun y => y = q)) (o2 : jG w2 q (Zy p s' lv (.slice (some ⟨ob, 0, none⟩) l.length l.length))) (hm : s'.man = s.man) (hh : s'.hv = l) (hn : s'.nm = s.nm) (he : s'.epoch < 18446744073709551616) (hlg : s'.log <= 1000000000) :
 jX n0 w2 q p X (fun b => D b ∨ b = ob) (fun b => Y b ∨ b = ob) S s' lv (.slice (some ⟨ob, 0, none⟩) l.length l.length) := by
 have hlt := jX.lt h
 have hqY := hlt q (.inr h.yq)
 have hq := h.yd q h.yq
 have hqn := h.lo q (.inr h.yq)
 have hg := h.g0
 have hhi := h.hi
 have hol := o1.lt
 have z1 := x1.size
 have z2 := x2.size
 have hd1 := h.dsk.more x1 hob hol
 refine ⟨(h.glob.ext x1).extM x2 (by omega) (by omega), h.g0, fun b hb => ?_, by omega, hd1.ext x2 fun b hb => ⟨.inl (hb ▸ hq.1), hb ▸ hq.2⟩, .inl h.yq, fun b hb => ?_, o2, hm ▸ h.man, ?_, ?_, he, hlg, hh ▸ hl, hn ▸ h.nl⟩
 .rcases hb with hb | hb | hb
  .exact h.lo b (.inl hb)
  .exact h.lo b (.inr hb)
  .omega
 .rcases hb with hb | hb
  .exact ⟨.inl (h.yd b hb).1, (h.yd b hb).2⟩
  .exact ⟨.inr hb, fun hx => by have := hlt b (.inl hx); omega⟩
 .rw [hm]
  have k1 : Uu w1 (fun b => X b ∨ Y b) lv s.man.leaves := h.lv.keep (x1.mono fun _ _ h => h.elim) fun b hb => .inl hb
  have k2 : Uu w1 (fun b => X b ∨ Y b ∨ b = ob) lv s.man.leaves := h.lv.keep (x1.mono fun _ _ h => h.elim) fun b hb => by
   rcases hb with hb | hb | hb
   .exact .inl (.inl hb)
   .exact .inl (.inr hb)
   .exact .inr (by omega)
  exact k2.keep (x2.mono fun b _ hb => .inr (.inl (hb ▸ h.yq))) fun b hb => .inl hb
 .rw [hh]
  refine ⟨by rw [ZZ]; simp, .inr ⟨ob, l.length, [], rfl, ⟨.inr rfl, by omega⟩, ?_, by simp, Z8 _⟩⟩
  rw [abE]
  exact o1.ext x2 (by omega)
theorem VY {n0 q p : Nat} {X D Y : Nat -> Prop} {S : jZ} {s : nS} {lv hv : adW} {w : adV} (h : jX n0 w q p X D Y S s lv hv) (hB : Co 2 S) (hbp : ∀ b, jE (iC s.nm) S.seen = some b -> b.length <= 1000000) :
 gU pg kL #[dP q] w (fun r w' => r = .int .i64 (lZ hU S s).2.2 /\ iH n0 w q p X D Y (lZ hU S s).1 (lZ hU S s).2.1 w') := by
 refine FQ ?_
 obtain ⟨RR, hRR⟩ : ∃ RR : adW -> adV -> Prop, RR = fun r w' => r = .int .i64 (lZ hU S s).2.2 /\ iH n0 w q p X D Y (lZ hU S s).1 (lZ hU S s).2.1 w' := ⟨_, rfl⟩
 rw [<- hRR]
 unfold Ef sO
 refine oE fun w1 o1 x1 s1 => ?_
 have hlt0 := fun y hy => jX.lt h y hy
 generalize hn : w.heap.size = n at *
 have o1 : jG w1 n [dP q] := o1
 have h1 := h.new x1
 have c1 := o1.cell (off := 0)
 simp only [ZQ] at c1
 have x01 : gX w w1 (fun y => X y ∨ Y y) := x1.mono fun _ _ h => h.elim
 have stay : ∀ {w' : adV} {e : Int}, gX w1 w' jK -> lZ hU S s = (S, s, e) -> RR (.int .i64 e) w' := fun {w' e} x he => by
  rw [hRR, he]
  exact ⟨rfl, iH.step x01 (fun _ h => .inl h) (fun _ h => h) (fun _ h => .inl h) (iH.step (x.mono fun _ _ h => h.elim) (fun _ h => .inl h) (fun _ h => h) (fun _ h => .inl h) (iH.refl (h1.new x)))⟩
 obtain ⟨d0, d1, d2, d3, d4, d5, d6, d7, d8, d9⟩ := h1.cells
 simp (disch := omega) only [eY, gN, dX, stepR_skip, fP, fZ, fO, gK, gE, gC, gR, gA, eU, fV, fT, gG, fS, fM, fU, fR, fX, gH, fY, fQ, fC, gB, gI, fL, iS, iQ, iO, iR, iM, iN, iP, iU, iT, eP, Result.ok.injEq, Next.value.injEq, true_and, and_true, fK, fJ, gJ, fN, gD, gS, ZV, fE, fH, fF, fD, eZ, eX, fB, eT, eQ, eH, if_true, if_false, ZS, ZY, ZT, ZU, ZX, ZW, ZR, ZQ, eA, dV, aB, dI, dE, cJ, eB, eS, eE, dK, eD, fA, dQ, eN, bQ, dG, bJ, dL, aI, aH, eL, aV, bZ, eI, aF, eJ, dF, aR, bF, eF, bH, bE, bB, aO, aL, cD, fG, dY, cA, cI, dA, cH, dT, bC, eK, bX, dH, bP, aU, bU, aC, bY, bO, cF, bW, aY, bA, aX, bV, dM, cU, bR, aZ, aK, aJ, bG, aE, dC, dW, aN, aM, aT, aD, cY, aG, cL, bT, bD, aP, cM, cG, aA, dN, cQ, cV, cC, dO, cB, dJ, dU, cP, eC, eM, bN, aS, dZ, bS, aQ, bL, dS, dB, cO, cS, cN, bK, bM, cX, dR, cR, dD, cZ, c1]
 refine (NM h1).mono ?_
 rintro r w2 ⟨rfl, hw⟩
 rw [hw]; clear hw w2
 by_cases he : s.err = 0
 rotate_left
 .have n1 : (s.err != 0) = true := bne_iff_ne.2 he
  simp (disch := omega) only [eY, gN, dX, stepR_skip, fP, fZ, fO, gK, gE, gC, gR, gA, eU, fV, fT, gG, fS, fM, fU, fR, fX, gH, fY, fQ, fC, gB, gI, fL, iS, iQ, iO, iR, iM, iN, iP, iU, iT, eP, Result.ok.injEq, Next.value.injEq, true_and, and_true, fK, fJ, gJ, fN, gD, gS, ZV, fE, fH, fF, fD, eZ, eX, fB, eT, eQ, eH, if_true, if_false, ZS, ZY, ZT, ZU, ZX, ZW, ZR, ZQ, eA, dV, aB, dI, dE, cJ, eB, eS, eE, dK, eD, fA, dQ, eN, bQ, dG, bJ, dL, aI, aH, eL, aV, bZ, eI, aF, eJ, dF, aR, bF, eF, bH, bE, bB, aO, aL, cD, fG, dY, cA, cI, dA, cH, dT, bC, eK, bX, dH, bP, aU, bU, aC, bY, bO, cF, bW, aY, bA, aX, bV, dM, cU, bR, aZ, aK, aJ, bG, aE, dC, dW, aN, aM, aT, aD, cY, aG, cL, bT, bD, aP, cM, cG, aA, dN, cQ, cV, cC, dO, cB, dJ, dU, cP, eC, eM, bN, aS, dZ, bS, aQ, bL, dS, dB, cO, cS, cN, bK, bM, cX, dR, cR, dD, cZ, n1, c1]
  refine (NM h1).mono ?_
  rintro r w2 ⟨rfl, hw⟩
  rw [hw]; clear hw w2
  exact stay (gX.refl _ _) (by unfold lZ; rw [if_pos he])
 have n1 : (s.err != 0) = false := bne_eq_false_iff_eq.2 he
 cases hfin : s.fin with
 | true =>
   rw [hfin] at d8
   simp (disch := omega) only [eY, gN, dX, stepR_skip, fP, fZ, fO, gK, gE, gC, gR, gA, eU, fV, fT, gG, fS, fM, fU, fR, fX, gH, fY, fQ, fC, gB, gI, fL, iS, iQ, iO, iR, iM, iN, iP, iU, iT, eP, Result.ok.injEq, Next.value.injEq, true_and, and_true, fK, fJ, gJ, fN, gD, gS, ZV, fE, fH, fF, fD, eZ, eX, fB, eT, eQ, eH, if_true, if_false, ZS, ZY, ZT, ZU, ZX, ZW, ZR, ZQ, eA, dV, aB, dI, dE, cJ, eB, eS, eE, dK, eD, fA, dQ, eN, bQ, dG, bJ, dL, aI, aH, eL, aV, bZ, eI, aF, eJ, dF, aR, bF, eF, bH, bE, bB, aO, aL, cD, fG, dY, cA, cI, dA, cH, dT, bC, eK, bX, dH, bP, aU, bU, aC, bY, bO, cF, bW, aY, bA, aX, bV, dM, cU, bR, aZ, aK, aJ, bG, aE, dC, dW, aN, aM, aT, aD, cY, aG, cL, bT, bD, aP, cM, cG, aA, dN, cQ, cV, cC, dO, cB, dJ, dU, cP, eC, eM, bN, aS, dZ, bS, aQ, bL, dS, dB, cO, cS, cN, bK, bM, cX, dR, cR, dD, cZ, n1, c1, d8]
   exact stay (gX.refl _ _) (by unfold lZ; rw [if_neg (by rw [he]; decide), hfin, if_pos rfl])
 | false =>
   rw [hfin] at d8
   have C1 : lZ hU S s = if CR s.hv = false then (S, s, 30) else if S.down then (S, { s with err := 20 }, 20) else match jE (iC s.nm) S.seen with
    | none => (S, { s with err := 21 }, 21)
    | some b => if CR (jC hU s.man b) = false then (S, { s with hv := jC hU s.man b }, 13) else
      (if (Ng S (iC s.nm) s.nm).2 ≠ 0 then ((Ng S (iC s.nm) s.nm).1, { s with hv := jC hU s.man b, err := (Ng S (iC s.nm) s.nm).2, fin := false }, (Ng S (iC s.nm) s.nm).2) else
       ((Ew (Ng S (iC s.nm) s.nm).1).1, { s with hv := jC hU s.man b, err := (Ew (Ng S (iC s.nm) s.nm).1).2, fin := (Ew (Ng S (iC s.nm) s.nm).1).2 == 0 }, (Ew (Ng S (iC s.nm) s.nm).1).2)) := by
    unfold lZ
    exact (if_neg (by rw [he]; decide)).trans ((if_neg (by rw [hfin]; decide)).trans rfl)
   simp (disch := omega) only [eY, gN, dX, stepR_skip, fP, fZ, fO, gK, gE, gC, gR, gA, eU, fV, fT, gG, fS, fM, fU, fR, fX, gH, fY, fQ, fC, gB, gI, fL, iS, iQ, iO, iR, iM, iN, iP, iU, iT, eP, Result.ok.injEq, Next.value.injEq, true_and, and_true, fK, fJ, gJ, fN, gD, gS, ZV, fE, fH, fF, fD, eZ, eX, fB, eT, eQ, eH, if_true, if_false, ZS, ZY, ZT, ZU, ZX, ZW, ZR, ZQ, eA, dV, aB, dI, dE, cJ, eB, eS, eE, dK, eD, fA, dQ, eN, bQ, dG, bJ, dL, aI, aH, eL, aV, bZ, eI, aF, eJ, dF, aR, bF, eF, bH, bE, bB, aO, aL, cD, fG, dY, cA, cI, dA, cH, dT, bC, eK, bX, dH, bP, aU, bU, aC, bY, bO, cF, bW, aY, bA, aX, bV, dM, cU, bR, aZ, aK, aJ, bG, aE, dC, dW, aN, aM, aT, aD, cY, aG, cL, bT, bD, aP, cM, cG, aA, dN, cQ, cV, cC, dO, cB, dJ, dU, cP, eC, eM, bN, aS, dZ, bS, aQ, bL, dS, dB, cO, cS, cN, bK, bM, cX, dR, cR, dD, cZ, n1, c1, d8, d6]
   refine (OF (MD h1.hv) (by have := h.hl; omega)).mono ?_
   rintro r w2 ⟨rfl, hw⟩
   rw [hw]; clear hw w2
   have hall : (!s.hv.contains false) = CR s.hv := rfl
   rw [hall]
   cases hab : CR s.hv with
   | false =>
     rw [if_pos hab] at C1
     simp (disch := omega) only [eY, gN, dX, stepR_skip, fP, fZ, fO, gK, gE, gC, gR, gA, eU, fV, fT, gG, fS, fM, fU, fR, fX, gH, fY, fQ, fC, gB, gI, fL, iS, iQ, iO, iR, iM, iN, iP, iU, iT, eP, Result.ok.injEq, Next.value.injEq, true_and, and_true, fK, fJ, gJ, fN, gD, gS, ZV, fE, fH, fF, fD, eZ, eX, fB, eT, eQ, eH, if_true, if_false, ZS, ZY, ZT, ZU, ZX, ZW, ZR, ZQ, eA, dV, aB, dI, dE, cJ, eB, eS, eE, dK, eD, fA, dQ, eN, bQ, dG, bJ, dL, aI, aH, eL, aV, bZ, eI, aF, eJ, dF, aR, bF, eF, bH, bE, bB, aO, aL, cD, fG, dY, cA, cI, dA, cH, dT, bC, eK, bX, dH, bP, aU, bU, aC, bY, bO, cF, bW, aY, bA, aX, bV, dM, cU, bR, aZ, aK, aJ, bG, aE, dC, dW, aN, aM, aT, aD, cY, aG, cL, bT, bD, aP, cM, cG, aA, dN, cQ, cV, cC, dO, cB, dJ, dU, cP, eC, eM, bN, aS, dZ, bS, aQ, bL, dS, dB, cO, cS, cN, bK, bM, cX, dR, cR, dD, cZ]
     exact stay (gX.refl _ _) C1
   | true =>
     rw [if_neg (by rw [hab]; decide)] at C1
     have hd := h1.new (gX.dr w1 jK)
     obtain ⟨e0, e1, e2, e3, e4, e5, e6, e7, e8, e9⟩ := hd.cells
     have c1d : (dr w1).cell? ⟨n, 0, none⟩ = some (dP q) := c1
     have ct := OI h.nl
     simp (disch := omega) only [eY, gN, dX, stepR_skip, fP, fZ, fO, gK, gE, gC, gR, gA, eU, fV, fT, gG, fS, fM, fU, fR, fX, gH, fY, fQ, fC, gB, gI, fL, iS, iQ, iO, iR, iM, iN, iP, iU, iT, eP, Result.ok.injEq, Next.value.injEq, true_and, and_true, fK, fJ, gJ, fN, gD, gS, ZV, fE, fH, fF, fD, eZ, eX, fB, eT, eQ, eH, if_true, if_false, ZS, ZY, ZT, ZU, ZX, ZW, ZR, ZQ, eA, dV, aB, dI, dE, cJ, eB, eS, eE, dK, eD, fA, dQ, eN, bQ, dG, bJ, dL, aI, aH, eL, aV, bZ, eI, aF, eJ, dF, aR, bF, eF, bH, bE, bB, aO, aL, cD, fG, dY, cA, cI, dA, cH, dT, bC, eK, bX, dH, bP, aU, bU, aC, bY, bO, cF, bW, aY, bA, aX, bV, dM, cU, bR, aZ, aK, aJ, bG, aE, dC, dW, aN, aM, aT, aD, cY, aG, cL, bT, bD, aP, cM, cG, aA, dN, cQ, cV, cC, dO, cB, dJ, dU, cP, eC, eM, bN, aS, dZ, bS, aQ, bL, dS, dB, cO, cS, cN, bK, bM, cX, dR, cR, dD, cZ, c1d, e0, e1, ct]
     refine (Qu (name := iC s.nm) hd.dsk hB.bd (fun b hb => hB.file hb)).mono ?_
     rintro r w2 ⟨hr, x2⟩
     have x12 : gX w1 w2 jK := (gX.dr w1 _).seq x2
     have h2 := h1.new x12
     have c2 : w2.cell? ⟨n, 0, none⟩ = some (dP q) := (o1.ext x12 (fun h => h)).cell (off := 0)
     have x02 : gX w w2 (fun y => X y ∨ Y y) := x01.seq (x12.mono fun _ _ h => h.elim)
     have bad : ∀ {e : Int}, lZ hU S s = (S, { s with err := e }, e) -> eY pg (iD 29 (.pointer (some ⟨q, 9, none⟩)) (.int .i64 e)) w2 fun _u w => RR (.int .i64 e) w := fun {e} hC => by
      refine CN h2.own rfl (by simp) fun w3 o3 x3 z3 => ?_
      have h3 := h2.set (s' := { s with err := e }) x3 o3 rfl rfl rfl h.ep h.lg
      rw [hRR, hC]
      exact ⟨rfl, iH.step x02 (fun _ h => .inl h) (fun _ h => h) (fun _ h => .inl h) ⟨X, D, Y, _, _, h3, fun _ h => .inl h, fun _ h => h, fun _ h => .inl h, x3.mono fun y _ hy => .inr (hy ▸ h.yq)⟩⟩
     rcases hr with ⟨hdn, rfl⟩ | ⟨hdn, hg, rfl⟩ | ⟨hdn, b, v, hg, rfl, ho⟩
     .rw [if_pos hdn] at C1
      have n2 : ((20 : Int) != 0) = true := rfl
      have := bad C1
      simp (disch := omega) only [eY, gN, dX, stepR_skip, fP, fZ, fO, gK, gE, gC, gR, gA, eU, fV, fT, gG, fS, fM, fU, fR, fX, gH, fY, fQ, fC, gB, gI, fL, iS, iQ, iO, iR, iM, iN, iP, iU, iT, eP, Result.ok.injEq, Next.value.injEq, true_and, and_true, fK, fJ, gJ, fN, gD, gS, ZV, fE, fH, fF, fD, eZ, eX, fB, eT, eQ, eH, if_true, if_false, ZS, ZY, ZT, ZU, ZX, ZW, ZR, ZQ, eA, dV, aB, dI, dE, cJ, eB, eS, eE, dK, eD, fA, dQ, eN, bQ, dG, bJ, dL, aI, aH, eL, aV, bZ, eI, aF, eJ, dF, aR, bF, eF, bH, bE, bB, aO, aL, cD, fG, dY, cA, cI, dA, cH, dT, bC, eK, bX, dH, bP, aU, bU, aC, bY, bO, cF, bW, aY, bA, aX, bV, dM, cU, bR, aZ, aK, aJ, bG, aE, dC, dW, aN, aM, aT, aD, cY, aG, cL, bT, bD, aP, cM, cG, aA, dN, cQ, cV, cC, dO, cB, dJ, dU, cP, eC, eM, bN, aS, dZ, bS, aQ, bL, dS, dB, cO, cS, cN, bK, bM, cX, dR, cR, dD, cZ, n2, c2]
      exact this
     .rw [if_neg (by rw [hdn]; decide), hg] at C1
      have n2 : ((21 : Int) != 0) = true := rfl
      have := bad C1
      simp (disch := omega) only [eY, gN, dX, stepR_skip, fP, fZ, fO, gK, gE, gC, gR, gA, eU, fV, fT, gG, fS, fM, fU, fR, fX, gH, fY, fQ, fC, gB, gI, fL, iS, iQ, iO, iR, iM, iN, iP, iU, iT, eP, Result.ok.injEq, Next.value.injEq, true_and, and_true, fK, fJ, gJ, fN, gD, gS, ZV, fE, fH, fF, fD, eZ, eX, fB, eT, eQ, eH, if_true, if_false, ZS, ZY, ZT, ZU, ZX, ZW, ZR, ZQ, eA, dV, aB, dI, dE, cJ, eB, eS, eE, dK, eD, fA, dQ, eN, bQ, dG, bJ, dL, aI, aH, eL, aV, bZ, eI, aF, eJ, dF, aR, bF, eF, bH, bE, bB, aO, aL, cD, fG, dY, cA, cI, dA, cH, dT, bC, eK, bX, dH, bP, aU, bU, aC, bY, bO, cF, bW, aY, bA, aX, bV, dM, cU, bR, aZ, aK, aJ, bG, aE, dC, dW, aN, aM, aT, aD, cY, aG, cL, bT, bD, aP, cM, cG, aA, dN, cQ, cV, cC, dO, cB, dJ, dU, cP, eC, eM, bN, aS, dZ, bS, aQ, bL, dS, dB, cO, cS, cN, bK, bM, cX, dR, cR, dD, cZ, n2, c2]
      exact this
     rw [if_neg (by rw [hdn]; decide), hg] at C1
     have C1 : lZ hU S s = if CR (jC hU s.man b) = false then (S, { s with hv := jC hU s.man b }, 13) else
      (if (Ng S (iC s.nm) s.nm).2 ≠ 0 then ((Ng S (iC s.nm) s.nm).1, { s with hv := jC hU s.man b, err := (Ng S (iC s.nm) s.nm).2, fin := false }, (Ng S (iC s.nm) s.nm).2) else
       ((Ew (Ng S (iC s.nm) s.nm).1).1, { s with hv := jC hU s.man b, err := (Ew (Ng S (iC s.nm) s.nm).1).2, fin := (Ew (Ng S (iC s.nm) s.nm).1).2 == 0 }, (Ew (Ng S (iC s.nm) s.nm).1).2)) := C1
     have n2 : ((0 : Int) != 0) = false := rfl
     have h2d := h2.new (gX.dr w2 jK)
     have c2d : (dr w2).cell? ⟨n, 0, none⟩ = some (dP q) := c2
     have hvb : Bs (dr w2) v b := (show Bs w2 v b from ho.sl).ext (gX.dr w2 jK) (jJ _)
     simp (disch := omega) only [eY, gN, dX, stepR_skip, fP, fZ, fO, gK, gE, gC, gR, gA, eU, fV, fT, gG, fS, fM, fU, fR, fX, gH, fY, fQ, fC, gB, gI, fL, iS, iQ, iO, iR, iM, iN, iP, iU, iT, eP, Result.ok.injEq, Next.value.injEq, true_and, and_true, fK, fJ, gJ, fN, gD, gS, ZV, fE, fH, fF, fD, eZ, eX, fB, eT, eQ, eH, if_true, if_false, ZS, ZY, ZT, ZU, ZX, ZW, ZR, ZQ, eA, dV, aB, dI, dE, cJ, eB, eS, eE, dK, eD, fA, dQ, eN, bQ, dG, bJ, dL, aI, aH, eL, aV, bZ, eI, aF, eJ, dF, aR, bF, eF, bH, bE, bB, aO, aL, cD, fG, dY, cA, cI, dA, cH, dT, bC, eK, bX, dH, bP, aU, bU, aC, bY, bO, cF, bW, aY, bA, aX, bV, dM, cU, bR, aZ, aK, aJ, bG, aE, dC, dW, aN, aM, aT, aD, cY, aG, cL, bT, bD, aP, cM, cG, aA, dN, cQ, cV, cC, dO, cB, dJ, dU, cP, eC, eM, bN, aS, dZ, bS, aQ, bL, dS, dB, cO, cS, cN, bK, bM, cX, dR, cR, dD, cZ, n2, c2d]
     refine (Oa h2d hvb (hbp b hg)).mono ?_
     rintro r w3 ⟨ob, rfl, hob, oo, x3⟩
     have x23 : gX w2 w3 jK := (gX.dr w2 _).seq x3
     have c3 : w3.cell? ⟨n, 0, none⟩ = some (dP q) := ((o1.ext x12 (fun h => h)).ext x23 (fun h => h)).cell (off := 0)
     obtain ⟨W, hW⟩ : ∃ W, W = jC hU s.man b := ⟨_, rfl⟩
     have hWl : W.length = s.man.leaves.length := by rw [hW]; unfold jC; simp
     rw [<- hW] at oo C1
     rw [<- hWl]
     have hob2 : w2.heap.size <= ob := hob
     have hmx := h.man.max
     have hmc := h.man.cnt
     simp (disch := omega) only [eY, gN, dX, stepR_skip, fP, fZ, fO, gK, gE, gC, gR, gA, eU, fV, fT, gG, fS, fM, fU, fR, fX, gH, fY, fQ, fC, gB, gI, fL, iS, iQ, iO, iR, iM, iN, iP, iU, iT, eP, Result.ok.injEq, Next.value.injEq, true_and, and_true, fK, fJ, gJ, fN, gD, gS, ZV, fE, fH, fF, fD, eZ, eX, fB, eT, eQ, eH, if_true, if_false, ZS, ZY, ZT, ZU, ZX, ZW, ZR, ZQ, eA, dV, aB, dI, dE, cJ, eB, eS, eE, dK, eD, fA, dQ, eN, bQ, dG, bJ, dL, aI, aH, eL, aV, bZ, eI, aF, eJ, dF, aR, bF, eF, bH, bE, bB, aO, aL, cD, fG, dY, cA, cI, dA, cH, dT, bC, eK, bX, dH, bP, aU, bU, aC, bY, bO, cF, bW, aY, bA, aX, bV, dM, cU, bR, aZ, aK, aJ, bG, aE, dC, dW, aN, aM, aT, aD, cY, aG, cL, bT, bD, aP, cM, cG, aA, dN, cQ, cV, cC, dO, cB, dJ, dU, cP, eC, eM, bN, aS, dZ, bS, aQ, bL, dS, dB, cO, cS, cN, bK, bM, cX, dR, cR, dD, cZ, c3]
     refine KY ((h2.new x23).own) rfl (by simp) fun w4 o4 x4 z4 => ?_
     have h4 := h2.newHv (s' := { s with hv := W }) x23 hob2 oo (by omega) x4 o4 rfl rfl rfl h.ep h.lg
     have x04 : gX w w4 (fun y => X y ∨ Y y) := x02.seq ((x23.mono fun _ _ h => h.elim).seq (x4.mono fun y _ hy => .inr (hy ▸ h.yq)))
     have nq : n ≠ q := fun e => by have := hlt0 q (.inr h.yq); omega
     have o14 := ((o1.ext x12 (fun h => h)).ext x23 (fun h => h)).ext x4 (fun e => nq e)
     have c4 : w4.cell? ⟨n, 0, none⟩ = some (dP q) := o14.cell (off := 0)
     have hz2 := (x1.seq x12).size
     have hYn : ∀ b, (Y b ∨ b = ob) -> Y b ∨ w.heap.size <= b := fun b hb => hb.imp id fun hb => by omega
     have hDn : ∀ b, D b -> (D b ∨ b = ob) := fun _ h => .inl h
     obtain ⟨g0, g1, g2, g3, g4, g5, g6, g7, g8, g9⟩ := h4.cells
     simp (disch := omega) only [eY, gN, dX, stepR_skip, fP, fZ, fO, gK, gE, gC, gR, gA, eU, fV, fT, gG, fS, fM, fU, fR, fX, gH, fY, fQ, fC, gB, gI, fL, iS, iQ, iO, iR, iM, iN, iP, iU, iT, eP, Result.ok.injEq, Next.value.injEq, true_and, and_true, fK, fJ, gJ, fN, gD, gS, ZV, fE, fH, fF, fD, eZ, eX, fB, eT, eQ, eH, if_true, if_false, ZS, ZY, ZT, ZU, ZX, ZW, ZR, ZQ, eA, dV, aB, dI, dE, cJ, eB, eS, eE, dK, eD, fA, dQ, eN, bQ, dG, bJ, dL, aI, aH, eL, aV, bZ, eI, aF, eJ, dF, aR, bF, eF, bH, bE, bB, aO, aL, cD, fG, dY, cA, cI, dA, cH, dT, bC, eK, bX, dH, bP, aU, bU, aC, bY, bO, cF, bW, aY, bA, aX, bV, dM, cU, bR, aZ, aK, aJ, bG, aE, dC, dW, aN, aM, aT, aD, cY, aG, cL, bT, bD, aP, cM, cG, aA, dN, cQ, cV, cC, dO, cB, dJ, dU, cP, eC, eM, bN, aS, dZ, bS, aQ, bL, dS, dB, cO, cS, cN, bK, bM, cX, dR, cR, dD, cZ, c4, g6]
     refine (OF (MD h4.hv) (by show W.length <= _; omega)).mono ?_
     rintro r w5 ⟨rfl, hw⟩
     rw [hw]; clear hw w5
     have hall : (!({ s with hv := W } : nS).hv.contains false) = CR W := rfl
     rw [hall]
     cases hab2 : CR W with
     | false =>
       rw [if_pos hab2] at C1
       simp (disch := omega) only [eY, gN, dX, stepR_skip, fP, fZ, fO, gK, gE, gC, gR, gA, eU, fV, fT, gG, fS, fM, fU, fR, fX, gH, fY, fQ, fC, gB, gI, fL, iS, iQ, iO, iR, iM, iN, iP, iU, iT, eP, Result.ok.injEq, Next.value.injEq, true_and, and_true, fK, fJ, gJ, fN, gD, gS, ZV, fE, fH, fF, fD, eZ, eX, fB, eT, eQ, eH, if_true, if_false, ZS, ZY, ZT, ZU, ZX, ZW, ZR, ZQ, eA, dV, aB, dI, dE, cJ, eB, eS, eE, dK, eD, fA, dQ, eN, bQ, dG, bJ, dL, aI, aH, eL, aV, bZ, eI, aF, eJ, dF, aR, bF, eF, bH, bE, bB, aO, aL, cD, fG, dY, cA, cI, dA, cH, dT, bC, eK, bX, dH, bP, aU, bU, aC, bY, bO, cF, bW, aY, bA, aX, bV, dM, cU, bR, aZ, aK, aJ, bG, aE, dC, dW, aN, aM, aT, aD, cY, aG, cL, bT, bD, aP, cM, cG, aA, dN, cQ, cV, cC, dO, cB, dJ, dU, cP, eC, eM, bN, aS, dZ, bS, aQ, bL, dS, dB, cO, cS, cN, bK, bM, cX, dR, cR, dD, cZ]
       rw [hRR, C1]
       exact ⟨rfl, iH.step x04 (fun _ h => .inl h) hDn hYn (iH.refl h4)⟩
     | true =>
       rw [if_neg (by rw [hab2]; decide)] at C1
       have h4d := h4.new (gX.dr w4 jK)
       obtain ⟨f0, f1, f2, f3, f4, f5, f6, f7, f8, f9⟩ := h4d.cells
       have c4d : (dr w4).cell? ⟨n, 0, none⟩ = some (dP q) := c4
       have m1 := fun w => MR (P := pg) (f := mC) [] [.pointer (some ⟨n, 0, none⟩)] w
       have m2 := fun w => MR (P := pg) (f := jN) [dP p] [] w
       simp (disch := omega) only [eY, gN, dX, stepR_skip, fP, fZ, fO, gK, gE, gC, gR, gA, eU, fV, fT, gG, fS, fM, fU, fR, fX, gH, fY, fQ, fC, gB, gI, fL, iS, iQ, iO, iR, iM, iN, iP, iU, iT, eP, Result.ok.injEq, Next.value.injEq, true_and, and_true, fK, fJ, gJ, fN, gD, gS, ZV, fE, fH, fF, fD, eZ, eX, fB, eT, eQ, eH, if_true, if_false, ZS, ZY, ZT, ZU, ZX, ZW, ZR, ZQ, eA, dV, aB, dI, dE, cJ, eB, eS, eE, dK, eD, fA, dQ, eN, bQ, dG, bJ, dL, aI, aH, eL, aV, bZ, eI, aF, eJ, dF, aR, bF, eF, bH, bE, bB, aO, aL, cD, fG, dY, cA, cI, dA, cH, dT, bC, eK, bX, dH, bP, aU, bU, aC, bY, bO, cF, bW, aY, bA, aX, bV, dM, cU, bR, aZ, aK, aJ, bG, aE, dC, dW, aN, aM, aT, aD, cY, aG, cL, bT, bD, aP, cM, cG, aA, dN, cQ, cV, cC, dO, cB, dJ, dU, cP, eC, eM, bN, aS, dZ, bS, aQ, bL, dS, dB, cO, cS, cN, bK, bM, cX, dR, cR, dD, cZ, c4d, f0, m1, m2]
       obtain ⟨fs, hfs⟩ : ∃ fs : List adW, fs = [.func (.func mC) #[] #[.pointer (some ⟨n, 0, none⟩)], .func (.func jN) #[dP p] #[]] := ⟨_, rfl⟩
       refine zU (cells := fs.toArray) (by decide) (by decide) (by rw [hfs]; kernel_rfl) fun w5 o5 x5 z5 => ?_
       obtain ⟨bb, hbb⟩ : ∃ bb, bb = w4.heap.size := ⟨_, rfl⟩
       have o5 : jG w5 bb fs := by rw [hbb]; exact o5
       rw [show (dr w4).heap.size = bb from hbb.symm]
       have x45 : gX w4 w5 jK := (gX.dr w4 _).seq x5
       have h5 := h4.new x45
       have o15 := o14.ext x45 (fun h => h)
       have zz4 := x4.size
       have zz5 := x45.size
       have zz23 := x23.size
       have hlt4 := fun y hy => jX.lt h4 y hy
       have mb : ¬ (X bb ∨ (Y bb ∨ bb = ob)) := fun hx => by have := hlt4 bb hx; omega
       have mn : ¬ (X n ∨ (Y n ∨ n = ob)) := fun hx => by
        rcases hx with hx | hx | hx
        .have := hlt0 n (.inl hx); omega
        .have := hlt0 n (.inr hx); omega
        .have := x12.size; omega
       obtain ⟨A1, hA1⟩ : ∃ A1, A1 = Ng S (iC s.nm) s.nm := ⟨_, rfl⟩
       have hB1 : Co 1 A1.1 := hA1 ▸ YS hB
       obtain ⟨A2, hA2⟩ : ∃ A2, A2 = Ew A1.1 := ⟨_, rfl⟩
       rw [<- hA1, <- hA2] at C1
       obtain ⟨s', hs'⟩ : ∃ s' : nS, s' = { s with hv := W } := ⟨_, rfl⟩
       rw [<- hs'] at h4 h5
       obtain ⟨C, hC⟩ : ∃ C : jZ × Int, C = if A1.2 ≠ 0 then (A1.1, A1.2) else (A2.1, A2.2) := ⟨_, rfl⟩
       have C2 : lZ hU S s = (C.1, { s' with err := C.2, fin := C.2 == 0 }, C.2) := by
        rw [C1, hC, hs']
        split
        .rename_i hne
         have : (A1.2 == 0) = false := beq_eq_false_iff_ne.2 hne
         simp only [this]
        .rfl
       let J : Nat -> adV -> Prop := fun k w' => match k with
        | 0 => iH n0 w5 q p X (fun b => D b ∨ b = ob) (fun b => Y b ∨ b = ob) S s' w'
        | 1 => A1.2 = 0 /\ iH n0 w5 q p X (fun b => D b ∨ b = ob) (fun b => Y b ∨ b = ob) A1.1 s' w'
        | _ => C.2 = 0 /\ iH n0 w5 q p X (fun b => D b ∨ b = ob) (fun b => Y b ∨ b = ob) C.1 s' w'
       let E : Int -> adV -> Prop := fun e w' => C.2 = e /\ iH n0 w5 q p X (fun b => D b ∨ b = ob) (fun b => Y b ∨ b = ob) C.1 s' w'
       have hmain := TM (fs := fs) (b := bb) (c := 2) (w := w5) J E (by rw [hfs]; simp) (iH.refl h5) (fun k w' hk => by
        match k, hk with
        | 0, hk => exact iH.keep hk o5 mb
        | 1, hk => exact iH.keep hk.2 o5 mb
        | n + 2, hk => exact iH.keep hk.2 o5 mb) ?hs
       case hs =>
        intro k w' f hf hk
        rw [hfs] at hf
        match k, hf, hk with
        | 0, hf, hk =>
          simp only [ZQ, aaN] at hf
          rw [<- hf, JJ Tryd.func36 (by kernel_rfl) (by kernel_rfl)]
          show gU pg mC #[.pointer (some ⟨n, 0, none⟩)] w' _
          have hk : iH n0 w5 q p X (fun b => D b ∨ b = ob) (fun b => Y b ∨ b = ob) S s' w' := hk
          refine Em ?_
          unfold BQ qR
          have e1 := (kJ (hk.keep o15 mn)).cell (off := 0)
          simp only [ZQ] at e1
          obtain ⟨X', D', Y', lv', hv', g1, hX, hD, hY, gx⟩ := hk
          have g1d := g1.new (gX.dr w' jK)
          obtain ⟨k0, k1, k2, k3, k4, k5, k6, k7, k8, k9⟩ := g1d.cells
          have hnm : s'.nm = s.nm := by rw [hs']
          rw [hnm] at k1
          simp (disch := omega) only [eY, gN, dX, stepR_skip, fP, fZ, fO, gK, gE, gC, gR, gA, eU, fV, fT, gG, fS, fM, fU, fR, fX, gH, fY, fQ, fC, gB, gI, fL, iS, iQ, iO, iR, iM, iN, iP, iU, iT, eP, Result.ok.injEq, Next.value.injEq, true_and, and_true, fK, fJ, gJ, fN, gD, gS, ZV, fE, fH, fF, fD, eZ, eX, fB, eT, eQ, eH, if_true, if_false, ZS, ZY, ZT, ZU, ZX, ZW, ZR, ZQ, eA, dV, aB, dI, dE, cJ, eB, eS, eE, dK, eD, fA, dQ, eN, bQ, dG, bJ, dL, aI, aH, eL, aV, bZ, eI, aF, eJ, dF, aR, bF, eF, bH, bE, bB, aO, aL, cD, fG, dY, cA, cI, dA, cH, dT, bC, eK, bX, dH, bP, aU, bU, aC, bY, bO, cF, bW, aY, bA, aX, bV, dM, cU, bR, aZ, aK, aJ, bG, aE, dC, dW, aN, aM, aT, aD, cY, aG, cL, bT, bD, aP, cM, cG, aA, dN, cQ, cV, cC, dO, cB, dJ, dU, cP, eC, eM, bN, aS, dZ, bS, aQ, bL, dS, dB, cO, cS, cN, bK, bM, cX, dR, cR, dD, cZ, e1, k0, k1, ct]
          refine (T8 (old := iC s.nm) (name := s.nm) g1d.dsk hB.bd).mono ?_
          rintro r w6 ⟨rfl, hp⟩
          obtain ⟨X2, D2, q2, hX2, hD2, qx2⟩ := g1d.disk hp
          rw [<- hA1] at q2 ⊢
          have hpost : iH n0 w5 q p X (fun b => D b ∨ b = ob) (fun b => Y b ∨ b = ob) A1.1 s' w6 := iH.step (gx.seq (gX.dr _ _)) hX hD hY ⟨X2, D2, Y', _, _, q2, hX2, hD2, fun _ h => .inl h, qx2.mono fun _ _ h => .inl h⟩
          refine ⟨_, rfl, ?_⟩
          split
          .rename_i he; exact ⟨he, hpost⟩
          .rename_i he
           rw [if_pos he] at hC
           show C.2 = _ /\ iH n0 w5 q p X (fun b => D b ∨ b = ob) (fun b => Y b ∨ b = ob) C.1 s' w6
           rw [hC]
           exact ⟨rfl, hpost⟩
        | 1, hf, hk =>
          simp only [ZQ, ZR, aaN] at hf
          rw [<- hf, JJ Tryd.func19 (by kernel_rfl) (by kernel_rfl)]
          show gU pg jN #[dP p] w' _
          have hk : A1.2 = 0 /\ iH n0 w5 q p X (fun b => D b ∨ b = ob) (fun b => Y b ∨ b = ob) A1.1 s' w' := hk
          refine (QT hk.2 (hB1.le (by omega))).mono ?_
          rintro r w6 ⟨rfl, hp⟩
          rw [<- hA2] at hp ⊢
          rw [if_neg (by rw [hk.1]; decide)] at hC
          have hE : C.2 = A2.2 /\ iH n0 w5 q p X (fun b => D b ∨ b = ob) (fun b => Y b ∨ b = ob) C.1 s' w6 := by rw [hC]; exact ⟨rfl, hp⟩
          refine ⟨_, rfl, ?_⟩
          split
          .rename_i he; exact ⟨hE.1.trans he, hE.2⟩
          .exact hE
        | m + 2, hf, hk => simp at hf
       rw [show fs.length = 2 from by rw [hfs] <;> rfl] at hmain
       have c5 := o15.cell (off := 0)
       simp only [ZQ] at c5
       simp (disch := omega) only [eY, gN, dX, stepR_skip, fP, fZ, fO, gK, gE, gC, gR, gA, eU, fV, fT, gG, fS, fM, fU, fR, fX, gH, fY, fQ, fC, gB, gI, fL, iS, iQ, iO, iR, iM, iN, iP, iU, iT, eP, Result.ok.injEq, Next.value.injEq, true_and, and_true, fK, fJ, gJ, fN, gD, gS, ZV, fE, fH, fF, fD, eZ, eX, fB, eT, eQ, eH, if_true, if_false, ZS, ZY, ZT, ZU, ZX, ZW, ZR, ZQ, eA, dV, aB, dI, dE, cJ, eB, eS, eE, dK, eD, fA, dQ, eN, bQ, dG, bJ, dL, aI, aH, eL, aV, bZ, eI, aF, eJ, dF, aR, bF, eF, bH, bE, bB, aO, aL, cD, fG, dY, cA, cI, dA, cH, dT, bC, eK, bX, dH, bP, aU, bU, aC, bY, bO, cF, bW, aY, bA, aX, bV, dM, cU, bR, aZ, aK, aJ, bG, aE, dC, dW, aN, aM, aT, aD, cY, aG, cL, bT, bD, aP, cM, cG, aA, dN, cQ, cV, cC, dO, cB, dJ, dU, cP, eC, eM, bN, aS, dZ, bS, aQ, bL, dS, dB, cO, cS, cN, bK, bM, cX, dR, cR, dD, cZ, c5]
       refine hmain.mono ?_
       rintro r w6 ⟨e, rfl, he⟩
       have hfin' : C.2 = e /\ iH n0 w5 q p X (fun b => D b ∨ b = ob) (fun b => Y b ∨ b = ob) C.1 s' w6 := by
        split at he
        .rename_i h0; rw [h0]; exact he
        .exact he
       clear he hmain
       obtain ⟨rfl, hp⟩ := hfin'
       have c6 := (hp.keep o15 mn).cell (off := 0)
       simp only [ZQ] at c6
       have o16 := hp.keep o15 mn
       obtain ⟨X2, D2, Y2, lv2, hv2, h6, hX2, hD2, hY2, x6⟩ := id hp
       simp (disch := omega) only [eY, gN, dX, stepR_skip, fP, fZ, fO, gK, gE, gC, gR, gA, eU, fV, fT, gG, fS, fM, fU, fR, fX, gH, fY, fQ, fC, gB, gI, fL, iS, iQ, iO, iR, iM, iN, iP, iU, iT, eP, Result.ok.injEq, Next.value.injEq, true_and, and_true, fK, fJ, gJ, fN, gD, gS, ZV, fE, fH, fF, fD, eZ, eX, fB, eT, eQ, eH, if_true, if_false, ZS, ZY, ZT, ZU, ZX, ZW, ZR, ZQ, eA, dV, aB, dI, dE, cJ, eB, eS, eE, dK, eD, fA, dQ, eN, bQ, dG, bJ, dL, aI, aH, eL, aV, bZ, eI, aF, eJ, dF, aR, bF, eF, bH, bE, bB, aO, aL, cD, fG, dY, cA, cI, dA, cH, dT, bC, eK, bX, dH, bP, aU, bU, aC, bY, bO, cF, bW, aY, bA, aX, bV, dM, cU, bR, aZ, aK, aJ, bG, aE, dC, dW, aN, aM, aT, aD, cY, aG, cL, bT, bD, aP, cM, cG, aA, dN, cQ, cV, cC, dO, cB, dJ, dU, cP, eC, eM, bN, aS, dZ, bS, aQ, bL, dS, dB, cO, cS, cN, bK, bM, cX, dR, cR, dD, cZ, c6]
       refine CN h6.own rfl (by simp) fun w7 o7 x7 z7 => ?_
       have h7 := h6.set (s' := { s' with err := C.2 }) x7 o7 rfl rfl rfl h6.ep h6.lg
       have n2' : ¬ n = q := nq
       have o17 := o16.ext x7 n2'
       have h7d := h7.new (gX.dr w7 jK)
       obtain ⟨k0, k1, k2, k3, k4, k5, k6, k7, k8, k9⟩ := h7d.cells
       have c7d : (dr w7).cell? ⟨n, 0, none⟩ = some (dP q) := (kJ o17).cell (off := 0)
       simp (disch := omega) only [eY, gN, dX, stepR_skip, fP, fZ, fO, gK, gE, gC, gR, gA, eU, fV, fT, gG, fS, fM, fU, fR, fX, gH, fY, fQ, fC, gB, gI, fL, iS, iQ, iO, iR, iM, iN, iP, iU, iT, eP, Result.ok.injEq, Next.value.injEq, true_and, and_true, fK, fJ, gJ, fN, gD, gS, ZV, fE, fH, fF, fD, eZ, eX, fB, eT, eQ, eH, if_true, if_false, ZS, ZY, ZT, ZU, ZX, ZW, ZR, ZQ, eA, dV, aB, dI, dE, cJ, eB, eS, eE, dK, eD, fA, dQ, eN, bQ, dG, bJ, dL, aI, aH, eL, aV, bZ, eI, aF, eJ, dF, aR, bF, eF, bH, bE, bB, aO, aL, cD, fG, dY, cA, cI, dA, cH, dT, bC, eK, bX, dH, bP, aU, bU, aC, bY, bO, cF, bW, aY, bA, aX, bV, dM, cU, bR, aZ, aK, aJ, bG, aE, dC, dW, aN, aM, aT, aD, cY, aG, cL, bT, bD, aP, cM, cG, aA, dN, cQ, cV, cC, dO, cB, dJ, dU, cP, eC, eM, bN, aS, dZ, bS, aQ, bL, dS, dB, cO, cS, cN, bK, bM, cX, dR, cR, dD, cZ, c7d, k9]
       refine Hy h7d.own rfl (by simp) fun w8 o8 x8 z8 => ?_
       have h8 := h7d.set (s' := { s' with err := C.2, fin := C.2 == 0 }) x8 o8 rfl rfl rfl h6.ep h6.lg
       have c8 : w8.cell? ⟨n, 0, none⟩ = some (dP q) := ((kJ o17).ext x8 n2').cell (off := 0)
       obtain ⟨j0, j1, j2, j3, j4, j5, j6, j7, j8, j9⟩ := h8.cells
       simp (disch := omega) only [eY, gN, dX, stepR_skip, fP, fZ, fO, gK, gE, gC, gR, gA, eU, fV, fT, gG, fS, fM, fU, fR, fX, gH, fY, fQ, fC, gB, gI, fL, iS, iQ, iO, iR, iM, iN, iP, iU, iT, eP, Result.ok.injEq, Next.value.injEq, true_and, and_true, fK, fJ, gJ, fN, gD, gS, ZV, fE, fH, fF, fD, eZ, eX, fB, eT, eQ, eH, if_true, if_false, ZS, ZY, ZT, ZU, ZX, ZW, ZR, ZQ, eA, dV, aB, dI, dE, cJ, eB, eS, eE, dK, eD, fA, dQ, eN, bQ, dG, bJ, dL, aI, aH, eL, aV, bZ, eI, aF, eJ, dF, aR, bF, eF, bH, bE, bB, aO, aL, cD, fG, dY, cA, cI, dA, cH, dT, bC, eK, bX, dH, bP, aU, bU, aC, bY, bO, cF, bW, aY, bA, aX, bV, dM, cU, bR, aZ, aK, aJ, bG, aE, dC, dW, aN, aM, aT, aD, cY, aG, cL, bT, bD, aP, cM, cG, aA, dN, cQ, cV, cC, dO, cB, dJ, dU, cP, eC, eM, bN, aS, dZ, bS, aQ, bL, dS, dB, cO, cS, cN, bK, bM, cX, dR, cR, dD, cZ, c8, j9]
       rw [hRR, C2]
       refine ⟨rfl, iH.step x04 (fun _ h => .inl h) hDn hYn (iH.step (x45.mono fun _ _ h => h.elim) (fun _ h => .inl h) (fun _ h => h) (fun _ h => .inl h) ⟨X2, D2, Y2, _, _, h8, hX2, hD2, hY2, ?_⟩)⟩
       refine (x6.trans x7 fun y hy h => ?_).trans ((gX.dr w7 _).seq x8) fun y hy h => ?_
       .exact .inr (.inl (h ▸ h4.yq.elim id fun e => by rw [e] at nq; have := hlt0 q (.inr h1.yq); omega))
       .exact .inr (.inl (h ▸ h1.yq))
def pX (S : jZ) (s : nS) : jZ × nS × Int × List (Nat × Nat) :=
 if (iX S (jH s.nm)).2.2 ≠ 0 then (S, s, (iX S (jH s.nm)).2.2, []) else
 if kB 1 (mO iE (iX S (jH s.nm)).1) = 18446744073709551615 then (S, s, 23, []) else
 let q := kO iE S { s with epoch := kB 1 (mO iE (iX S (jH s.nm)).1) + 1, log := 13 * (mO iE (iX S (jH s.nm)).1).length } 1 (kB 1 (mO iE (iX S (jH s.nm)).1) + 1)
 (q.1, q.2.1, q.2.2, mO iE (iX S (jH s.nm)).1)
theorem Tw {w w' : adV} {S : Nat -> Prop} {sz n : Nat} {v : adW} {l : List adW} {T : Nat -> Prop} (h : IB w S sz v n l) (hT : ∀ b, S b -> b < w.heap.size -> ¬ T b) : ¬ wB v T := by
 intro hi
 rcases h.2 with ⟨rfl, _⟩ | ⟨b, c, rest, rfl, g2, g3, _⟩
 .exact hi
 .unfold wB at hi
  split at hi
  .rename_i e
   simp only [Value.slice.injEq, aaN] at e
   obtain ⟨rfl, _⟩ := e
   exact hT _ g2 g3.lt hi
  .exact hi
theorem QV {w : adV} {S : Nat -> Prop} {sz n : Nat} {v : adW} {l : List adW} (h : IB w S sz v n l) : Cl w sz v n l := by
 rcases h.2 with ⟨rfl, h0⟩ | ⟨b, c, rest, rfl, g2, g3, g4, g5⟩
 .exact ⟨_, _, by rw [h0], h.1, fun h => by omega⟩
 .refine ⟨_, _, rfl, h.1, fun _ => ⟨b, 0, rfl, fun i hi => ?_⟩⟩
  rw [ZY, g3.cell, aaO hi]
theorem V3 {n0 q p : Nat} {X D Y : Nat -> Prop} {S : jZ} {s : nS} {lv hv : adW} {w : adV} (h : jX n0 w q p X D Y S s lv hv) (hB : Co 1 S) (hbl : ∀ b, jE (jH s.nm) S.seen = some b -> b.length <= 1000000) :
 gU pg nD #[dP q] w (fun r w' => ∃ o X' D' Y' lv' hv', r = .tuple #[o, .int .i64 (pX S s).2.2.1] /\ jX n0 w' q p X' D' Y' (pX S s).1 (pX S s).2.1 lv' hv' /\ (∀ b, X' b -> X b ∨ w.heap.size <= b) /\ (∀ b, D b -> D' b) /\ (∀ b, Y' b -> Y b ∨ w.heap.size <= b) /\ gX w w' (fun b => X b ∨ Y b) /\
  Cl w' 2 o (pX S s).2.2.2.length ((pX S s).2.2.2.flatMap Ba) /\ ¬ wB o (fun b => X' b ∨ Y' b)) := by
 refine FD ?_
 obtain ⟨RR, hRR⟩ : ∃ RR : adW -> adV -> Prop, RR = fun r w' => ∃ o X' D' Y' lv' hv', r = .tuple #[o, .int .i64 (pX S s).2.2.1] /\ jX n0 w' q p X' D' Y' (pX S s).1 (pX S s).2.1 lv' hv' /\ (∀ b, X' b -> X b ∨ w.heap.size <= b) /\ (∀ b, D b -> D' b) /\ (∀ b, Y' b -> Y b ∨ w.heap.size <= b) /\ gX w w' (fun b => X b ∨ Y b) /\
  Cl w' 2 o (pX S s).2.2.2.length ((pX S s).2.2.2.flatMap Ba) /\ ¬ wB o (fun b => X' b ∨ Y' b) := ⟨_, rfl⟩
 rw [<- hRR]
 obtain ⟨c0, c1, c2, c3, c4, c5, c6, c7, c8, c9⟩ := h.cells
 have ct := TP h.nl
 unfold Dq sT
 simp (disch := omega) only [eY, gN, dX, stepR_skip, fP, fZ, fO, gK, gE, gC, gR, gA, eU, fV, fT, gG, fS, fM, fU, fR, fX, gH, fY, fQ, fC, gB, gI, fL, iS, iQ, iO, iR, iM, iN, iP, iU, iT, eP, Result.ok.injEq, Next.value.injEq, true_and, and_true, fK, fJ, gJ, fN, gD, gS, ZV, fE, fH, fF, fD, eZ, eX, fB, eT, eQ, eH, if_true, if_false, ZS, ZY, ZT, ZU, ZX, ZW, ZR, ZQ, eA, dV, aB, dI, dE, cJ, eB, eS, eE, dK, eD, fA, dQ, eN, bQ, dG, bJ, dL, aI, aH, eL, aV, bZ, eI, aF, eJ, dF, aR, bF, eF, bH, bE, bB, aO, aL, cD, fG, dY, cA, cI, dA, cH, dT, bC, eK, bX, dH, bP, aU, bU, aC, bY, bO, cF, bW, aY, bA, aX, bV, dM, cU, bR, aZ, aK, aJ, bG, aE, dC, dW, aN, aM, aT, aD, cY, aG, cL, bT, bD, aP, cM, cG, aA, dN, cQ, cV, cC, dO, cB, dJ, dU, cP, eC, eM, bN, aS, dZ, bS, aQ, bL, dS, dB, cO, cS, cN, bK, bM, cX, dR, cR, dD, cZ, c1, ct]
 refine (OG (n := jH s.nm) h.dsk (hB.le (by omega)) c0).mono ?_
 rintro r w1 ⟨v, rfl, ho, x1⟩
 have h1 := h.new x1
 have hlt0 := fun y hy => jX.lt h y hy
 have hB0 : pX S s = if (iX S (jH s.nm)).2.2 ≠ 0 then (S, s, (iX S (jH s.nm)).2.2, []) else
  if kB 1 (mO iE (iX S (jH s.nm)).1) = 18446744073709551615 then (S, s, 23, []) else
  ((kO iE S { s with epoch := kB 1 (mO iE (iX S (jH s.nm)).1) + 1, log := 13 * (mO iE (iX S (jH s.nm)).1).length } 1 (kB 1 (mO iE (iX S (jH s.nm)).1) + 1)).1,
   (kO iE S { s with epoch := kB 1 (mO iE (iX S (jH s.nm)).1) + 1, log := 13 * (mO iE (iX S (jH s.nm)).1).length } 1 (kB 1 (mO iE (iX S (jH s.nm)).1) + 1)).2.1,
   (kO iE S { s with epoch := kB 1 (mO iE (iX S (jH s.nm)).1) + 1, log := 13 * (mO iE (iX S (jH s.nm)).1).length } 1 (kB 1 (mO iE (iX S (jH s.nm)).1) + 1)).2.2, mO iE (iX S (jH s.nm)).1) := rfl
 have hbl' : (iX S (jH s.nm)).1.length <= 1000000 := by
  unfold iX
  split
  .simp
  .cases hg : jE (jH s.nm) S.seen with
   | none => simp
   | some b => exact hbl b hg
 generalize iX S (jH s.nm) = rb at *
 obtain ⟨b, th, e⟩ := rb
 simp only at ho hB0 hbl' ⊢
 have nilc : ∀ w : adV, Cl w 2 (.slice none 0 0) ([] : List (Nat × Nat)).length (([] : List (Nat × Nat)).flatMap Ba) := fun w => ⟨_, _, rfl, rfl, fun h => by simp at h⟩
 have stay : ∀ {w' : adV} {e : Int}, gX w w' jK -> pX S s = (S, s, e, []) -> RR (.tuple #[.slice none 0 0, .int .i64 e]) w' := fun {w' e} x he => by
  rw [hRR, he]
  exact ⟨_, X, D, Y, _, _, rfl, h.new x, fun _ h => .inl h, fun _ h => h, fun _ h => .inl h, x.mono fun _ _ h => h.elim, nilc _, fun h => h⟩
 by_cases he : e = 0
 rotate_left
 .have n1 : (e != 0) = true := bne_iff_ne.2 he
  rw [if_pos he] at hB0
  simp (disch := omega) only [eY, gN, dX, stepR_skip, fP, fZ, fO, gK, gE, gC, gR, gA, eU, fV, fT, gG, fS, fM, fU, fR, fX, gH, fY, fQ, fC, gB, gI, fL, iS, iQ, iO, iR, iM, iN, iP, iU, iT, eP, Result.ok.injEq, Next.value.injEq, true_and, and_true, fK, fJ, gJ, fN, gD, gS, ZV, fE, fH, fF, fD, eZ, eX, fB, eT, eQ, eH, if_true, if_false, ZS, ZY, ZT, ZU, ZX, ZW, ZR, ZQ, eA, dV, aB, dI, dE, cJ, eB, eS, eE, dK, eD, fA, dQ, eN, bQ, dG, bJ, dL, aI, aH, eL, aV, bZ, eI, aF, eJ, dF, aR, bF, eF, bH, bE, bB, aO, aL, cD, fG, dY, cA, cI, dA, cH, dT, bC, eK, bX, dH, bP, aU, bU, aC, bY, bO, cF, bW, aY, bA, aX, bV, dM, cU, bR, aZ, aK, aJ, bG, aE, dC, dW, aN, aM, aT, aD, cY, aG, cL, bT, bD, aP, cM, cG, aA, dN, cQ, cV, cC, dO, cB, dJ, dU, cP, eC, eM, bN, aS, dZ, bS, aQ, bL, dS, dB, cO, cS, cN, bK, bM, cX, dR, cR, dD, cZ, n1]
  exact stay x1 hB0
 have n1 : (e != 0) = false := bne_eq_false_iff_eq.2 he
 rw [if_neg (by rw [he]; decide)] at hB0
 simp (disch := omega) only [eY, gN, dX, stepR_skip, fP, fZ, fO, gK, gE, gC, gR, gA, eU, fV, fT, gG, fS, fM, fU, fR, fX, gH, fY, fQ, fC, gB, gI, fL, iS, iQ, iO, iR, iM, iN, iP, iU, iT, eP, Result.ok.injEq, Next.value.injEq, true_and, and_true, fK, fJ, gJ, fN, gD, gS, ZV, fE, fH, fF, fD, eZ, eX, fB, eT, eQ, eH, if_true, if_false, ZS, ZY, ZT, ZU, ZX, ZW, ZR, ZQ, eA, dV, aB, dI, dE, cJ, eB, eS, eE, dK, eD, fA, dQ, eN, bQ, dG, bJ, dL, aI, aH, eL, aV, bZ, eI, aF, eJ, dF, aR, bF, eF, bH, bE, bB, aO, aL, cD, fG, dY, cA, cI, dA, cH, dT, bC, eK, bX, dH, bP, aU, bU, aC, bY, bO, cF, bW, aY, bA, aX, bV, dM, cU, bR, aZ, aK, aJ, bG, aE, dC, dW, aN, aM, aT, aD, cY, aG, cL, bT, bD, aP, cM, cG, aA, dN, cQ, cV, cC, dO, cB, dJ, dU, cP, eC, eM, bN, aS, dZ, bS, aQ, bL, dS, dB, cO, cS, cN, bK, bM, cX, dR, cR, dD, cZ, n1]
 refine (UJ h1.glob (show Bs w1 v b from ho.sl) (by omega)).mono ?_
 rintro r w2 ⟨o, rfl, hrv, x2⟩
 have h2 := h1.new x2
 obtain ⟨L, hL⟩ : ∃ L, L = mO iE b := ⟨_, rfl⟩
 have hok : ∀ r ∈ L, UI r := by rw [hL]; exact QQ iE _ b
 have hLl : 13 * L.length <= b.length := by rw [hL]; exact O2 iE _ b
 rw [<- hL] at hrv hB0 ⊢
 simp (disch := omega) only [eY, gN, dX, stepR_skip, fP, fZ, fO, gK, gE, gC, gR, gA, eU, fV, fT, gG, fS, fM, fU, fR, fX, gH, fY, fQ, fC, gB, gI, fL, iS, iQ, iO, iR, iM, iN, iP, iU, iT, eP, Result.ok.injEq, Next.value.injEq, true_and, and_true, fK, fJ, gJ, fN, gD, gS, ZV, fE, fH, fF, fD, eZ, eX, fB, eT, eQ, eH, if_true, if_false, ZS, ZY, ZT, ZU, ZX, ZW, ZR, ZQ, eA, dV, aB, dI, dE, cJ, eB, eS, eE, dK, eD, fA, dQ, eN, bQ, dG, bJ, dL, aI, aH, eL, aV, bZ, eI, aF, eJ, dF, aR, bF, eF, bH, bE, bB, aO, aL, cD, fG, dY, cA, cI, dA, cH, dT, bC, eK, bX, dH, bP, aU, bU, aC, bY, bO, cF, bW, aY, bA, aX, bV, dM, cU, bR, aZ, aK, aJ, bG, aE, dC, dW, aN, aM, aT, aD, cY, aG, cL, bT, bD, aP, cM, cG, aA, dN, cQ, cV, cC, dO, cB, dJ, dU, cP, eC, eM, bN, aS, dZ, bS, aQ, bL, dS, dB, cO, cS, cN, bK, bM, cX, dR, cR, dD, cZ]
 refine (UF (k := 1) ⟨_, hrv⟩ (by omega) (fun r hr => ⟨by have := (hok r hr).1; omega, (hok r hr).2⟩) (by omega)).mono ?_
 rintro r w3 ⟨⟨tb, rfl⟩, x3⟩
 have h3 := h2.new x3
 obtain ⟨M, hM⟩ : ∃ M, M = kB 1 L := ⟨_, rfl⟩
 have hM64 : M < 2 ^ 64 := by rw [hM]; exact R8 hok
 rw [<- hM] at hB0 ⊢
 have x03 : gX w w3 jK := (x1.seq x2).seq x3
 by_cases hmx : M = 18446744073709551615
 .have q1 : (((M : Nat) : Int) == 18446744073709551615) = true := by rw [beq_iff_eq]; omega
  rw [if_pos hmx] at hB0
  simp (disch := omega) only [eY, gN, dX, stepR_skip, fP, fZ, fO, gK, gE, gC, gR, gA, eU, fV, fT, gG, fS, fM, fU, fR, fX, gH, fY, fQ, fC, gB, gI, fL, iS, iQ, iO, iR, iM, iN, iP, iU, iT, eP, Result.ok.injEq, Next.value.injEq, true_and, and_true, fK, fJ, gJ, fN, gD, gS, ZV, fE, fH, fF, fD, eZ, eX, fB, eT, eQ, eH, if_true, if_false, ZS, ZY, ZT, ZU, ZX, ZW, ZR, ZQ, eA, dV, aB, dI, dE, cJ, eB, eS, eE, dK, eD, fA, dQ, eN, bQ, dG, bJ, dL, aI, aH, eL, aV, bZ, eI, aF, eJ, dF, aR, bF, eF, bH, bE, bB, aO, aL, cD, fG, dY, cA, cI, dA, cH, dT, bC, eK, bX, dH, bP, aU, bU, aC, bY, bO, cF, bW, aY, bA, aX, bV, dM, cU, bR, aZ, aK, aJ, bG, aE, dC, dW, aN, aM, aT, aD, cY, aG, cL, bT, bD, aP, cM, cG, aA, dN, cQ, cV, cC, dO, cB, dJ, dU, cP, eC, eM, bN, aS, dZ, bS, aQ, bL, dS, dB, cO, cS, cN, bK, bM, cX, dR, cR, dD, cZ, q1]
  exact stay x03 hB0
 have q1 : (((M : Nat) : Int) == 18446744073709551615) = false := by rw [beq_eq_false_iff_ne]; omega
 rw [if_neg hmx] at hB0
 have e1 : (M : Int) + 1 = ((M + 1 : Nat) : Int) := by omega
 simp (disch := omega) only [eY, gN, dX, stepR_skip, fP, fZ, fO, gK, gE, gC, gR, gA, eU, fV, fT, gG, fS, fM, fU, fR, fX, gH, fY, fQ, fC, gB, gI, fL, iS, iQ, iO, iR, iM, iN, iP, iU, iT, eP, Result.ok.injEq, Next.value.injEq, true_and, and_true, fK, fJ, gJ, fN, gD, gS, ZV, fE, fH, fF, fD, eZ, eX, fB, eT, eQ, eH, if_true, if_false, ZS, ZY, ZT, ZU, ZX, ZW, ZR, ZQ, eA, dV, aB, dI, dE, cJ, eB, eS, eE, dK, eD, fA, dQ, eN, bQ, dG, bJ, dL, aI, aH, eL, aV, bZ, eI, aF, eJ, dF, aR, bF, eF, bH, bE, bB, aO, aL, cD, fG, dY, cA, cI, dA, cH, dT, bC, eK, bX, dH, bP, aU, bU, aC, bY, bO, cF, bW, aY, bA, aX, bV, dM, cU, bR, aZ, aK, aJ, bG, aE, dC, dW, aN, aM, aT, aD, cY, aG, cL, bT, bD, aP, cM, cG, aA, dN, cQ, cV, cC, dO, cB, dJ, dU, cP, eC, eM, bN, aS, dZ, bS, aQ, bL, dS, dB, cO, cS, cN, bK, bM, cX, dR, cR, dD, cZ, q1, e1]
 refine JG h3.own rfl (by simp) fun w4 o4 x4 z4 => ?_
 have h4 := h3.set (s' := { s with epoch := M + 1 }) x4 o4 rfl rfl rfl (by show M + 1 < _; omega) h.lg
 refine Ku h4.own rfl (by simp) fun w5 o5 x5 z5 => ?_
 obtain ⟨s1, hs1⟩ : ∃ s1 : nS, s1 = { s with epoch := M + 1, log := 13 * L.length } := ⟨_, rfl⟩
 have h5 := h4.set (s' := { s with epoch := M + 1, log := 13 * L.length }) x5 o5 rfl rfl rfl (by show M + 1 < _; omega) (by show 13 * L.length <= _; omega)
 rw [<- hs1] at h5 hB0
 obtain ⟨d0, d1, d2, d3, d4, d5, d6, d7, d8, d9⟩ := h5.cells
 have hep : s1.epoch = M + 1 := by rw [hs1]
 rw [hep] at d5
 have x35 : gX w3 w5 (fun y => X y ∨ Y y) := (x4.mono fun y _ hy => .inr (hy ▸ h.yq)).seq (x5.mono fun y _ hy => .inr (hy ▸ h.yq))
 have x05 : gX w w5 (fun y => X y ∨ Y y) := (x03.mono fun _ _ h => h.elim).seq x35
 simp (disch := omega) only [eY, gN, dX, stepR_skip, fP, fZ, fO, gK, gE, gC, gR, gA, eU, fV, fT, gG, fS, fM, fU, fR, fX, gH, fY, fQ, fC, gB, gI, fL, iS, iQ, iO, iR, iM, iN, iP, iU, iT, eP, Result.ok.injEq, Next.value.injEq, true_and, and_true, fK, fJ, gJ, fN, gD, gS, ZV, fE, fH, fF, fD, eZ, eX, fB, eT, eQ, eH, if_true, if_false, ZS, ZY, ZT, ZU, ZX, ZW, ZR, ZQ, eA, dV, aB, dI, dE, cJ, eB, eS, eE, dK, eD, fA, dQ, eN, bQ, dG, bJ, dL, aI, aH, eL, aV, bZ, eI, aF, eJ, dF, aR, bF, eF, bH, bE, bB, aO, aL, cD, fG, dY, cA, cI, dA, cH, dT, bC, eK, bX, dH, bP, aU, bU, aC, bY, bO, cF, bW, aY, bA, aX, bV, dM, cU, bR, aZ, aK, aJ, bG, aE, dC, dW, aN, aM, aT, aD, cY, aG, cL, bT, bD, aP, cM, cG, aA, dN, cQ, cV, cC, dO, cB, dJ, dU, cP, eC, eM, bN, aS, dZ, bS, aQ, bL, dS, dB, cO, cS, cN, bK, bM, cX, dR, cR, dD, cZ, d5]
 refine (R0 (k := 1) (v := M + 1) h5 hB (.inl rfl) (by omega) (by rw [hs1]; show 13 * L.length + 13 <= _; omega)).mono ?_
 rintro r w6 ⟨rfl, X', D', Y', lv', hv', h6, hX, hD, hY, x6⟩
 rw [hRR, hB0]
 have zz1 := x1.size
 have zz5 := x05.size
 have zz35 := x35.size
 have zz3 := x3.size
 have ho3 : IB w3 (fun b => w1.heap.size <= b) 2 o L.length (L.flatMap Ba) := hrv.ext x3 fun _ _ h => h
 have ho5 : IB w5 (fun b => w1.heap.size <= b) 2 o L.length (L.flatMap Ba) := wL ho3 x35 fun b hb h => by have := hlt0 b h; omega
 have ho6 : IB w6 (fun b => w1.heap.size <= b /\ b < w5.heap.size) 2 o L.length (L.flatMap Ba) := wL (NT ho5) x6 fun b hb h => by have := hlt0 b h; omega
 refine ⟨o, X', D', Y', lv', hv', rfl, h6, fun b hb => ?_, hD, fun b hb => ?_, x05.trans x6 fun y hy h => h, QV ho6, Tw (w' := w6) ho6 fun b hb _ hx => ?_⟩
 .rcases hX b hb with h | h
  .exact .inl h
  .exact .inr (by omega)
 .rcases hY b hb with h | h
  .exact .inl h
  .exact .inr (by omega)
 .rcases hx with hx | hx
  .rcases hX b hx with h | h
   .have := hlt0 b (.inl h); omega
   .omega
  .rcases hY b hx with h | h
   .have := hlt0 b (.inr h); omega
   .omega
theorem Sk {v : adW} {n : Nat} {l : List adW} {w : adV} (h : Cl w 32 v n l) (hone : ∀ y ∈ l, one y = true) (hl : n <= 100000) :
 gU pg qA #[v] w (fun r w' => zH w' w.heap.size 32 r n l /\ gX w w' jK) := by
 refine GW ?_
 have h1 := h
 obtain ⟨a, c, rfl, hn, hh⟩ := h
 unfold EO uC
 cases a with
 | none =>
   have h0 : n = 0 := by
    cases n with
    | zero => rfl
    | succ n => obtain ⟨b, off, h, _⟩ := hh (by omega); cases h
   subst h0
   have : l = [] := aaG.1 (by omega)
   subst this
   simp (disch := omega) only [eY, gN, dX, stepR_skip, fP, fZ, fO, gK, gE, gC, gR, gA, eU, fV, fT, gG, fS, fM, fU, fR, fX, gH, fY, fQ, fC, gB, gI, fL, iS, iQ, iO, iR, iM, iN, iP, iU, iT, eP, Result.ok.injEq, Next.value.injEq, true_and, and_true, fK, fJ, gJ, fN, gD, gS, ZV, fE, fH, fF, fD, eZ, eX, fB, eT, eQ, eH, if_true, if_false, ZS, ZY, ZT, ZU, ZX, ZW, ZR, ZQ, eA, dV, aB, dI, dE, cJ, eB, eS, eE, dK, eD, fA, dQ, eN, bQ, dG, bJ, dL, aI, aH, eL, aV, bZ, eI, aF, eJ, dF, aR, bF, eF, bH, bE, bB, aO, aL, cD, fG, dY, cA, cI, dA, cH, dT, bC, eK, bX, dH, bP, aU, bU, aC, bY, bO, cF, bW, aY, bA, aX, bV, dM, cU, bR, aZ, aK, aJ, bG, aE, dC, dW, aN, aM, aT, aD, cY, aG, cL, bT, bD, aP, cM, cG, aA, dN, cQ, cV, cC, dO, cB, dJ, dU, cP, eC, eM, bN, aS, dZ, bS, aQ, bL, dS, dB, cO, cS, cN, bK, bM, cX, dR, cR, dD, cZ]
   exact ⟨zH.nil _ _ _, gX.refl _ _⟩
 | some x =>
   simp (disch := omega) only [eY, gN, dX, stepR_skip, fP, fZ, fO, gK, gE, gC, gR, gA, eU, fV, fT, gG, fS, fM, fU, fR, fX, gH, fY, fQ, fC, gB, gI, fL, iS, iQ, iO, iR, iM, iN, iP, iU, iT, eP, Result.ok.injEq, Next.value.injEq, true_and, and_true, fK, fJ, gJ, fN, gD, gS, ZV, fE, fH, fF, fD, eZ, eX, fB, eT, eQ, eH, if_true, if_false, ZS, ZY, ZT, ZU, ZX, ZW, ZR, ZQ, eA, dV, aB, dI, dE, cJ, eB, eS, eE, dK, eD, fA, dQ, eN, bQ, dG, bJ, dL, aI, aH, eL, aV, bZ, eI, aF, eJ, dF, aR, bF, eF, bH, bE, bB, aO, aL, cD, fG, dY, cA, cI, dA, cH, dT, bC, eK, bX, dH, bP, aU, bU, aC, bY, bO, cF, bW, aY, bA, aX, bV, dM, cU, bR, aZ, aK, aJ, bG, aE, dC, dW, aN, aM, aT, aD, cY, aG, cL, bT, bD, aP, cM, cG, aA, dN, cQ, cV, cC, dO, cB, dJ, dU, cP, eC, eM, bN, aS, dZ, bS, aQ, bL, dS, dB, cO, cS, cN, bK, bM, cX, dR, cR, dD, cZ]
   refine ID Tryd.underlying26 Ld fun w1 o1 x1 s1 => ?_
   have hcl1 := JB h1 x1 (jJ _)
   have hos : zH w1 w.heap.size 32 (.slice (some ⟨w.heap.size, 0, none⟩) 0 0) 0 [] := ⟨rfl, .inr ⟨_, 0, [], rfl, Z8 _, o1, rfl, Z8 _⟩⟩
   refine wT hos hcl1 hone x1.size (by omega) fun v3 w3 o3 x3 => ?_
   rw [ZY, aaF] at o3
   exact ⟨o3, x1.trans x3 fun b hb h => Nat.not_le_of_lt hb h⟩
theorem Xt (l : List (List UInt8)) : ∀ y ∈ U4 l, one y = true := fun y hy => by
 obtain ⟨x, -, hy⟩ := List.mem_flatMap.1 hy
 exact Fx _ y hy
theorem Ul {l : List (Nat × Nat)} {W : List Bool} {n j : Nat} (hj : j < l.length) :
 rW (l.take (j + 1)) W n = if l[j].1 = 2 /\ l[j].2 < n then (rW (l.take j) W n).set l[j].2 (W.getD l[j].2 false) else rW (l.take j) W n := by
 unfold rW
 have ht : l.take (j + 1) = l.take j ++ [l[j]] := abM hj
 generalize l[j] = r at *
 rw [ht]
 obtain ⟨a, v⟩ := r
 simp only
 split
 .rename_i h
  apply adI
  .simp
  .intro x h1 h2
   simp only [ZZ, adF] at h1
   rw [List.getElem_set]
   simp only [adJ, List.getElem_range, List.any_append, List.any_cons, List.any_nil, acZ]
   by_cases hx : v = x
   .rw [if_pos hx]; subst hx; simp [h.1]
   .rw [if_neg hx]
    have : (v == x) = false := beq_eq_false_iff_ne.2 hx
    rw [this, Bool.and_false, acZ]
 .rename_i h
  apply abF
  intro x hx
  have hx := aaS.1 hx
  have : (a == 2 && v == x) = false := by
   rw [adN, beq_eq_false_iff_ne, beq_eq_false_iff_ne]
   by_cases ha : a = 2
   .exact .inr fun e => h ⟨ha, by omega⟩
   .exact .inl ha
  rw [List.any_append, List.any_cons, List.any_nil, acZ, this, acZ]
theorem Si (l : List (Nat × Nat)) (W : List Bool) (n : Nat) : (rW l W n).length = n := by unfold rW; simp
theorem Un (l : List (Nat × Nat)) (W : List Bool) (n : Nat) : rW (l.take 0) W n = List.replicate n false := by
 unfold rW
 rw [List.take_zero]
 apply adI
 .simp
 .intro i h1 h2; simp
def Ir (S : jZ) (n : ByteArray) (m : TW) : nS := ⟨n, m, 0, jC hU m (iX S n).1, 0, (iX S n).2.1 && (iX S n).1.length == m.size && CR (jC hU m (iX S n).1), 0⟩
def Mo (S : jZ) (s : nS) (l : List (Nat × Nat)) : jZ × Option nS × Int :=
 if s.fin then (if (Ew S).2 ≠ 0 then ((Ew S).1, none, (Ew S).2) else ((Ew S).1, some s, 0))
 else if (jS S s).2.2 ≠ 0 then ((jS S s).1, none, (jS S s).2.2)
 else if (Ew (jS S s).1).2 ≠ 0 then ((Ew (jS S s).1).1, none, (Ew (jS S s).1).2)
 else ((Ew (jS S s).1).1, some { s with hv := rW l (jC hU s.man (jS S s).2.1) s.man.leaves.length }, 0)
theorem PM (S : jZ) (n : ByteArray) (m : TW) : C7 hU iE S n m =
 if (iX S n).2.2 ≠ 0 then (S, none, (iX S n).2.2)
 else if (pX S (Ir S n m)).2.2.1 ≠ 0 then ((pX S (Ir S n m)).1, none, (pX S (Ir S n m)).2.2.1)
 else Mo (pX S (Ir S n m)).1 (pX S (Ir S n m)).2.1 (pX S (Ir S n m)).2.2.2 := by
 unfold C7
 simp only
 by_cases h1 : (iX S n).2.2 = 0
 .rw [if_neg (show ¬ (iX S n).2.2 ≠ 0 by rw [h1]; decide), if_neg (show ¬ (iX S n).2.2 ≠ 0 by rw [h1]; decide)]
  have hb : pX S (Ir S n m) = if (iX S (jH n)).2.2 ≠ 0 then (S, Ir S n m, (iX S (jH n)).2.2, []) else
   if kB 1 (mO iE (iX S (jH n)).1) = 18446744073709551615 then (S, Ir S n m, 23, []) else
   ((kO iE S { Ir S n m with epoch := kB 1 (mO iE (iX S (jH n)).1) + 1, log := 13 * (mO iE (iX S (jH n)).1).length } 1 (kB 1 (mO iE (iX S (jH n)).1) + 1)).1,
    (kO iE S { Ir S n m with epoch := kB 1 (mO iE (iX S (jH n)).1) + 1, log := 13 * (mO iE (iX S (jH n)).1).length } 1 (kB 1 (mO iE (iX S (jH n)).1) + 1)).2.1,
    (kO iE S { Ir S n m with epoch := kB 1 (mO iE (iX S (jH n)).1) + 1, log := 13 * (mO iE (iX S (jH n)).1).length } 1 (kB 1 (mO iE (iX S (jH n)).1) + 1)).2.2, mO iE (iX S (jH n)).1) := rfl
  by_cases h2 : (iX S (jH n)).2.2 = 0
  .rw [if_neg (by rw [h2]; decide)] at hb
   rw [if_neg (show ¬ (iX S (jH n)).2.2 ≠ 0 by rw [h2]; decide)]
   by_cases h3 : kB 1 (mO iE (iX S (jH n)).1) = 18446744073709551615
   .rw [if_pos h3] at hb
    rw [if_pos h3, hb]
    rfl
   .rw [if_neg h3] at hb
    rw [if_neg h3, hb]
    simp only
    have e : (⟨n, m, kB 1 (mO iE (iX S (jH n)).1) + 1, jC hU m (iX S n).1, 13 * (mO iE (iX S (jH n)).1).length, (iX S n).2.1 && (iX S n).1.length == m.size && CR (jC hU m (iX S n).1), 0⟩ : nS) =
     { Ir S n m with epoch := kB 1 (mO iE (iX S (jH n)).1) + 1, log := 13 * (mO iE (iX S (jH n)).1).length } := rfl
    rw [e]
    obtain ⟨q, hq⟩ : ∃ q, q = kO iE S { Ir S n m with epoch := kB 1 (mO iE (iX S (jH n)).1) + 1, log := 13 * (mO iE (iX S (jH n)).1).length } 1 (kB 1 (mO iE (iX S (jH n)).1) + 1) := ⟨_, rfl⟩
    have hf : q.2.1.fin = ((iX S n).2.1 && (iX S n).1.length == m.size && CR (jC hU m (iX S n).1)) /\ q.2.1.man = m := by
     rw [hq]
     unfold kO
     simp only
     split <;> exact ⟨rfl, rfl⟩
    rw [<- hq]
    unfold Mo
    rw [hf.1, hf.2]
  .rw [if_pos h2] at hb
   rw [if_pos h2, hb]
   show _ = if (iX S (jH n)).2.2 ≠ 0 then (S, none, (iX S (jH n)).2.2) else _
   rw [if_pos h2]
 .rw [if_pos h1, if_pos h1]
def TY (n0 : Nat) (w : adV) (p : Nat) (X D : Nat -> Prop) (R : jZ × Option nS × Int) (r : adW) (w' : adV) : Prop :=
 match R.2.1 with
 | some s => R.2.2 = 0 /\ ∃ q X' D' Y' lv hv, r = .tuple #[dP q, .int .i64 0] /\ jX n0 w' q p X' D' Y' R.1 s lv hv /\ (∀ b, X' b -> X b ∨ w.heap.size <= b) /\ (∀ b, D b -> D' b) /\ (∀ b, Y' b -> w.heap.size <= b) /\ gX w w' X
 | none => r = .tuple #[.pointer none, .int .i64 R.2.2] /\ BM w p X D R.1 w'
theorem Uc {n0 n1 q p : Nat} {X D Y : Nat -> Prop} {S : jZ} {s : nS} {l : List (Nat × Nat)} {lv hv o : adW} {w : adV} {RR : adW -> adV -> Prop} (h : jX n0 w q p X D Y S s lv hv) (hB : Co 2 S)
 (hbp : ∀ b, jE (iC s.nm) S.seen = some b -> b.length <= 1000000) (hn : n1 = s.man.leaves.length) (hcl : Cl w 2 o l.length (l.flatMap Ba)) (hno : ¬ wB o (fun b => X b ∨ Y b)) (hlo : l.length <= 1000000) (hok : ∀ r ∈ l, UI r)
 (hR : ∀ r w', (match (Mo S s l).2.1 with
  | some s' => (Mo S s l).2.2 = 0 /\ r = .tuple #[dP q, .int .i64 0] /\ iH n0 w q p X D Y (Mo S s l).1 s' w'
  | none => r = .tuple #[.pointer none, .int .i64 (Mo S s l).2.2] /\ ∃ s', iH n0 w q p X D Y (Mo S s l).1 s' w') -> RR r w') :
 vA RR (dP p) (.int .i64 (n1 : Nat)) (dP q) o w := by
 have fin : ∀ {w1 : adV} {S1 : jZ} {s1 : nS}, iH n0 w q p X D Y S1 s1 w1 -> Co 0 S1 -> (Mo S s l = if (Ew S1).2 ≠ 0 then ((Ew S1).1, none, (Ew S1).2) else ((Ew S1).1, some s1, 0)) -> wR RR (dP p) (dP q) w1 := fun {w1 S1 s1} hp hB1 hE => by
  unfold wR
  refine (QT hp hB1).mono ?_
  rintro r w2 ⟨rfl, hp2⟩
  by_cases he : (Ew S1).2 = 0
  .rw [if_neg (by rw [he]; decide)] at hE
   rw [hE] at hR
   rw [he]
   have n1' : ((0 : Int) != 0) = false := rfl
   simp (disch := omega) only [eY, gN, dX, stepR_skip, fP, fZ, fO, gK, gE, gC, gR, gA, eU, fV, fT, gG, fS, fM, fU, fR, fX, gH, fY, fQ, fC, gB, gI, fL, iS, iQ, iO, iR, iM, iN, iP, iU, iT, eP, Result.ok.injEq, Next.value.injEq, true_and, and_true, fK, fJ, gJ, fN, gD, gS, ZV, fE, fH, fF, fD, eZ, eX, fB, eT, eQ, eH, if_true, if_false, ZS, ZY, ZT, ZU, ZX, ZW, ZR, ZQ, eA, dV, aB, dI, dE, cJ, eB, eS, eE, dK, eD, fA, dQ, eN, bQ, dG, bJ, dL, aI, aH, eL, aV, bZ, eI, aF, eJ, dF, aR, bF, eF, bH, bE, bB, aO, aL, cD, fG, dY, cA, cI, dA, cH, dT, bC, eK, bX, dH, bP, aU, bU, aC, bY, bO, cF, bW, aY, bA, aX, bV, dM, cU, bR, aZ, aK, aJ, bG, aE, dC, dW, aN, aM, aT, aD, cY, aG, cL, bT, bD, aP, cM, cG, aA, dN, cQ, cV, cC, dO, cB, dJ, dU, cP, eC, eM, bN, aS, dZ, bS, aQ, bL, dS, dB, cO, cS, cN, bK, bM, cX, dR, cR, dD, cZ, n1', he]
   exact hR _ _ ⟨rfl, rfl, hp2⟩
  .have n1' : ((Ew S1).2 != 0) = true := bne_iff_ne.2 he
   rw [if_pos he] at hE
   rw [hE] at hR
   simp (disch := omega) only [eY, gN, dX, stepR_skip, fP, fZ, fO, gK, gE, gC, gR, gA, eU, fV, fT, gG, fS, fM, fU, fR, fX, gH, fY, fQ, fC, gB, gI, fL, iS, iQ, iO, iR, iM, iN, iP, iU, iT, eP, Result.ok.injEq, Next.value.injEq, true_and, and_true, fK, fJ, gJ, fN, gD, gS, ZV, fE, fH, fF, fD, eZ, eX, fB, eT, eQ, eH, if_true, if_false, ZS, ZY, ZT, ZU, ZX, ZW, ZR, ZQ, eA, dV, aB, dI, dE, cJ, eB, eS, eE, dK, eD, fA, dQ, eN, bQ, dG, bJ, dL, aI, aH, eL, aV, bZ, eI, aF, eJ, dF, aR, bF, eF, bH, bE, bB, aO, aL, cD, fG, dY, cA, cI, dA, cH, dT, bC, eK, bX, dH, bP, aU, bU, aC, bY, bO, cF, bW, aY, bA, aX, bV, dM, cU, bR, aZ, aK, aJ, bG, aE, dC, dW, aN, aM, aT, aD, cY, aG, cL, bT, bD, aP, cM, cG, aA, dN, cQ, cV, cC, dO, cB, dJ, dU, cP, eC, eM, bN, aS, dZ, bS, aQ, bL, dS, dB, cO, cS, cN, bK, bM, cX, dR, cR, dD, cZ, n1']
   exact hR _ _ ⟨rfl, _, hp2⟩
 obtain ⟨c0, c1, c2, c3, c4, c5, c6, c7, c8, c9⟩ := h.cells
 have hmx := h.man.max
 have hmc := h.man.cnt
 unfold vA Dl D5 DT
 cases hf : s.fin with
 | true =>
   rw [hf] at c8
   unfold Fo
   simp (disch := omega) only [eY, gN, dX, stepR_skip, fP, fZ, fO, gK, gE, gC, gR, gA, eU, fV, fT, gG, fS, fM, fU, fR, fX, gH, fY, fQ, fC, gB, gI, fL, iS, iQ, iO, iR, iM, iN, iP, iU, iT, eP, Result.ok.injEq, Next.value.injEq, true_and, and_true, fK, fJ, gJ, fN, gD, gS, ZV, fE, fH, fF, fD, eZ, eX, fB, eT, eQ, eH, if_true, if_false, ZS, ZY, ZT, ZU, ZX, ZW, ZR, ZQ, eA, dV, aB, dI, dE, cJ, eB, eS, eE, dK, eD, fA, dQ, eN, bQ, dG, bJ, dL, aI, aH, eL, aV, bZ, eI, aF, eJ, dF, aR, bF, eF, bH, bE, bB, aO, aL, cD, fG, dY, cA, cI, dA, cH, dT, bC, eK, bX, dH, bP, aU, bU, aC, bY, bO, cF, bW, aY, bA, aX, bV, dM, cU, bR, aZ, aK, aJ, bG, aE, dC, dW, aN, aM, aT, aD, cY, aG, cL, bT, bD, aP, cM, cG, aA, dN, cQ, cV, cC, dO, cB, dJ, dU, cP, eC, eM, bN, aS, dZ, bS, aQ, bL, dS, dB, cO, cS, cN, bK, bM, cX, dR, cR, dD, cZ, c8]
   refine fin (iH.refl h) (hB.le (by omega)) ?_
   unfold Mo
   rw [if_pos hf]
 | false =>
   rw [hf] at c8
   have hE0 : Mo S s l = if (jS S s).2.2 ≠ 0 then ((jS S s).1, none, (jS S s).2.2)
    else if (Ew (jS S s).1).2 ≠ 0 then ((Ew (jS S s).1).1, none, (Ew (jS S s).1).2)
    else ((Ew (jS S s).1).1, some { s with hv := rW l (jC hU s.man (jS S s).2.1) s.man.leaves.length }, 0) := by
    unfold Mo
    rw [if_neg (by rw [hf]; decide)]
   unfold Ko Fu
   simp (disch := omega) only [eY, gN, dX, stepR_skip, fP, fZ, fO, gK, gE, gC, gR, gA, eU, fV, fT, gG, fS, fM, fU, fR, fX, gH, fY, fQ, fC, gB, gI, fL, iS, iQ, iO, iR, iM, iN, iP, iU, iT, eP, Result.ok.injEq, Next.value.injEq, true_and, and_true, fK, fJ, gJ, fN, gD, gS, ZV, fE, fH, fF, fD, eZ, eX, fB, eT, eQ, eH, if_true, if_false, ZS, ZY, ZT, ZU, ZX, ZW, ZR, ZQ, eA, dV, aB, dI, dE, cJ, eB, eS, eE, dK, eD, fA, dQ, eN, bQ, dG, bJ, dL, aI, aH, eL, aV, bZ, eI, aF, eJ, dF, aR, bF, eF, bH, bE, bB, aO, aL, cD, fG, dY, cA, cI, dA, cH, dT, bC, eK, bX, dH, bP, aU, bU, aC, bY, bO, cF, bW, aY, bA, aX, bV, dM, cU, bR, aZ, aK, aJ, bG, aE, dC, dW, aN, aM, aT, aD, cY, aG, cL, bT, bD, aP, cM, cG, aA, dN, cQ, cV, cC, dO, cB, dJ, dU, cP, eC, eM, bN, aS, dZ, bS, aQ, bL, dS, dB, cO, cS, cN, bK, bM, cX, dR, cR, dD, cZ, c8]
   refine (V2 h hB).mono ?_
   rintro r w1 ⟨bv, rfl, hbv, hbn, hp1⟩
   have hBf : Co 0 (jS S s).1 := by
    unfold jS
    simp only
    split
    .exact hB.le (by omega)
    .split
     .split
      .exact Rf (n := 0) (hB.le (by omega))
      .exact Qd (Rf hB)
     .split
      .exact Qd (n := 0) (hB.le (by omega))
      .exact hB.le (by omega)
   have hbl : (jS S s).2.1.length <= 1000000 := by
    have hr : (iX S (iC s.nm)).1.length <= 1000000 := by
     unfold iX
     split
     .simp
     .cases hg : jE (iC s.nm) S.seen with
      | none => simp
      | some b => exact hbp b hg
    unfold jS
    simp only
    split
    .simp
    .split
     .split <;> simp
     .split
      .exact hr
      .exact hr
   generalize jS S s = F at *
   obtain ⟨S1, b, e⟩ := F
   simp only at hbv hp1 hE0 hBf hbl ⊢
   by_cases he : e = 0
   rotate_left
   .have n1' : (e != 0) = true := bne_iff_ne.2 he
    rw [if_pos he] at hE0
    rw [hE0] at hR
    simp (disch := omega) only [eY, gN, dX, stepR_skip, fP, fZ, fO, gK, gE, gC, gR, gA, eU, fV, fT, gG, fS, fM, fU, fR, fX, gH, fY, fQ, fC, gB, gI, fL, iS, iQ, iO, iR, iM, iN, iP, iU, iT, eP, Result.ok.injEq, Next.value.injEq, true_and, and_true, fK, fJ, gJ, fN, gD, gS, ZV, fE, fH, fF, fD, eZ, eX, fB, eT, eQ, eH, if_true, if_false, ZS, ZY, ZT, ZU, ZX, ZW, ZR, ZQ, eA, dV, aB, dI, dE, cJ, eB, eS, eE, dK, eD, fA, dQ, eN, bQ, dG, bJ, dL, aI, aH, eL, aV, bZ, eI, aF, eJ, dF, aR, bF, eF, bH, bE, bB, aO, aL, cD, fG, dY, cA, cI, dA, cH, dT, bC, eK, bX, dH, bP, aU, bU, aC, bY, bO, cF, bW, aY, bA, aX, bV, dM, cU, bR, aZ, aK, aJ, bG, aE, dC, dW, aN, aM, aT, aD, cY, aG, cL, bT, bD, aP, cM, cG, aA, dN, cQ, cV, cC, dO, cB, dJ, dU, cP, eC, eM, bN, aS, dZ, bS, aQ, bL, dS, dB, cO, cS, cN, bK, bM, cX, dR, cR, dD, cZ, n1']
    exact hR _ _ ⟨rfl, _, hp1⟩
   have n1' : (e != 0) = false := bne_eq_false_iff_eq.2 he
   rw [if_neg (by rw [he]; decide)] at hE0
   have hp1' := hp1
   obtain ⟨X1, D1, Y1, lv1, hv1, h1, hX1, hD1, hY1, x1⟩ := hp1
   simp (disch := omega) only [eY, gN, dX, stepR_skip, fP, fZ, fO, gK, gE, gC, gR, gA, eU, fV, fT, gG, fS, fM, fU, fR, fX, gH, fY, fQ, fC, gB, gI, fL, iS, iQ, iO, iR, iM, iN, iP, iU, iT, eP, Result.ok.injEq, Next.value.injEq, true_and, and_true, fK, fJ, gJ, fN, gD, gS, ZV, fE, fH, fF, fD, eZ, eX, fB, eT, eQ, eH, if_true, if_false, ZS, ZY, ZT, ZU, ZX, ZW, ZR, ZQ, eA, dV, aB, dI, dE, cJ, eB, eS, eE, dK, eD, fA, dQ, eN, bQ, dG, bJ, dL, aI, aH, eL, aV, bZ, eI, aF, eJ, dF, aR, bF, eF, bH, bE, bB, aO, aL, cD, fG, dY, cA, cI, dA, cH, dT, bC, eK, bX, dH, bP, aU, bU, aC, bY, bO, cF, bW, aY, bA, aX, bV, dM, cU, bR, aZ, aK, aJ, bG, aE, dC, dW, aN, aM, aT, aD, cY, aG, cL, bT, bD, aP, cM, cG, aA, dN, cQ, cV, cC, dO, cB, dJ, dU, cP, eC, eM, bN, aS, dZ, bS, aQ, bL, dS, dB, cO, cS, cN, bK, bM, cX, dR, cR, dD, cZ, n1']
   refine O0 (by omega) (by omega) fun w2 o2 x2 s2 => ?_
   rw [ZV] at o2 ⊢
   obtain ⟨hb, hhb⟩ : ∃ hb, hb = w1.heap.size := ⟨_, rfl⟩
   rw [<- hhb] at o2 ⊢
   have h2 := h1.new x2
   refine KY h2.own rfl (by simp) fun w3 o3 x3 s3 => ?_
   have hrl : (List.replicate n1 false).length = n1 := aaJ
   have o2' : jG w2 hb ((List.replicate n1 false).map Value.bool) := by rw [List.map_replicate]; exact o2
   have h3 := h1.newHv (s' := { s with hv := List.replicate n1 false }) x2 (by omega) o2' (by omega) x3 (by rw [hrl]; exact o3) rfl rfl rfl h1.ep h1.lg
   rw [hrl] at h3
   have x13 : gX w1 w3 (fun y => y = q) := (x2.mono fun _ _ h => h.elim).seq x3
   have hlt1 := fun y hy => jX.lt h1 y hy
   have hlt0 := fun y hy => jX.lt h y hy
   have z1 := x1.size
   have hq1 : ¬ wB bv (fun y => y = q) := hbn q (.inr h.yq)
   refine (Oa h3 (hbv.ext x13 hq1) hbl).mono ?_
   rintro r w4 ⟨ob, rfl, hob, oo, x4⟩
   obtain ⟨W, hW⟩ : ∃ W, W = jC hU s.man b := ⟨_, rfl⟩
   have hWl : W.length = n1 := by rw [hW, hn]; unfold jC; simp
   have oo : jG w4 ob (W.map Value.bool) := by rw [hW]; exact oo
   rw [<- hW] at hE0
   have h4 := h3.new x4
   have hcl1 : Cl w1 2 o l.length (l.flatMap Ba) := JB hcl x1 hno
   have hno1 : ¬ wB o (fun y => X1 y ∨ Y1 y ∨ y = hb) := fun hi => by
    have hold := XC hcl (by decide)
    obtain ⟨a, c, rfl, hl, hh⟩ := hcl
    unfold wB at hi hno hold
    split at hi
    .rename_i e'
     simp only [Value.slice.injEq] at e'
     obtain ⟨rfl, e2, rfl⟩ := e'
     rw [e2] at hno hold
     rcases hi with hi | hi | hi
     .rcases hX1 _ hi with h | h
      .exact hno (.inl h)
      .exact hold h
     .rcases hY1 _ hi with h | h
      .exact hno (.inr h)
      .exact hold h
     .exact hold (show w.heap.size <= _ by omega)
    .exact hi
   have hcl4 : Cl w4 2 o l.length (l.flatMap Ba) := JB (JB hcl1 x13 fun hi => hno1 (Aw hi fun y hy => .inr (.inl (hy ▸ h1.yq)))) x4 (jJ _)
   obtain ⟨oa, oc, hov, hol, hoh⟩ := id hcl4
   subst hov
   have z3 := x13.size
   have z4 := x4.size
   unfold Fp Fb
   simp (disch := omega) only [eY, gN, dX, stepR_skip, fP, fZ, fO, gK, gE, gC, gR, gA, eU, fV, fT, gG, fS, fM, fU, fR, fX, gH, fY, fQ, fC, gB, gI, fL, iS, iQ, iO, iR, iM, iN, iP, iU, iT, eP, Result.ok.injEq, Next.value.injEq, true_and, and_true, fK, fJ, gJ, fN, gD, gS, ZV, fE, fH, fF, fD, eZ, eX, fB, eT, eQ, eH, if_true, if_false, ZS, ZY, ZT, ZU, ZX, ZW, ZR, ZQ, eA, dV, aB, dI, dE, cJ, eB, eS, eE, dK, eD, fA, dQ, eN, bQ, dG, bJ, dL, aI, aH, eL, aV, bZ, eI, aF, eJ, dF, aR, bF, eF, bH, bE, bB, aO, aL, cD, fG, dY, cA, cI, dA, cH, dT, bC, eK, bX, dH, bP, aU, bU, aC, bY, bO, cF, bW, aY, bA, aX, bV, dM, cU, bR, aZ, aK, aJ, bG, aE, dC, dW, aN, aM, aT, aD, cY, aG, cL, bT, bD, aP, cM, cG, aA, dN, cQ, cV, cC, dO, cB, dJ, dU, cP, eC, eM, bN, aS, dZ, bS, aQ, bL, dS, dB, cO, cS, cN, bK, bM, cX, dR, cR, dD, cZ]
   have hobn : ¬ (X1 ob ∨ Y1 ob ∨ ob = hb) := fun hx => by
    rcases hx with hx | hx | hx
    .have := hlt1 ob (.inl hx); omega
    .have := hlt1 ob (.inr hx); omega
    .have := o2.lt; have := x3.size; omega
   refine jW.rule (fun m (t : adW) w' => ∃ (j : Nat), m = l.length - j /\ t = .int .i64 (j : Nat) /\ j <= l.length /\ jX n0 w' q p X1 (fun b => D1 b ∨ b = hb) (fun b => Y1 b ∨ b = hb) S1 { s with hv := rW (l.take j) W n1 } lv1 (.slice (some ⟨hb, 0, none⟩) n1 n1) /\ gX w4 w' (fun y => y = hb)) l.length
    ⟨0, rfl, rfl, by omega, by rw [Un]; exact h4, gX.refl _ _⟩ ?_
   rintro m t w5 ⟨j, rfl, rfl, hj, h5, x5⟩
   unfold By Fg
   by_cases hlt : j < l.length
   .have d1 : decide ((j : Int) < (l.length : Int)) = true := by simp; omega
    obtain ⟨lb, lo, rfl, hcell⟩ := hoh (by omega)
    have hlbn : ¬ (X1 lb ∨ Y1 lb ∨ lb = hb) := fun hx => hno1 (by
     obtain ⟨l', hl'⟩ : ∃ l', l.length = l' + 1 := ⟨l.length - 1, by omega⟩
     rw [hl']
     exact hx)
    have rl := Lr l
    have lrec : ∀ {w' : adV}, gX w4 w' (fun y => y = hb) -> (fW 77 (.pointer (some ⟨lb, lo + j * 2, none⟩))).run pg w' = .ok (.value (.agg (Ba l[j]).toArray)) w' := fun {w'} x => by
     refine LO rfl fun k hk => ?_
     have hk : k < 2 := hk
     have hgc := hcell (j * 2 + k) (by omega)
     have hrc := congrArg (fun q => q[k]?) (PZ hlt)
     simp only [List.getElem?_take, acK, if_pos hk] at hrc
     rw [hrc] at hgc
     obtain ⟨v, hv⟩ : ∃ v, (Ba l[j])[k]? = some v := ⟨_, Z0 hk⟩
     rw [hv] at hgc ⊢
     rw [acI]
     exact Bo hgc x (fun e => hlbn (.inr (.inr e)))
    have l5 := lrec x5
    have hst := Ul (W := W) (n := n1) hlt
    obtain ⟨ho1, ho2⟩ := hok _ (abX hlt)
    generalize l[j]'hlt = rec at *
    obtain ⟨k, v⟩ := rec
    simp only at ho1 ho2 hst
    simp (disch := omega) only [eY, gN, dX, stepR_skip, fP, fZ, fO, gK, gE, gC, gR, gA, eU, fV, fT, gG, fS, fM, fU, fR, fX, gH, fY, fQ, fC, gB, gI, fL, iS, iQ, iO, iR, iM, iN, iP, iU, iT, eP, Result.ok.injEq, Next.value.injEq, true_and, and_true, fK, fJ, gJ, fN, gD, gS, ZV, fE, fH, fF, fD, eZ, eX, fB, eT, eQ, eH, if_true, if_false, ZS, ZY, ZT, ZU, ZX, ZW, ZR, ZQ, eA, dV, aB, dI, dE, cJ, eB, eS, eE, dK, eD, fA, dQ, eN, bQ, dG, bJ, dL, aI, aH, eL, aV, bZ, eI, aF, eJ, dF, aR, bF, eF, bH, bE, bB, aO, aL, cD, fG, dY, cA, cI, dA, cH, dT, bC, eK, bX, dH, bP, aU, bU, aC, bY, bO, cF, bW, aY, bA, aX, bV, dM, cU, bR, aZ, aK, aJ, bG, aE, dC, dW, aN, aM, aT, aD, cY, aG, cL, bT, bD, aP, cM, cG, aA, dN, cQ, cV, cC, dO, cB, dJ, dU, cP, eC, eM, bN, aS, dZ, bS, aQ, bL, dS, dB, cO, cS, cN, bK, bM, cX, dR, cR, dD, cZ, d1, l5]
    refine A7 fun w6 o6 x6 s6 => ?_
    refine Ar o6 rfl (by simp [one]) (by simp) fun w7 o7 x7 s7 => ?_
    have o7 : jG w7 w5.heap.size (Ba (k, v)) := o7
    have x57 : gX w5 w7 jK := x6.trans x7 fun y hy h => by omega
    have h7 := h5.new x57
    have k0 := o7.cell (off := 0)
    have k1 := o7.cell (off := 1)
    have k1d := (kJ o7).cell (off := 1)
    simp only [ZQ, ZR] at k0 k1 k1d
    have e1 : IntKind.u64.wrap ((n1 : Nat) : Int) = ((n1 : Nat) : Int) := fJ (by omega) (by omega)
    have ej : (j : Int) + 1 = ((j + 1 : Nat) : Int) := by omega
    have skip : ¬ (k = 2 /\ v < n1) -> ∃ m, m < l.length - j /\ ∃ (j' : Nat), m = l.length - j' /\ (Value.int .i64 ((j + 1 : Nat) : Int)) = .int .i64 (j' : Nat) /\ j' <= l.length /\ jX n0 w7 q p X1 (fun b => D1 b ∨ b = hb) (fun b => Y1 b ∨ b = hb) S1 { s with hv := rW (l.take j') W n1 } lv1 (.slice (some ⟨hb, 0, none⟩) n1 n1) /\ gX w4 w7 (fun y => y = hb) := fun hc => by
     rw [if_neg hc] at hst
     exact ⟨l.length - (j + 1), by omega, j + 1, rfl, rfl, by omega, by rw [hst]; exact h7, x5.seq (x57.mono fun _ _ h => h.elim)⟩
    unfold Bx
    by_cases hk2 : k = 2
    rotate_left
    .have q1 : (((k : Nat) : Int) == 2) = false := by rw [beq_eq_false_iff_ne]; omega
     simp (disch := omega) only [eY, gN, dX, stepR_skip, fP, fZ, fO, gK, gE, gC, gR, gA, eU, fV, fT, gG, fS, fM, fU, fR, fX, gH, fY, fQ, fC, gB, gI, fL, iS, iQ, iO, iR, iM, iN, iP, iU, iT, eP, Result.ok.injEq, Next.value.injEq, true_and, and_true, fK, fJ, gJ, fN, gD, gS, ZV, fE, fH, fF, fD, eZ, eX, fB, eT, eQ, eH, if_true, if_false, ZS, ZY, ZT, ZU, ZX, ZW, ZR, ZQ, eA, dV, aB, dI, dE, cJ, eB, eS, eE, dK, eD, fA, dQ, eN, bQ, dG, bJ, dL, aI, aH, eL, aV, bZ, eI, aF, eJ, dF, aR, bF, eF, bH, bE, bB, aO, aL, cD, fG, dY, cA, cI, dA, cH, dT, bC, eK, bX, dH, bP, aU, bU, aC, bY, bO, cF, bW, aY, bA, aX, bV, dM, cU, bR, aZ, aK, aJ, bG, aE, dC, dW, aN, aM, aT, aD, cY, aG, cL, bT, bD, aP, cM, cG, aA, dN, cQ, cV, cC, dO, cB, dJ, dU, cP, eC, eM, bN, aS, dZ, bS, aQ, bL, dS, dB, cO, cS, cN, bK, bM, cX, dR, cR, dD, cZ, k0, q1, ej]
     exact skip (fun h => hk2 h.1)
    have q1 : (((k : Nat) : Int) == 2) = true := by rw [beq_iff_eq]; omega
    by_cases hvn : v < n1
    rotate_left
    .have q2 : decide (((v : Nat) : Int) < ((n1 : Nat) : Int)) = false := by simp only [decide_eq_false_iff_not]; omega
     simp (disch := omega) only [eY, gN, dX, stepR_skip, fP, fZ, fO, gK, gE, gC, gR, gA, eU, fV, fT, gG, fS, fM, fU, fR, fX, gH, fY, fQ, fC, gB, gI, fL, iS, iQ, iO, iR, iM, iN, iP, iU, iT, eP, Result.ok.injEq, Next.value.injEq, true_and, and_true, fK, fJ, gJ, fN, gD, gS, ZV, fE, fH, fF, fD, eZ, eX, fB, eT, eQ, eH, if_true, if_false, ZS, ZY, ZT, ZU, ZX, ZW, ZR, ZQ, eA, dV, aB, dI, dE, cJ, eB, eS, eE, dK, eD, fA, dQ, eN, bQ, dG, bJ, dL, aI, aH, eL, aV, bZ, eI, aF, eJ, dF, aR, bF, eF, bH, bE, bB, aO, aL, cD, fG, dY, cA, cI, dA, cH, dT, bC, eK, bX, dH, bP, aU, bU, aC, bY, bO, cF, bW, aY, bA, aX, bV, dM, cU, bR, aZ, aK, aJ, bG, aE, dC, dW, aN, aM, aT, aD, cY, aG, cL, bT, bD, aP, cM, cG, aA, dN, cQ, cV, cC, dO, cB, dJ, dU, cP, eC, eM, bN, aS, dZ, bS, aQ, bL, dS, dB, cO, cS, cN, bK, bM, cX, dR, cR, dD, cZ, k0, k1, q1, e1, q2, ej]
     exact skip (fun h => hvn h.2)
    have q2 : decide (((v : Nat) : Int) < ((n1 : Nat) : Int)) = true := by simp only [decide_eq_true_eq]; omega
    rw [if_pos ⟨hk2, hvn⟩] at hst
    have h7d := h7.new (gX.dr w7 jK)
    obtain ⟨f0, f1, f2, f3, f4, f5, f6, f7, f8, f9⟩ := h7d.cells
    have ow : jG (dr w7) ob (W.map Value.bool) := ((oo.ext x5 (fun e => hobn (.inr (.inr e)))).ext x57 (fun h => h)).ext (gX.dr _ jK) (fun h => h)
    have hWv : W.getD v false = W[v]'(by omega) := by rw [Z5, Z0 (by omega)] <;> rfl
    have cw : (dr w7).cell? ⟨ob, v, none⟩ = some (.bool (W.getD v false)) := by
     rw [ow.cell, aaV, Z0 (by omega), hWv] <;> rfl
    clear hWv
    obtain ⟨hb', c', rest, hhv, hbY, hbq, oh, hset⟩ := h7d.setHv (i := v) (by show v < (rW (l.take j) W n1).length; rw [Si]; omega)
    simp only [Value.slice.injEq, aaN] at hhv
    obtain ⟨hbe, hlen', _⟩ := hhv
    have hbe : hb' = hb := by have := congrArg Addr.block hbe; exact this.symm
    subst hbe
    have hWn : s.man.leaves.length = n1 := hn.symm
    simp (disch := omega) only [eY, gN, dX, stepR_skip, fP, fZ, fO, gK, gE, gC, gR, gA, eU, fV, fT, gG, fS, fM, fU, fR, fX, gH, fY, fQ, fC, gB, gI, fL, iS, iQ, iO, iR, iM, iN, iP, iU, iT, eP, Result.ok.injEq, Next.value.injEq, true_and, and_true, fK, fJ, gJ, fN, gD, gS, ZV, fE, fH, fF, fD, eZ, eX, fB, eT, eQ, eH, if_true, if_false, ZS, ZY, ZT, ZU, ZX, ZW, ZR, ZQ, eA, dV, aB, dI, dE, cJ, eB, eS, eE, dK, eD, fA, dQ, eN, bQ, dG, bJ, dL, aI, aH, eL, aV, bZ, eI, aF, eJ, dF, aR, bF, eF, bH, bE, bB, aO, aL, cD, fG, dY, cA, cI, dA, cH, dT, bC, eK, bX, dH, bP, aU, bU, aC, bY, bO, cF, bW, aY, bA, aX, bV, dM, cU, bR, aZ, aK, aJ, bG, aE, dC, dW, aN, aM, aT, aD, cY, aG, cL, bT, bD, aP, cM, cG, aA, dN, cQ, cV, cC, dO, cB, dJ, dU, cP, eC, eM, bN, aS, dZ, bS, aQ, bL, dS, dB, cO, cS, cN, bK, bM, cX, dR, cR, dD, cZ, k0, k1, q1, e1, q2, f6, k1d, cw, hWn]
    refine Hy oh rfl (by rw [Z1, ZZ]; show v < (rW (l.take j) W n1).length + _; rw [Si]; omega) fun w8 o8 x8 s8 => ?_
    have h8 := hset o8 x8
    simp (disch := omega) only [eY, gN, dX, stepR_skip, fP, fZ, fO, gK, gE, gC, gR, gA, eU, fV, fT, gG, fS, fM, fU, fR, fX, gH, fY, fQ, fC, gB, gI, fL, iS, iQ, iO, iR, iM, iN, iP, iU, iT, eP, Result.ok.injEq, Next.value.injEq, true_and, and_true, fK, fJ, gJ, fN, gD, gS, ZV, fE, fH, fF, fD, eZ, eX, fB, eT, eQ, eH, if_true, if_false, ZS, ZY, ZT, ZU, ZX, ZW, ZR, ZQ, eA, dV, aB, dI, dE, cJ, eB, eS, eE, dK, eD, fA, dQ, eN, bQ, dG, bJ, dL, aI, aH, eL, aV, bZ, eI, aF, eJ, dF, aR, bF, eF, bH, bE, bB, aO, aL, cD, fG, dY, cA, cI, dA, cH, dT, bC, eK, bX, dH, bP, aU, bU, aC, bY, bO, cF, bW, aY, bA, aX, bV, dM, cU, bR, aZ, aK, aJ, bG, aE, dC, dW, aN, aM, aT, aD, cY, aG, cL, bT, bD, aP, cM, cG, aA, dN, cQ, cV, cC, dO, cB, dJ, dU, cP, eC, eM, bN, aS, dZ, bS, aQ, bL, dS, dB, cO, cS, cN, bK, bM, cX, dR, cR, dD, cZ, ej]
    refine ⟨l.length - (j + 1), by omega, j + 1, rfl, rfl, by omega, ?_, (x5.seq (x57.mono fun _ _ h => h.elim)).seq ((gX.dr w7 _).seq x8)⟩
    rw [hst]
    exact h8
   .have d1 : decide ((j : Int) < (l.length : Int)) = false := by simp; omega
    obtain rfl : j = l.length := by omega
    rw [Z3 (Z8 _)] at h5
    simp (disch := omega) only [eY, gN, dX, stepR_skip, fP, fZ, fO, gK, gE, gC, gR, gA, eU, fV, fT, gG, fS, fM, fU, fR, fX, gH, fY, fQ, fC, gB, gI, fL, iS, iQ, iO, iR, iM, iN, iP, iU, iT, eP, Result.ok.injEq, Next.value.injEq, true_and, and_true, fK, fJ, gJ, fN, gD, gS, ZV, fE, fH, fF, fD, eZ, eX, fB, eT, eQ, eH, if_true, if_false, ZS, ZY, ZT, ZU, ZX, ZW, ZR, ZQ, eA, dV, aB, dI, dE, cJ, eB, eS, eE, dK, eD, fA, dQ, eN, bQ, dG, bJ, dL, aI, aH, eL, aV, bZ, eI, aF, eJ, dF, aR, bF, eF, bH, bE, bB, aO, aL, cD, fG, dY, cA, cI, dA, cH, dT, bC, eK, bX, dH, bP, aU, bU, aC, bY, bO, cF, bW, aY, bA, aX, bV, dM, cU, bR, aZ, aK, aJ, bG, aE, dC, dW, aN, aM, aT, aD, cY, aG, cL, bT, bD, aP, cM, cG, aA, dN, cQ, cV, cC, dO, cB, dJ, dU, cP, eC, eM, bN, aS, dZ, bS, aQ, bL, dS, dB, cO, cS, cN, bK, bM, cX, dR, cR, dD, cZ, d1]
    refine fin (iH.step x1 hX1 hD1 hY1 ⟨X1, _, _, _, _, h5, fun _ h => .inl h, fun _ h => .inl h, fun b hb' => hb'.imp id fun e => by omega, ?_⟩) hBf (by rw [hE0, hn])
    have xx : gX w1 w4 (fun b => X1 b ∨ Y1 b) := (x13.seq (x4.mono fun _ _ h => h.elim)).mono fun y _ hy => .inr (hy ▸ h1.yq)
    exact xx.trans x5 fun y hy h => by omega
theorem YZ (n : ByteArray) : iC n ≠ jH n := fun h => by
 have := congrArg ByteArray.size h
 unfold iC jH at this
 rw [ByteArray.size_append, ByteArray.size_append] at this
 have h5 : (⟨#[46, 112, 97, 114, 116]⟩ : ByteArray).size = 5 := rfl
 have h4 : (⟨#[46, 108, 111, 103]⟩ : ByteArray).size = 4 := rfl
 omega
theorem UQ {S : jZ} {o : RZ} : (AZ S o).1.seen = S.seen ∨ (AZ S o).1.seen = NU o S.seen := by
 unfold AZ
 split
 .exact .inl rfl
 .exact .inr rfl
theorem Xk {S : jZ} {k : ByteArray} {a : Int} {l : List UInt8} : (IW S k a l).1.seen = S.seen ∨ ∃ v, (IW S k a l).1.seen = pR k v S.seen := by
 unfold IW
 split
 .rcases UQ (S := S) (o := ⟨0, k, ⟨#[]⟩, a.toNat, l⟩) with h | h
  .exact .inl h
  .exact .inr ⟨_, h⟩
 .exact .inl rfl
theorem VL {S : jZ} {s : nS} {k v : Nat} : (kO iE S s k v).1.seen = S.seen ∨ ∃ u, (kO iE S s k v).1.seen = pR (jH s.nm) u S.seen := by
 have := Xk (S := S) (k := jH s.nm) (a := s.log) (l := tJ iE k v)
 unfold kO
 simp only
 split <;> exact this
theorem Tj {S : jZ} {s : nS} : (pX S s).2.1.man = s.man /\ (pX S s).2.1.nm = s.nm /\ jE (iC s.nm) (pX S s).1.seen = jE (iC s.nm) S.seen /\ (∀ r ∈ (pX S s).2.2.2, UI r) /\ 13 * (pX S s).2.2.2.length <= (iX S (jH s.nm)).1.length := by
 unfold pX
 split
 .exact ⟨rfl, rfl, rfl, by simp, by simp⟩
 .split
  .exact ⟨rfl, rfl, rfl, by simp, by simp⟩
  .simp only
   refine ⟨QB.2.1, QB.2.2.1, ?_, QQ iE _ _, O2 iE _ _⟩
   rcases VL (S := S) (s := { s with epoch := kB 1 (mO iE (iX S (jH s.nm)).1) + 1, log := 13 * (mO iE (iX S (jH s.nm)).1).length }) (k := 1) (v := kB 1 (mO iE (iX S (jH s.nm)).1) + 1) with h | ⟨u, h⟩
   .rw [h]
   .rw [h, OE, if_neg (YZ _)]
theorem QR {n : Nat} {S : jZ} {s : nS} (h : Co (n + 1) S) : Co n (pX S s).1 := by
 unfold pX
 split
 .exact h.le (by omega)
 .split
  .exact h.le (by omega)
  .exact Wb h
theorem XQ {n0 p : Nat} {X D : Nat -> Prop} {S : jZ} {nm : ByteArray} {m : TW} {lv : adW} {w : adV} (hd : lY w p X D S) (hg : rD w) (g0 : 0 < n0 /\ 1 < n0) (hX : ∀ b, X b -> n0 <= b) (hn0 : n0 <= w.heap.size) (hB : Co 3 S) (hm : Tx m) (hlv : Cl w 32 lv m.leaves.length (U4 m.leaves))
 (hnm : 1 <= nm.size /\ nm.size <= 27) (hb1 : ∀ b, jE nm S.seen = some b -> b.length <= 1000000) (hb2 : ∀ b, jE (jH nm) S.seen = some b -> b.length <= 1000000) (hb3 : ∀ b, jE (iC nm) S.seen = some b -> b.length <= 1000000) :
 gU pg rK #[dP p, .string nm, .agg (Ns m lv).toArray] w (TY n0 w p X D (C7 hU iE S nm m)) := by
 refine Nt ?_
 obtain ⟨RR, hRR⟩ : ∃ RR : adW -> adV -> Prop, RR = TY n0 w p X D (C7 hU iE S nm m) := ⟨_, rfl⟩
 rw [<- hRR]
 have hO := PM S nm m
 have hm1 := hm.size
 have hm2 := hm.part
 have hm3 := hm.cnt
 have hm4 := hm.max
 unfold O1 D3 DH
 refine oE fun w1 o1 x1 s1 => ?_
 have o1 : jG w1 w.heap.size (Ns m lv) := o1
 obtain ⟨mb, hmb⟩ : ∃ mb, mb = w.heap.size := ⟨_, rfl⟩
 rw [<- hmb] at o1 ⊢
 have c0 := o1.cell (off := 0)
 have c1 := o1.cell (off := 1)
 have c2 := o1.cell (off := 2)
 simp only [ZQ, ZR] at c0 c1 c2
 have d1 : decide ((nm.size : Int) < 1) = false := by simp; omega
 have d2 : decide ((27 : Int) < (nm.size : Int)) = false := by simp; omega
 have e1 : IntKind.i64.wrap ((m.part : Nat) : Int) = ((m.part : Nat) : Int) := fK (by omega) (by omega)
 simp (disch := omega) only [eY, gN, dX, stepR_skip, fP, fZ, fO, gK, gE, gC, gR, gA, eU, fV, fT, gG, fS, fM, fU, fR, fX, gH, fY, fQ, fC, gB, gI, fL, iS, iQ, iO, iR, iM, iN, iP, iU, iT, eP, Result.ok.injEq, Next.value.injEq, true_and, and_true, fK, fJ, gJ, fN, gD, gS, ZV, fE, fH, fF, fD, eZ, eX, fB, eT, eQ, eH, if_true, if_false, ZS, ZY, ZT, ZU, ZX, ZW, ZR, ZQ, eA, dV, aB, dI, dE, cJ, eB, eS, eE, dK, eD, fA, dQ, eN, bQ, dG, bJ, dL, aI, aH, eL, aV, bZ, eI, aF, eJ, dF, aR, bF, eF, bH, bE, bB, aO, aL, cD, fG, dY, cA, cI, dA, cH, dT, bC, eK, bX, dH, bP, aU, bU, aC, bY, bO, cF, bW, aY, bA, aX, bV, dM, cU, bR, aZ, aK, aJ, bG, aE, dC, dW, aN, aM, aT, aD, cY, aG, cL, bT, bD, aP, cM, cG, aA, dN, cQ, cV, cC, dO, cB, dJ, dU, cP, eC, eM, bN, aS, dZ, bS, aQ, bL, dS, dB, cO, cS, cN, bK, bM, cX, dR, cR, dD, cZ, d1, d2, c0, c1, e1]
 refine (QS (by omega) hm2.1 hm2.2).mono ?_
 rintro r w2 ⟨rfl, hw⟩
 rw [hw]; clear hw w2
 rw [if_neg (by omega)]
 have n1 : ((0 : Int) != 0) = false := rfl
 obtain ⟨la, lc, hlve, hln, -⟩ := id hlv
 subst hlve
 have q1 : (((mM m.size m.part : Nat) : Int) != ((m.leaves.length : Nat) : Int)) = false := by rw [bne_eq_false_iff_eq]; omega
 simp (disch := omega) only [eY, gN, dX, stepR_skip, fP, fZ, fO, gK, gE, gC, gR, gA, eU, fV, fT, gG, fS, fM, fU, fR, fX, gH, fY, fQ, fC, gB, gI, fL, iS, iQ, iO, iR, iM, iN, iP, iU, iT, eP, Result.ok.injEq, Next.value.injEq, true_and, and_true, fK, fJ, gJ, fN, gD, gS, ZV, fE, fH, fF, fD, eZ, eX, fB, eT, eQ, eH, if_true, if_false, ZS, ZY, ZT, ZU, ZX, ZW, ZR, ZQ, eA, dV, aB, dI, dE, cJ, eB, eS, eE, dK, eD, fA, dQ, eN, bQ, dG, bJ, dL, aI, aH, eL, aV, bZ, eI, aF, eJ, dF, aR, bF, eF, bH, bE, bB, aO, aL, cD, fG, dY, cA, cI, dA, cH, dT, bC, eK, bX, dH, bP, aU, bU, aC, bY, bO, cF, bW, aY, bA, aX, bV, dM, cU, bR, aZ, aK, aJ, bG, aE, dC, dW, aN, aM, aT, aD, cY, aG, cL, bT, bD, aP, cM, cG, aA, dN, cQ, cV, cC, dO, cB, dJ, dU, cP, eC, eM, bN, aS, dZ, bS, aQ, bL, dS, dB, cO, cS, cN, bK, bM, cX, dR, cR, dD, cZ, n1, c2, q1]
 refine (Sk (JB hlv x1 (jJ _)) (Xt _) (by omega)).mono ?_
 rintro r w2 ⟨hcl, x2⟩
 have o2 := o1.ext x2 (fun h => h)
 obtain ⟨ca, cc, rfl⟩ := hcl.len
 refine Kf o2 rfl (by simp) fun w3 o3 x3 s3 => ?_
 simp only [aaD, aaW] at o3
 have z1 := x1.size
 have z2 := x2.size
 have hcl3 : zH w3 w1.heap.size 32 (.slice ca m.leaves.length cc) m.leaves.length (U4 m.leaves) := hcl.ext x3 fun b hb h => by omega
 obtain ⟨lv', hlv'⟩ : ∃ lv', lv' = Value.slice ca m.leaves.length cc := ⟨_, rfl⟩
 rw [<- hlv'] at hcl3 o3
 have x03 : gX w w3 jK := (x1.seq x2).trans x3 fun y hy h => by omega
 have lm := oD (off := 0) o3 (by simp)
 have lm : (fW 28 (.pointer (some ⟨mb, 0, none⟩))).run pg w3 = .ok (.value (.agg (Ns m lv').toArray)) w3 := lm
 have bd := aR (some ⟨p, 0, none⟩) nm (.int .u64 (m.size : Nat)) (.int .u32 (m.part : Nat)) lv' w3
 simp (disch := omega) only [eY, gN, dX, stepR_skip, fP, fZ, fO, gK, gE, gC, gR, gA, eU, fV, fT, gG, fS, fM, fU, fR, fX, gH, fY, fQ, fC, gB, gI, fL, iS, iQ, iO, iR, iM, iN, iP, iU, iT, eP, Result.ok.injEq, Next.value.injEq, true_and, and_true, fK, fJ, gJ, fN, gD, gS, ZV, fE, fH, fF, fD, eZ, eX, fB, eT, eQ, eH, if_true, if_false, ZS, ZY, ZT, ZU, ZX, ZW, ZR, ZQ, eA, dV, aB, dI, dE, cJ, eB, eS, eE, dK, eD, fA, dQ, eN, bQ, dG, bJ, dL, aI, aH, eL, aV, bZ, eI, aF, eJ, dF, aR, bF, eF, bH, bE, bB, aO, aL, cD, fG, dY, cA, cI, dA, cH, dT, bC, eK, bX, dH, bP, aU, bU, aC, bY, bO, cF, bW, aY, bA, aX, bV, dM, cU, bR, aZ, aK, aJ, bG, aE, dC, dW, aN, aM, aT, aD, cY, aG, cL, bT, bD, aP, cM, cG, aA, dN, cQ, cV, cC, dO, cB, dJ, dU, cP, eC, eM, bN, aS, dZ, bS, aQ, bL, dS, dB, cO, cS, cN, bK, bM, cX, dR, cR, dD, cZ, lm, bd]
 refine oE fun w4 o4 x4 s4 => ?_
 obtain ⟨q, hq⟩ : ∃ q, q = w3.heap.size := ⟨_, rfl⟩
 rw [<- hq] at o4 ⊢
 have x04 := x03.seq x4
 have z3 := x3.size
 have h4 : jX n0 w4 q p X (fun b => D b ∨ b = q) (fun b => b = q) S ⟨nm, m, 0, [], 0, false, 0⟩ lv' (.slice none 0 0) := by
  have hlt := lY.lt hd
  have hxd := lY.xd' hd
  refine ⟨hg.ext x04, g0, fun b hb => ?_, by have := x04.size; omega, hd.more x04 (by omega) o4.lt, rfl, fun b hb => ⟨.inr hb, fun hx => by have := hlt b (hxd b hx); omega⟩, o4, hm, ⟨?_, ?_⟩, ⟨rfl, .inl ⟨rfl, rfl⟩⟩, (by show 0 < _; omega), (by show 0 <= _; omega), (by show 0 <= _; omega), hnm.2⟩
  .rcases hb with hb | hb
   .exact hX b hb
   .omega
  .exact JB (QV hcl3) x4 (jJ _)
  .refine Tw (w' := w3) hcl3 fun b hb hl hx => ?_
   rcases hx with hx | hx
   .have := hlt b (hxd b hx); omega
   .omega
 have o34 := o3.ext x4 (fun h => h)
 obtain ⟨f0, f1, f2, f3, f4, f5, f6, f7, f8, f9⟩ := h4.cells
 refine (OG (n := nm) h4.dsk (hB.le (by omega)) f0).mono ?_
 rintro r w5 ⟨v, rfl, ho, x5⟩
 have h5 := h4.new x5
 have z4 := x04.size
 have toPost : ∀ {w' : adV} {S' : jZ} {s' : nS}, iH n0 w4 q p X (fun b => D b ∨ b = q) (fun b => b = q) S' s' w' -> BM w p X D S' w' := fun {w' S' s'} ⟨X', D', Y', _, _, h, h1, h2, h3, hx⟩ => by
  refine ⟨X', D', h.dsk, fun b hb => ?_, fun b hb => h2 b (.inl hb), (x04.mono fun _ _ h => h.elim).trans hx fun y hy h => ?_⟩
  .rcases h1 b hb with h | h
   .exact .inl h
   .exact .inr (by omega)
  .rcases h with h | h
   .exact h
   .omega
 have toOpen : ∀ {r : adW} {w' : adV} {R : jZ × Option nS × Int}, C7 hU iE S nm m = R -> (match R.2.1 with
     | some s' => R.2.2 = 0 /\ r = .tuple #[dP q, .int .i64 0] /\ iH n0 w4 q p X (fun b => D b ∨ b = q) (fun b => b = q) R.1 s' w'
     | none => r = .tuple #[.pointer none, .int .i64 R.2.2] /\ ∃ s', iH n0 w4 q p X (fun b => D b ∨ b = q) (fun b => b = q) R.1 s' w') -> RR r w' := fun {r w' R} hR hm => by
  rw [hRR, hR]
  unfold TY
  obtain ⟨S', so, e⟩ := R
  cases so with
  | none =>
    obtain ⟨h1, s', h2⟩ := hm
    exact ⟨h1, toPost h2⟩
  | some s' =>
    obtain ⟨h0, h1, h2⟩ := hm
    have hp := toPost h2
    obtain ⟨X', D', Y', lv2, hv2, h, k1, k2, k3, hx⟩ := h2
    refine ⟨h0, q, X', D', Y', lv2, hv2, h1, h, fun b hb => ?_, fun b hb => k2 b (.inl hb), fun b hb => ?_, (x04.mono fun _ _ h => h.elim).trans hx fun y hy h => ?_⟩
    .rcases k1 b hb with h | h
     .exact .inl h
     .exact .inr (by omega)
    .rcases k3 b hb with h | h
     .omega
     .omega
    .rcases h with h | h
     .exact h
     .omega
 have hini : Ir S nm m = ⟨nm, m, 0, jC hU m (iX S nm).1, 0, (iX S nm).2.1 && (iX S nm).1.length == m.size && CR (jC hU m (iX S nm).1), 0⟩ := rfl
 have hbl : (iX S nm).1.length <= 1000000 := by
  unfold iX
  split
  .simp
  .cases hg : jE nm S.seen with
   | none => simp
   | some b => exact hb1 b hg
 generalize iX S nm = rb at *
 obtain ⟨b, th, e⟩ := rb
 simp only at ho hO hini hbl ⊢
 by_cases he : e = 0
 rotate_left
 .have n2 : (e != 0) = true := bne_iff_ne.2 he
  rw [if_pos he] at hO
  simp (disch := omega) only [eY, gN, dX, stepR_skip, fP, fZ, fO, gK, gE, gC, gR, gA, eU, fV, fT, gG, fS, fM, fU, fR, fX, gH, fY, fQ, fC, gB, gI, fL, iS, iQ, iO, iR, iM, iN, iP, iU, iT, eP, Result.ok.injEq, Next.value.injEq, true_and, and_true, fK, fJ, gJ, fN, gD, gS, ZV, fE, fH, fF, fD, eZ, eX, fB, eT, eQ, eH, if_true, if_false, ZS, ZY, ZT, ZU, ZX, ZW, ZR, ZQ, eA, dV, aB, dI, dE, cJ, eB, eS, eE, dK, eD, fA, dQ, eN, bQ, dG, bJ, dL, aI, aH, eL, aV, bZ, eI, aF, eJ, dF, aR, bF, eF, bH, bE, bB, aO, aL, cD, fG, dY, cA, cI, dA, cH, dT, bC, eK, bX, dH, bP, aU, bU, aC, bY, bO, cF, bW, aY, bA, aX, bV, dM, cU, bR, aZ, aK, aJ, bG, aE, dC, dW, aN, aM, aT, aD, cY, aG, cL, bT, bD, aP, cM, cG, aA, dN, cQ, cV, cC, dO, cB, dJ, dU, cP, eC, eM, bN, aS, dZ, bS, aQ, bL, dS, dB, cO, cS, cN, bK, bM, cX, dR, cR, dD, cZ, n2]
  exact toOpen hO ⟨rfl, _, iH.step (x5.mono fun _ _ h => h.elim) (fun _ h => .inl h) (fun _ h => h) (fun _ h => .inl h) (iH.refl h5)⟩
 have n2 : (e != 0) = false := bne_eq_false_iff_eq.2 he
 rw [if_neg (by rw [he]; decide)] at hO
 have hbv : Bs w5 v b := ho.sl
 obtain ⟨va, vc, rfl, _⟩ := hbv.len
 rw [ZZ] at hbv ho ⊢
 simp (disch := omega) only [eY, gN, dX, stepR_skip, fP, fZ, fO, gK, gE, gC, gR, gA, eU, fV, fT, gG, fS, fM, fU, fR, fX, gH, fY, fQ, fC, gB, gI, fL, iS, iQ, iO, iR, iM, iN, iP, iU, iT, eP, Result.ok.injEq, Next.value.injEq, true_and, and_true, fK, fJ, gJ, fN, gD, gS, ZV, fE, fH, fF, fD, eZ, eX, fB, eT, eQ, eH, if_true, if_false, ZS, ZY, ZT, ZU, ZX, ZW, ZR, ZQ, eA, dV, aB, dI, dE, cJ, eB, eS, eE, dK, eD, fA, dQ, eN, bQ, dG, bJ, dL, aI, aH, eL, aV, bZ, eI, aF, eJ, dF, aR, bF, eF, bH, bE, bB, aO, aL, cD, fG, dY, cA, cI, dA, cH, dT, bC, eK, bX, dH, bP, aU, bU, aC, bY, bO, cF, bW, aY, bA, aX, bV, dM, cU, bR, aZ, aK, aJ, bG, aE, dC, dW, aN, aM, aT, aD, cY, aG, cL, bT, bD, aP, cM, cG, aA, dN, cQ, cV, cC, dO, cB, dJ, dU, cP, eC, eM, bN, aS, dZ, bS, aQ, bL, dS, dB, cO, cS, cN, bK, bM, cX, dR, cR, dD, cZ, n2]
 refine (Oa h5 hbv hbl).mono ?_
 rintro r w6 ⟨ob, rfl, hob, oo, x6⟩
 obtain ⟨W, hW⟩ : ∃ W, W = jC hU m b := ⟨_, rfl⟩
 have hWl : W.length = m.leaves.length := by rw [hW]; unfold jC; simp
 have oo : jG w6 ob (W.map Value.bool) := by rw [hW]; exact oo
 rw [<- hW] at hini
 have hml : (⟨nm, m, 0, [], 0, false, 0⟩ : nS).man.leaves.length = W.length := hWl.symm
 rw [hml]
 have h6 := h5.new x6
 refine KY h6.own rfl (by simp) fun w7 o7 x7 s7 => ?_
 have h7 := h5.newHv (s' := ⟨nm, m, 0, W, 0, false, 0⟩) x6 hob oo (by omega) x7 o7 rfl rfl rfl (by show 0 < _; omega) (by show 0 <= _; omega)
 have x47 : gX w4 w7 (fun y => X y ∨ y = q) := ((x5.seq x6).mono fun _ _ h => h.elim).seq (x7.mono fun _ _ h => .inr h)
 have o37 := ((o34.ext x5 (fun h => h)).ext x6 (fun h => h)).ext x7 (show ¬ mb = q by have := x2.size; have := x1.size; omega)
 have k0 := o37.cell (off := 0)
 simp only [ZQ] at k0
 obtain ⟨f0, f1, f2, f3, f4, f5, f6, f7, f8, f9⟩ := h7.cells
 have z5 := x5.size
 have hYn : ∀ y, (y = q ∨ y = ob) -> y = q ∨ w4.heap.size <= y := fun y hy => hy.imp id fun h => by omega
 have tail : ∀ {w8 : adV} {fn : Bool}, fn = (th && b.length == m.size && CR W) -> gX w7 w8 jK →
     eY pg (iD 4 (.pointer (some ⟨q, 8, none⟩)) (.bool fn)) w8 fun _u w => gU pg nD #[dP q] w fun t97 w => eY pg (iW t97 0) w fun t98 w => eY pg (iW t97 1) w fun t99 w => eY pg (gO .neq 29 (.tmp 100) (.const (.int .i64 0)) t99 (.int .i64 0)) w fun t101 w => lQ t101 (RR (.tuple #[.pointer none, t99]) w) (vA RR (dP p) (.int .i64 (mM m.size m.part : Nat)) (dP q) t98 w) := fun {w8 fn} hfn x8 => by
  have h8 := h7.new x8
  refine Hy h8.own rfl (by simp) fun w9 o9 x9 s9 => ?_
  obtain ⟨s0, hs0⟩ : ∃ s0 : nS, s0 = ⟨nm, m, 0, W, 0, fn, 0⟩ := ⟨_, rfl⟩
  have hs0' : s0 = Ir S nm m := by rw [hini, hs0, hfn]
  have h9 := h8.set (s' := s0) x9 (by rw [hs0]; exact o9) (by rw [hs0]) (by rw [hs0]) (by rw [hs0]) (by rw [hs0]; show 0 < _; omega) (by rw [hs0]; show 0 <= _; omega)
  have hnm0 : s0.nm = nm := by rw [hs0]
  have hman0 : s0.man = m := by rw [hs0]
  have x49 : gX w4 w9 (fun y => X y ∨ y = q) := (x47.seq (x8.mono fun _ _ h => h.elim)).seq (x9.mono fun _ _ h => .inr h)
  refine (V3 h9 (hB.le (by omega)) (by rw [hnm0]; exact hb2)).mono ?_
  rintro r w10 ⟨o, X', D', Y', lv2, hv2, rfl, h10, hX', hD', hY', x10, hocl, hon⟩
  obtain ⟨bf1, bf2, bf3, bf4, bf5⟩ := Tj (S := S) (s := s0)
  rw [hnm0] at bf2 bf3 bf5
  rw [hman0] at bf1
  have hBk := QR (n := 2) (s := s0) hB
  rw [<- hs0'] at hO
  have hlogl : (iX S (jH nm)).1.length <= 1000000 := by
   unfold iX
   split
   .simp
   .cases hg : jE (jH nm) S.seen with
    | none => simp
    | some b => exact hb2 b hg
  generalize pX S s0 = B at *
  obtain ⟨S2, s2', e2, L⟩ := B
  simp only at h10 hO bf1 bf2 bf3 bf4 bf5 hBk hocl ⊢
  have pst : iH n0 w4 q p X (fun b => D b ∨ b = q) (fun b => b = q) S2 s2' w10 := iH.step x49 (fun _ h => .inl h) (fun _ h => .inl h) hYn ⟨X', D', Y', _, _, h10, hX', hD', hY', x10⟩
  by_cases he2 : e2 = 0
  .subst he2
   rw [if_neg (by decide)] at hO
   have n3 : ((0 : Int) != 0) = false := rfl
   simp (disch := omega) only [eY, gN, dX, stepR_skip, fP, fZ, fO, gK, gE, gC, gR, gA, eU, fV, fT, gG, fS, fM, fU, fR, fX, gH, fY, fQ, fC, gB, gI, fL, iS, iQ, iO, iR, iM, iN, iP, iU, iT, eP, Result.ok.injEq, Next.value.injEq, true_and, and_true, fK, fJ, gJ, fN, gD, gS, ZV, fE, fH, fF, fD, eZ, eX, fB, eT, eQ, eH, if_true, if_false, ZS, ZY, ZT, ZU, ZX, ZW, ZR, ZQ, eA, dV, aB, dI, dE, cJ, eB, eS, eE, dK, eD, fA, dQ, eN, bQ, dG, bJ, dL, aI, aH, eL, aV, bZ, eI, aF, eJ, dF, aR, bF, eF, bH, bE, bB, aO, aL, cD, fG, dY, cA, cI, dA, cH, dT, bC, eK, bX, dH, bP, aU, bU, aC, bY, bO, cF, bW, aY, bA, aX, bV, dM, cU, bR, aZ, aK, aJ, bG, aE, dC, dW, aN, aM, aT, aD, cY, aG, cL, bT, bD, aP, cM, cG, aA, dN, cQ, cV, cC, dO, cB, dJ, dU, cP, eC, eM, bN, aS, dZ, bS, aQ, bL, dS, dB, cO, cS, cN, bK, bM, cX, dR, cR, dD, cZ, n3]
   refine Uc h10 hBk (by rw [bf2, bf3]; exact hb3) (by rw [bf1]; exact hm3.symm) hocl hon (by omega) bf4 fun r w' hm => toOpen hO ?_
   generalize Mo S2 s2' L = R at *
   obtain ⟨S3, so, e3⟩ := R
   cases so with
   | none =>
     obtain ⟨k1, s', k2⟩ := hm
     exact ⟨k1, s', iH.step x49 (fun _ h => .inl h) (fun _ h => .inl h) hYn (iH.step x10 hX' hD' hY' k2)⟩
   | some s' =>
     obtain ⟨k0, k1, k2⟩ := hm
     exact ⟨k0, k1, iH.step x49 (fun _ h => .inl h) (fun _ h => .inl h) hYn (iH.step x10 hX' hD' hY' k2)⟩
  .have n3 : (e2 != 0) = true := bne_iff_ne.2 he2
   rw [if_pos he2] at hO
   simp (disch := omega) only [eY, gN, dX, stepR_skip, fP, fZ, fO, gK, gE, gC, gR, gA, eU, fV, fT, gG, fS, fM, fU, fR, fX, gH, fY, fQ, fC, gB, gI, fL, iS, iQ, iO, iR, iM, iN, iP, iU, iT, eP, Result.ok.injEq, Next.value.injEq, true_and, and_true, fK, fJ, gJ, fN, gD, gS, ZV, fE, fH, fF, fD, eZ, eX, fB, eT, eQ, eH, if_true, if_false, ZS, ZY, ZT, ZU, ZX, ZW, ZR, ZQ, eA, dV, aB, dI, dE, cJ, eB, eS, eE, dK, eD, fA, dQ, eN, bQ, dG, bJ, dL, aI, aH, eL, aV, bZ, eI, aF, eJ, dF, aR, bF, eF, bH, bE, bB, aO, aL, cD, fG, dY, cA, cI, dA, cH, dT, bC, eK, bX, dH, bP, aU, bU, aC, bY, bO, cF, bW, aY, bA, aX, bV, dM, cU, bR, aZ, aK, aJ, bG, aE, dC, dW, aN, aM, aT, aD, cY, aG, cL, bT, bD, aP, cM, cG, aA, dN, cQ, cV, cC, dO, cB, dJ, dU, cP, eC, eM, bN, aS, dZ, bS, aQ, bL, dS, dB, cO, cS, cN, bK, bM, cX, dR, cR, dD, cZ, n3]
   exact toOpen hO ⟨rfl, _, pst⟩
 cases th with
 | false =>
   have := tail (w8 := w7) (fn := false) (by simp) (gX.refl _ _)
   simp (disch := omega) only [eY, gN, dX, stepR_skip, fP, fZ, fO, gK, gE, gC, gR, gA, eU, fV, fT, gG, fS, fM, fU, fR, fX, gH, fY, fQ, fC, gB, gI, fL, iS, iQ, iO, iR, iM, iN, iP, iU, iT, eP, Result.ok.injEq, Next.value.injEq, true_and, and_true, fK, fJ, gJ, fN, gD, gS, ZV, fE, fH, fF, fD, eZ, eX, fB, eT, eQ, eH, if_true, if_false, ZS, ZY, ZT, ZU, ZX, ZW, ZR, ZQ, eA, dV, aB, dI, dE, cJ, eB, eS, eE, dK, eD, fA, dQ, eN, bQ, dG, bJ, dL, aI, aH, eL, aV, bZ, eI, aF, eJ, dF, aR, bF, eF, bH, bE, bB, aO, aL, cD, fG, dY, cA, cI, dA, cH, dT, bC, eK, bX, dH, bP, aU, bU, aC, bY, bO, cF, bW, aY, bA, aX, bV, dM, cU, bR, aZ, aK, aJ, bG, aE, dC, dW, aN, aM, aT, aD, cY, aG, cL, bT, bD, aP, cM, cG, aA, dN, cQ, cV, cC, dO, cB, dJ, dU, cP, eC, eM, bN, aS, dZ, bS, aQ, bL, dS, dB, cO, cS, cN, bK, bM, cX, dR, cR, dD, cZ]
   exact this
 | true =>
   have e3 : IntKind.u64.wrap ((b.length : Nat) : Int) = ((b.length : Nat) : Int) := fJ (by omega) (by omega)
   by_cases hle : b.length = m.size
   .have q2 : (((b.length : Nat) : Int) == ((m.size : Nat) : Int)) = true := by rw [beq_iff_eq]; omega
    simp (disch := omega) only [eY, gN, dX, stepR_skip, fP, fZ, fO, gK, gE, gC, gR, gA, eU, fV, fT, gG, fS, fM, fU, fR, fX, gH, fY, fQ, fC, gB, gI, fL, iS, iQ, iO, iR, iM, iN, iP, iU, iT, eP, Result.ok.injEq, Next.value.injEq, true_and, and_true, fK, fJ, gJ, fN, gD, gS, ZV, fE, fH, fF, fD, eZ, eX, fB, eT, eQ, eH, if_true, if_false, ZS, ZY, ZT, ZU, ZX, ZW, ZR, ZQ, eA, dV, aB, dI, dE, cJ, eB, eS, eE, dK, eD, fA, dQ, eN, bQ, dG, bJ, dL, aI, aH, eL, aV, bZ, eI, aF, eJ, dF, aR, bF, eF, bH, bE, bB, aO, aL, cD, fG, dY, cA, cI, dA, cH, dT, bC, eK, bX, dH, bP, aU, bU, aC, bY, bO, cF, bW, aY, bA, aX, bV, dM, cU, bR, aZ, aK, aJ, bG, aE, dC, dW, aN, aM, aT, aD, cY, aG, cL, bT, bD, aP, cM, cG, aA, dN, cQ, cV, cC, dO, cB, dJ, dU, cP, eC, eM, bN, aS, dZ, bS, aQ, bL, dS, dB, cO, cS, cN, bK, bM, cX, dR, cR, dD, cZ, e3, k0, q2, f6]
    refine (OF (MD h7.hv) (by show W.length <= _; omega)).mono ?_
    rintro r w8 ⟨rfl, hw⟩
    rw [hw]; clear hw w8
    have := tail (w8 := w7) (fn := CR W) (by have : (b.length == m.size) = true := by rw [beq_iff_eq]; exact hle
                                             rw [this]; simp) (gX.refl _ _)
    simp (disch := omega) only [eY, gN, dX, stepR_skip, fP, fZ, fO, gK, gE, gC, gR, gA, eU, fV, fT, gG, fS, fM, fU, fR, fX, gH, fY, fQ, fC, gB, gI, fL, iS, iQ, iO, iR, iM, iN, iP, iU, iT, eP, Result.ok.injEq, Next.value.injEq, true_and, and_true, fK, fJ, gJ, fN, gD, gS, ZV, fE, fH, fF, fD, eZ, eX, fB, eT, eQ, eH, if_true, if_false, ZS, ZY, ZT, ZU, ZX, ZW, ZR, ZQ, eA, dV, aB, dI, dE, cJ, eB, eS, eE, dK, eD, fA, dQ, eN, bQ, dG, bJ, dL, aI, aH, eL, aV, bZ, eI, aF, eJ, dF, aR, bF, eF, bH, bE, bB, aO, aL, cD, fG, dY, cA, cI, dA, cH, dT, bC, eK, bX, dH, bP, aU, bU, aC, bY, bO, cF, bW, aY, bA, aX, bV, dM, cU, bR, aZ, aK, aJ, bG, aE, dC, dW, aN, aM, aT, aD, cY, aG, cL, bT, bD, aP, cM, cG, aA, dN, cQ, cV, cC, dO, cB, dJ, dU, cP, eC, eM, bN, aS, dZ, bS, aQ, bL, dS, dB, cO, cS, cN, bK, bM, cX, dR, cR, dD, cZ]
    exact this
   .have q2 : (((b.length : Nat) : Int) == ((m.size : Nat) : Int)) = false := by rw [beq_eq_false_iff_ne]; omega
    have := tail (w8 := w7) (fn := false) (by have : (b.length == m.size) = false := by rw [beq_eq_false_iff_ne]; exact hle
                                              rw [this]; simp) (gX.refl _ _)
    simp (disch := omega) only [eY, gN, dX, stepR_skip, fP, fZ, fO, gK, gE, gC, gR, gA, eU, fV, fT, gG, fS, fM, fU, fR, fX, gH, fY, fQ, fC, gB, gI, fL, iS, iQ, iO, iR, iM, iN, iP, iU, iT, eP, Result.ok.injEq, Next.value.injEq, true_and, and_true, fK, fJ, gJ, fN, gD, gS, ZV, fE, fH, fF, fD, eZ, eX, fB, eT, eQ, eH, if_true, if_false, ZS, ZY, ZT, ZU, ZX, ZW, ZR, ZQ, eA, dV, aB, dI, dE, cJ, eB, eS, eE, dK, eD, fA, dQ, eN, bQ, dG, bJ, dL, aI, aH, eL, aV, bZ, eI, aF, eJ, dF, aR, bF, eF, bH, bE, bB, aO, aL, cD, fG, dY, cA, cI, dA, cH, dT, bC, eK, bX, dH, bP, aU, bU, aC, bY, bO, cF, bW, aY, bA, aX, bV, dM, cU, bR, aZ, aK, aJ, bG, aE, dC, dW, aN, aM, aT, aD, cY, aG, cL, bT, bD, aP, cM, cG, aA, dN, cQ, cV, cC, dO, cB, dJ, dU, cP, eC, eM, bN, aS, dZ, bS, aQ, bL, dS, dB, cO, cS, cN, bK, bM, cX, dR, cR, dD, cZ, e3, k0, q2]
    exact this
end Go.Proofs.YteelnmpbnaohpaaDoor
namespace Go.Proofs.YteelnmpbnaohpaaDoor
open Go Go.En Go.Pu
def sF : ByteArray := ⟨#[102]⟩
theorem WR : sF ≠ iC sF := by decide
theorem XY : sF ≠ jH sF := by decide
theorem VF : iC sF ≠ jH sF := by decide
theorem YI : Lj sF = true := by decide
theorem V8 : Lj (iC sF) = true := by decide
theorem YO : Lj (jH sF) = true := by decide
section
variable (lf : List UInt8 -> List UInt8) (cf : List UInt8 -> Nat)
theorem Sn {α : Type} (n : Nat) (g : Nat -> α) (d : α) {i : Nat} (h : i < n) : ((List.range n).map g).getD i d = g i := by
 rw [Z5, aaV, List.getElem?_range h] <;> rfl
theorem OK {l : List Bool} : CR l = true ↔ ∀ i, i < l.length -> l.getD i false = true := by
 unfold CR
 constructor
 .intro h i hi
  have h1 : ¬ false ∈ l := by simpa using h
  rw [Z5, Z0 hi]
  have := abX hi
  cases hq : l[i] with
  | true => rfl
  | false => rw [hq] at this; exact absurd this h1
 .intro h
  have h1 : ¬ false ∈ l := fun hm => by
   obtain ⟨i, hi, e⟩ := adA hm
   have := h i hi
   rw [Z5, Z0 hi, e] at this
   cases this
  simpa using h1
theorem OM (m : TW) (b : List UInt8) : (jC lf m b).length = m.leaves.length := by unfold jC; simp
theorem EG (f : List UInt8) (k : Nat) : (kZ lf f k).leaves.length = mM f.length k := by unfold kZ; simp
theorem Rj {f : List UInt8} {k i : Nat} (h : i < mM f.length k) : (kZ lf f k).leaves.getD i [] = lf (yP f.length k i f) := by
 unfold kZ
 exact Sn _ _ _ h
theorem P6 {f : List UInt8} {k i : Nat} (h : i < mM f.length k) : Bk lf (kZ lf f k) i (yP f.length k i f) = true := by
 unfold Bk
 rw [Rj lf h]
 show ((yP f.length k i f).length == IX f.length k i && _) = true
 rw [G1 rfl]
 simp
theorem Ri {f b : List UInt8} {k : Nat} (hk : 0 < k) (hb : b.length = f.length) {i : Nat} (h : i < mM f.length k) (hp : yP f.length k i b = yP f.length k i f) : (jC lf (kZ lf f k) b).getD i false = true := by
 unfold jC
 rw [EG, Sn _ _ _ h]
 unfold wholeAt
 show (decide (k * i + IX f.length k i <= b.length) && Bk lf (kZ lf f k) i (yP f.length k i b)) = true
 rw [hp, P6 lf h, hb]
 have := EM ((Au hk).1 h)
 simpa using this
theorem LZ {f : List UInt8} {k : Nat} (hk : 0 < k) : CR (jC lf (kZ lf f k) f) = true := by
 rw [OK, OM, EG]
 exact fun i hi => Ri lf hk rfl hi rfl
theorem No {S : jZ} {s : nS} {recs : List (Nat × Nat)} {k v : Nat} (h : Calm S) (hnm : s.nm = sF) (hl : (jE (jH sF) S.seen).getD [] = nM cf recs) (hs : s.log = 13 * recs.length) :
 kO cf S s k v = if S.room < ((iY S.seen + 13 : Nat) : Int) then (S, s, 22) else ({ S with under := S.under ++ [⟨0, jH sF, ⟨#[]⟩, 13 * recs.length, tJ cf k v⟩], seen := pR (jH sF) (nM cf (recs ++ [(k, v)])) S.seen }, { s with log := s.log + 13 }, 0) := by
 have hlen : (uW S (jH sF)).length = 13 * recs.length := by unfold uW; rw [hl, mT]
 have e := QJ (k := jH sF) (a := 13 * recs.length) (l := tJ cf k v) h YO (by omega)
 rw [hlen, rG, show iY S.seen + (13 * recs.length + 13 - 13 * recs.length) = iY S.seen + 13 from by omega] at e
 have eo : over (uW S (jH sF)) (13 * recs.length) (tJ cf k v) = nM cf (recs ++ [(k, v)]) := by
  rw [SG, <- hlen, Wd]
  unfold uW
  rw [hl]
 rw [eo] at e
 unfold kO
 rw [hnm, hs, e]
 split
 .rfl
 .rfl
structure Ro (f : List UInt8) (k : Nat) (F0 : Option (List UInt8)) (recs : List (Nat × Nat)) (P : List UInt8) (S : jZ) (s : nS) : Prop where
 calm : Calm S
 nm : s.nm = sF
 man : s.man = kZ lf f k
 err : s.err = 0
 fin : s.fin = false
 hvl : s.hv.length = mM f.length k
 log : s.log = 13 * recs.length
 gF : jE sF S.seen = F0
 gP : jE (iC sF) S.seen = some P
 gL : jE (jH sF) S.seen = some (nM cf recs)
 Pl : P.length = f.length
 ok : ∀ r ∈ recs, UI r
 part : ∀ i, i < mM f.length k -> s.hv.getD i false = true -> yP f.length k i P = yP f.length k i f
 told : ∀ i, i < mM f.length k -> (s.hv.getD i false = true ↔ (2, i) ∈ recs)
 cnt : recs.length = 1 + s.hv.count true
 sz : iY S.seen = (F0.getD []).length + f.length + 13 * recs.length
 rm : (iY S.seen : Int) <= S.room
 nd : (S.seen.map (·.1)).Nodup
 un : S.under = []
 rb : 0 <= S.room /\ S.room <= 16777216
variable {lf cf}
theorem nF {k j : ByteArray} {v : List UInt8} {l : sW} (h : j ≠ k) : jE j (pR k v l) = jE j l := by rw [OE, if_neg h]
theorem BA {k : ByteArray} {v : List UInt8} {l : sW} : jE k (pR k v l) = some v := by rw [OE, if_pos rfl]
theorem Xm {f : List UInt8} {k : Nat} {F0 : Option (List UInt8)} {recs : List (Nat × Nat)} {P : List UInt8} {S : jZ} {s : nS} (h : Ro lf cf f k F0 recs P S s) {i : Nat} (hi : i < mM f.length k) (hv : s.hv.getD i false = true) (b : List UInt8) : BI lf cf S s i b = (S, s, 0) := by
 unfold BI
 rw [h.err, h.hvl, if_neg (by decide), if_neg (by omega), ZV, hv, Bool.or_true, if_pos rfl]
theorem NO {f : List UInt8} {k : Nat} {F0 : Option (List UInt8)} {recs : List (Nat × Nat)} {P : List UInt8} {S : jZ} {s : nS} (h : Ro lf cf f k F0 recs P S s) (hk : 0 < k) (hL : f.length <= 1000000) {i : Nat} (hi : i < mM f.length k) (hv : s.hv.getD i false = false) :
 (¬ S.room < ((iY S.seen + 13 : Nat) : Int) -> ∃ S' s', BI lf cf S s i (yP f.length k i f) = (S', s', 0) /\ Ro lf cf f k F0 (recs ++ [(2, i)]) (over P (k * i) (yP f.length k i f)) S' s' /\ S'.room = S.room /\ s'.epoch = s.epoch /\ s'.hv = s.hv.set i true) /\
 (S.room < ((iY S.seen + 13 : Nat) : Int) -> ∃ S' s', BI lf cf S s i (yP f.length k i f) = (S', s', 22) /\ s'.err = 22 /\ Calm S' /\ jE sF S'.seen = F0) := by
 have hki := (Au hk).1 hi
 have hpl : (yP f.length k i f).length = IX f.length k i := G1 rfl
 have hse := EM hki
 have hPB : uW S (iC sF) = P := by unfold uW; rw [h.gP] <;> rfl
 have e0 := QJ (k := iC sF) (a := k * i) (l := yP f.length k i f) h.calm V8 (by rw [hPB, h.Pl]; omega)
 have hrm := h.rm
 rw [hPB, h.Pl, hpl, show iY S.seen + (k * i + IX f.length k i - f.length) = iY S.seen from by omega, if_neg (by omega)] at e0
 obtain ⟨P', hP'⟩ : ∃ P', P' = over P (k * i) (yP f.length k i f) := ⟨_, rfl⟩
 have hP'l : P'.length = f.length := by rw [hP', Jj, h.Pl, hpl]; omega
 rw [<- hP'] at e0 ⊢
 obtain ⟨S1, hS1⟩ : ∃ S1 : jZ, S1 = { S with under := S.under ++ [⟨0, iC sF, ⟨#[]⟩, k * i, yP f.length k i f⟩], seen := pR (iC sF) P' S.seen } := ⟨_, rfl⟩
 rw [<- hS1] at e0
 have c1 : Calm S1 := by rw [hS1]; exact ⟨h.calm.up, h.calm.left⟩
 have e1 := Lv c1
 obtain ⟨S2, hS2⟩ : ∃ S2 : jZ, S2 = { S1 with sure := S1.seen, under := [] } := ⟨_, rfl⟩
 rw [<- hS2] at e1
 have c2 : Calm S2 := by rw [hS2]; exact ⟨c1.up, c1.left⟩
 have s2 : S2.seen = pR (iC sF) P' S.seen := by rw [hS2, hS1]
 have r2 : S2.room = S.room := by rw [hS2, hS1]
 have g2L : jE (jH sF) S2.seen = some (nM cf recs) := by rw [s2, nF (Ne.symm VF), h.gL]
 have z2 : iY S2.seen = iY S.seen := by
  have := vP (iC sF) P' S.seen
  rw [h.gP, abL, h.Pl, hP'l] at this
  rw [s2]; omega
 have e2 := No cf (s := s) (k := 2) (v := i) c2 h.nm (recs := recs) (by rw [g2L] <;> rfl) h.log
 have hput : BI lf cf S s i (yP f.length k i f) = ((mK cf S s i (yP f.length k i f)).1, { (mK cf S s i (yP f.length k i f)).2.1 with err := (mK cf S s i (yP f.length k i f)).2.2, hv := (mK cf S s i (yP f.length k i f)).2.1.hv.set i ((mK cf S s i (yP f.length k i f)).2.2 == 0) }, (mK cf S s i (yP f.length k i f)).2.2) := by
  unfold BI
  rw [h.err, h.hvl, if_neg (by decide), if_neg (by omega), ZV, h.fin, hv, acZ, if_neg (by decide), h.man, P6 lf hi, if_neg (by decide)]
 have hpart : s.man.part = k := by rw [h.man] <;> rfl
 refine ⟨fun hr => ?_, fun hr => ?_⟩
 .rw [if_neg (by rw [z2, r2]; exact hr)] at e2
  obtain ⟨S3, hS3⟩ : ∃ S3 : jZ, S3 = { S2 with under := S2.under ++ [⟨0, jH sF, ⟨#[]⟩, 13 * recs.length, tJ cf 2 i⟩], seen := pR (jH sF) (nM cf (recs ++ [(2, i)])) S2.seen } := ⟨_, rfl⟩
  rw [<- hS3] at e2
  have c3 : Calm S3 := by rw [hS3]; exact ⟨c2.up, c2.left⟩
  have e3 := Lv c3
  have hch : mK cf S s i (yP f.length k i f) = ({ S3 with sure := S3.seen, under := [] }, { s with log := s.log + 13 }, 0) := by
   unfold mK
   simp only [hpart, h.nm, e0, ne_eq, not_true_eq_false, if_false, e1, e2, e3]
  rw [hch] at hput
  have s3 : S3.seen = pR (jH sF) (nM cf (recs ++ [(2, i)])) (pR (iC sF) P' S.seen) := by rw [hS3, s2]
  have hset : ∀ j, (s.hv.set i true).getD j false = if j = i then true else s.hv.getD j false := fun j => by
   rw [Z5, List.getElem?_set]
   by_cases hj : i = j
   .rw [if_pos hj, if_pos hj.symm, if_pos (by have := h.hvl; omega)] <;> rfl
   .rw [if_neg hj, if_neg (fun e => hj e.symm), <- Z5]
  refine ⟨_, _, hput, ⟨⟨c3.up, c3.left⟩, h.nm, h.man, rfl, h.fin, ?_, ?_, ?_, ?_, ?_, hP'l, ?_, ?_, ?_, ?_, ?_, ?_, ?_, rfl, ?_⟩, ?_, rfl, rfl⟩
  .show (s.hv.set i true).length = _
   rw [acL]; exact h.hvl
  .show s.log + 13 = _
   rw [h.log, Z1]; simp; omega
  .show jE sF S3.seen = F0
   rw [s3, nF XY, nF WR]; exact h.gF
  .show jE (iC sF) S3.seen = _
   rw [s3, nF VF, BA]
  .show jE (jH sF) S3.seen = _
   rw [s3, BA]
  .intro r hr
   rcases abN.1 hr with hr | hr
   .exact h.ok r hr
   .rw [adC] at hr
    subst hr
    have := Lq (L := f.length) hk
    exact ⟨.inr rfl, by show i < _; omega⟩
  .intro j hj hjv
   have hjv : (s.hv.set i true).getD j false = true := hjv
   rw [hset] at hjv
   by_cases hji : j = i
   .rw [hji, hP']
    exact Pf h.Pl rfl hki
   .rw [if_neg hji] at hjv
    rw [hP', NX h.Pl rfl hki hji]
    exact h.part j hj hjv
  .intro j hj
   show (s.hv.set i true).getD j false = true ↔ _
   rw [hset, abN, adC]
   by_cases hji : j = i
   .rw [if_pos hji, hji]; exact ⟨fun _ => .inr rfl, fun _ => rfl⟩
   .rw [if_neg hji, h.told j hj]
    exact ⟨.inl, fun hh => hh.elim id fun e => absurd (congrArg Prod.snd e) hji⟩
  .show _ = 1 + (s.hv.set i true).count true
   have hlt : i < s.hv.length := by rw [h.hvl]; exact hi
   have hvi : s.hv[i] = false := by
    rw [Z5, Z0 hlt] at hv; exact hv
   rw [List.count_set hlt, hvi, Z1, h.cnt]
   simp; omega
  .have h1 := vP (jH sF) (nM cf (recs ++ [(2, i)])) S2.seen
   rw [g2L, abL, mT, mT, z2, h.sz, Z1] at h1
   show iY S3.seen = _
   rw [s3, <- s2, Z1]
   simp only [acG] at h1 ⊢
   omega
  .have h1 := vP (jH sF) (nM cf (recs ++ [(2, i)])) S2.seen
   rw [g2L, abL, mT, mT, z2, Z1] at h1
   show (iY S3.seen : Int) <= S3.room
   have r3 : S3.room = S.room := by rw [hS3]; exact r2
   rw [s3, <- s2, r3]
   simp only [acG] at h1
   omega
  .show (S3.seen.map (·.1)).Nodup
   rw [s3]; exact Dz (Dz h.nd)
  .show 0 <= S3.room /\ S3.room <= 16777216
   rw [hS3]
   show 0 <= S2.room /\ S2.room <= 16777216
   rw [r2]; exact h.rb
  .show S3.room = S.room
   rw [hS3]; exact r2
 .rw [if_pos (by rw [z2, r2]; exact hr)] at e2
  have hch : mK cf S s i (yP f.length k i f) = (S2, s, 22) := by
   unfold mK
   simp only [hpart, h.nm, e0, ne_eq, not_true_eq_false, if_false, e1, e2]
   rfl
  rw [hch] at hput
  refine ⟨_, _, hput, rfl, c2, ?_⟩
  show jE sF S2.seen = F0
  rw [s2, nF WR]; exact h.gF
theorem Oh {f : List UInt8} {k : Nat} {F0 : Option (List UInt8)} {recs : List (Nat × Nat)} {P : List UInt8} {S : jZ} {s : nS} (h : Ro lf cf f k F0 recs P S s) (hk : 0 < k) (ha : ∀ i, i < mM f.length k -> s.hv.getD i false = true) :
 ∃ S' s', lZ lf S s = (S', s', 0) /\ s'.fin = true /\ s'.err = 0 /\ s'.epoch = s.epoch /\ s'.nm = sF /\ s'.man = s.man /\ Calm S' /\ S'.room = S.room /\ jE sF S'.seen = some f /\ jE (jH sF) S'.seen = some (nM cf recs) /\ jE (iC sF) S'.seen = none /\ iY S'.seen <= iY S.seen /\ S'.under = [] /\ s'.hv.length = mM f.length k /\ s'.log = s.log := by
 have hPf : P = f := T2 hk h.Pl rfl fun i hi => h.part i hi (ha i hi)
 subst hPf
 have hall : CR s.hv = true := OK.2 fun i hi => ha i (by rw [<- h.hvl]; exact hi)
 have hw := LZ lf (f := P) hk
 have e1 : Ng S (iC sF) sF = ({ S with under := S.under ++ [⟨1, iC sF, sF, 0, []⟩], seen := pR sF P (CS (iC sF) S.seen) }, 0) := by
  have e0 : Ng S (iC sF) sF = AZ S ⟨1, iC sF, sF, 0, []⟩ := by
   unfold Ng
   rw [if_neg (by rw [h.calm.up]; decide), if_neg (by rw [V8, YI]; decide), if_neg (by rw [h.gP]; simp)]
  have e1 : NU ⟨1, iC sF, sF, 0, []⟩ S.seen = pR sF P (CS (iC sF) S.seen) := by
   unfold NU
   rw [if_neg (show ¬ (1 : Nat) = 0 by decide), if_pos (show (1 : Nat) = 1 from rfl)]
   simp only [h.gP]
  rw [e0, Ql h.calm, e1]
 obtain ⟨S1, hS1⟩ : ∃ S1 : jZ, S1 = { S with under := S.under ++ [⟨1, iC sF, sF, 0, []⟩], seen := pR sF P (CS (iC sF) S.seen) } := ⟨_, rfl⟩
 rw [<- hS1] at e1
 have c1 : Calm S1 := by rw [hS1]; exact ⟨h.calm.up, h.calm.left⟩
 have hc : lZ lf S s = ({ S1 with sure := S1.seen, under := [] }, { s with hv := jC lf s.man P, err := 0, fin := (0 : Int) == 0 }, 0) := by
  unfold lZ
  rw [h.err, if_neg (by decide), h.fin, if_neg (by decide), hall, if_neg (by decide), h.calm.up, if_neg (by decide), h.nm, h.gP]
  simp only [h.man, hw, if_neg (show ¬ true = false by decide), e1, ne_eq, not_true_eq_false, if_false, Lv c1]
 have hd : ∀ j, jE j (CS (iC sF) S.seen) = if j = iC sF then none else jE j S.seen := fun j => RB h.nd
 have s1 : S1.seen = pR sF P (CS (iC sF) S.seen) := by rw [hS1]
 have hz1 := vP sF P (CS (iC sF) S.seen)
 have hz2 := FJ (iC sF) S.seen
 rw [h.gP, abL] at hz2
 refine ⟨_, _, hc, rfl, rfl, rfl, h.nm, rfl, ⟨c1.up, c1.left⟩, ?_, ?_, ?_, ?_, ?_, rfl, ?_, rfl⟩
 .show S1.room = S.room
  rw [hS1]
 .show jE sF S1.seen = _
  rw [s1, BA]
 .show jE (jH sF) S1.seen = _
  rw [s1, nF (Ne.symm XY), hd, if_neg (Ne.symm VF), h.gL]
 .show jE (iC sF) S1.seen = _
  rw [s1, nF (Ne.symm WR), hd, if_pos rfl]
 .show iY S1.seen <= _
  rw [s1]; omega
 .show (jC lf s.man P).length = _
  rw [OM, h.man, EG]
end
section
variable (lf : List UInt8 -> List UInt8) (cf : List UInt8 -> Nat)
theorem Mq {S : jZ} (h : Calm S) (n : ByteArray) : iX S n = ((jE n S.seen).getD [], (jE n S.seen).isSome, 0) := by
 unfold iX
 rw [h.up, if_neg (by decide)]
 cases jE n S.seen <;> rfl
def NK (f : List UInt8) (k : Nat) (S : jZ) : Bool := (jE sF S.seen).isSome && ((jE sF S.seen).getD []).length == f.length && CR (jC lf (kZ lf f k) ((jE sF S.seen).getD []))
def NB (recs : List (Nat × Nat)) (S : jZ) : jZ := { S with under := S.under ++ [⟨0, jH sF, ⟨#[]⟩, 13 * recs.length, tJ cf 1 (kB 1 recs + 1)⟩], seen := pR (jH sF) (nM cf (recs ++ [(1, kB 1 recs + 1)])) S.seen }
def Xb (f : List UInt8) (k : Nat) (recs : List (Nat × Nat)) (S : jZ) : nS := ⟨sF, kZ lf f k, kB 1 recs + 1, jC lf (kZ lf f k) ((jE sF S.seen).getD []), 13 * recs.length + 13, NK lf f k S, 0⟩
variable {lf cf}
theorem RL {f : List UInt8} {k : Nat} {S : jZ} {recs : List (Nat × Nat)} (h : Calm S) (hL : (jE (jH sF) S.seen).getD [] = nM cf recs) (ok : ∀ r ∈ recs, UI r) (hlast : kB 1 recs < 18446744073709551615) :
 (S.room < ((iY S.seen + 13 : Nat) : Int) -> C7 lf cf S sF (kZ lf f k) = (S, none, 22)) /\
 (¬ S.room < ((iY S.seen + 13 : Nat) : Int) -> C7 lf cf S sF (kZ lf f k) =
   if NK lf f k S then ({ NB cf recs S with sure := (NB cf recs S).seen, under := [] }, some (Xb lf f k recs S), 0)
   else
    let q := jS (NB cf recs S) (Xb lf f k recs S)
    if q.2.2 ≠ 0 then (q.1, none, q.2.2) else
    let y := Ew q.1
    if y.2 ≠ 0 then (y.1, none, y.2) else (y.1, some { Xb lf f k recs S with hv := rW recs (jC lf (kZ lf f k) q.2.1) (kZ lf f k).leaves.length }, 0)) := by
 have e2 := No cf (s := ⟨sF, kZ lf f k, kB 1 recs + 1, jC lf (kZ lf f k) ((jE sF S.seen).getD []), 13 * recs.length, NK lf f k S, 0⟩) (k := 1) (v := kB 1 recs + 1) h rfl hL rfl
 have hled : mO cf (nM cf recs) = recs := UW cf ok
 have hfin : ((jE sF S.seen).isSome && ((jE sF S.seen).getD []).length == (kZ lf f k).size && CR (jC lf (kZ lf f k) ((jE sF S.seen).getD []))) = NK lf f k S := rfl
 refine ⟨fun hr => ?_, fun hr => ?_⟩
 .rw [if_pos hr] at e2
  unfold C7
  simp only [Mq h, hL, hled, hfin, ne_eq, not_true_eq_false, if_false, if_neg (acP hlast), e2]
  rfl
 .rw [if_neg hr] at e2
  have c1 : Calm (NB cf recs S) := ⟨h.up, h.left⟩
  have e3 := Lv c1
  unfold C7
  simp only [Mq h, hL, hled, hfin, ne_eq, not_true_eq_false, if_false, if_neg (acP hlast), e2]
  have : ({ room := S.room, sure := S.sure, seen := pR (jH sF) (nM cf (recs ++ [(1, kB 1 recs + 1)])) S.seen, under := S.under ++ [⟨0, jH sF, ⟨#[]⟩, 13 * recs.length, tJ cf 1 (kB 1 recs + 1)⟩], left := S.left, down := S.down } : jZ) = NB cf recs S := rfl
  rw [this]
  cases hf : NK lf f k S with
  | true =>
    simp only [if_true, e3, not_true_eq_false, if_false]
    unfold Xb
    rw [hf]
  | false =>
    simp only [ZS, if_false]
    unfold Xb
    rw [hf]
theorem NV {recs : List (Nat × Nat)} {S : jZ} : jE (iC sF) (NB cf recs S).seen = jE (iC sF) S.seen := nF VF
theorem OC {recs : List (Nat × Nat)} {S : jZ} (hL : (jE (jH sF) S.seen).getD [] = nM cf recs) : iY (NB cf recs S).seen = iY S.seen + 13 := by
 have h1 := vP (jH sF) (nM cf (recs ++ [(1, kB 1 recs + 1)])) S.seen
 rw [hL, mT, mT, Z1] at h1
 show iY (pR _ _ _) = _
 simp only [acG] at h1
 omega
theorem Ui {f : List UInt8} {k : Nat} {S : jZ} {recs : List (Nat × Nat)} (h : Calm S) (hL : (jE (jH sF) S.seen).getD [] = nM cf recs) (ok : ∀ r ∈ recs, UI r) (hlast : kB 1 recs < 18446744073709551615)
 (hr : ¬ S.room < ((iY S.seen + 13 : Nat) : Int)) (hf : NK lf f k S = false) (hP : jE (iC sF) S.seen = none) :
 (S.room < ((iY S.seen + 13 + f.length : Nat) : Int) -> C7 lf cf S sF (kZ lf f k) = (NB cf recs S, none, 22)) /\
 (¬ S.room < ((iY S.seen + 13 + f.length : Nat) : Int) -> ∃ S', C7 lf cf S sF (kZ lf f k) = ({ S' with sure := S'.seen, under := [] }, some { Xb lf f k recs S with hv := rW recs (jC lf (kZ lf f k) []) (mM f.length k) }, 0) /\
   S' = ({ NB cf recs S with under := (NB cf recs S).under ++ [⟨0, iC sF, ⟨#[]⟩, 0, List.replicate f.length 0⟩], seen := pR (iC sF) (List.replicate f.length 0) (NB cf recs S).seen } : jZ)) := by
 have c1 : Calm (NB cf recs S) := ⟨h.up, h.left⟩
 have e : iC (Xb lf f k recs S).nm = iC sF := rfl
 have e2 : (Xb lf f k recs S).man.size = f.length := rfl
 have hsb : uW (NB cf recs S) (iC sF) = [] := by unfold uW; rw [NV, hP] <;> rfl
 have hw := QJ (k := iC sF) (a := 0) (l := List.replicate f.length 0) c1 V8 (by omega)
 rw [hsb, OC hL, aaJ, Vp] at hw
 have hrm : (NB cf recs S).room = S.room := rfl
 have hz : iY S.seen + 13 + (0 + f.length - ([] : List UInt8).length) = iY S.seen + 13 + f.length := by simp
 rw [hrm, hz] at hw
 have hw0 : IW (NB cf recs S) (iC sF) ((([] : List UInt8).length : Nat) : Int) (List.replicate (f.length - ([] : List UInt8).length) 0) = IW (NB cf recs S) (iC sF) ((0 : Nat) : Int) (List.replicate f.length 0) := rfl
 have hq : jS (NB cf recs S) (Xb lf f k recs S) = ((IW (NB cf recs S) (iC sF) ((0 : Nat) : Int) (List.replicate f.length 0)).1, [], (IW (NB cf recs S) (iC sF) ((0 : Nat) : Int) (List.replicate f.length 0)).2) := by
  unfold jS
  simp only [e, e2, Mq c1, NV, hP, adK, Option.isSome_none, ne_eq, not_true_eq_false, if_false, hw0, if_neg (show ¬ f.length < ([] : List UInt8).length by simp), or_true, if_true]
 rw [(RL h hL ok hlast).2 hr, hf]
 refine ⟨fun hr2 => ?_, fun hr2 => ?_⟩
 .rw [if_pos hr2] at hw
  rw [hw] at hq
  simp only [ZS, if_false, hq]
  rfl
 .rw [if_neg hr2] at hw
  rw [hw] at hq
  refine ⟨_, ?_, rfl⟩
  have c2 : Calm ({ NB cf recs S with room := S.room, under := (NB cf recs S).under ++ [⟨0, iC sF, ⟨#[]⟩, 0, List.replicate f.length 0⟩], seen := pR (iC sF) (List.replicate f.length 0) (NB cf recs S).seen } : jZ) := ⟨h.up, h.left⟩
  simp only [ZS, if_false, hq, ne_eq, not_true_eq_false, Lv c2, EG]
  rfl
end
end Go.Proofs.YteelnmpbnaohpaaDoor
namespace Go.Proofs.YteelnmpbnaohpaaDoor
open Go Go.En Go.Pu
set_option maxRecDepth 4000
def R3 (f : List UInt8) (k i : Nat) : List (List UInt8) := (List.range i).map fun j => hU (yP f.length k j f)
theorem T0 (f : List UInt8) (k i : Nat) : R3 f k (i + 1) = R3 f k i ++ [hU (yP f.length k i f)] := by simp [R3, adS]
theorem Vs (f : List UInt8) (k i : Nat) : (R3 f k i).length = i := by simp [R3]
theorem Vm (f : List UInt8) (k : Nat) : (kZ hU f k).leaves = R3 f k (mM f.length k) := rfl
theorem Tc {f : List UInt8} {k : Nat} (hk : 1 <= k /\ k <= 65536) (hf : f.length <= 1000) : Tx (kZ hU f k) := by
 have := Lq (L := f.length) (show 0 < k by omega)
 refine ⟨by show f.length <= _; omega, hk, EG hU f k, by show mM f.length k <= _; omega, fun x hx => ?_⟩
 obtain ⟨j, -, rfl⟩ := aaY.1 hx
 exact zP _
theorem Vz {h : List UInt8} (hl : h.length = 32) : Go.Instr.fill (fun j => some (j * 32, 32)) ((Array.range (1 * 32)).map ((Tryd.t49.zero.get!).cells[· % (Tryd.t49.zero.get!).cells.size]!)) [(0, .agg (h.map oY).toArray)] = some (h.map oY).toArray :=
 match h, hl with
 | [a0, a1, a2, a3, a4, a5, a6, a7, a8, a9, a10, a11, a12, a13, a14, a15, a16, a17, a18, a19, a20, a21, a22, a23, a24, a25, a26, a27, a28, a29, a30, a31], _ => by kernel_rfl
theorem Ol {f : List UInt8} {bv : adW} {k : Nat} {w : adV} (hg : rD w) (hb : Bs w bv f) (hf : f.length <= 1000) (hk : 1 <= k /\ k <= 65536) :
 gU pg BG #[bv, .int .i64 (k : Nat)] w (fun r w' => ∃ lv, r = .tuple #[.agg (Ns (kZ hU f k) lv).toArray, .int .i64 0] /\ zH w' w.heap.size 32 lv (kZ hU f k).leaves.length (U4 (kZ hU f k).leaves) /\ gX w w' jK) := by
 refine Oq ?_
 obtain ⟨RR, hRR⟩ : ∃ RR : adW -> adV -> Prop, RR = fun r w' => ∃ lv, r = .tuple #[.agg (Ns (kZ hU f k) lv).toArray, .int .i64 0] /\ zH w' w.heap.size 32 lv (kZ hU f k).leaves.length (U4 (kZ hU f k).leaves) /\ gX w w' jK := ⟨_, rfl⟩
 rw [<- hRR]
 obtain ⟨g0, g1⟩ := hg.lt
 have hcn := Lq (L := f.length) (show 0 < k by omega)
 unfold Qf Hb G9
 obtain ⟨ba, bc, rfl, hbc⟩ := hb.len
 rw [ZZ] at hb hbc ⊢
 refine rP fun w1 o1 x1 s1 => ?_
 have e1 : IntKind.u64.wrap ((f.length : Nat) : Int) = ((f.length : Nat) : Int) := fJ (by omega) (by omega)
 have e2 : IntKind.u32.wrap ((k : Nat) : Int) = ((k : Nat) : Int) := fN (by omega) (by omega)
 have n1 : ((0 : Int) != 0) = false := rfl
 simp (disch := omega) only [eY, gN, dX, stepR_skip, fP, fZ, fO, gK, gE, gC, gR, gA, eU, fV, fT, gG, fS, fM, fU, fR, fX, gH, fY, fQ, fC, gB, gI, fL, iS, iQ, iO, iR, iM, iN, iP, iU, iT, eP, Result.ok.injEq, Next.value.injEq, true_and, and_true, fK, fJ, gJ, fN, gD, gS, ZV, fE, fH, fF, fD, eZ, eX, fB, eT, eQ, eH, if_true, if_false, ZS, ZY, ZT, ZU, ZX, ZW, ZR, ZQ, eA, dV, aB, dI, dE, cJ, eB, eS, eE, dK, eD, fA, dQ, eN, bQ, dG, bJ, dL, aI, aH, eL, aV, bZ, eI, aF, eJ, dF, aR, bF, eF, bH, bE, bB, aO, aL, cD, fG, dY, cA, cI, dA, cH, dT, bC, eK, bX, dH, bP, aU, bU, aC, bY, bO, cF, bW, aY, bA, aX, bV, dM, cU, bR, aZ, aK, aJ, bG, aE, dC, dW, aN, aM, aT, aD, cY, aG, cL, bT, bD, aP, cM, cG, aA, dN, cQ, cV, cC, dO, cB, dJ, dU, cP, eC, eM, bN, aS, dZ, bS, aQ, bL, dS, dB, cO, cS, cN, bK, bM, cX, dR, cR, dD, cZ, e1]
 refine (QS (by omega) hk.1 hk.2).mono ?_
 rintro r w2 ⟨rfl, hw⟩
 rw [hw]; clear hw w2
 rw [if_neg (by omega)]
 simp (disch := omega) only [eY, gN, dX, stepR_skip, fP, fZ, fO, gK, gE, gC, gR, gA, eU, fV, fT, gG, fS, fM, fU, fR, fX, gH, fY, fQ, fC, gB, gI, fL, iS, iQ, iO, iR, iM, iN, iP, iU, iT, eP, Result.ok.injEq, Next.value.injEq, true_and, and_true, fK, fJ, gJ, fN, gD, gS, ZV, fE, fH, fF, fD, eZ, eX, fB, eT, eQ, eH, if_true, if_false, ZS, ZY, ZT, ZU, ZX, ZW, ZR, ZQ, eA, dV, aB, dI, dE, cJ, eB, eS, eE, dK, eD, fA, dQ, eN, bQ, dG, bJ, dL, aI, aH, eL, aV, bZ, eI, aF, eJ, dF, aR, bF, eF, bH, bE, bB, aO, aL, cD, fG, dY, cA, cI, dA, cH, dT, bC, eK, bX, dH, bP, aU, bU, aC, bY, bO, cF, bW, aY, bA, aX, bV, dM, cU, bR, aZ, aK, aJ, bG, aE, dC, dW, aN, aM, aT, aD, cY, aG, cL, bT, bD, aP, cM, cG, aA, dN, cQ, cV, cC, dO, cB, dJ, dU, cP, eC, eM, bN, aS, dZ, bS, aQ, bL, dS, dB, cO, cS, cN, bK, bM, cX, dR, cR, dD, cZ, n1, e1, e2]
 refine rP fun w2 o2 x2 s2 => ?_
 obtain ⟨p, hp⟩ : ∃ p, p = w.heap.size := ⟨_, rfl⟩
 obtain ⟨q, hq⟩ : ∃ q, q = w1.heap.size := ⟨_, rfl⟩
 rw [<- hp] at o1 ⊢
 rw [<- hq] at o2 ⊢
 refine qE o2 rfl (by simp [one]) (by simp) fun w3 o3 x3 s3 => ?_
 have o3 : jG w3 q [.int .u64 (f.length : Nat), .int .u32 (k : Nat), .slice none 0 0] := o3
 have o13 := (o1.ext x2 (fun h => h)).ext x3 (show ¬ p = q by omega)
 have x03 : gX w w3 jK := (x1.seq x2).trans x3 fun y hy h => by omega
 have z3 : w3.heap.size = q + 1 := by omega
 unfold Hf Hm Ho G8 G4
 simp (disch := omega) only [eY, gN, dX, stepR_skip, fP, fZ, fO, gK, gE, gC, gR, gA, eU, fV, fT, gG, fS, fM, fU, fR, fX, gH, fY, fQ, fC, gB, gI, fL, iS, iQ, iO, iR, iM, iN, iP, iU, iT, eP, Result.ok.injEq, Next.value.injEq, true_and, and_true, fK, fJ, gJ, fN, gD, gS, ZV, fE, fH, fF, fD, eZ, eX, fB, eT, eQ, eH, if_true, if_false, ZS, ZY, ZT, ZU, ZX, ZW, ZR, ZQ, eA, dV, aB, dI, dE, cJ, eB, eS, eE, dK, eD, fA, dQ, eN, bQ, dG, bJ, dL, aI, aH, eL, aV, bZ, eI, aF, eJ, dF, aR, bF, eF, bH, bE, bB, aO, aL, cD, fG, dY, cA, cI, dA, cH, dT, bC, eK, bX, dH, bP, aU, bU, aC, bY, bO, cF, bW, aY, bA, aX, bV, dM, cU, bR, aZ, aK, aJ, bG, aE, dC, dW, aN, aM, aT, aD, cY, aG, cL, bT, bD, aP, cM, cG, aA, dN, cQ, cV, cC, dO, cB, dJ, dU, cP, eC, eM, bN, aS, dZ, bS, aQ, bL, dS, dB, cO, cS, cN, bK, bM, cX, dR, cR, dD, cZ]
 refine jW.rule (fun m (t : adW) w' => ∃ (i : Nat) (lv : adW), m = mM f.length k - i /\ i <= mM f.length k /\ t = .int .i64 (i : Nat) /\ jG w' q [.int .u64 (f.length : Nat), .int .u32 (k : Nat), lv] /\ zH w' (q + 1) 32 lv i (U4 (R3 f k i)) /\ gX w3 w' (fun y => y = q ∨ q < y)) (mM f.length k)
  ⟨0, _, rfl, by omega, rfl, o3, zH.nil _ _ _, gX.refl _ _⟩ ?_
 clear o3
 rintro m t w4 ⟨i, lv, rfl, hi, rfl, o4, hs, x4⟩
 unfold CO
 have x04 : gX w w4 jK := x03.trans x4 fun y hy h => by omega
 have z4 := x4.size
 by_cases hlt : i < mM f.length k
 .have d1 : decide ((i : Int) < ((mM f.length k : Nat) : Int)) = true := by simp; omega
  have c0 := o4.cell (off := 0)
  simp only [ZQ] at c0
  simp (disch := omega) only [eY, gN, dX, stepR_skip, fP, fZ, fO, gK, gE, gC, gR, gA, eU, fV, fT, gG, fS, fM, fU, fR, fX, gH, fY, fQ, fC, gB, gI, fL, iS, iQ, iO, iR, iM, iN, iP, iU, iT, eP, Result.ok.injEq, Next.value.injEq, true_and, and_true, fK, fJ, gJ, fN, gD, gS, ZV, fE, fH, fF, fD, eZ, eX, fB, eT, eQ, eH, if_true, if_false, ZS, ZY, ZT, ZU, ZX, ZW, ZR, ZQ, eA, dV, aB, dI, dE, cJ, eB, eS, eE, dK, eD, fA, dQ, eN, bQ, dG, bJ, dL, aI, aH, eL, aV, bZ, eI, aF, eJ, dF, aR, bF, eF, bH, bE, bB, aO, aL, cD, fG, dY, cA, cI, dA, cH, dT, bC, eK, bX, dH, bP, aU, bU, aC, bY, bO, cF, bW, aY, bA, aX, bV, dM, cU, bR, aZ, aK, aJ, bG, aE, dC, dW, aN, aM, aT, aD, cY, aG, cL, bT, bD, aP, cM, cG, aA, dN, cQ, cV, cC, dO, cB, dJ, dU, cP, eC, eM, bN, aS, dZ, bS, aQ, bL, dS, dB, cO, cS, cN, bK, bM, cX, dR, cR, dD, cZ, d1, c0]
  refine (OQ (by omega) hk.1 hk.2 (by omega) hlt).mono ?_
  rintro r w5 ⟨rfl, hw⟩
  rw [hw]; clear hw w5
  have hki := (Au (show 0 < k by omega)).1 hlt
  have hse := EM hki
  obtain ⟨P, hP⟩ : ∃ P, P = k * i := ⟨_, rfl⟩
  obtain ⟨N, hN⟩ : ∃ N, N = IX f.length k i := ⟨_, rfl⟩
  rw [<- hP, <- hN] at hse ⊢
  have e3 : IntKind.u64.wrap ((N : Nat) : Int) = ((N : Nat) : Int) := fJ (by omega) (by omega)
  have e4 : (P : Int) + (N : Int) = ((P + N : Nat) : Int) := by omega
  have od := kJ o4
  have c2 := od.cell (off := 2)
  simp only [ZQ, ZR] at c2
  have x04d : gX w (dr w4) jK := x04.seq (gX.dr _ _)
  simp (disch := omega) only [eY, gN, dX, stepR_skip, fP, fZ, fO, gK, gE, gC, gR, gA, eU, fV, fT, gG, fS, fM, fU, fR, fX, gH, fY, fQ, fC, gB, gI, fL, iS, iQ, iO, iR, iM, iN, iP, iU, iT, eP, Result.ok.injEq, Next.value.injEq, true_and, and_true, fK, fJ, gJ, fN, gD, gS, ZV, fE, fH, fF, fD, eZ, eX, fB, eT, eQ, eH, if_true, if_false, ZS, ZY, ZT, ZU, ZX, ZW, ZR, ZQ, eA, dV, aB, dI, dE, cJ, eB, eS, eE, dK, eD, fA, dQ, eN, bQ, dG, bJ, dL, aI, aH, eL, aV, bZ, eI, aF, eJ, dF, aR, bF, eF, bH, bE, bB, aO, aL, cD, fG, dY, cA, cI, dA, cH, dT, bC, eK, bX, dH, bP, aU, bU, aC, bY, bO, cF, bW, aY, bA, aX, bV, dM, cU, bR, aZ, aK, aJ, bG, aE, dC, dW, aN, aM, aT, aD, cY, aG, cL, bT, bD, aP, cM, cG, aA, dN, cQ, cV, cC, dO, cB, dJ, dU, cP, eC, eM, bN, aS, dZ, bS, aQ, bL, dS, dB, cO, cS, cN, bK, bM, cX, dR, cR, dD, cZ, n1, c2, e3, e4]
  have hbd : Bs (dr w4) (.slice (jO ba bc P 1) (P + N - P) (bc - P)) (yP f.length k i f) := by
   have := Sl.mid (hb.ext x04d (jJ _)) (i := P) (j := P + N) (by omega) (by omega)
   rw [<- acH, <- acX, abK] at this
   rw [abK]
   unfold yP
   rw [<- hP, <- hN]
   exact this
  refine (VE (hg.ext x04d) hbd (by have := Ks f.length k i f; omega)).mono ?_
  rintro r w5 ⟨rfl, x5⟩
  have o5 := od.ext x5 (fun h => h)
  have c5 := o5.cell (off := 2)
  simp only [ZQ, ZR] at c5
  have hll : (hU (yP f.length k i f)).length = 32 := zP _
  simp (disch := omega) only [eY, gN, dX, stepR_skip, fP, fZ, fO, gK, gE, gC, gR, gA, eU, fV, fT, gG, fS, fM, fU, fR, fX, gH, fY, fQ, fC, gB, gI, fL, iS, iQ, iO, iR, iM, iN, iP, iU, iT, eP, Result.ok.injEq, Next.value.injEq, true_and, and_true, fK, fJ, gJ, fN, gD, gS, ZV, fE, fH, fF, fD, eZ, eX, fB, eT, eQ, eH, if_true, if_false, ZS, ZY, ZT, ZU, ZX, ZW, ZR, ZQ, eA, dV, aB, dI, dE, cJ, eB, eS, eE, dK, eD, fA, dQ, eN, bQ, dG, bJ, dL, aI, aH, eL, aV, bZ, eI, aF, eJ, dF, aR, bF, eF, bH, bE, bB, aO, aL, cD, fG, dY, cA, cI, dA, cH, dT, bC, eK, bX, dH, bP, aU, bU, aC, bY, bO, cF, bW, aY, bA, aX, bV, dM, cU, bR, aZ, aK, aJ, bG, aE, dC, dW, aN, aM, aT, aD, cY, aG, cL, bT, bD, aP, cM, cG, aA, dN, cQ, cV, cC, dO, cB, dJ, dU, cP, eC, eM, bN, aS, dZ, bS, aQ, bL, dS, dB, cO, cS, cN, bK, bM, cX, dR, cR, dD, cZ, c5]
  refine PA (cells := ((hU (yP f.length k i f)).map oY).toArray) (by decide) (by decide) ?_ fun w6 o6 x6 s6 => ?_
  .exact Vz hll
  rw [aaT] at o6
  have o65 := o5.ext x6 (fun h => h)
  have c6 := o65.cell (off := 2)
  simp only [ZQ, ZR] at c6
  simp (disch := omega) only [eY, gN, dX, stepR_skip, fP, fZ, fO, gK, gE, gC, gR, gA, eU, fV, fT, gG, fS, fM, fU, fR, fX, gH, fY, fQ, fC, gB, gI, fL, iS, iQ, iO, iR, iM, iN, iP, iU, iT, eP, Result.ok.injEq, Next.value.injEq, true_and, and_true, fK, fJ, gJ, fN, gD, gS, ZV, fE, fH, fF, fD, eZ, eX, fB, eT, eQ, eH, if_true, if_false, ZS, ZY, ZT, ZU, ZX, ZW, ZR, ZQ, eA, dV, aB, dI, dE, cJ, eB, eS, eE, dK, eD, fA, dQ, eN, bQ, dG, bJ, dL, aI, aH, eL, aV, bZ, eI, aF, eJ, dF, aR, bF, eF, bH, bE, bB, aO, aL, cD, fG, dY, cA, cI, dA, cH, dT, bC, eK, bX, dH, bP, aU, bU, aC, bY, bO, cF, bW, aY, bA, aX, bV, dM, cU, bR, aZ, aK, aJ, bG, aE, dC, dW, aN, aM, aT, aD, cY, aG, cL, bT, bD, aP, cM, cG, aA, dN, cQ, cV, cC, dO, cB, dJ, dU, cP, eC, eM, bN, aS, dZ, bS, aQ, bL, dS, dB, cO, cS, cN, bK, bM, cX, dR, cR, dD, cZ, c6]
  have z5 := x5.size
  have z6 := x6.size
  have zd : (dr w4).heap.size = w4.heap.size := rfl
  refine wT ((hs.ext ((gX.dr w4 jK).seq x5) (fun _ _ h => h)).ext x6 (fun _ _ h => h)) (o6.cl (off := 0) (n := 1) (by rw [ZZ, hll]) (fun j hj => by rw [ZY])) (Fx _) (by omega) (by omega) fun v7 w7 o7 x7 => ?_
  have o75 := o65.ext x7 (by omega)
  refine Kf o75 (by rcases o7.2 with ⟨rfl, _⟩ | ⟨_, _, _, rfl, _⟩ <;> rfl) (by simp) fun w8 o8 x8 s8 => ?_
  simp only [aaD, aaW] at o8
  have o78 := o7.ext x8 (fun b hb h => by omega)
  refine ⟨mM f.length k - (i + 1), by omega, i + 1, v7, rfl, by omega, rfl, o8, ?_, ?_⟩
  .rw [T0]
   show zH w8 (q + 1) 32 v7 (i + 1) (List.flatMap _ (R3 f k i ++ [hU (yP f.length k i f)]))
   rw [List.flatMap_append, List.flatMap_singleton]
   exact o78
  .refine (((x4.seq (gX.dr _ _)).seq (x5.mono fun _ _ h => h.elim)).seq (x6.mono fun _ _ h => h.elim)).seq (x7.mono fun y _ h => .inr (by omega)) |>.seq (x8.mono fun y _ h => .inl h)
 .have d1 : decide ((i : Int) < ((mM f.length k : Nat) : Int)) = false := by simp; omega
  obtain rfl : i = mM f.length k := by omega
  unfold CQ
  have lm := oD (off := 0) o4 (by simp)
  have lm : (fW 28 (.pointer (some ⟨q, 0, none⟩))).run pg w4 = .ok (.value (.agg #[.int .u64 (f.length : Nat), .int .u32 (k : Nat), lv])) w4 := lm
  simp (disch := omega) only [eY, gN, dX, stepR_skip, fP, fZ, fO, gK, gE, gC, gR, gA, eU, fV, fT, gG, fS, fM, fU, fR, fX, gH, fY, fQ, fC, gB, gI, fL, iS, iQ, iO, iR, iM, iN, iP, iU, iT, eP, Result.ok.injEq, Next.value.injEq, true_and, and_true, fK, fJ, gJ, fN, gD, gS, ZV, fE, fH, fF, fD, eZ, eX, fB, eT, eQ, eH, if_true, if_false, ZS, ZY, ZT, ZU, ZX, ZW, ZR, ZQ, eA, dV, aB, dI, dE, cJ, eB, eS, eE, dK, eD, fA, dQ, eN, bQ, dG, bJ, dL, aI, aH, eL, aV, bZ, eI, aF, eJ, dF, aR, bF, eF, bH, bE, bB, aO, aL, cD, fG, dY, cA, cI, dA, cH, dT, bC, eK, bX, dH, bP, aU, bU, aC, bY, bO, cF, bW, aY, bA, aX, bV, dM, cU, bR, aZ, aK, aJ, bG, aE, dC, dW, aN, aM, aT, aD, cY, aG, cL, bT, bD, aP, cM, cG, aA, dN, cQ, cV, cC, dO, cB, dJ, dU, cP, eC, eM, bN, aS, dZ, bS, aQ, bL, dS, dB, cO, cS, cN, bK, bM, cX, dR, cR, dD, cZ, d1, lm]
  have lv1 : one lv = true := by rcases hs.2 with ⟨rfl, _⟩ | ⟨_, _, _, rfl, _⟩ <;> rfl
  refine qE (o13.ext x4 (by omega)) rfl (by simp [one]; exact lv1) (by simp) fun w5 o5 x5 s5 => ?_
  refine JO o5 (by simp [mZ]) ?_
  rw [hRR]
  refine ⟨lv, rfl, ?_, x04.trans x5 fun y hy h => by omega⟩
  rw [Vm, Vs]
  have o' := hs.ext x5 (fun b hb h => by omega)
  refine ⟨o'.1, ?_⟩
  rcases o'.2 with h | ⟨b, c, rest, h1, h2, h3⟩
  .exact .inl h
  .exact .inr ⟨b, c, rest, h1, by omega, h3⟩
end Go.Proofs.YteelnmpbnaohpaaDoor
namespace Go.Proofs.YteelnmpbnaohpaaDoor
open Go Go.En Go.Pu
section
variable {lf : List UInt8 -> List UInt8} {cf : List UInt8 -> Nat}
theorem Ro.bk {f : List UInt8} {k : Nat} {F0 : Option (List UInt8)} {recs : List (Nat × Nat)} {P : List UInt8} {S : jZ} {s : nS} (h : Ro lf cf f k F0 recs P S s) {n : Nat} (hn : n <= 100) : Co n S := by
 have h1 := h.rm
 have h2 := h.rb
 refine ⟨⟨by rw [h.calm.left]; omega, by omega, by rw [h.un]; simp, h2⟩, by omega, by rw [h.un]; simp; omega⟩
theorem Ro.file {f : List UInt8} {k : Nat} {F0 : Option (List UInt8)} {recs : List (Nat × Nat)} {P : List UInt8} {S : jZ} {s : nS} (h : Ro lf cf f k F0 recs P S s) {n : ByteArray} {b : List UInt8} (hb : jE n S.seen = some b) (hs : iY S.seen <= 1000000) : b.length <= 1000000 := by
 have h1 := Br (k := n) (c := S.seen)
 rw [hb] at h1
 have h1 : b.length <= iY S.seen := h1
 omega
theorem LL (W : List Bool) (n i : Nat) : (rW [] W n).getD i false = false := by
 unfold rW
 rw [Z5, aaV]
 by_cases h : i < n
 .rw [List.getElem?_range h] <;> rfl
 .rw [aaZ (by simp; omega)] <;> rfl
theorem R7 {f : List UInt8} {k : Nat} {F0 : Option (List UInt8)} {S : jZ} (h : Calm S) (hk : 0 < k) (gL : jE (jH sF) S.seen = none) (gP : jE (iC sF) S.seen = none) (gF : jE sF S.seen = F0) (nd : (S.seen.map (·.1)).Nodup) (sz : iY S.seen = (F0.getD []).length)
 (rb : 0 <= S.room /\ S.room <= 16777216) (hf : NK lf f k S = false) (hr : ¬ S.room < ((iY S.seen + 13 + f.length : Nat) : Int)) :
 ∃ S' s', C7 lf cf S sF (kZ lf f k) = (S', some s', 0) /\ Ro lf cf f k F0 [(1, 1)] (List.replicate f.length 0) S' s' /\ S'.room = S.room /\ s'.epoch = 1 /\ ∀ i, s'.hv.getD i false = false := by
 have hL : (jE (jH sF) S.seen).getD [] = nM cf [] := by rw [gL] <;> rfl
 obtain ⟨S1, he, hS1⟩ := (Ui (f := f) (k := k) h hL (by simp) (by show (0 : Nat) < _; omega) (by omega) hf gP).2 hr
 have hsd := OC (S := S) hL
 have s1 : S1.seen = pR (iC sF) (List.replicate f.length 0) (NB cf [] S).seen := by rw [hS1]
 have sD : (NB cf [] S).seen = pR (jH sF) (nM cf [(1, 1)]) S.seen := rfl
 have r1 : S1.room = S.room := by rw [hS1] <;> rfl
 have hz := vP (iC sF) (List.replicate f.length (0 : UInt8)) (NB cf [] S).seen
 rw [NV, gP, adK, abO, aaJ, hsd] at hz
 refine ⟨_, _, he, ⟨⟨?_, ?_⟩, rfl, rfl, rfl, hf, ?_, rfl, ?_, ?_, ?_, ?_, ?_, ?_, ?_, ?_, ?_, ?_, ?_, rfl, ?_⟩, r1, rfl, fun i => ?_⟩
 .show S1.down = false
  rw [hS1]; exact h.up
 .show S1.left = -1
  rw [hS1]; exact h.left
 .show (rW [] _ _).length = _
  unfold rW; simp
 .show jE sF S1.seen = F0
  rw [s1, nF WR, sD, nF XY, gF]
 .show jE (iC sF) S1.seen = _
  rw [s1, BA]
 .show jE (jH sF) S1.seen = _
  rw [s1, nF (Ne.symm VF), sD, BA]
 .simp
 .intro r hr
  rw [adC] at hr
  subst hr
  exact ⟨.inl rfl, by show 1 < _; omega⟩
 .intro i hi hv
  have hv : (rW [] _ _).getD i false = true := hv
  rw [LL] at hv
  cases hv
 .intro i hi
  show (rW [] _ _).getD i false = true ↔ _
  rw [LL]
  constructor
  .intro h; cases h
  .intro h
   rw [adC] at h
   exact absurd (congrArg Prod.fst h) (show ¬ (2 : Nat) = 1 by decide)
 .show [((1 : Nat), (1 : Nat))].length = 1 + (rW [] _ _).count true
  have : (rW [] (jC lf (kZ lf f k) []) (mM f.length k)).count true = 0 := by
   rw [List.count_eq_zero]
   intro hm
   obtain ⟨i, hi, e⟩ := adA hm
   have := LL (jC lf (kZ lf f k) []) (mM f.length k) i
   rw [Z5, Z0 hi, e] at this
   cases this
  rw [this] <;> rfl
 .show iY S1.seen = _
  rw [s1]
  simp only [acG]
  omega
 .show (iY S1.seen : Int) <= S1.room
  rw [s1, r1]
  omega
 .show (S1.seen.map (·.1)).Nodup
  rw [s1, sD]; exact Dz (Dz nd)
 .show 0 <= S1.room /\ _
  rw [r1]; exact rb
 .exact LL _ _ i
end
end Go.Proofs.YteelnmpbnaohpaaDoor
namespace Go.Proofs.YteelnmpbnaohpaaDoor
open Go Go.En Go.Pu
set_option maxRecDepth 4000
def XL (w0 : adV) (N : Nat -> Prop) : Nat -> Prop := fun y => w0.heap.size <= y /\ ¬ N y
def Ep (w0 : adV) (N : Nat -> Prop) (w : adV) (p : Nat) (S : jZ) : Prop := ∃ X D, lY w p X D S /\ (∀ b, X b -> w0.heap.size <= b /\ ¬ N b) /\ gX w0 w jK /\ ∀ b, N b -> D b
def GS (w0 : adV) (N : Nat -> Prop) (w : adV) (q p : Nat) (S : jZ) (s : nS) : Prop := ∃ X D Y lv hv, jX w0.heap.size w q p X D Y S s lv hv /\ gX w0 w jK /\ ∀ b, N b -> D b /\ ¬ (X b ∨ Y b)
theorem GS.new {w0 : adV} {N : Nat -> Prop} {w w' : adV} {q p : Nat} {S : jZ} {s : nS} (h : GS w0 N w q p S s) (x : gX w w' jK) : GS w0 N w' q p S s := by
 obtain ⟨X, D, Y, lv, hv, h, x0, hN⟩ := h
 exact ⟨X, D, Y, lv, hv, h.new x, x0.seq x, hN⟩
theorem Ep.new {w0 : adV} {N : Nat -> Prop} {w w' : adV} {p : Nat} {S : jZ} (h : Ep w0 N w p S) (x : gX w w' jK) : Ep w0 N w' p S := by
 obtain ⟨X, D, h, hX, x0, hN⟩ := h
 exact ⟨X, D, h.new x, hX, x0.seq x, hN⟩
theorem GS.x {w0 : adV} {N : Nat -> Prop} {w : adV} {q p : Nat} {S : jZ} {s : nS} (h : GS w0 N w q p S s) : gX w0 w jK := by
 obtain ⟨_, _, _, _, _, _, x0, _⟩ := h; exact x0
theorem Ep.x {w0 : adV} {N : Nat -> Prop} {w : adV} {p : Nat} {S : jZ} (h : Ep w0 N w p S) : gX w0 w jK := by
 obtain ⟨_, _, _, _, x0, _⟩ := h; exact x0
theorem GS.lt {w0 : adV} {N : Nat -> Prop} {w : adV} {q p : Nat} {S : jZ} {s : nS} (h : GS w0 N w q p S s) : ∀ b, N b -> b < w.heap.size := by
 obtain ⟨X, D, Y, lv, hv, h, x0, hN⟩ := h
 exact fun b hb => lY.lt h.dsk b (hN b hb).1
theorem Ep.lt {w0 : adV} {N : Nat -> Prop} {w : adV} {p : Nat} {S : jZ} (h : Ep w0 N w p S) : ∀ b, N b -> b < w.heap.size := by
 obtain ⟨X, D, h, hX, x0, hN⟩ := h
 exact fun b hb => lY.lt h b (hN b hb)
theorem GS.add {w0 : adV} {N : Nat -> Prop} {w w' : adV} {q p b : Nat} {S : jZ} {s : nS} (h : GS w0 N w q p S s) (x : gX w w' jK) (hb : w.heap.size <= b) (hb' : b < w'.heap.size) : GS w0 (fun y => N y ∨ y = b) w' q p S s := by
 obtain ⟨X, D, Y, lv, hv, h, x0, hN⟩ := h
 have hlt := jX.lt h
 have h1 := h.new x
 have z := x.size
 refine ⟨X, fun y => D y ∨ y = b, Y, lv, hv, ⟨h1.glob, h1.g0, h1.lo, h1.hi, h.dsk.more x hb hb', h1.yq, fun y hy => ⟨.inl (h.yd y hy).1, (h.yd y hy).2⟩, h1.own, h1.man, h1.lv, h1.hv, h1.ep, h1.lg, h1.hl, h1.nl⟩, x0.seq x, fun y hy => ?_⟩
 rcases hy with hy | hy
 .exact ⟨.inl (hN y hy).1, (hN y hy).2⟩
 .exact ⟨.inr hy, fun hx => by have := hlt y hx; omega⟩
theorem Ep.add {w0 : adV} {N : Nat -> Prop} {w w' : adV} {p b : Nat} {S : jZ} (h : Ep w0 N w p S) (x : gX w w' jK) (hb : w.heap.size <= b) (hb' : b < w'.heap.size) : Ep w0 (fun y => N y ∨ y = b) w' p S := by
 obtain ⟨X, D, h, hX, x0, hN⟩ := h
 refine ⟨X, fun y => D y ∨ y = b, h.more x hb hb', fun y hy => ⟨(hX y hy).1, fun hn => hn.elim (hX y hy).2 fun e => ?_⟩, x0.seq x, fun y hy => hy.imp (hN y) id⟩
 have := lY.lt h y (lY.xd' h y hy)
 omega
theorem GS.turn {w0 : adV} {N : Nat -> Prop} {w w' : adV} {q p b : Nat} {S : jZ} {s : nS} {l : List Bool} (h : GS w0 N w q p S s) (o : jG w b (l.map Value.bool)) (hb : N b) (hb0 : w0.heap.size <= b) (x : gX w w' (fun y => y = b)) : GS w0 N w' q p S s := by
 obtain ⟨X, D, Y, lv, hv, h, x0, hN⟩ := h
 refine ⟨X, D, Y, lv, hv, h.ext x (fun y hy => ?_) (fun hi => ?_), x0.trans x fun y hy hm => by omega, hN⟩
 .subst hy
  exact ⟨(hN _ hb).1, fun hx => (hN _ hb).2 (.inl hx), fun hx => (hN _ hb).2 (.inr hx), hb0⟩
 .obtain ⟨a, c, hlv, hl, hh⟩ := h.lv.1
  subst hlv
  unfold wB at hi
  split at hi
  .rename_i e
   simp only [Value.slice.injEq] at e
   obtain ⟨rfl, e2, rfl⟩ := e
   obtain ⟨b', off, he, h2⟩ := hh (by omega)
   cases he
   have hi : b' = b := hi
   subst hi
   have h3 := h2 0 (by rw [hl]; omega)
   rw [o.cell] at h3
   have h4 : (U4 s.man.leaves)[0]? = (((s.man.leaves.getD 0 []).map oY))[0]? := Td (i := 0) (j := 0) h.man.len (by omega) (by omega)
   rw [h4, aaV, aaV] at h3
   have hm0 : (s.man.leaves.getD 0 []).length = 32 := h.man.len _ (by rw [Z5, Z0 (by omega)]; exact abX _)
   rw [Z0 (show 0 < (s.man.leaves.getD 0 []).length by omega)] at h3
   cases hq : l[off + 0]? with
   | none => rw [hq] at h3; cases h3
   | some z => rw [hq] at h3; simp [oY] at h3
  .exact hi
theorem Ep.post {w0 : adV} {N : Nat -> Prop} {w w' : adV} {p : Nat} {X D : Nat -> Prop} {S S' : jZ} (h : lY w p X D S) (hX : ∀ b, X b -> w0.heap.size <= b /\ ¬ N b) (x0 : gX w0 w jK) (hN : ∀ b, N b -> D b) (hp : BM w p X D S' w') : Ep w0 N w' p S' /\ gX w w' (XL w0 N) := by
 obtain ⟨X', D', h1, h2, h3, x⟩ := hp
 have z := x0.size
 refine ⟨⟨X', D', h1, fun b hb => ?_, x0.trans x fun y hy hm => by have := (hX y hm).1; omega, fun b hb => h3 b (hN b hb)⟩, x.mono fun b _ hb => hX b hb⟩
 rcases h2 b hb with h4 | h4
 .exact hX b h4
 .exact ⟨by omega, fun hn => by have := lY.lt h b (hN b hn); omega⟩
theorem GS.post {w0 : adV} {N : Nat -> Prop} {w w' : adV} {q p : Nat} {X D Y : Nat -> Prop} {S S' : jZ} {s s' : nS} {lv hv : adW} (h : jX w0.heap.size w q p X D Y S s lv hv) (x0 : gX w0 w jK) (hN : ∀ b, N b -> D b /\ ¬ (X b ∨ Y b)) (hp : iH w0.heap.size w q p X D Y S' s' w') : GS w0 N w' q p S' s' /\ gX w w' (XL w0 N) := by
 obtain ⟨X', D', Y', lv', hv', h', h1, h2, h3, x⟩ := hp
 have z := x0.size
 refine ⟨⟨X', D', Y', lv', hv', h', x0.trans x fun y hy hm => by have := h.lo y hm; omega, fun b hb => ⟨h2 b (hN b hb).1, fun hx => ?_⟩⟩, x.mono fun b _ hb => ⟨h.lo b hb, fun hn => (hN b hn).2 hb⟩⟩
 have hlt := lY.lt h.dsk b (hN b hb).1
 rcases hx with hx | hx
 .rcases h1 b hx with h | h
  .exact (hN b hb).2 (.inl h)
  .omega
 .rcases h3 b hx with h | h
  .exact (hN b hb).2 (.inr h)
  .omega
theorem TH {w0 : adV} {N : Nat -> Prop} {w w1 : adV} {q p : Nat} {S : jZ} {s : nS} {i : Int} {bv : adW} {b : List UInt8} (h : GS w0 N w q p S s) (x : gX w w1 jK) (hB : Co 2 S) (hlen : s.hv.length = s.man.leaves.length) (hb : Bs w1 bv b) (hbl : b.length <= 1000000)
 (hbn : ¬ wB bv (fun y => w0.heap.size <= y /\ y < w.heap.size)) (hlg : s.log + 13 <= 1000000000) (hi : -9223372036854775808 <= i /\ i <= 9223372036854775807) :
 gU pg jF #[dP q, .int .i64 i, bv] w1 (fun r w' => r = .int .i64 (BI hU iE S s i b).2.2 /\ GS w0 N w' q p (BI hU iE S s i b).1 (BI hU iE S s i b).2.1 /\ gX w1 w' (XL w0 N)) := by
 obtain ⟨X, D, Y, lv, hv, h, x0, hN⟩ := h
 have hlt := jX.lt h
 refine (Vj (h.new x) hB hlen hb hbl (fun hi => hbn (Aw hi fun y hy => ⟨h.lo y hy, hlt y hy⟩)) hlg hi).mono ?_
 rintro r w' ⟨rfl, hp⟩
 exact ⟨rfl, GS.post (h.new x) (x0.seq x) hN hp⟩
theorem Hv {w0 : adV} {N : Nat -> Prop} {w : adV} {q p : Nat} {S : jZ} {s : nS} (h : GS w0 N w q p S s) (hB : Co 2 S) (hbp : ∀ b, jE (iC s.nm) S.seen = some b -> b.length <= 1000000) :
 gU pg kL #[dP q] w (fun r w' => r = .int .i64 (lZ hU S s).2.2 /\ GS w0 N w' q p (lZ hU S s).1 (lZ hU S s).2.1 /\ gX w w' (XL w0 N)) := by
 obtain ⟨X, D, Y, lv, hv, h, x0, hN⟩ := h
 refine (VY h hB hbp).mono ?_
 rintro r w' ⟨rfl, hp⟩
 exact ⟨rfl, GS.post h x0 hN hp⟩
theorem Ux {w0 : adV} {N : Nat -> Prop} {w : adV} {p : Nat} {S : jZ} {n : ByteArray} (h : Ep w0 N w p S) (hB : Co 0 S) (hd : S.down = false) :
 gU pg lG #[dP p, .string n] w (fun r w' => ((jE n S.seen = none /\ r = .tuple #[.slice none 0 0, .int .i64 21]) ∨ ∃ b v, jE n S.seen = some b /\ r = .tuple #[v, .int .i64 0] /\ zH w' w.heap.size 1 v b.length (b.map oY)) /\ gX w w' jK) := by
 obtain ⟨X, D, h, hX, x0, hN⟩ := h
 refine (Qu h hB.bd (fun b hb => hB.file hb)).mono ?_
 rintro r w' ⟨hr, x⟩
 refine ⟨?_, x⟩
 rcases hr with ⟨h1, _⟩ | ⟨_, h2, h3⟩ | ⟨_, b, v, h2, h3, h4⟩
 .rw [hd] at h1; cases h1
 .exact .inl ⟨h2, h3⟩
 .exact .inr ⟨b, v, h2, h3, h4⟩
theorem GS.dses {w0 : adV} {N : Nat -> Prop} {w : adV} {q p : Nat} {S : jZ} {s : nS} (h : GS w0 N w q p S s) : Ep w0 N w p S := by
 obtain ⟨X, D, Y, lv, hv, h, x0, hN⟩ := h
 exact ⟨X, D, h.dsk, fun b hb => ⟨h.lo b (.inl hb), fun hn => (hN b hn).2 (.inl hb)⟩, x0, fun b hb => (hN b hb).1⟩
theorem RN {w0 : adV} {N : Nat -> Prop} {w : adV} {q p : Nat} {S : jZ} {s : nS} {n : ByteArray} (h : GS w0 N w q p S s) (hB : Co 0 S) (hd : S.down = false) :
 gU pg lG #[dP p, .string n] w (fun r w' => ((jE n S.seen = none /\ r = .tuple #[.slice none 0 0, .int .i64 21]) ∨ ∃ b v, jE n S.seen = some b /\ r = .tuple #[v, .int .i64 0] /\ zH w' w.heap.size 1 v b.length (b.map oY)) /\ GS w0 N w' q p S s /\ gX w w' jK) := by
 refine (Ux h.dses hB hd).mono ?_
 rintro r w' ⟨hr, x⟩
 exact ⟨hr, h.new x, x⟩
theorem R5 {w0 : adV} {N : Nat -> Prop} {w : adV} {q p : Nat} {S : jZ} {s : nS} (h : GS w0 N w q p S s) : gU pg lA #[dP q] w (fun r w' => r = .bool s.fin /\ w' = w) := by
 obtain ⟨X, D, Y, lv, hv, h, x0⟩ := h
 exact VZ h
theorem Qo {w0 : adV} {N : Nat -> Prop} {w : adV} {q p : Nat} {S : jZ} {s : nS} (h : GS w0 N w q p S s) : gU pg mG #[dP q] w (fun r w' => r = .int .u64 (s.epoch : Nat) /\ w' = w) := by
 obtain ⟨X, D, Y, lv, hv, h, x0⟩ := h
 exact UX h
theorem Qv {v : adW} {l : List Bool} {w : adV} (h : Sl w v (l.map Value.bool)) (hl : l.length <= 1000000) :
 gU pg oH #[v] w (fun r w' => zH w' w.heap.size 1 r l.length (l.map Value.bool) /\ gX w w' jK) := by
 refine Eh ?_
 have h1 := h
 obtain ⟨a, n, c, rfl, hn, hc, hh⟩ := h
 rw [ZZ] at hn
 unfold BH qY
 cases a with
 | none =>
   have h0 : l = [] := by
    cases l with
    | nil => rfl
    | cons x l => obtain ⟨b, off, h, _⟩ := hh (by simp at hn; omega); cases h
   subst h0
   simp (disch := omega) only [eY, gN, dX, stepR_skip, fP, fZ, fO, gK, gE, gC, gR, gA, eU, fV, fT, gG, fS, fM, fU, fR, fX, gH, fY, fQ, fC, gB, gI, fL, iS, iQ, iO, iR, iM, iN, iP, iU, iT, eP, Result.ok.injEq, Next.value.injEq, true_and, and_true, fK, fJ, gJ, fN, gD, gS, ZV, fE, fH, fF, fD, eZ, eX, fB, eT, eQ, eH, if_true, if_false, ZS, ZY, ZT, ZU, ZX, ZW, ZR, ZQ, eA, dV, aB, dI, dE, cJ, eB, eS, eE, dK, eD, fA, dQ, eN, bQ, dG, bJ, dL, aI, aH, eL, aV, bZ, eI, aF, eJ, dF, aR, bF, eF, bH, bE, bB, aO, aL, cD, fG, dY, cA, cI, dA, cH, dT, bC, eK, bX, dH, bP, aU, bU, aC, bY, bO, cF, bW, aY, bA, aX, bV, dM, cU, bR, aZ, aK, aJ, bG, aE, dC, dW, aN, aM, aT, aD, cY, aG, cL, bT, bD, aP, cM, cG, aA, dN, cQ, cV, cC, dO, cB, dJ, dU, cP, eC, eM, bN, aS, dZ, bS, aQ, bL, dS, dB, cO, cS, cN, bK, bM, cX, dR, cR, dD, cZ]
   exact ⟨zH.nil _ _ _, gX.refl _ _⟩
 | some x =>
   simp (disch := omega) only [eY, gN, dX, stepR_skip, fP, fZ, fO, gK, gE, gC, gR, gA, eU, fV, fT, gG, fS, fM, fU, fR, fX, gH, fY, fQ, fC, gB, gI, fL, iS, iQ, iO, iR, iM, iN, iP, iU, iT, eP, Result.ok.injEq, Next.value.injEq, true_and, and_true, fK, fJ, gJ, fN, gD, gS, ZV, fE, fH, fF, fD, eZ, eX, fB, eT, eQ, eH, if_true, if_false, ZS, ZY, ZT, ZU, ZX, ZW, ZR, ZQ, eA, dV, aB, dI, dE, cJ, eB, eS, eE, dK, eD, fA, dQ, eN, bQ, dG, bJ, dL, aI, aH, eL, aV, bZ, eI, aF, eJ, dF, aR, bF, eF, bH, bE, bB, aO, aL, cD, fG, dY, cA, cI, dA, cH, dT, bC, eK, bX, dH, bP, aU, bU, aC, bY, bO, cF, bW, aY, bA, aX, bV, dM, cU, bR, aZ, aK, aJ, bG, aE, dC, dW, aN, aM, aT, aD, cY, aG, cL, bT, bD, aP, cM, cG, aA, dN, cQ, cV, cC, dO, cB, dJ, dU, cP, eC, eM, bN, aS, dZ, bS, aQ, bL, dS, dB, cO, cS, cN, bK, bM, cX, dR, cR, dD, cZ]
   refine ID Tryd.underlying45 SI fun w1 o1 x1 s1 => ?_
   have hcl1 := (h1.ext x1 (jJ _)).cl
   rw [ZZ] at hcl1
   have hos : zH w1 w.heap.size 1 (.slice (some ⟨w.heap.size, 0, none⟩) 0 0) 0 [] := ⟨rfl, .inr ⟨_, 0, [], rfl, Z8 _, o1, rfl, Z8 _⟩⟩
   refine KA hos hcl1 (fun y hy => by obtain ⟨z, -, rfl⟩ := aaY.1 hy; rfl) x1.size (by omega) fun v3 w3 o3 x3 => ?_
   rw [ZY, aaF] at o3
   exact ⟨o3, x1.trans x3 fun b hb h => Nat.not_le_of_lt hb h⟩
theorem VX {w0 : adV} {N : Nat -> Prop} {w : adV} {q p : Nat} {S : jZ} {s : nS} (h : GS w0 N w q p S s) : gU pg rQ #[dP q] w (fun r w' => zH w' w.heap.size 1 r s.hv.length (s.hv.map Value.bool) /\ GS w0 N w' q p S s /\ gX w w' jK) := by
 have h' := h
 obtain ⟨X, D, Y, lv, hv, h, x0⟩ := h
 refine Iz ?_
 obtain ⟨c0, c1, c2, c3, c4, c5, c6, c7, c8, c9⟩ := h.cells
 unfold FM wJ
 simp (disch := omega) only [eY, gN, dX, stepR_skip, fP, fZ, fO, gK, gE, gC, gR, gA, eU, fV, fT, gG, fS, fM, fU, fR, fX, gH, fY, fQ, fC, gB, gI, fL, iS, iQ, iO, iR, iM, iN, iP, iU, iT, eP, Result.ok.injEq, Next.value.injEq, true_and, and_true, fK, fJ, gJ, fN, gD, gS, ZV, fE, fH, fF, fD, eZ, eX, fB, eT, eQ, eH, if_true, if_false, ZS, ZY, ZT, ZU, ZX, ZW, ZR, ZQ, eA, dV, aB, dI, dE, cJ, eB, eS, eE, dK, eD, fA, dQ, eN, bQ, dG, bJ, dL, aI, aH, eL, aV, bZ, eI, aF, eJ, dF, aR, bF, eF, bH, bE, bB, aO, aL, cD, fG, dY, cA, cI, dA, cH, dT, bC, eK, bX, dH, bP, aU, bU, aC, bY, bO, cF, bW, aY, bA, aX, bV, dM, cU, bR, aZ, aK, aJ, bG, aE, dC, dW, aN, aM, aT, aD, cY, aG, cL, bT, bD, aP, cM, cG, aA, dN, cQ, cV, cC, dO, cB, dJ, dU, cP, eC, eM, bN, aS, dZ, bS, aQ, bL, dS, dB, cO, cS, cN, bK, bM, cX, dR, cR, dD, cZ, c6]
 refine (Qv (MD h.hv) (by have := h.hl; omega)).mono ?_
 rintro r w' ⟨ho, x⟩
 exact ⟨ho, h'.new x, x⟩
def YD (w0 : adV) (N : Nat -> Prop) (w : adV) (p : Nat) (S' : jZ) (so : Option nS) (e : Int) (r : adW) (w' : adV) : Prop := (match so with
 | some s => ∃ q, r = .tuple #[dP q, .int .i64 0] /\ e = 0 /\ GS w0 N w' q p S' s
 | none => r = .tuple #[.pointer none, .int .i64 e] /\ Ep w0 N w' p S') /\ gX w w' (XL w0 N)
theorem Ml {w0 : adV} {N : Nat -> Prop} {w : adV} {p : Nat} {S S' : jZ} {so : Option nS} {e : Int} {nm : ByteArray} {m : TW} {lv : adW} (h : Ep w0 N w p S) (hg : rD w0) (hB : Co 3 S) (hm : Tx m) (hlv : Cl w 32 lv m.leaves.length (U4 m.leaves)) (hnm : 1 <= nm.size /\ nm.size <= 27) (hs : iY S.seen <= 1000000) (hO : C7 hU iE S nm m = (S', so, e)) :
 gU pg rK #[dP p, .string nm, .agg (Ns m lv).toArray] w (YD w0 N w p S' so e) := by
 obtain ⟨X, D, h, hX, x0, hN⟩ := h
 have hf : ∀ {n : ByteArray}, ∀ b, jE n S.seen = some b -> b.length <= 1000000 := fun {n} b hb => by
  have h1 := Br (k := n) (c := S.seen)
  rw [hb] at h1
  have h1 : b.length <= iY S.seen := h1
  omega
 refine (XQ (n0 := w0.heap.size) h (hg.ext x0) hg.lt (fun b hb => (hX b hb).1) x0.size hB hm hlv hnm hf hf hf).mono ?_
 rw [hO]
 intro r w' hr
 unfold TY at hr
 have z := x0.size
 cases so with
 | none =>
   obtain ⟨h1, hp⟩ := hr
   obtain ⟨a, b⟩ := Ep.post h hX x0 hN hp
   exact ⟨⟨h1, a⟩, b⟩
 | some s =>
   obtain ⟨h0, q, X', D', Y', lv', hv', h1, h2, h3, h4, h5, h6⟩ := hr
   refine ⟨⟨q, h1, h0, X', D', Y', lv', hv', h2, x0.trans h6 fun y hy hm => by have := (hX y hm).1; omega, fun b hb => ⟨h4 b (hN b hb), fun hx => ?_⟩⟩, h6.mono fun b _ hb => hX b hb⟩
   have hlt := lY.lt h b (hN b hb)
   rcases hx with hx | hx
   .rcases h3 b hx with h | h
    .exact (hX b h).2 hb
    .omega
   .have := h5 b hx; omega
def Qm : List UInt8 := [97, 98, 99, 100, 101]
theorem Xo : hU [120, 121] ≠ hU [97, 98] := by decide +kernel
theorem PI (r : Int) : Calm (QN r) := ⟨rfl, rfl⟩
theorem TC {r : Int} (h : 0 <= r /\ r <= 16777216) {n : Nat} (hn : n <= 100) : Co n (QN r) := ⟨⟨by show -1 <= (-1 : Int) /\ (-1 : Int) <= 9223372036854775807; decide, by show 0 <= _; omega, by simp [QN], h⟩, by show 0 <= _; omega, by show 0 + n <= _; omega⟩
def Zh : Nat -> Prop := fun _ => False
theorem Sc {w0 w : adV} {room : Int} (x0 : gX w0 w jK) (h0 : 0 <= room) (h1 : room <= 16777216) : gU pg Bl #[.int .i64 room] w (fun r w' => ∃ p, r = .tuple #[dP p, .int .i64 0] /\ Ep w0 Zh w' p (QN room) /\ gX w w' jK) := by
 refine (XW h0 h1).mono ?_
 rintro r w' ⟨p, X, rfl, h, hX, x⟩
 exact ⟨p, rfl, ⟨X, X, h, fun b hb => ⟨by have := hX b hb; have := x0.size; omega, fun h => h⟩, x0.seq x, fun b h => h.elim⟩, x⟩
theorem Ww {w0 w : adV} {y n c : Nat} (hy : w.heap.size <= y) : ¬ wB (.slice (some ⟨y, 0, none⟩) n c) (fun y => w0.heap.size <= y /\ y < w.heap.size) := by
 intro hi
 unfold wB at hi
 split at hi
 .rename_i e
  simp only [Value.slice.injEq, aaN] at e
  obtain ⟨rfl, _⟩ := e
  have hi : w0.heap.size <= y /\ y < w.heap.size := hi
  omega
 .exact hi
theorem RK {f : List UInt8} {k : Nat} {S : jZ} (h : jE sF S.seen = none) : NK hU f k S = false := by
 unfold NK
 rw [h] <;> rfl
theorem Ug {f : List UInt8} {k : Nat} {F0 : Option (List UInt8)} {recs : List (Nat × Nat)} {P : List UInt8} {S : jZ} {s : nS} (h : Ro hU iE f k F0 recs P S s) {i : Nat} (hi : i < mM f.length k) (hv : s.hv.getD i false = false) {b : List UInt8} (hb : hU b ≠ hU (yP f.length k i f)) : BI hU iE S s i b = (S, s, 13) := by
 unfold BI
 have hw : Bk hU s.man i b = false := by
  unfold Bk
  rw [h.man, Rj hU hi, adN]
  exact .inr (beq_eq_false_iff_ne.2 hb)
 rw [h.err, h.hvl, if_neg (by decide), if_neg (by omega), ZV, h.fin, hv, hw, if_neg (by decide), if_pos rfl]
theorem Rk {f : List UInt8} {k : Nat} {F0 : Option (List UInt8)} {recs : List (Nat × Nat)} {P : List UInt8} {S : jZ} {s : nS} (h : Ro hU iE f k F0 recs P S s) {i : Nat} (hi : i < mM f.length k) (hv : s.hv.getD i false = false) : lZ hU S s = (S, s, 30) := by
 unfold lZ
 have ha : CR s.hv = false := by
  cases hq : CR s.hv with
  | false => rfl
  | true => rw [OK] at hq; rw [hq i (by rw [h.hvl]; exact hi)] at hv; cases hv
 rw [h.err, if_neg (by decide), h.fin, if_neg (by decide), ha, if_pos rfl]
theorem yX {l : List Bool} {i j : Nat} (hi : i < l.length) : (l.set i true).getD j false = if j = i then true else l.getD j false := by
 rw [Z5, List.getElem?_set]
 by_cases h : i = j
 .rw [if_pos h, if_pos hi, if_pos h.symm] <;> rfl
 .rw [if_neg h, if_neg (fun e => h e.symm), Z5]
theorem XO {n : Nat} {ps : List (Nat × adW)} {l : List UInt8} {w : adV} {K : adW -> adV -> Prop} (hl : l.length = n) (h1 : ¬ n * 1 > 2 ^ 24) (h0 : ¬ n * 1 = 0)
 (hf : Go.Instr.fill (fun j => some (j * 1, 1)) ((Array.range (n * 1)).map ((Tryd.t5.zero.get!).cells[· % (Tryd.t5.zero.get!).cells.size]!)) ps = some (l.map oY).toArray)
 (hk : ∀ w', Bs w' (.slice (some ⟨w.heap.size, 0, none⟩) n n) l -> gX w w' jK -> w'.heap.size = w.heap.size + 1 -> K (.slice (some ⟨w.heap.size, 0, none⟩) n n) w') :
 eY pg (iF 22 n ps) w fun t w => eY pg (kX 22 22 t) w K := by
 refine EH h1 h0 hf fun w1 o1 x1 s1 => ?_
 rw [aaT] at o1
 refine QO o1 fun w2 o2 x2 s2 => ?_
 refine hk w2 ?_ (x1.trans x2 fun y hy h => by omega) (by omega)
 have := o2.whole (c := n) (by omega)
 rw [hl] at this
 exact this
theorem T5 {w : adV} (hg : rD w) : gU pg Bu #[] w (fun r w' => r = .bool true /\ gX w w' jK) := by
 refine Mv ?_
 obtain ⟨RR, hRR⟩ : ∃ RR : adW -> adV -> Prop, RR = fun r w' => r = .bool true /\ gX w w' jK := ⟨_, rfl⟩
 rw [<- hRR]
 obtain ⟨S1, s1, hO, g1, r1, p1, v1⟩ := R7 (lf := hU) (cf := iE) (f := Qm) (k := 2) (F0 := none) (S := QN 1000) (PI _) (by decide) rfl rfl rfl (by simp [QN]) rfl ⟨by show (0 : Int) <= 1000; decide, by show (1000 : Int) <= _; decide⟩ (RK rfl) (by show ¬ (1000 : Int) < ((0 + 13 + 5 : Nat) : Int); decide)
 have hc : mM Qm.length 2 = 3 := by decide
 have e0 : yP Qm.length 2 0 Qm = [97, 98] := by decide
 have e1 : yP Qm.length 2 1 Qm = [99, 100] := by decide
 have e2 : yP Qm.length 2 2 Qm = [101] := by decide
 have rr1 : S1.room = 1000 := r1
 have z1 := g1.sz
 obtain ⟨S2, s2, hP1, g2, r2, p2, v2⟩ := (NO g1 (by decide) (by decide) (i := 1) (by rw [hc]; decide) (v1 1)).1 (by rw [rr1, z1]; decide)
 rw [e1] at hP1
 have hl1 := g1.hvl
 rw [hc] at hl1
 have v20 : s2.hv.getD 0 false = false := by rw [v2, yX (by omega), if_neg (by decide)]; exact v1 0
 have hP2 := Ug g2 (i := 0) (by rw [hc]; decide) v20 (b := [120, 121]) (by rw [e0]; exact Xo)
 have hC1 := Rk g2 (i := 0) (by rw [hc]; decide) v20
 have z2 := g2.sz
 have rr2 : S2.room = 1000 := r2.trans rr1
 obtain ⟨S3, s3, hP3, g3, r3, p3, v3⟩ := (NO g2 (by decide) (by decide) (i := 0) (by rw [hc]; decide) v20).1 (by rw [rr2, z2]; decide)
 rw [e0] at hP3
 have hl2 := g2.hvl
 have hl3 := g3.hvl
 rw [hc] at hl2 hl3
 have v32 : s3.hv.getD 2 false = false := by rw [v3, yX (by omega), if_neg (by decide), v2, yX (by omega), if_neg (by decide)]; exact v1 2
 have z3 := g3.sz
 have rr3 : S3.room = 1000 := r3.trans rr2
 obtain ⟨S4, s4, hP4, g4, r4, p4, v4⟩ := (NO g3 (by decide) (by decide) (i := 2) (by rw [hc]; decide) v32).1 (by rw [rr3, z3]; decide)
 rw [e2] at hP4
 have hall : ∀ i, i < mM Qm.length 2 -> s4.hv.getD i false = true := fun i hi => by
  rw [hc] at hi
  rw [v4, yX (by omega), v3, yX (by omega), v2, yX (by omega)]
  match i, hi with
  | 0, _ => rfl
  | 1, _ => rfl
  | 2, _ => rfl
 obtain ⟨S5, s5, hC2, f5, er5, ep5, nm5, mn5, c5, r5, gf5, gl5, gp5, fz5, un5, hl5, lg5⟩ := Oh g4 (by decide) hall
 have hl4 := g4.hvl
 have z4 := g4.sz
 have hgx : ∀ {w' : adV}, gX w w' jK -> rD w' := fun x => hg.ext x
 unfold M0 Ea
 refine (Sc (w0 := w) (gX.refl _ _) (by decide) (by decide)).mono ?_
 rintro r w1 ⟨p, rfl, h1, x1⟩
 simp (disch := omega) only [eY, gN, dX, stepR_skip, fP, fZ, fO, gK, gE, gC, gR, gA, eU, fV, fT, gG, fS, fM, fU, fR, fX, gH, fY, fQ, fC, gB, gI, fL, iS, iQ, iO, iR, iM, iN, iP, iU, iT, eP, Result.ok.injEq, Next.value.injEq, true_and, and_true, fK, fJ, gJ, fN, gD, gS, ZV, fE, fH, fF, fD, eZ, eX, fB, eT, eQ, eH, if_true, if_false, ZS, ZY, ZT, ZU, ZX, ZW, ZR, ZQ, eA, dV, aB, dI, dE, cJ, eB, eS, eE, dK, eD, fA, dQ, eN, bQ, dG, bJ, dL, aI, aH, eL, aV, bZ, eI, aF, eJ, dF, aR, bF, eF, bH, bE, bB, aO, aL, cD, fG, dY, cA, cI, dA, cH, dT, bC, eK, bX, dH, bP, aU, bU, aC, bY, bO, cF, bW, aY, bA, aX, bV, dM, cU, bR, aZ, aK, aJ, bG, aE, dC, dW, aN, aM, aT, aD, cY, aG, cL, bT, bD, aP, cM, cG, aA, dN, cQ, cV, cC, dO, cB, dJ, dU, cP, eC, eM, bN, aS, dZ, bS, aQ, bL, dS, dB, cO, cS, cN, bK, bM, cX, dR, cR, dD, cZ]
 refine XO (l := Qm) rfl (by decide) (by decide) (by kernel_rfl) fun w2 b2 x2 zz2 => ?_
 refine (Ol (f := Qm) (k := 2) (hgx (x1.seq x2)) b2 (by decide) ⟨by decide, by decide⟩).mono ?_
 rintro r w3 ⟨lv, rfl, hlv, x3⟩
 simp (disch := omega) only [eY, gN, dX, stepR_skip, fP, fZ, fO, gK, gE, gC, gR, gA, eU, fV, fT, gG, fS, fM, fU, fR, fX, gH, fY, fQ, fC, gB, gI, fL, iS, iQ, iO, iR, iM, iN, iP, iU, iT, eP, Result.ok.injEq, Next.value.injEq, true_and, and_true, fK, fJ, gJ, fN, gD, gS, ZV, fE, fH, fF, fD, eZ, eX, fB, eT, eQ, eH, if_true, if_false, ZS, ZY, ZT, ZU, ZX, ZW, ZR, ZQ, eA, dV, aB, dI, dE, cJ, eB, eS, eE, dK, eD, fA, dQ, eN, bQ, dG, bJ, dL, aI, aH, eL, aV, bZ, eI, aF, eJ, dF, aR, bF, eF, bH, bE, bB, aO, aL, cD, fG, dY, cA, cI, dA, cH, dT, bC, eK, bX, dH, bP, aU, bU, aC, bY, bO, cF, bW, aY, bA, aX, bV, dM, cU, bR, aZ, aK, aJ, bG, aE, dC, dW, aN, aM, aT, aD, cY, aG, cL, bT, bD, aP, cM, cG, aA, dN, cQ, cV, cC, dO, cB, dJ, dU, cP, eC, eM, bN, aS, dZ, bS, aQ, bL, dS, dB, cO, cS, cN, bK, bM, cX, dR, cR, dD, cZ]
 refine rP fun w4 o4 x4 zz4 => ?_
 have lv1 : one lv = true := by rcases hlv.2 with ⟨rfl, _⟩ | ⟨_, _, _, rfl, _⟩ <;> rfl
 refine qE o4 rfl (by simp [one]; exact lv1) (by simp) fun w5 o5 x5 zz5 => ?_
 have o5 : jG w5 w3.heap.size (Ns (kZ hU Qm 2) lv) := o5
 have lm := oD (off := 0) o5 (by simp)
 have lm : (fW 28 (.pointer (some ⟨w3.heap.size, 0, none⟩))).run pg w5 = .ok (.value (.agg (Ns (kZ hU Qm 2) lv).toArray)) w5 := lm
 have z3 := x3.size
 have z2' := x2.size
 have x15 : gX w1 w5 jK := ((x2.seq x3).seq x4).trans x5 fun y hy h => by omega
 have h5 := h1.new x15
 have hlv5 : Cl w5 32 lv (kZ hU Qm 2).leaves.length (U4 (kZ hU Qm 2).leaves) := QV (wL (wL (NT (show IB w3 (fun b => w2.heap.size <= b) 32 lv _ _ from hlv)) x4 (fun _ _ h => h)) x5 (fun b hb h => by omega))
 have hO5 := Ml h5 hg (TC ⟨by decide, by decide⟩ (by decide)) (Tc ⟨by decide, by decide⟩ (by decide)) hlv5 (nm := sF) ⟨by decide, by decide⟩ (by show 0 <= _; omega) hO
 have n0' : ((0 : Int) != 0) = false := rfl
 simp (disch := omega) only [eY, gN, dX, stepR_skip, fP, fZ, fO, gK, gE, gC, gR, gA, eU, fV, fT, gG, fS, fM, fU, fR, fX, gH, fY, fQ, fC, gB, gI, fL, iS, iQ, iO, iR, iM, iN, iP, iU, iT, eP, Result.ok.injEq, Next.value.injEq, true_and, and_true, fK, fJ, gJ, fN, gD, gS, ZV, fE, fH, fF, fD, eZ, eX, fB, eT, eQ, eH, if_true, if_false, ZS, ZY, ZT, ZU, ZX, ZW, ZR, ZQ, eA, dV, aB, dI, dE, cJ, eB, eS, eE, dK, eD, fA, dQ, eN, bQ, dG, bJ, dL, aI, aH, eL, aV, bZ, eI, aF, eJ, dF, aR, bF, eF, bH, bE, bB, aO, aL, cD, fG, dY, cA, cI, dA, cH, dT, bC, eK, bX, dH, bP, aU, bU, aC, bY, bO, cF, bW, aY, bA, aX, bV, dM, cU, bR, aZ, aK, aJ, bG, aE, dC, dW, aN, aM, aT, aD, cY, aG, cL, bT, bD, aP, cM, cG, aA, dN, cQ, cV, cC, dO, cB, dJ, dU, cP, eC, eM, bN, aS, dZ, bS, aQ, bL, dS, dB, cO, cS, cN, bK, bM, cX, dR, cR, dD, cZ, lm]
 refine hO5.mono ?_
 rintro r w6 ⟨⟨q, rfl, _, h6⟩, -⟩
 have n3 : ((0 : Int) == 0) = true := rfl
 simp (disch := omega) only [eY, gN, dX, stepR_skip, fP, fZ, fO, gK, gE, gC, gR, gA, eU, fV, fT, gG, fS, fM, fU, fR, fX, gH, fY, fQ, fC, gB, gI, fL, iS, iQ, iO, iR, iM, iN, iP, iU, iT, eP, Result.ok.injEq, Next.value.injEq, true_and, and_true, fK, fJ, gJ, fN, gD, gS, ZV, fE, fH, fF, fD, eZ, eX, fB, eT, eQ, eH, if_true, if_false, ZS, ZY, ZT, ZU, ZX, ZW, ZR, ZQ, eA, dV, aB, dI, dE, cJ, eB, eS, eE, dK, eD, fA, dQ, eN, bQ, dG, bJ, dL, aI, aH, eL, aV, bZ, eI, aF, eJ, dF, aR, bF, eF, bH, bE, bB, aO, aL, cD, fG, dY, cA, cI, dA, cH, dT, bC, eK, bX, dH, bP, aU, bU, aC, bY, bO, cF, bW, aY, bA, aX, bV, dM, cU, bR, aZ, aK, aJ, bG, aE, dC, dW, aN, aM, aT, aD, cY, aG, cL, bT, bD, aP, cM, cG, aA, dN, cQ, cV, cC, dO, cB, dJ, dU, cP, eC, eM, bN, aS, dZ, bS, aQ, bL, dS, dB, cO, cS, cN, bK, bM, cX, dR, cR, dD, cZ, n0']
 have Bh : ∀ {w' : adV} {S S' : jZ} {s s' : nS} {i e : Int} {n : Nat} {ps : List (Nat × adW)} {l : List UInt8} {F0 : Option (List UInt8)} {recs : List (Nat × Nat)} {P : List UInt8} {K : adW -> adV -> Prop}, GS w Zh w' q p S s -> Ro hU iE Qm 2 F0 recs P S s -> recs.length <= 100 -> BI hU iE S s i l = (S', s', e) -> l.length = n -> l.length <= 100 -> ¬ n * 1 > 2 ^ 24 -> ¬ n * 1 = 0 -> (0 <= i /\ i <= 100) →
     Go.Instr.fill (fun j => some (j * 1, 1)) ((Array.range (n * 1)).map ((Tryd.t5.zero.get!).cells[· % (Tryd.t5.zero.get!).cells.size]!)) ps = some (l.map oY).toArray →
     (∀ w'', GS w Zh w'' q p S' s' -> K (.int .i64 e) w'') →
     eY pg (iF 22 n ps) w' fun t w => eY pg (kX 22 22 t) w fun t w => gU pg jF #[dP q, .int .i64 i, t] w K := by
  intro w' S S' s s' i e n ps l F0 recs P K hs hgot hrl hput hl hl2 k1 k2 hi hf hK
  refine XO (l := l) hl k1 k2 hf fun w2 b2 x2 s2 => ?_
  refine (TH (b := l) hs x2 (hgot.bk (by omega)) (by rw [hgot.hvl, hgot.man, EG]) b2 (by omega) (Ww (Z8 _)) (by rw [hgot.log]; omega) (by omega)).mono ?_
  rintro r w3 ⟨rfl, h3, -⟩
  rw [hput] at h3 ⊢
  exact hK w3 h3
 refine Bh h6 g1 (by decide) hP1 rfl (by decide) (by decide) (by decide) (by decide) (by kernel_rfl) fun w7 h7 => ?_
 refine Bh h7 g2 (by decide) hP2 rfl (by decide) (by decide) (by decide) (by decide) (by kernel_rfl) fun w8 h8 => ?_
 have hsm : ∀ {S : jZ} {n : Nat}, iY S.seen = n -> n <= 1000 -> ∀ b, ∀ k, jE k S.seen = some b -> b.length <= 1000000 := fun {S n} hz hn b k hb => by
  have h1 := Br (k := k) (c := S.seen)
  rw [hb] at h1
  have h1 : b.length <= iY S.seen := h1
  omega
 refine (Hv h8 (g2.bk (by decide)) (fun b hb => hsm z2 (by decide) b _ hb)).mono ?_
 rintro r w9 ⟨rfl, h9, -⟩
 rw [hC1] at h9 ⊢
 refine Bh h9 g2 (by decide) hP3 rfl (by decide) (by decide) (by decide) (by decide) (by kernel_rfl) fun w10 h10 => ?_
 refine Bh h10 g3 (by decide) hP4 rfl (by decide) (by decide) (by decide) (by decide) (by kernel_rfl) fun w11 h11 => ?_
 refine (Hv h11 (g4.bk (by decide)) (fun b hb => hsm z4 (by decide) b _ hb)).mono ?_
 rintro r w12 ⟨rfl, h12, -⟩
 rw [hC2] at h12 ⊢
 have hz4 : iY S4.seen = 57 := by rw [z4] <;> rfl
 have B5 : Co 0 S5 := ⟨⟨by rw [c5.left]; omega, by omega, by rw [un5]; simp, by rw [r5, r4, rr3]; decide⟩, by omega, by rw [un5]; simp⟩
 refine (RN (n := sF) h12 B5 c5.up).mono ?_
 rintro r w13 ⟨hr, h13, x13⟩
 rw [gf5] at hr
 rcases hr with ⟨h, _⟩ | ⟨b, v, hb, rfl, ho⟩
 .cases h
 cases hb
 simp (disch := omega) only [eY, gN, dX, stepR_skip, fP, fZ, fO, gK, gE, gC, gR, gA, eU, fV, fT, gG, fS, fM, fU, fR, fX, gH, fY, fQ, fC, gB, gI, fL, iS, iQ, iO, iR, iM, iN, iP, iU, iT, eP, Result.ok.injEq, Next.value.injEq, true_and, and_true, fK, fJ, gJ, fN, gD, gS, ZV, fE, fH, fF, fD, eZ, eX, fB, eT, eQ, eH, if_true, if_false, ZS, ZY, ZT, ZU, ZX, ZW, ZR, ZQ, eA, dV, aB, dI, dE, cJ, eB, eS, eE, dK, eD, fA, dQ, eN, bQ, dG, bJ, dL, aI, aH, eL, aV, bZ, eI, aF, eJ, dF, aR, bF, eF, bH, bE, bB, aO, aL, cD, fG, dY, cA, cI, dA, cH, dT, bC, eK, bX, dH, bP, aU, bU, aC, bY, bO, cF, bW, aY, bA, aX, bV, dM, cU, bR, aZ, aK, aJ, bG, aE, dC, dW, aN, aM, aT, aD, cY, aG, cL, bT, bD, aP, cM, cG, aA, dN, cQ, cV, cC, dO, cB, dJ, dU, cP, eC, eM, bN, aS, dZ, bS, aQ, bL, dS, dB, cO, cS, cN, bK, bM, cX, dR, cR, dD, cZ]
 refine (Qo h13).mono ?_
 rintro r w14 ⟨rfl, hw⟩
 rw [hw]; clear hw w14
 have pe : s5.epoch = 1 := by rw [ep5, p4, p3, p2, p1]
 rw [pe]
 obtain ⟨va, vc, rfl⟩ := ho.len
 have hv := xI (show Bs w13 (.slice va Qm.length vc) Qm from ho.sl)
 have k1 : (((1 : Nat) : Int) == 1) = true := rfl
 have k2 : ((13 : Int) == 13) = true := rfl
 have k3 : ((30 : Int) == 30) = true := rfl
 have k4 : ((⟨Qm.toArray⟩ : ByteArray).toList == (⟨#[97, 98, 99, 100, 101]⟩ : ByteArray).toList) = true := by
  rw [show (⟨Qm.toArray⟩ : ByteArray) = ⟨#[97, 98, 99, 100, 101]⟩ from rfl]
  simp
 simp (disch := omega) only [eY, gN, dX, stepR_skip, fP, fZ, fO, gK, gE, gC, gR, gA, eU, fV, fT, gG, fS, fM, fU, fR, fX, gH, fY, fQ, fC, gB, gI, fL, iS, iQ, iO, iR, iM, iN, iP, iU, iT, eP, Result.ok.injEq, Next.value.injEq, true_and, and_true, fK, fJ, gJ, fN, gD, gS, ZV, fE, fH, fF, fD, eZ, eX, fB, eT, eQ, eH, if_true, if_false, ZS, ZY, ZT, ZU, ZX, ZW, ZR, ZQ, eA, dV, aB, dI, dE, cJ, eB, eS, eE, dK, eD, fA, dQ, eN, bQ, dG, bJ, dL, aI, aH, eL, aV, bZ, eI, aF, eJ, dF, aR, bF, eF, bH, bE, bB, aO, aL, cD, fG, dY, cA, cI, dA, cH, dT, bC, eK, bX, dH, bP, aU, bU, aC, bY, bO, cF, bW, aY, bA, aX, bV, dM, cU, bR, aZ, aK, aJ, bG, aE, dC, dW, aN, aM, aT, aD, cY, aG, cL, bT, bD, aP, cM, cG, aA, dN, cQ, cV, cC, dO, cB, dJ, dU, cP, eC, eM, bN, aS, dZ, bS, aQ, bL, dS, dB, cO, cS, cN, bK, bM, cX, dR, cR, dD, cZ, k1, n3, k2, k3, hv, SJ, k4]
 refine (R5 h13).mono ?_
 rintro r w14 ⟨rfl, hw⟩
 rw [hw]; clear hw w14
 rw [f5]
 simp (disch := omega) only [eY, gN, dX, stepR_skip, fP, fZ, fO, gK, gE, gC, gR, gA, eU, fV, fT, gG, fS, fM, fU, fR, fX, gH, fY, fQ, fC, gB, gI, fL, iS, iQ, iO, iR, iM, iN, iP, iU, iT, eP, Result.ok.injEq, Next.value.injEq, true_and, and_true, fK, fJ, gJ, fN, gD, gS, ZV, fE, fH, fF, fD, eZ, eX, fB, eT, eQ, eH, if_true, if_false, ZS, ZY, ZT, ZU, ZX, ZW, ZR, ZQ, eA, dV, aB, dI, dE, cJ, eB, eS, eE, dK, eD, fA, dQ, eN, bQ, dG, bJ, dL, aI, aH, eL, aV, bZ, eI, aF, eJ, dF, aR, bF, eF, bH, bE, bB, aO, aL, cD, fG, dY, cA, cI, dA, cH, dT, bC, eK, bX, dH, bP, aU, bU, aC, bY, bO, cF, bW, aY, bA, aX, bV, dM, cU, bR, aZ, aK, aJ, bG, aE, dC, dW, aN, aM, aT, aD, cY, aG, cL, bT, bD, aP, cM, cG, aA, dN, cQ, cV, cC, dO, cB, dJ, dU, cP, eC, eM, bN, aS, dZ, bS, aQ, bL, dS, dB, cO, cS, cN, bK, bM, cX, dR, cR, dD, cZ]
 refine (VX h13).mono ?_
 rintro r w14 ⟨hh, h14, x14⟩
 obtain ⟨ha, hcc, rfl⟩ := hh.len
 rw [hl5, hc]
 have k5 : (((3 : Nat) : Int) == 3) = true := rfl
 simp (disch := omega) only [eY, gN, dX, stepR_skip, fP, fZ, fO, gK, gE, gC, gR, gA, eU, fV, fT, gG, fS, fM, fU, fR, fX, gH, fY, fQ, fC, gB, gI, fL, iS, iQ, iO, iR, iM, iN, iP, iU, iT, eP, Result.ok.injEq, Next.value.injEq, true_and, and_true, fK, fJ, gJ, fN, gD, gS, ZV, fE, fH, fF, fD, eZ, eX, fB, eT, eQ, eH, if_true, if_false, ZS, ZY, ZT, ZU, ZX, ZW, ZR, ZQ, eA, dV, aB, dI, dE, cJ, eB, eS, eE, dK, eD, fA, dQ, eN, bQ, dG, bJ, dL, aI, aH, eL, aV, bZ, eI, aF, eJ, dF, aR, bF, eF, bH, bE, bB, aO, aL, cD, fG, dY, cA, cI, dA, cH, dT, bC, eK, bX, dH, bP, aU, bU, aC, bY, bO, cF, bW, aY, bA, aX, bV, dM, cU, bR, aZ, aK, aJ, bG, aE, dC, dW, aN, aM, aT, aD, cY, aG, cL, bT, bD, aP, cM, cG, aA, dN, cQ, cV, cC, dO, cB, dJ, dU, cP, eC, eM, bN, aS, dZ, bS, aQ, bL, dS, dB, cO, cS, cN, bK, bM, cX, dR, cR, dD, cZ, k5]
 rw [hRR]
 exact ⟨rfl, h14.x⟩
theorem WK {f : List UInt8} {k : Nat} {F0 : Option (List UInt8)} {recs : List (Nat × Nat)} {P : List UInt8} {S : jZ} {s : nS} (h : Ro hU iE f k F0 recs P S s) (hk : 0 < k) (hL : f.length <= 1000000) {i : Nat} (hi : i < mM f.length k) (hr : ¬ S.room < ((iY S.seen + 13 : Nat) : Int)) :
 ∃ S' s' recs' P', BI hU iE S s i (yP f.length k i f) = (S', s', 0) /\ Ro hU iE f k F0 recs' P' S' s' /\ S'.room = S.room /\ s'.epoch = s.epoch /\ s'.hv.getD i false = true /\ (∀ j, s.hv.getD j false = true -> s'.hv.getD j false = true) /\ kB 1 recs' = kB 1 recs := by
 cases hv : s.hv.getD i false with
 | true => exact ⟨S, s, recs, P, Xm h hi hv _, h, rfl, rfl, hv, fun _ h => h, rfl⟩
 | false =>
   obtain ⟨S', s', h1, h2, h3, h4, h5⟩ := (NO h hk hL hi hv).1 hr
   have hl := h.hvl
   refine ⟨S', s', _, _, h1, h2, h3, h4, by rw [h5, yX (by omega), if_pos rfl], fun j hj => ?_, ?_⟩
   .rw [h5, yX (by omega)]
    split
    .rfl
    .exact hj
   .rw [KO, if_neg (show ¬ (2 : Nat) = 1 by decide)]
theorem KB {f : List UInt8} {k : Nat} {F0 : Option (List UInt8)} {recs : List (Nat × Nat)} {P : List UInt8} {S : jZ} {s : nS} (h : Ro hU iE f k F0 recs P S s) : recs.length <= 1 + mM f.length k := by
 have h1 := h.cnt
 have h2 := List.count_le_length (a := true) (l := s.hv)
 have h3 := h.hvl
 omega
theorem Vi {f : List UInt8} {a : Option Addr} {c k i : Nat} {w : adV} (hb : Bs w (.slice a f.length c) f) (hi : k * i < f.length) : Bs w (.slice (jO a c (k * i) 1) (k * i + IX f.length k i - k * i) (c - k * i)) (yP f.length k i f) := by
 have hse := EM hi
 have := Sl.mid hb (i := k * i) (j := k * i + IX f.length k i) (by omega) (by omega)
 rw [<- acH, <- acX, abK] at this
 rw [abK]
 exact this
theorem P9 {L k i : Nat} (hi : k * i < L) : (k * (i + 1) <= L -> k * i + IX L k i = k * (i + 1)) /\ (L < k * (i + 1) -> k * i + IX L k i = L) := by
 have : k * (i + 1) = k * i + k := by rw [acN, abV]
 unfold IX
 constructor
 .intro h; omega
 .intro h; omega
theorem XT {w0 w : adV} {v : adW} {l : List adW} (h : Sl w0 v l) : ¬ wB v (fun y => w0.heap.size <= y /\ y < w.heap.size) := fun hi => h.old (Aw hi fun y hy => hy.1)
theorem WI {w0 : adV} {N : Nat -> Prop} {w : adV} {q p i : Nat} {f : List UInt8} {k : Nat} {F0 : Option (List UInt8)} {recs : List (Nat × Nat)} {P : List UInt8} {S : jZ} {s : nS} {a : Option Addr} {c : Nat} (h : GS w0 N w q p S s) (g : Ro hU iE f k F0 recs P S s) (hb : Bs w0 (.slice a f.length c) f) (hk : 0 < k) (hL : f.length <= 1000) (hi : i < mM f.length k) (hn : mM f.length k <= 1000) :
 gU pg jF #[dP q, .int .i64 (i : Nat), .slice (jO a c (k * i) 1) (k * i + IX f.length k i - k * i) (c - k * i)] w (fun r w' => r = .int .i64 (BI hU iE S s i (yP f.length k i f)).2.2 /\ GS w0 N w' q p (BI hU iE S s i (yP f.length k i f)).1 (BI hU iE S s i (yP f.length k i f)).2.1 /\ gX w w' (XL w0 N)) := by
 have hrb := KB g
 have hb0 := Vi (k := k) (i := i) hb ((Au hk).1 hi)
 exact TH h (gX.refl _ _) (g.bk (by decide)) (by rw [g.hvl, g.man, EG]) (hb0.ext h.x (jJ _)) (by have := Ks f.length k i f; omega) (XT hb0) (by rw [g.log]; omega) (by omega)
theorem Vc {f : List UInt8} {k : Nat} {recs : List (Nat × Nat)} {S : jZ} (hk : 0 < k) (h : Calm S) (hF : jE sF S.seen = some f) (hL : jE (jH sF) S.seen = some (nM iE recs)) (ok : ∀ r ∈ recs, UI r) (hl : kB 1 recs < 18446744073709551615) (hr : ¬ S.room < ((iY S.seen + 13 : Nat) : Int)) :
 ∃ S' s', C7 hU iE S sF (kZ hU f k) = (S', some s', 0) /\ s'.fin = true /\ s'.epoch = kB 1 recs + 1 /\ s'.err = 0 /\ iY S'.seen = iY S.seen + 13 := by
 have hfin : NK hU f k S = true := by
  unfold NK
  rw [hF, abL, LZ hU hk]
  simp
 have := (RL (lf := hU) (cf := iE) (f := f) (k := k) h (recs := recs) (by rw [hL] <;> rfl) ok hl).2 hr
 rw [hfin, if_pos rfl] at this
 refine ⟨_, _, this, ?_, rfl, rfl, OC (by rw [hL] <;> rfl)⟩
 show NK hU f k S = true
 exact hfin
theorem T6 {n : Nat} {S : jZ} {s : nS} (hB : Co (n + 2) S) : Co n (jS S s).1 := by
 unfold jS
 simp only
 split
 .exact hB.le (by omega)
 .split
  .split
   .exact Rf (n := n) (hB.le (by omega))
   .exact Qd (Rf hB)
  .split
   .exact Qd (n := n) (hB.le (by omega))
   .exact hB.le (by omega)
theorem Xj {n : Nat} {S : jZ} {nm : ByteArray} {m : TW} (hB : Co (n + 3) S) : Co n (C7 hU iE S nm m).1 := by
 rw [PM]
 split
 .exact hB.le (by omega)
 .split
  .exact (QR (n := n + 2) hB).le (by omega)
  .have h2 := QR (n := n + 2) (s := Ir S nm m) hB
   generalize pX S (Ir S nm m) = B at *
   unfold Mo
   split
   .split
    .exact (So h2).le (by omega)
    .exact (So h2).le (by omega)
   .have h3 := T6 (s := B.2.1) h2
    split
    .exact h3
    .split
     .exact So h3
     .exact So h3
theorem GS.dsesQ {w0 : adV} {N : Nat -> Prop} {w : adV} {q p : Nat} {S : jZ} {s : nS} (h : GS w0 N w q p S s) : Ep w0 (fun b => N b ∨ b = q) w p S /\ w0.heap.size <= q /\ w.cell? ⟨q, 8, none⟩ = some (.bool s.fin) /\ q < w.heap.size := by
 obtain ⟨X, D, Y, lv, hv, h, x0, hN⟩ := h
 refine ⟨⟨X, D, h.dsk, fun b hb => ⟨h.lo b (.inl hb), fun hn => ?_⟩, x0, fun b hb => ?_⟩, h.lo q (.inr h.yq), h.cells.2.2.2.2.2.2.2.2.1, jX.lt h q (.inr h.yq)⟩
 .rcases hn with hn | hn
  .exact (hN b hn).2 (.inl hb)
  .subst hn
   exact (h.yd b h.yq).2 hb
 .rcases hb with hb | hb
  .exact (hN b hb).1
  .rw [hb]; exact (h.yd q h.yq).1
theorem Xe {q : Nat} {b : Bool} {w : adV} (hc : w.cell? ⟨q, 8, none⟩ = some (.bool b)) : gU pg lA #[dP q] w (fun r w' => r = .bool b /\ w' = w) := by
 refine AK ?_
 unfold Bn qD
 simp (disch := omega) only [eY, gN, dX, stepR_skip, fP, fZ, fO, gK, gE, gC, gR, gA, eU, fV, fT, gG, fS, fM, fU, fR, fX, gH, fY, fQ, fC, gB, gI, fL, iS, iQ, iO, iR, iM, iN, iP, iU, iT, eP, Result.ok.injEq, Next.value.injEq, true_and, and_true, fK, fJ, gJ, fN, gD, gS, ZV, fE, fH, fF, fD, eZ, eX, fB, eT, eQ, eH, if_true, if_false, ZS, ZY, ZT, ZU, ZX, ZW, ZR, ZQ, eA, dV, aB, dI, dE, cJ, eB, eS, eE, dK, eD, fA, dQ, eN, bQ, dG, bJ, dL, aI, aH, eL, aV, bZ, eI, aF, eJ, dF, aR, bF, eF, bH, bE, bB, aO, aL, cD, fG, dY, cA, cI, dA, cH, dT, bC, eK, bX, dH, bP, aU, bU, aC, bY, bO, cF, bW, aY, bA, aX, bV, dM, cU, bR, aZ, aK, aJ, bG, aE, dC, dW, aN, aM, aT, aD, cY, aG, cL, bT, bD, aP, cM, cG, aA, dN, cQ, cV, cC, dO, cB, dJ, dU, cP, eC, eM, bN, aS, dZ, bS, aQ, bL, dS, dB, cO, cS, cN, bK, bM, cX, dR, cR, dD, cZ, hc, ZY]
theorem Ep.hold {w0 : adV} {N : Nat -> Prop} {w wa : adV} {p : Nat} {S : jZ} {v : adW} {b : List UInt8} (h : Ep w0 N w p S) (x : gX w wa jK) (ho : zH wa w.heap.size 1 v b.length (b.map oY)) : ∃ N', Ep w0 N' wa p S /\ (∀ y, N y -> N' y) /\ ∀ w', gX wa w' (XL w0 N') -> Bs w' v b := by
 have hs : Bs wa v b := ho.sl
 rcases ho.2 with ⟨rfl, h0⟩ | ⟨bb, c, rest, rfl, g2, g3, _⟩
 .have : b = [] := aaG.1 h0
  subst this
  exact ⟨N, h.new x, fun _ h => h, fun w' _ => Sl.nil _⟩
 .refine ⟨_, h.add x g2 g3.lt, fun _ h => .inl h, fun w' x' => hs.ext x' fun hi => ?_⟩
  unfold wB at hi
  split at hi
  .rename_i e
   simp only [Value.slice.injEq, aaN] at e
   obtain ⟨rfl, _⟩ := e
   exact hi.2 (.inr rfl)
  .exact hi
theorem GS.hold {w0 : adV} {N : Nat -> Prop} {w wa : adV} {q p : Nat} {S : jZ} {s : nS} {v : adW} {b : List UInt8} (h : GS w0 N w q p S s) (x : gX w wa jK) (ho : zH wa w.heap.size 1 v b.length (b.map oY)) : ∃ N', GS w0 N' wa q p S s /\ (∀ y, N y -> N' y) /\ ∀ w', gX wa w' (XL w0 N') -> Bs w' v b := by
 have hs : Bs wa v b := ho.sl
 rcases ho.2 with ⟨rfl, h0⟩ | ⟨bb, c, rest, rfl, g2, g3, _⟩
 .have : b = [] := aaG.1 h0
  subst this
  exact ⟨N, h.new x, fun _ h => h, fun w' _ => Sl.nil _⟩
 .refine ⟨_, h.add x g2 g3.lt, fun _ h => .inl h, fun w' x' => hs.ext x' fun hi => ?_⟩
  unfold wB at hi
  split at hi
  .rename_i e
   simp only [Value.slice.injEq, aaN] at e
   obtain ⟨rfl, _⟩ := e
   exact hi.2 (.inr rfl)
  .exact hi
end Go.Proofs.YteelnmpbnaohpaaDoor

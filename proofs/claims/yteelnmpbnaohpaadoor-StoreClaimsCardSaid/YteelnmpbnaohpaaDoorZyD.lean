/- Parts of the proof of StoreClaims: merged and given short names by a program of ours. -/
import Derived.Test.YteelnmpbnaohpaaDoorZyC
set_option linter.unusedVariables false
set_option linter.unusedSimpArgs false
open Array renaming getElem?_eq_none → aaI
open Bool renaming false_eq_true → ZM, not_false → ZQ, not_true → ZR, or_false → acT, false_or → adE, and_eq_false_iff → adJ
open Int renaming toNat_natCast → ZO
open List renaming mem_cons_of_mem → Z1, length_drop → Z3, length_take → Z5, set_cons_zero → Z7, nil_append → Z9, getElem?_cons_zero → ZK, getElem?_cons_succ → ZL, length_map → ZT, getElem?_eq_getElem → ZU, length_append → ZV, getD_eq_getElem?_getD → ZW, take_of_length_le → ZY, getElem?_append_left → aaA, length_eq_zero_iff → aaB, append_assoc → aaC, getElem?_map → aaD, length_replicate → aaF, getElem?_eq_none → aaK, mem_range → aaO, toList_toArray → aaP, set_cons_succ → aaR, append_nil → aaT, mem_map → aaU, getElem?_append_right → aaV, map_append → aaY, map_congr_left → abA, mem_cons_self → abC, getElem_mem → abG, take_succ_eq_append_getElem → abH, drop_of_length_le → abI, mem_append → abJ, set_append_right → abL, length_nil → abR, ext_getElem? → abW, length_singleton → acB, length_set → acC, map_drop → acE, getElem?_drop → acH, map_take → acR, getElem_of_mem → acU, map_replicate → acW, map_set → acX, mem_singleton → acY, getElem?_set → adA, flatMap_cons → adB, length_range → adC, ext_getElem → adF, getElem_map → adG, range_succ → adO
open Nat renaming le_refl → Z2, zero_add → ZS, add_sub_cancel_left → abF, mul_one → abO, add_assoc → acD, mul_add → acJ, ne_of_lt → acK, le_trans → acM, sub_self → adM
open Option renaming isNone_some → ZN, isNone_none → ZP, getD_some → aaZ
open Option.some renaming injEq → aaH
open Prod.mk renaming injEq → acQ
namespace Go.Proofs.YteelnmpbnaohpaaDoor
open Go Go.En Go.Pu
structure Ec (n : Nat) (S : kD) : Prop where
 bd : Yo S
 sz : iY S.seen <= 1000000000
 un : S.under.length + n <= 1000000
theorem Ec.le {n m : Nat} {S : kD} (h : Ec n S) (hm : m <= n) : Ec m S := ⟨h.bd, h.sz, by have := h.un; omega⟩
theorem Ec.file {n : Nat} {S : kD} (h : Ec n S) {k : ByteArray} {b : List UInt8} (hb : jF k S.seen = some b) : b.length <= 1000000000 := by
 have h1 := CK (k := k) (c := S.seen)
 rw [hb] at h1
 have := h.sz
 have h1 : b.length <= iY S.seen := h1
 omega
theorem LC {l : Int} (h : -1 <= l /\ l <= 9223372036854775807) : -1 <= It l /\ It l <= 9223372036854775807 := by
 unfold It
 split <;> omega
theorem Qu {n : Nat} {S : kD} {o : RS} (h : Ec (n + 1) S) (hs : iY (Ny o S.seen) <= 1000000000) : Ec n (AK S o).1 := by
 have hb := h.bd
 have hu := h.un
 have hz := h.sz
 unfold AK
 split
 .exact ⟨⟨LC hb.left, hb.seen, hb.under, hb.room⟩, hz, by show S.under.length + n <= _; omega⟩
 .refine ⟨⟨LC hb.left, by show iY (Ny o S.seen) <= _; omega, ?_, hb.room⟩, hs, ?_⟩
  .show (S.under ++ [o]).length <= _; rw [ZV]; simp; omega
  .show (S.under ++ [o]).length + n <= _; rw [ZV]; simp; omega
theorem Q6 {n : Nat} {S : kD} {k : ByteArray} {a : Int} {l : List UInt8} (h : Ec (n + 1) S) : Ec n (GS S k a l).1 := by
 unfold GS
 split
 .rename_i h0
  refine Qu h ?_
  unfold Yb at h0
  split at h0
  .omega
  split at h0
  .omega
  rename_i h1
  split at h0
  .omega
  split at h0
  .omega
  rename_i h2
  have hr := h.bd.room
  have e : Ny ⟨0, k, ⟨#[]⟩, a.toNat, l⟩ S.seen = pH k (over (rV S k) a.toNat l) S.seen := rfl
  have hs := rZ k (over (rV S k) a.toNat l) S.seen
  rw [IV] at hs
  rw [e]
  unfold rV at *
  generalize ((jF k S.seen).getD []).length = q at *
  have : 0 <= a := by
   by_cases ha : a < 0
   .exact absurd (.inr ha) h1
   .omega
  omega
 .exact h.le (by omega)
theorem VX {n : Nat} {S : kD} {k : ByteArray} (h : Ec (n + 1) S) : Ec n (UO S k).1 := by
 unfold UO
 split
 .exact h.le (by omega)
 .split
  .exact h.le (by omega)
  .refine Qu h ?_
   have := Gz k S.seen
   have hz := h.sz
   show iY (CF k S.seen) <= _
   omega
theorem YW {n : Nat} {S : kD} {k j : ByteArray} (h : Ec (n + 1) S) : Ec n (M4 S k j).1 := by
 unfold M4
 split
 .exact h.le (by omega)
 .split
  .exact h.le (by omega)
  .split
   .exact h.le (by omega)
   .refine Qu h ?_
    have hz := h.sz
    unfold Ny
    rw [if_neg (show ¬ (1 : Nat) = 0 by decide), if_pos (show (1 : Nat) = 1 from rfl)]
    show iY (match jF k S.seen with | none => S.seen | some old => pH j old (CF k S.seen)) <= _
    have h1 := Gz k S.seen
    cases hg : jF k S.seen with
    | none => exact hz
    | some old =>
      rw [hg] at h1
      have h1 : iY (CF k S.seen) + old.length = iY S.seen := h1
      have h2 := rZ j old (CF k S.seen)
      show iY (pH j old (CF k S.seen)) <= _
      omega
theorem YM {n : Nat} {S : kD} (h : Ec n S) : Ec n (EE S).1 := by
 have hb := h.bd
 have hu := h.un
 unfold EE
 split
 .exact h
 .split
  .exact ⟨⟨LC hb.left, hb.seen, hb.under, hb.room⟩, h.sz, hu⟩
  .exact ⟨⟨LC hb.left, hb.seen, by simp, hb.room⟩, h.sz, by simp; omega⟩
structure Calm (S : kD) : Prop where
 up : S.down = false
 left : S.left = -1
theorem Tj {S : kD} (h : Calm S) : Tz S = false := by unfold Tz; rw [h.up, h.left] <;> rfl
theorem PE {S : kD} (h : Calm S) (o : RS) : AK S o = ({ S with under := S.under ++ [o], seen := Ny o S.seen }, 0) := by
 have h1 := h.up
 have h2 := h.left
 unfold AK
 rw [Tj h, if_neg (by decide)]
 obtain ⟨room, sure, seen, under, left, down⟩ := S
 simp only at h1 h2
 subst h1; subst h2
 rfl
theorem Jt {S : kD} (h : Calm S) : EE S = ({ S with sure := S.seen, under := [] }, 0) := by
 have h1 := h.up
 have h2 := h.left
 unfold EE
 rw [Tj h, h.up, if_neg (show ¬ false = true by decide), if_neg (show ¬ false = true by decide)]
 obtain ⟨room, sure, seen, under, left, down⟩ := S
 simp only at h1 h2
 subst h1; subst h2
 rfl
theorem NI {S : kD} {k : ByteArray} {a : Nat} {l : List UInt8} (h : Calm S) (hk : KZ k = true) (ha : a <= (rV S k).length) :
 GS S k a l = if S.room < ((iY S.seen + (a + l.length - (rV S k).length) : Nat) : Int) then (S, 22) else ({ S with under := S.under ++ [⟨0, k, ⟨#[]⟩, a, l⟩], seen := pH k (over (rV S k) a l) S.seen }, 0) := by
 have e : Yb S k a l.length = if S.room < ((iY S.seen + (a + l.length - (rV S k).length) : Nat) : Int) then 22 else 0 := by
  unfold Yb
  rw [h.up, if_neg (by decide), hk, if_neg (by rintro (h | h); cases h; omega), if_neg (by omega)]
  have : ((iY S.seen : Nat) : Int) + max ((a : Int) + (l.length : Int) - ((rV S k).length : Int)) 0 = ((iY S.seen + (a + l.length - (rV S k).length) : Nat) : Int) := by omega
  rw [this]
 unfold GS
 rw [e]
 by_cases h1 : S.room < ((iY S.seen + (a + l.length - (rV S k).length) : Nat) : Int)
 .rw [if_pos h1, if_pos h1, if_neg (by decide)]
 .rw [if_neg h1, if_neg h1, if_pos rfl, PE h, ZO]
  rfl
end Go.Proofs.YteelnmpbnaohpaaDoor
namespace Go.Proofs.YteelnmpbnaohpaaDoor
open Go Go.En Go.Pu
set_option maxRecDepth 4000
abbrev O4 (m : Ul) (lv : adS) : List adS := [.int .u64 (m.size : Nat), .int .u32 (m.part : Nat), lv]
abbrev Zl (p : Nat) (s : oQ) (lv hv : adS) : List adS :=
 [dP p, .string s.nm, .int .u64 (s.man.size : Nat), .int .u32 (s.man.part : Nat), lv, .int .u64 (s.epoch : Nat), hv, .int .i64 (s.log : Nat), .bool s.fin, .int .i64 s.err]
abbrev UY (l : List (List UInt8)) : List adS := l.flatMap fun x => x.map nU
structure TD (m : Ul) : Prop where
 size : m.size <= 1000000
 part : 1 <= m.part /\ m.part <= 65536
 cnt : m.leaves.length = mF m.size m.part
 max : mF m.size m.part <= 1024
 len : ∀ x ∈ m.leaves, x.length = 32
def Up (w : adR) (T : Nat -> Prop) (lv : adS) (l : List (List UInt8)) : Prop := Cl w 32 lv l.length (UY l) /\ ¬ wC lv T
theorem HF {w w' : adR} {sz n : Nat} {v : adS} {l : List adS} {M : Nat -> Prop} (h : Cl w sz v n l) (x : gT w w' M) (hM : ¬ wC v M) : Cl w' sz v n l := by
 obtain ⟨a, c, rfl, hl, hh⟩ := h
 refine ⟨a, c, rfl, hl, fun h0 => ?_⟩
 obtain ⟨b, off, rfl, h2⟩ := hh h0
 refine ⟨b, off, rfl, fun i hi => ?_⟩
 have hb : ¬ M b := fun hm => hM (by
  obtain ⟨n', rfl⟩ : ∃ n', n = n' + 1 := ⟨n - 1, by omega⟩
  exact hm)
 obtain ⟨y, hy⟩ : ∃ y, l[i]? = some y := ⟨_, ZU hi⟩
 rw [<- h2 i hi]
 have h3 := h2 i hi
 rw [hy] at h3
 rw [CP h3 x hb, h3]
theorem Xp {w : adR} {sz n : Nat} {v : adS} {l : List adS} (h : Cl w sz v n l) (hsz : 0 < sz) : ¬ wC v (fun b => w.heap.size <= b) := by
 obtain ⟨a, c, rfl, hl, hh⟩ := h
 intro hi
 cases n with
 | zero => unfold wC at hi; split at hi <;> simp_all
 | succ n =>
   obtain ⟨b, off, rfl, h2⟩ := hh (by omega)
   have hi : w.heap.size <= b := hi
   have h3 := h2 0 (by rw [hl]; exact Nat.mul_pos (by omega) hsz)
   have hlt : 0 < l.length := by rw [hl]; exact Nat.mul_pos (by omega) hsz
   rw [ZU hlt] at h3
   unfold World.cell? at h3
   rw [aaI hi] at h3
   cases h3
structure jZ (n0 : Nat) (w : adR) (q p : Nat) (X D Y : Nat -> Prop) (S : kD) (s : oQ) (lv hv : adS) : Prop where
 glob : rF w
 g0 : 0 < n0 /\ 1 < n0
 lo : ∀ b, X b ∨ Y b -> n0 <= b
 hi : n0 <= w.heap.size
 dsk : lX w p X D S
 yq : Y q
 yd : ∀ b, Y b -> D b /\ ¬ X b
 own : jH w q (Zl p s lv hv)
 man : TD s.man
 lv : Up w (fun b => X b ∨ Y b) lv s.man.leaves
 hv : IQ w (fun b => Y b /\ b ≠ q) 1 hv s.hv.length (s.hv.map Value.bool)
 ep : s.epoch < 18446744073709551616
 lg : s.log <= 1000000000
 hl : s.hv.length <= 1024
 nl : s.nm.size <= 27
def iK (n0 : Nat) (w : adR) (q p : Nat) (X D Y : Nat -> Prop) (S' : kD) (s' : oQ) (w' : adR) : Prop :=
 ∃ X' D' Y' lv hv, jZ n0 w' q p X' D' Y' S' s' lv hv /\ (∀ b, X' b -> X b ∨ w.heap.size <= b) /\ (∀ b, D b -> D' b) /\ (∀ b, Y' b -> Y b ∨ w.heap.size <= b) /\ gT w w' (fun b => X b ∨ Y b)
theorem iK.refl {n0 : Nat} {w : adR} {q p : Nat} {X D Y : Nat -> Prop} {S : kD} {s : oQ} {lv hv : adS} (h : jZ n0 w q p X D Y S s lv hv) : iK n0 w q p X D Y S s w :=
 ⟨X, D, Y, lv, hv, h, fun _ h => .inl h, fun _ h => h, fun _ h => .inl h, gT.refl _ _⟩
theorem iK.step {n0 : Nat} {w w1 w2 : adR} {q p : Nat} {X D Y X1 D1 Y1 : Nat -> Prop} {S2 : kD} {s2 : oQ} (x : gT w w1 (fun b => X b ∨ Y b)) (hX : ∀ b, X1 b -> X b ∨ w.heap.size <= b) (hD : ∀ b, D b -> D1 b) (hY : ∀ b, Y1 b -> Y b ∨ w.heap.size <= b)
 (h : iK n0 w1 q p X1 D1 Y1 S2 s2 w2) : iK n0 w q p X D Y S2 s2 w2 := by
 obtain ⟨X2, D2, Y2, lv, hv, h1, h2, h3, h4, h5⟩ := h
 have z := x.size
 refine ⟨X2, D2, Y2, lv, hv, h1, fun b hb => ?_, fun b hb => h3 b (hD b hb), fun b hb => ?_, x.trans h5 fun b hb hx => ?_⟩
 .rcases h2 b hb with h | h
  .exact hX b h
  .exact .inr (by omega)
 .rcases h4 b hb with h | h
  .exact hY b h
  .exact .inr (by omega)
 .rcases hx with h | h
  .rcases hX b h with h | h
   .exact .inl h
   .omega
  .rcases hY b h with h | h
   .exact .inr h
   .omega
theorem lX.xd' {w : adR} {p : Nat} {X D : Nat -> Prop} {S : kD} (h : lX w p X D S) : ∀ b, X b -> D b := by
 obtain ⟨_, _, _, _, _, _, _, _, _, _, _, _, h7, _⟩ := h; exact h7
theorem Up.keep {w w' : adR} {T : Nat -> Prop} {lv : adS} {l : List (List UInt8)} (h : Up w T lv l) (x : gT w w' T) {T' : Nat -> Prop} (hT : ∀ b, T' b -> T b ∨ w.heap.size <= b) : Up w' T' lv l := by
 refine ⟨HF h.1 x h.2, fun hi => ?_⟩
 have h3 := Xp h.1 (by decide)
 obtain ⟨a, c, rfl, hl, hh⟩ := h.1
 have h2 := h.2
 unfold wC at hi h2 h3
 split at hi
 .rename_i e
  simp only [Value.slice.injEq] at e
  obtain ⟨rfl, e2, rfl⟩ := e
  rw [e2] at h2 h3
  rcases hT _ hi with h4 | h4
  .exact h2 h4
  .exact h3 h4
 .exact hi
theorem jZ.ext {n0 : Nat} {w w' : adR} {q p : Nat} {X D Y M : Nat -> Prop} {S : kD} {s : oQ} {lv hv : adS} (h : jZ n0 w q p X D Y S s lv hv) (x : gT w w' M) (hM : ∀ b, M b -> D b /\ ¬ X b /\ ¬ Y b /\ n0 <= b) (hl : ¬ wC lv M) : jZ n0 w' q p X D Y S s lv hv := by
 have hg := h.g0
 refine ⟨h.glob.extM x (fun hm => by have := (hM _ hm).2.2.2; omega) (fun hm => by have := (hM _ hm).2.2.2; omega), h.g0, h.lo, acM h.hi x.size, h.dsk.ext x fun b hb => ⟨(hM b hb).1, (hM b hb).2.1⟩, h.yq, h.yd, h.own.ext x (fun hm => (hM _ hm).2.2.1 h.yq), h.man, ⟨HF h.lv.1 x hl, h.lv.2⟩, h.hv.ext x fun b hb hm => (hM _ hm).2.2.1 hb.1, h.ep, h.lg, h.hl, h.nl⟩
theorem jZ.new {n0 : Nat} {w w' : adR} {q p : Nat} {X D Y : Nat -> Prop} {S : kD} {s : oQ} {lv hv : adS} (h : jZ n0 w q p X D Y S s lv hv) (x : gT w w' jL) : jZ n0 w' q p X D Y S s lv hv :=
 h.ext x (fun _ h => h.elim) (jI _)
theorem jZ.lt {n0 : Nat} {w : adR} {q p : Nat} {X D Y : Nat -> Prop} {S : kD} {s : oQ} {lv hv : adS} (h : jZ n0 w q p X D Y S s lv hv) : ∀ b, X b ∨ Y b -> b < w.heap.size := fun b hb => by
 rcases hb with hb | hb
 .exact lX.lt h.dsk b (lX.xd' h.dsk b hb)
 .exact lX.lt h.dsk b (h.yd b hb).1
theorem jZ.disk {n0 : Nat} {w w' : adR} {q p : Nat} {X D Y : Nat -> Prop} {S S' : kD} {s : oQ} {lv hv : adS} (h : jZ n0 w q p X D Y S s lv hv) (hp : Bw w p X D S' w') :
 ∃ X' D', jZ n0 w' q p X' D' Y S' s lv hv /\ (∀ b, X' b -> X b ∨ w.heap.size <= b) /\ (∀ b, D b -> D' b) /\ gT w w' X := by
 obtain ⟨X', D', h1, h2, h3, x⟩ := hp
 have z := x.size
 have hh := h.hi
 have hn : ∀ b, Y b -> ¬ X b := fun b hb => (h.yd b hb).2
 refine ⟨X', D', ⟨h.glob.extM x (fun hm => by have := h.lo _ (.inl hm); have := h.g0; omega) (fun hm => by have := h.lo _ (.inl hm); have := h.g0; omega), h.g0, fun b hb => ?_, by omega, h1, h.yq, fun b hb => ⟨h3 b (h.yd b hb).1, fun hx => ?_⟩, h.own.ext x (hn _ h.yq), h.man, h.lv.keep (x.mono fun _ _ h => .inl h) fun b hb => ?_, h.hv.ext x fun b hb => hn b hb.1, h.ep, h.lg, h.hl, h.nl⟩, h2, h3, x⟩
 .rcases hb with hb | hb
  .rcases h2 b hb with h4 | h4
   .exact h.lo b (.inl h4)
   .omega
  .exact h.lo b (.inr hb)
 .rcases h2 b hx with h4 | h4
  .exact (h.yd b hb).2 h4
  .have := jZ.lt h b (.inr hb); omega
 .rcases hb with hb | hb
  .rcases h2 b hb with h4 | h4
   .exact .inl (.inl h4)
   .exact .inr h4
  .exact .inl (.inr hb)
theorem jZ.cells {n0 : Nat} {w : adR} {q p : Nat} {X D Y : Nat -> Prop} {S : kD} {s : oQ} {lv hv : adS} (h : jZ n0 w q p X D Y S s lv hv) :
 w.cell? ⟨q, 0, none⟩ = some (dP p) /\ w.cell? ⟨q, 1, none⟩ = some (.string s.nm) /\ w.cell? ⟨q, 2, none⟩ = some (.int .u64 (s.man.size : Nat)) /\ w.cell? ⟨q, 3, none⟩ = some (.int .u32 (s.man.part : Nat)) /\ w.cell? ⟨q, 4, none⟩ = some lv /\
 w.cell? ⟨q, 5, none⟩ = some (.int .u64 (s.epoch : Nat)) /\ w.cell? ⟨q, 6, none⟩ = some hv /\ w.cell? ⟨q, 7, none⟩ = some (.int .i64 (s.log : Nat)) /\ w.cell? ⟨q, 8, none⟩ = some (.bool s.fin) /\ w.cell? ⟨q, 9, none⟩ = some (.int .i64 s.err) :=
 ⟨h.own.cell (off := 0), h.own.cell (off := 1), h.own.cell (off := 2), h.own.cell (off := 3), h.own.cell (off := 4), h.own.cell (off := 5), h.own.cell (off := 6), h.own.cell (off := 7), h.own.cell (off := 8), h.own.cell (off := 9)⟩
theorem jZ.set {n0 : Nat} {w w' : adR} {q p : Nat} {X D Y : Nat -> Prop} {S : kD} {s s' : oQ} {lv hv : adS} (h : jZ n0 w q p X D Y S s lv hv) (x : gT w w' (fun y => y = q)) (o : jH w' q (Zl p s' lv hv)) (hm : s'.man = s.man) (hh : s'.hv = s.hv) (hn : s'.nm = s.nm)
 (he : s'.epoch < 18446744073709551616) (hl : s'.log <= 1000000000) : jZ n0 w' q p X D Y S s' lv hv := by
 have hq := h.yd q h.yq
 have hqn := h.lo q (.inr h.yq)
 have hg := h.g0
 refine ⟨h.glob.extM x (by omega) (by omega), h.g0, h.lo, acM h.hi x.size, h.dsk.ext x fun b hb => hb ▸ hq, h.yq, h.yd, o, hm ▸ h.man, ?_, ?_, he, hl, hh ▸ h.hl, hn ▸ h.nl⟩
 .rw [hm]
  exact h.lv.keep (x.mono fun b _ hb => .inr (hb ▸ h.yq)) fun b hb => .inl hb
 .rw [hh]
  exact h.hv.ext x fun b hb h => hb.2 h
theorem Tk {ox oy : Operand} {a b : List UInt8} (ha : a.length = 32) (hb : b.length = 32) (w : adR) : (gO .eql 49 ox oy (.agg (a.map nU).toArray) (.agg (b.map nU).toArray)).run pg w = .ok (.value (.bool (a == b))) w := by
 have g0 : pg.eqGuardType pg.depth 49 = false := by kernel_rfl
 unfold gO
 simp only [B4, nJ, Sem.run_bind, run_eqGuard_agg w .eql 49 ox oy _ _ g0, Result.andThen_ok, run_eql_struct]
 rw [Si 9998 32 Tryd.underlying49 Tryd.underlying5 I8 rfl a b ha hb]
 simp only [Result.andThen_ok]
 rw [show decide (a = b) = (a == b) from (by cases h : (a == b) <;> simp_all)]
theorem Qy : ∀ {l : List (List UInt8)} {i j : Nat}, (∀ x ∈ l, x.length = 32) -> i < l.length -> j < 32 -> (UY l)[i * 32 + j]? = ((l.getD i []).map nU)[j]?
 | [], i, j, _, hi, _ => by simp at hi
 | x :: l, 0, j, h, _, hj => by
   show (List.flatMap _ (x :: l))[0 * 32 + j]? = _
   rw [adB, aaA (by rw [ZT, h x abC]; omega)]
   simp
 | x :: l, i + 1, j, h, hi, hj => by
   show (List.flatMap _ (x :: l))[(i + 1) * 32 + j]? = _
   rw [adB, aaV (by rw [ZT, h x abC]; omega), ZT, h x abC, show (i + 1) * 32 + j - 32 = i * 32 + j from by omega]
   exact Qy (l := l) (fun y hy => h y (Z1 _ hy)) (by simpa using hi) hj
theorem NB {n0 q p : Nat} {X D Y : Nat -> Prop} {S : kD} {s : oQ} {lv hv : adS} {w : adR} (h : jZ n0 w q p X D Y S s lv hv) : gS pg mA #[dP q] w (fun r w' => r = .int .i64 s.err /\ w' = w) := by
 refine Jc ?_
 obtain ⟨c0, c1, c2, c3, c4, c5, c6, c7, c8, c9⟩ := h.cells
 unfold HG xP
 simp (disch := omega) only [eY, gN, dX, stepR_skip, fO, gI, fP, gJ, gC, gE, gR, fZ, eU, fX, fU, gD, fR, fN, fW, fS, fV, gK, gG, fQ, fC, fY, gA, fL, iP, iS, iL, iT, iR, iM, iN, iQ, iO, eP, Result.ok.injEq, Next.value.injEq, true_and, and_true, fI, fJ, gB, fM, gH, gQ, ZO, fD, fF, fG, fE, eZ, eT, fB, eX, eQ, eH, if_true, if_false, ZM, ZS, ZN, ZP, ZR, ZQ, ZL, ZK, eA, dV, aB, dE, dJ, cB, eB, eS, eD, dN, eE, fA, dG, eI, bR, dL, bC, dR, aL, aH, eK, aZ, cI, eJ, aG, eL, dQ, aR, bD, eC, bG, bF, bJ, aP, aM, cG, fH, dY, cJ, cA, dB, cH, dT, bB, eM, bX, dS, bQ, bA, bT, aC, bU, bP, cF, bY, aU, aV, aX, bV, dD, cP, bO, aY, aN, aK, bH, aD, dC, dW, aJ, aI, aT, aF, cY, aE, cL, bW, bE, aO, cM, bZ, aA, dF, cU, cV, cC, dK, cD, dM, dU, cN, eF, eN, bN, aS, dZ, bS, aQ, bM, dI, dA, cS, cO, cR, bK, bL, cX, dO, cQ, dH, cZ, c9]
theorem VV {n0 q p : Nat} {X D Y : Nat -> Prop} {S : kD} {s : oQ} {lv hv : adS} {w : adR} (h : jZ n0 w q p X D Y S s lv hv) : gS pg oY #[dP q] w (fun r w' => r = .bool s.fin /\ w' = w) := by
 refine HL ?_
 obtain ⟨c0, c1, c2, c3, c4, c5, c6, c7, c8, c9⟩ := h.cells
 unfold F4 wG
 simp (disch := omega) only [eY, gN, dX, stepR_skip, fO, gI, fP, gJ, gC, gE, gR, fZ, eU, fX, fU, gD, fR, fN, fW, fS, fV, gK, gG, fQ, fC, fY, gA, fL, iP, iS, iL, iT, iR, iM, iN, iQ, iO, eP, Result.ok.injEq, Next.value.injEq, true_and, and_true, fI, fJ, gB, fM, gH, gQ, ZO, fD, fF, fG, fE, eZ, eT, fB, eX, eQ, eH, if_true, if_false, ZM, ZS, ZN, ZP, ZR, ZQ, ZL, ZK, eA, dV, aB, dE, dJ, cB, eB, eS, eD, dN, eE, fA, dG, eI, bR, dL, bC, dR, aL, aH, eK, aZ, cI, eJ, aG, eL, dQ, aR, bD, eC, bG, bF, bJ, aP, aM, cG, fH, dY, cJ, cA, dB, cH, dT, bB, eM, bX, dS, bQ, bA, bT, aC, bU, bP, cF, bY, aU, aV, aX, bV, dD, cP, bO, aY, aN, aK, bH, aD, dC, dW, aJ, aI, aT, aF, cY, aE, cL, bW, bE, aO, cM, bZ, aA, dF, cU, cV, cC, dK, cD, dM, dU, cN, eF, eN, bN, aS, dZ, bS, aQ, bM, dI, dA, cS, cO, cR, bK, bL, cX, dO, cQ, dH, cZ, c8]
theorem TU {n0 q p : Nat} {X D Y : Nat -> Prop} {S : kD} {s : oQ} {lv hv : adS} {w : adR} (h : jZ n0 w q p X D Y S s lv hv) : gS pg mI #[dP q] w (fun r w' => r = .int .u64 (s.epoch : Nat) /\ w' = w) := by
 refine Hg ?_
 obtain ⟨c0, c1, c2, c3, c4, c5, c6, c7, c8, c9⟩ := h.cells
 unfold EK uI
 simp (disch := omega) only [eY, gN, dX, stepR_skip, fO, gI, fP, gJ, gC, gE, gR, fZ, eU, fX, fU, gD, fR, fN, fW, fS, fV, gK, gG, fQ, fC, fY, gA, fL, iP, iS, iL, iT, iR, iM, iN, iQ, iO, eP, Result.ok.injEq, Next.value.injEq, true_and, and_true, fI, fJ, gB, fM, gH, gQ, ZO, fD, fF, fG, fE, eZ, eT, fB, eX, eQ, eH, if_true, if_false, ZM, ZS, ZN, ZP, ZR, ZQ, ZL, ZK, eA, dV, aB, dE, dJ, cB, eB, eS, eD, dN, eE, fA, dG, eI, bR, dL, bC, dR, aL, aH, eK, aZ, cI, eJ, aG, eL, dQ, aR, bD, eC, bG, bF, bJ, aP, aM, cG, fH, dY, cJ, cA, dB, cH, dT, bB, eM, bX, dS, bQ, bA, bT, aC, bU, bP, cF, bY, aU, aV, aX, bV, dD, cP, bO, aY, aN, aK, bH, aD, dC, dW, aJ, aI, aT, aF, cY, aE, cL, bW, bE, aO, cM, bZ, aA, dF, cU, cV, cC, dK, cD, dM, dU, cN, eF, eN, bN, aS, dZ, bS, aQ, bM, dI, dA, cS, cO, cR, bK, bL, cX, dO, cQ, dH, cZ, c5]
theorem NR {q p : Nat} {X D : Nat -> Prop} {S : kD} {n : ByteArray} {w : adR} (hd : lX w p X D S) (hB : Ec 0 S) (hc : w.cell? ⟨q, 0, none⟩ = some (dP p)) :
 gS pg mS #[dP q, .string n] w (fun r w' => ∃ v, r = .tuple #[v, .bool (iX S n).2.1, .int .i64 (iX S n).2.2] /\ zF w' w.heap.size 1 v (iX S n).1.length ((iX S n).1.map nU) /\ gT w w' jL) := by
 refine HS ?_
 unfold Gf wN
 simp (disch := omega) only [eY, gN, dX, stepR_skip, fO, gI, fP, gJ, gC, gE, gR, fZ, eU, fX, fU, gD, fR, fN, fW, fS, fV, gK, gG, fQ, fC, fY, gA, fL, iP, iS, iL, iT, iR, iM, iN, iQ, iO, eP, Result.ok.injEq, Next.value.injEq, true_and, and_true, fI, fJ, gB, fM, gH, gQ, ZO, fD, fF, fG, fE, eZ, eT, fB, eX, eQ, eH, if_true, if_false, ZM, ZS, ZN, ZP, ZR, ZQ, ZL, ZK, eA, dV, aB, dE, dJ, cB, eB, eS, eD, dN, eE, fA, dG, eI, bR, dL, bC, dR, aL, aH, eK, aZ, cI, eJ, aG, eL, dQ, aR, bD, eC, bG, bF, bJ, aP, aM, cG, fH, dY, cJ, cA, dB, cH, dT, bB, eM, bX, dS, bQ, bA, bT, aC, bU, bP, cF, bY, aU, aV, aX, bV, dD, cP, bO, aY, aN, aK, bH, aD, dC, dW, aJ, aI, aT, aF, cY, aE, cL, bW, bE, aO, cM, bZ, aA, dF, cU, cV, cC, dK, cD, dM, dU, cN, eF, eN, bN, aS, dZ, bS, aQ, bM, dI, dA, cS, cO, cR, bK, bL, cX, dO, cQ, dH, cZ, hc]
 refine (QF hd hB.bd (fun b hb => hB.file hb)).mono ?_
 rintro r w1 ⟨hr, x1⟩
 unfold iX
 rcases hr with ⟨h1, rfl⟩ | ⟨h1, h2, rfl⟩ | ⟨h1, b, v, h2, rfl, ho⟩
 .have n1 : ((20 : Int) == 21) = false := rfl
  have n2 : ((20 : Int) == 0) = false := rfl
  rw [if_pos h1]
  simp (disch := omega) only [eY, gN, dX, stepR_skip, fO, gI, fP, gJ, gC, gE, gR, fZ, eU, fX, fU, gD, fR, fN, fW, fS, fV, gK, gG, fQ, fC, fY, gA, fL, iP, iS, iL, iT, iR, iM, iN, iQ, iO, eP, Result.ok.injEq, Next.value.injEq, true_and, and_true, fI, fJ, gB, fM, gH, gQ, ZO, fD, fF, fG, fE, eZ, eT, fB, eX, eQ, eH, if_true, if_false, ZM, ZS, ZN, ZP, ZR, ZQ, ZL, ZK, eA, dV, aB, dE, dJ, cB, eB, eS, eD, dN, eE, fA, dG, eI, bR, dL, bC, dR, aL, aH, eK, aZ, cI, eJ, aG, eL, dQ, aR, bD, eC, bG, bF, bJ, aP, aM, cG, fH, dY, cJ, cA, dB, cH, dT, bB, eM, bX, dS, bQ, bA, bT, aC, bU, bP, cF, bY, aU, aV, aX, bV, dD, cP, bO, aY, aN, aK, bH, aD, dC, dW, aJ, aI, aT, aF, cY, aE, cL, bW, bE, aO, cM, bZ, aA, dF, cU, cV, cC, dK, cD, dM, dU, cN, eF, eN, bN, aS, dZ, bS, aQ, bM, dI, dA, cS, cO, cR, bK, bL, cX, dO, cQ, dH, cZ, n1, n2]
  exact ⟨_, rfl, zF.nil _ _ _, x1⟩
 .have n1 : ((21 : Int) == 21) = true := rfl
  rw [if_neg (by rw [h1]; decide), h2]
  simp (disch := omega) only [eY, gN, dX, stepR_skip, fO, gI, fP, gJ, gC, gE, gR, fZ, eU, fX, fU, gD, fR, fN, fW, fS, fV, gK, gG, fQ, fC, fY, gA, fL, iP, iS, iL, iT, iR, iM, iN, iQ, iO, eP, Result.ok.injEq, Next.value.injEq, true_and, and_true, fI, fJ, gB, fM, gH, gQ, ZO, fD, fF, fG, fE, eZ, eT, fB, eX, eQ, eH, if_true, if_false, ZM, ZS, ZN, ZP, ZR, ZQ, ZL, ZK, eA, dV, aB, dE, dJ, cB, eB, eS, eD, dN, eE, fA, dG, eI, bR, dL, bC, dR, aL, aH, eK, aZ, cI, eJ, aG, eL, dQ, aR, bD, eC, bG, bF, bJ, aP, aM, cG, fH, dY, cJ, cA, dB, cH, dT, bB, eM, bX, dS, bQ, bA, bT, aC, bU, bP, cF, bY, aU, aV, aX, bV, dD, cP, bO, aY, aN, aK, bH, aD, dC, dW, aJ, aI, aT, aF, cY, aE, cL, bW, bE, aO, cM, bZ, aA, dF, cU, cV, cC, dK, cD, dM, dU, cN, eF, eN, bN, aS, dZ, bS, aQ, bM, dI, dA, cS, cO, cR, bK, bL, cX, dO, cQ, dH, cZ, n1]
  exact ⟨_, rfl, zF.nil _ _ _, x1⟩
 .have n1 : ((0 : Int) == 21) = false := rfl
  have n2 : ((0 : Int) == 0) = true := rfl
  rw [if_neg (by rw [h1]; decide), h2]
  simp (disch := omega) only [eY, gN, dX, stepR_skip, fO, gI, fP, gJ, gC, gE, gR, fZ, eU, fX, fU, gD, fR, fN, fW, fS, fV, gK, gG, fQ, fC, fY, gA, fL, iP, iS, iL, iT, iR, iM, iN, iQ, iO, eP, Result.ok.injEq, Next.value.injEq, true_and, and_true, fI, fJ, gB, fM, gH, gQ, ZO, fD, fF, fG, fE, eZ, eT, fB, eX, eQ, eH, if_true, if_false, ZM, ZS, ZN, ZP, ZR, ZQ, ZL, ZK, eA, dV, aB, dE, dJ, cB, eB, eS, eD, dN, eE, fA, dG, eI, bR, dL, bC, dR, aL, aH, eK, aZ, cI, eJ, aG, eL, dQ, aR, bD, eC, bG, bF, bJ, aP, aM, cG, fH, dY, cJ, cA, dB, cH, dT, bB, eM, bX, dS, bQ, bA, bT, aC, bU, bP, cF, bY, aU, aV, aX, bV, dD, cP, bO, aY, aN, aK, bH, aD, dC, dW, aJ, aI, aT, aF, cY, aE, cL, bW, bE, aO, cM, bZ, aA, dF, cU, cV, cC, dK, cD, dM, dU, cN, eF, eN, bN, aS, dZ, bS, aQ, bM, dI, dA, cS, cO, cR, bK, bL, cX, dO, cQ, dH, cZ, n1, n2]
  exact ⟨_, rfl, ho, x1⟩
theorem Tp {n0 q p i : Nat} {X D Y : Nat -> Prop} {S : kD} {s : oQ} {lv hv bv : adS} {b : List UInt8} {w : adR} (h : jZ n0 w q p X D Y S s lv hv) (hi : i < s.man.leaves.length) (hb : Bs w bv b) (hl : b.length <= 1000000) :
 gS pg nX #[dP q, .int .i64 (i : Nat), bv] w (fun r w' => r = .bool (AA gZ s.man i b) /\ gT w w' jL) := by
 refine GU ?_
 obtain ⟨RR, hRR⟩ : ∃ RR : adS -> adR -> Prop, RR = fun r w' => r = .bool (AA gZ s.man i b) /\ gT w w' jL := ⟨_, rfl⟩
 rw [<- hRR]
 have hm := h.man
 have hc1 := hm.cnt
 have hc2 := hm.max
 have h' := h.new (gT.dr w jL)
 obtain ⟨c0, c1, c2, c3, c4, c5, c6, c7, c8, c9⟩ := h'.cells
 obtain ⟨ba, bc, rfl, hbc⟩ := hb.len
 rw [ZT] at hb hbc
 unfold Em uL
 have e1 : IntKind.i64.wrap ((s.man.part : Nat) : Int) = ((s.man.part : Nat) : Int) := fI (by omega) (by have := hm.part; omega)
 simp (disch := omega) only [eY, gN, dX, stepR_skip, fO, gI, fP, gJ, gC, gE, gR, fZ, eU, fX, fU, gD, fR, fN, fW, fS, fV, gK, gG, fQ, fC, fY, gA, fL, iP, iS, iL, iT, iR, iM, iN, iQ, iO, eP, Result.ok.injEq, Next.value.injEq, true_and, and_true, fI, fJ, gB, fM, gH, gQ, ZO, fD, fF, fG, fE, eZ, eT, fB, eX, eQ, eH, if_true, if_false, ZM, ZS, ZN, ZP, ZR, ZQ, ZL, ZK, eA, dV, aB, dE, dJ, cB, eB, eS, eD, dN, eE, fA, dG, eI, bR, dL, bC, dR, aL, aH, eK, aZ, cI, eJ, aG, eL, dQ, aR, bD, eC, bG, bF, bJ, aP, aM, cG, fH, dY, cJ, cA, dB, cH, dT, bB, eM, bX, dS, bQ, bA, bT, aC, bU, bP, cF, bY, aU, aV, aX, bV, dD, cP, bO, aY, aN, aK, bH, aD, dC, dW, aJ, aI, aT, aF, cY, aE, cL, bW, bE, aO, cM, bZ, aA, dF, cU, cV, cC, dK, cD, dM, dU, cN, eF, eN, bN, aS, dZ, bS, aQ, bM, dI, dA, cS, cO, cR, bK, bL, cX, dO, cQ, dH, cZ, c2, c3, e1, ZT]
 have hsz := hm.size
 refine (NU (by omega) hm.part.1 hm.part.2 hc2 (by omega)).mono ?_
 rintro r w1 ⟨rfl, hw⟩
 rw [hw]; clear hw w1
 have n0' : ((0 : Int) == 0) = true := rfl
 obtain ⟨N, hN⟩ : ∃ N, N = Iq s.man.size s.man.part i := ⟨_, rfl⟩
 have hwb : AA gZ s.man i b = (b.length == N && gZ b == s.man.leaves.getD i []) := by rw [hN] <;> rfl
 rw [<- hN]
 have key : ∀ W, gT w W jL -> ∃ la off lc, lv = .slice (some ⟨la, off, none⟩) s.man.leaves.length lc /\ (fK 49 (.pointer (some ⟨la, off + i * 32, none⟩))).run pg W = .ok (.value (.agg ((s.man.leaves.getD i []).map nU).toArray)) W := fun W x => by
  obtain ⟨a, c, hlv, hln, hh⟩ := HF h.lv.1 x (jI _)
  obtain ⟨la, off, rfl, h2⟩ := hh (by omega)
  have hmem : s.man.leaves.getD i [] ∈ s.man.leaves := by
   rw [ZW, ZU hi]; exact abG hi
  refine ⟨la, off, c, hlv, MO (by rw [ZT, hm.len _ hmem]) fun j hj => ?_⟩
  rw [ZT, hm.len _ hmem] at hj
  rw [acD, h2 _ (by rw [hln]; omega), Qy hm.len hi hj]
 have hllen : (s.man.leaves.getD i []).length = 32 := hm.len _ (by rw [ZW, ZU hi]; exact abG hi)
 by_cases hq : b.length = N
 rotate_left
 .have d1 : (((b.length : Nat) : Int) == ((N : Nat) : Int)) = false := by rw [beq_eq_false_iff_ne]; omega
  have d2 : (b.length == N) = false := by rw [beq_eq_false_iff_ne]; exact hq
  rw [d2, Bool.false_and] at hwb
  simp (disch := omega) only [eY, gN, dX, stepR_skip, fO, gI, fP, gJ, gC, gE, gR, fZ, eU, fX, fU, gD, fR, fN, fW, fS, fV, gK, gG, fQ, fC, fY, gA, fL, iP, iS, iL, iT, iR, iM, iN, iQ, iO, eP, Result.ok.injEq, Next.value.injEq, true_and, and_true, fI, fJ, gB, fM, gH, gQ, ZO, fD, fF, fG, fE, eZ, eT, fB, eX, eQ, eH, if_true, if_false, ZM, ZS, ZN, ZP, ZR, ZQ, ZL, ZK, eA, dV, aB, dE, dJ, cB, eB, eS, eD, dN, eE, fA, dG, eI, bR, dL, bC, dR, aL, aH, eK, aZ, cI, eJ, aG, eL, dQ, aR, bD, eC, bG, bF, bJ, aP, aM, cG, fH, dY, cJ, cA, dB, cH, dT, bB, eM, bX, dS, bQ, bA, bT, aC, bU, bP, cF, bY, aU, aV, aX, bV, dD, cP, bO, aY, aN, aK, bH, aD, dC, dW, aJ, aI, aT, aF, cY, aE, cL, bW, bE, aO, cM, bZ, aA, dF, cU, cV, cC, dK, cD, dM, dU, cN, eF, eN, bN, aS, dZ, bS, aQ, bM, dI, dA, cS, cO, cR, bK, bL, cX, dO, cQ, dH, cZ, n0', d1]
  rw [hRR]
  exact ⟨by rw [hwb], (gT.dr w _).seq (gT.dr _ _)⟩
 have d1 : (((b.length : Nat) : Int) == ((N : Nat) : Int)) = true := by rw [beq_iff_eq]; omega
 have d2 : (b.length == N) = true := by rw [beq_iff_eq]; exact hq
 rw [d2, Bool.true_and] at hwb
 simp (disch := omega) only [eY, gN, dX, stepR_skip, fO, gI, fP, gJ, gC, gE, gR, fZ, eU, fX, fU, gD, fR, fN, fW, fS, fV, gK, gG, fQ, fC, fY, gA, fL, iP, iS, iL, iT, iR, iM, iN, iQ, iO, eP, Result.ok.injEq, Next.value.injEq, true_and, and_true, fI, fJ, gB, fM, gH, gQ, ZO, fD, fF, fG, fE, eZ, eT, fB, eX, eQ, eH, if_true, if_false, ZM, ZS, ZN, ZP, ZR, ZQ, ZL, ZK, eA, dV, aB, dE, dJ, cB, eB, eS, eD, dN, eE, fA, dG, eI, bR, dL, bC, dR, aL, aH, eK, aZ, cI, eJ, aG, eL, dQ, aR, bD, eC, bG, bF, bJ, aP, aM, cG, fH, dY, cJ, cA, dB, cH, dT, bB, eM, bX, dS, bQ, bA, bT, aC, bU, bP, cF, bY, aU, aV, aX, bV, dD, cP, bO, aY, aN, aK, bH, aD, dC, dW, aJ, aI, aT, aF, cY, aE, cL, bW, bE, aO, cM, bZ, aA, dF, cU, cV, cC, dK, cD, dM, dU, cN, eF, eN, bN, aS, dZ, bS, aQ, bM, dI, dA, cS, cO, cR, bK, bL, cX, dO, cQ, dH, cZ, n0', d1]
 have xd2 : gT w (dr (dr w)) jL := (gT.dr w _).seq (gT.dr _ _)
 refine (SK (l := b) (h.glob.ext xd2) (hb.ext xd2 (jI _)) (by omega)).mono ?_
 rintro r w2 ⟨rfl, x2⟩
 have x02 := xd2.seq x2
 obtain ⟨la, off, lc, hlv, ld2⟩ := key w2 x02
 obtain ⟨_, _, _, hlv', ldd⟩ := key _ xd2
 rw [hlv] at hlv'
 cases hlv'
 obtain ⟨a0, a1, a2, a3, a4, a5, a6, a7, a8, a9⟩ := (h.new x02).cells
 obtain ⟨b0, b1, b2, b3, b4, b5, b6, b7, b8, b9⟩ := (h.new xd2).cells
 rw [hlv] at a4 b4
 have hs := fun ox oy => Tk (ox := ox) (oy := oy) (a := gZ b) (b := s.man.leaves.getD i []) (wT _) hllen w2
 simp (disch := omega) only [eY, gN, dX, stepR_skip, fO, gI, fP, gJ, gC, gE, gR, fZ, eU, fX, fU, gD, fR, fN, fW, fS, fV, gK, gG, fQ, fC, fY, gA, fL, iP, iS, iL, iT, iR, iM, iN, iQ, iO, eP, Result.ok.injEq, Next.value.injEq, true_and, and_true, fI, fJ, gB, fM, gH, gQ, ZO, fD, fF, fG, fE, eZ, eT, fB, eX, eQ, eH, if_true, if_false, ZM, ZS, ZN, ZP, ZR, ZQ, ZL, ZK, eA, dV, aB, dE, dJ, cB, eB, eS, eD, dN, eE, fA, dG, eI, bR, dL, bC, dR, aL, aH, eK, aZ, cI, eJ, aG, eL, dQ, aR, bD, eC, bG, bF, bJ, aP, aM, cG, fH, dY, cJ, cA, dB, cH, dT, bB, eM, bX, dS, bQ, bA, bT, aC, bU, bP, cF, bY, aU, aV, aX, bV, dD, cP, bO, aY, aN, aK, bH, aD, dC, dW, aJ, aI, aT, aF, cY, aE, cL, bW, bE, aO, cM, bZ, aA, dF, cU, cV, cC, dK, cD, dM, dU, cN, eF, eN, bN, aS, dZ, bS, aQ, bM, dI, dA, cS, cO, cR, bK, bL, cX, dO, cQ, dH, cZ, a4, b4, ld2, ldd, hs]
 rw [hRR]
 exact ⟨by rw [hwb], x02⟩
theorem GR (L k i : Nat) (b : List UInt8) : (vV L k i b).length <= b.length := by
 unfold vV
 rw [Z5, Z3]; omega
theorem Oy {n0 q p : Nat} {X D Y : Nat -> Prop} {S : kD} {s : oQ} {lv hv bv : adS} {b : List UInt8} {w : adR} (h : jZ n0 w q p X D Y S s lv hv) (hb : Bs w bv b) (hl : b.length <= 1000000) :
 gS pg lT #[dP q, bv] w (fun r w' => ∃ ob, r = .slice (some ⟨ob, 0, none⟩) s.man.leaves.length s.man.leaves.length /\ w.heap.size <= ob /\ jH w' ob ((jB gZ s.man b).map Value.bool) /\ gT w w' jL) := by
 refine FZ ?_
 obtain ⟨RR, hRR⟩ : ∃ RR : adS -> adR -> Prop, RR = fun r w' => ∃ ob, r = .slice (some ⟨ob, 0, none⟩) s.man.leaves.length s.man.leaves.length /\ w.heap.size <= ob /\ jH w' ob ((jB gZ s.man b).map Value.bool) /\ gT w w' jL := ⟨_, rfl⟩
 rw [<- hRR]
 have hm := h.man
 have hc1 := hm.cnt
 have hc2 := hm.max
 have hsz := hm.size
 obtain ⟨c0, c1, c2, c3, c4, c5, c6, c7, c8, c9⟩ := h.cells
 obtain ⟨la, lc, hlv, _⟩ := h.lv.1
 obtain ⟨ba, bc, rfl, hbc⟩ := hb.len
 rw [ZT] at hb hbc ⊢
 obtain ⟨n, hn⟩ : ∃ n, n = s.man.leaves.length := ⟨_, rfl⟩
 rw [hlv] at c4
 rw [<- hn] at c4 hc1
 unfold D3 sL tL
 simp (disch := omega) only [eY, gN, dX, stepR_skip, fO, gI, fP, gJ, gC, gE, gR, fZ, eU, fX, fU, gD, fR, fN, fW, fS, fV, gK, gG, fQ, fC, fY, gA, fL, iP, iS, iL, iT, iR, iM, iN, iQ, iO, eP, Result.ok.injEq, Next.value.injEq, true_and, and_true, fI, fJ, gB, fM, gH, gQ, ZO, fD, fF, fG, fE, eZ, eT, fB, eX, eQ, eH, if_true, if_false, ZM, ZS, ZN, ZP, ZR, ZQ, ZL, ZK, eA, dV, aB, dE, dJ, cB, eB, eS, eD, dN, eE, fA, dG, eI, bR, dL, bC, dR, aL, aH, eK, aZ, cI, eJ, aG, eL, dQ, aR, bD, eC, bG, bF, bJ, aP, aM, cG, fH, dY, cJ, cA, dB, cH, dT, bB, eM, bX, dS, bQ, bA, bT, aC, bU, bP, cF, bY, aU, aV, aX, bV, dD, cP, bO, aY, aN, aK, bH, aD, dC, dW, aJ, aI, aT, aF, cY, aE, cL, bW, bE, aO, cM, bZ, aA, dF, cU, cV, cC, dK, cD, dM, dU, cN, eF, eN, bN, aS, dZ, bS, aQ, bM, dI, dA, cS, cO, cR, bK, bL, cX, dO, cQ, dH, cZ, c4]
 refine Kv (by omega) (by omega) fun w1 o1 x1 s1 => ?_
 rw [ZO] at o1 ⊢
 obtain ⟨ob, hob⟩ : ∃ ob, ob = w.heap.size := ⟨_, rfl⟩
 rw [<- hob] at o1 ⊢
 unfold tD tI sY sV sH
 simp (disch := omega) only [eY, gN, dX, stepR_skip, fO, gI, fP, gJ, gC, gE, gR, fZ, eU, fX, fU, gD, fR, fN, fW, fS, fV, gK, gG, fQ, fC, fY, gA, fL, iP, iS, iL, iT, iR, iM, iN, iQ, iO, eP, Result.ok.injEq, Next.value.injEq, true_and, and_true, fI, fJ, gB, fM, gH, gQ, ZO, fD, fF, fG, fE, eZ, eT, fB, eX, eQ, eH, if_true, if_false, ZM, ZS, ZN, ZP, ZR, ZQ, ZL, ZK, eA, dV, aB, dE, dJ, cB, eB, eS, eD, dN, eE, fA, dG, eI, bR, dL, bC, dR, aL, aH, eK, aZ, cI, eJ, aG, eL, dQ, aR, bD, eC, bG, bF, bJ, aP, aM, cG, fH, dY, cJ, cA, dB, cH, dT, bB, eM, bX, dS, bQ, bA, bT, aC, bU, bP, cF, bY, aU, aV, aX, bV, dD, cP, bO, aY, aN, aK, bH, aD, dC, dW, aJ, aI, aT, aF, cY, aE, cL, bW, bE, aO, cM, bZ, aA, dF, cU, cV, cC, dK, cD, dM, dU, cN, eF, eN, bN, aS, dZ, bS, aQ, bM, dI, dA, cS, cO, cR, bK, bL, cX, dO, cQ, dH, cZ]
 refine kC.rule (fun m (t : adS) w' => ∃ i : Nat, m = n - i /\ i <= n /\ t = .int .i64 (i : Nat) /\ jH w' ob (((List.range i).map fun j => Value.bool (wholeAt gZ s.man b j)) ++ List.replicate (n - i) (.bool false)) /\ gT w w' jL) n ⟨0, rfl, by omega, rfl, o1, x1⟩ ?_
 clear o1
 rintro m t w2 ⟨i, rfl, hi, rfl, o2, x2⟩
 unfold pA
 by_cases hlt : i < n
 .have d1 : decide ((i : Int) < (n : Int)) = true := by simp; omega
  have x2d : gT w (dr w2) jL := x2.seq (gT.dr _ _)
  obtain ⟨a0, a1, a2, a3, a4, a5, a6, a7, a8, a9⟩ := (h.new x2d).cells
  have e1 : IntKind.i64.wrap ((s.man.part : Nat) : Int) = ((s.man.part : Nat) : Int) := fI (by omega) (by have := hm.part; omega)
  simp (disch := omega) only [eY, gN, dX, stepR_skip, fO, gI, fP, gJ, gC, gE, gR, fZ, eU, fX, fU, gD, fR, fN, fW, fS, fV, gK, gG, fQ, fC, fY, gA, fL, iP, iS, iL, iT, iR, iM, iN, iQ, iO, eP, Result.ok.injEq, Next.value.injEq, true_and, and_true, fI, fJ, gB, fM, gH, gQ, ZO, fD, fF, fG, fE, eZ, eT, fB, eX, eQ, eH, if_true, if_false, ZM, ZS, ZN, ZP, ZR, ZQ, ZL, ZK, eA, dV, aB, dE, dJ, cB, eB, eS, eD, dN, eE, fA, dG, eI, bR, dL, bC, dR, aL, aH, eK, aZ, cI, eJ, aG, eL, dQ, aR, bD, eC, bG, bF, bJ, aP, aM, cG, fH, dY, cJ, cA, dB, cH, dT, bB, eM, bX, dS, bQ, bA, bT, aC, bU, bP, cF, bY, aU, aV, aX, bV, dD, cP, bO, aY, aN, aK, bH, aD, dC, dW, aJ, aI, aT, aF, cY, aE, cL, bW, bE, aO, cM, bZ, aA, dF, cU, cV, cC, dK, cD, dM, dU, cN, eF, eN, bN, aS, dZ, bS, aQ, bM, dI, dA, cS, cO, cR, bK, bL, cX, dO, cQ, dH, cZ, d1, a2, a3, e1]
  refine (NU (by omega) hm.part.1 hm.part.2 hc2 (by omega)).mono ?_
  rintro r w3 ⟨rfl, hw⟩
  rw [hw]; clear hw w3
  obtain ⟨P, hP⟩ : ∃ P, P = s.man.part * i := ⟨_, rfl⟩
  obtain ⟨N, hN⟩ : ∃ N, N = Iq s.man.size s.man.part i := ⟨_, rfl⟩
  have hPl : P < s.man.size := hP ▸ (vQ (by have := hm.part; omega)).1 (by omega)
  have hNl : N <= s.man.part := by rw [hN]; unfold Iq; omega
  have hpm := hm.part
  rw [<- hP, <- hN]
  have n1 : ((0 : Int) == 0) = true := rfl
  have e2 : (P : Int) + (N : Int) = ((P + N : Nat) : Int) := by omega
  have hwa : wholeAt gZ s.man b i = (decide (P + N <= b.length) && AA gZ s.man i (vV s.man.size s.man.part i b)) := by rw [hP, hN] <;> rfl
  have o3 := kI o2
  have oset : ∀ (z : Bool), z = wholeAt gZ s.man b i -> ((((List.range i).map fun j => Value.bool (wholeAt gZ s.man b j)) ++ List.replicate (n - i) (Value.bool false)).set i (.bool z)) = ((List.range (i + 1)).map fun j => Value.bool (wholeAt gZ s.man b j)) ++ List.replicate (n - (i + 1)) (.bool false) := fun z hz => by
   rw [abL _ _ (by simp), ZT, adC, adM, show n - i = (n - (i + 1)) + 1 from by omega, List.replicate_succ, Z7, adO, aaY, aaC, hz]
   rfl
  by_cases hfit : P + N <= b.length
  .have d2 : decide (((P + N : Nat) : Int) <= (b.length : Int)) = true := by simp only [decide_eq_true_eq]; omega
   rw [decide_eq_true hfit, Bool.true_and] at hwa
   simp (disch := omega) only [eY, gN, dX, stepR_skip, fO, gI, fP, gJ, gC, gE, gR, fZ, eU, fX, fU, gD, fR, fN, fW, fS, fV, gK, gG, fQ, fC, fY, gA, fL, iP, iS, iL, iT, iR, iM, iN, iQ, iO, eP, Result.ok.injEq, Next.value.injEq, true_and, and_true, fI, fJ, gB, fM, gH, gQ, ZO, fD, fF, fG, fE, eZ, eT, fB, eX, eQ, eH, if_true, if_false, ZM, ZS, ZN, ZP, ZR, ZQ, ZL, ZK, eA, dV, aB, dE, dJ, cB, eB, eS, eD, dN, eE, fA, dG, eI, bR, dL, bC, dR, aL, aH, eK, aZ, cI, eJ, aG, eL, dQ, aR, bD, eC, bG, bF, bJ, aP, aM, cG, fH, dY, cJ, cA, dB, cH, dT, bB, eM, bX, dS, bQ, bA, bT, aC, bU, bP, cF, bY, aU, aV, aX, bV, dD, cP, bO, aY, aN, aK, bH, aD, dC, dW, aJ, aI, aT, aF, cY, aE, cL, bW, bE, aO, cM, bZ, aA, dF, cU, cV, cC, dK, cD, dM, dU, cN, eF, eN, bN, aS, dZ, bS, aQ, bM, dI, dA, cS, cO, cR, bK, bL, cX, dO, cQ, dH, cZ, n1, e2, d2]
   have hbd : Bs (dr w2) (.slice (jR ba bc P 1) (P + N - P) (bc - P)) (vV s.man.size s.man.part i b) := by
    have := Sl.mid (hb.ext x2d (jI _)) (i := P) (j := P + N) (by omega) hfit
    rw [<- acE, <- acR, abF] at this
    rw [abF]
    unfold vV
    rw [<- hP, <- hN]
    exact this
   refine (Tp (h.new x2d) (by omega) hbd (by have := GR s.man.size s.man.part i b; omega)).mono ?_
   rintro r w4 ⟨rfl, x4⟩
   refine Er (o3.ext x4 (fun h => h)) rfl (by rw [ZV, ZT, adC, aaF]; omega) fun w5 o5 x5 s5 => ?_
   rw [oset _ hwa.symm] at o5
   exact ⟨n - (i + 1), by omega, i + 1, rfl, by omega, rfl, o5, (x2d.seq x4).trans x5 fun y hy h => by omega⟩
  .have d2 : decide (((P + N : Nat) : Int) <= (b.length : Int)) = false := by simp only [decide_eq_false_iff_not]; omega
   rw [decide_eq_false hfit, Bool.false_and] at hwa
   simp (disch := omega) only [eY, gN, dX, stepR_skip, fO, gI, fP, gJ, gC, gE, gR, fZ, eU, fX, fU, gD, fR, fN, fW, fS, fV, gK, gG, fQ, fC, fY, gA, fL, iP, iS, iL, iT, iR, iM, iN, iQ, iO, eP, Result.ok.injEq, Next.value.injEq, true_and, and_true, fI, fJ, gB, fM, gH, gQ, ZO, fD, fF, fG, fE, eZ, eT, fB, eX, eQ, eH, if_true, if_false, ZM, ZS, ZN, ZP, ZR, ZQ, ZL, ZK, eA, dV, aB, dE, dJ, cB, eB, eS, eD, dN, eE, fA, dG, eI, bR, dL, bC, dR, aL, aH, eK, aZ, cI, eJ, aG, eL, dQ, aR, bD, eC, bG, bF, bJ, aP, aM, cG, fH, dY, cJ, cA, dB, cH, dT, bB, eM, bX, dS, bQ, bA, bT, aC, bU, bP, cF, bY, aU, aV, aX, bV, dD, cP, bO, aY, aN, aK, bH, aD, dC, dW, aJ, aI, aT, aF, cY, aE, cL, bW, bE, aO, cM, bZ, aA, dF, cU, cV, cC, dK, cD, dM, dU, cN, eF, eN, bN, aS, dZ, bS, aQ, bM, dI, dA, cS, cO, cR, bK, bL, cX, dO, cQ, dH, cZ, n1, e2, d2]
   refine Er o3 rfl (by rw [ZV, ZT, adC, aaF]; omega) fun w5 o5 x5 s5 => ?_
   rw [oset _ hwa.symm] at o5
   exact ⟨n - (i + 1), by omega, i + 1, rfl, by omega, rfl, o5, x2d.trans x5 fun y hy h => by omega⟩
 .have d1 : decide ((i : Int) < (n : Int)) = false := by simp; omega
  obtain rfl : i = n := by omega
  unfold pF
  simp (disch := omega) only [eY, gN, dX, stepR_skip, fO, gI, fP, gJ, gC, gE, gR, fZ, eU, fX, fU, gD, fR, fN, fW, fS, fV, gK, gG, fQ, fC, fY, gA, fL, iP, iS, iL, iT, iR, iM, iN, iQ, iO, eP, Result.ok.injEq, Next.value.injEq, true_and, and_true, fI, fJ, gB, fM, gH, gQ, ZO, fD, fF, fG, fE, eZ, eT, fB, eX, eQ, eH, if_true, if_false, ZM, ZS, ZN, ZP, ZR, ZQ, ZL, ZK, eA, dV, aB, dE, dJ, cB, eB, eS, eD, dN, eE, fA, dG, eI, bR, dL, bC, dR, aL, aH, eK, aZ, cI, eJ, aG, eL, dQ, aR, bD, eC, bG, bF, bJ, aP, aM, cG, fH, dY, cJ, cA, dB, cH, dT, bB, eM, bX, dS, bQ, bA, bT, aC, bU, bP, cF, bY, aU, aV, aX, bV, dD, cP, bO, aY, aN, aK, bH, aD, dC, dW, aJ, aI, aT, aF, cY, aE, cL, bW, bE, aO, cM, bZ, aA, dF, cU, cV, cC, dK, cD, dM, dU, cN, eF, eN, bN, aS, dZ, bS, aQ, bM, dI, dA, cS, cO, cR, bK, bL, cX, dO, cQ, dH, cZ, d1]
  rw [hRR]
  refine ⟨ob, by rw [<- hn], by omega, ?_, x2⟩
  rw [adM, List.replicate_zero, aaT] at o2
  unfold jB
  rw [<- hn, List.map_map]
  exact o2
theorem Td {n : ByteArray} (h : n.size <= 27) (t : TypeId) (ox oy : Operand) (w : adR) : (gO .add t ox oy (.string n) (.string ⟨#[46, 108, 111, 103]⟩)).run pg w = .ok (.value (.string (jJ n))) w := V5 n _ (by show ((n.size + 4 : Nat) : Int) <= _; omega)
theorem OM {n : ByteArray} (h : n.size <= 27) (t : TypeId) (ox oy : Operand) (w : adR) : (gO .add t ox oy (.string n) (.string ⟨#[46, 112, 97, 114, 116]⟩)).run pg w = .ok (.value (.string (iC n))) w := V5 n _ (by show ((n.size + 5 : Nat) : Int) <= _; omega)
theorem RI {n0 q p k v : Nat} {X D Y : Nat -> Prop} {S : kD} {s : oQ} {lv hv : adS} {w : adR} (h : jZ n0 w q p X D Y S s lv hv) (hB : Ec 1 S) (hk : k = 1 ∨ k = 2) (hv' : v < 2 ^ 64) (hlg : s.log + 13 <= 1000000000) :
 gS pg nC #[dP q, V0 k v] w (fun r w' => r = .int .i64 (kR iI S s k v).2.2 /\ iK n0 w q p X D Y (kR iI S s k v).1 (kR iI S s k v).2.1 w') := by
 refine FY ?_
 obtain ⟨RR, hRR⟩ : ∃ RR : adS -> adR -> Prop, RR = fun r w' => r = .int .i64 (kR iI S s k v).2.2 /\ iK n0 w q p X D Y (kR iI S s k v).1 (kR iI S s k v).2.1 w' := ⟨_, rfl⟩
 rw [<- hRR]
 unfold Dn sX tN
 refine oC fun w1 o1 x1 s1 => ?_
 have o1 : jH w1 w.heap.size (A5 (k, v)) := o1
 have l1 := uA (off := 0) o1 (by simp)
 have l1 : (fK 77 (.pointer (some ⟨w.heap.size, 0, none⟩))).run pg w1 = .ok (.value (V0 k v)) w1 := l1
 simp (disch := omega) only [eY, gN, dX, stepR_skip, fO, gI, fP, gJ, gC, gE, gR, fZ, eU, fX, fU, gD, fR, fN, fW, fS, fV, gK, gG, fQ, fC, fY, gA, fL, iP, iS, iL, iT, iR, iM, iN, iQ, iO, eP, Result.ok.injEq, Next.value.injEq, true_and, and_true, fI, fJ, gB, fM, gH, gQ, ZO, fD, fF, fG, fE, eZ, eT, fB, eX, eQ, eH, if_true, if_false, ZM, ZS, ZN, ZP, ZR, ZQ, ZL, ZK, eA, dV, aB, dE, dJ, cB, eB, eS, eD, dN, eE, fA, dG, eI, bR, dL, bC, dR, aL, aH, eK, aZ, cI, eJ, aG, eL, dQ, aR, bD, eC, bG, bF, bJ, aP, aM, cG, fH, dY, cJ, cA, dB, cH, dT, bB, eM, bX, dS, bQ, bA, bT, aC, bU, bP, cF, bY, aU, aV, aX, bV, dD, cP, bO, aY, aN, aK, bH, aD, dC, dW, aJ, aI, aT, aF, cY, aE, cL, bW, bE, aO, cM, bZ, aA, dF, cU, cV, cC, dK, cD, dM, dU, cN, eF, eN, bN, aS, dZ, bS, aQ, bM, dI, dA, cS, cO, cR, bK, bL, cX, dO, cQ, dH, cZ, l1]
 refine (Rn (h.glob.ext x1) (by omega) hv').mono ?_
 rintro r w2 ⟨hr, x2⟩
 rw [if_pos hk] at hr
 obtain ⟨b, rfl, hb⟩ := hr
 have h13 := rG iI k v
 have h2 := h.new (x1.seq x2)
 have h2d := h2.new (gT.dr w2 jL)
 obtain ⟨a0, a1, a2, a3, a4, a5, a6, a7, a8, a9⟩ := h2d.cells
 have n1 : ((0 : Int) == 0) = true := rfl
 have hbd : Bs (dr w2) b (uD iI k v) := (show Bs w2 b (uD iI k v) from hb.sl).ext (gT.dr w2 jL) (jI _)
 obtain ⟨ba, bc, rfl, _⟩ := hbd.len
 rw [ZT] at hbd hb ⊢
 have ct := Td h.nl
 simp (disch := omega) only [eY, gN, dX, stepR_skip, fO, gI, fP, gJ, gC, gE, gR, fZ, eU, fX, fU, gD, fR, fN, fW, fS, fV, gK, gG, fQ, fC, fY, gA, fL, iP, iS, iL, iT, iR, iM, iN, iQ, iO, eP, Result.ok.injEq, Next.value.injEq, true_and, and_true, fI, fJ, gB, fM, gH, gQ, ZO, fD, fF, fG, fE, eZ, eT, fB, eX, eQ, eH, if_true, if_false, ZM, ZS, ZN, ZP, ZR, ZQ, ZL, ZK, eA, dV, aB, dE, dJ, cB, eB, eS, eD, dN, eE, fA, dG, eI, bR, dL, bC, dR, aL, aH, eK, aZ, cI, eJ, aG, eL, dQ, aR, bD, eC, bG, bF, bJ, aP, aM, cG, fH, dY, cJ, cA, dB, cH, dT, bB, eM, bX, dS, bQ, bA, bT, aC, bU, bP, cF, bY, aU, aV, aX, bV, dD, cP, bO, aY, aN, aK, bH, aD, dC, dW, aJ, aI, aT, aF, cY, aE, cL, bW, bE, aO, cM, bZ, aA, dF, cU, cV, cC, dK, cD, dM, dU, cN, eF, eN, bN, aS, dZ, bS, aQ, bM, dI, dA, cS, cO, cR, bK, bL, cX, dO, cQ, dH, cZ, n1, a0, a1, a7, ct]
 have x02 : gT w (dr w2) (fun b => X b ∨ Y b) := ((x1.seq x2).seq (gT.dr _ _)).mono fun _ _ h => h.elim
 refine (Lo (name := jJ s.nm) (a := (s.log : Nat)) h2d.dsk hB.bd hbd (by omega) (by omega) (by omega)).mono ?_
 rintro r w3 ⟨rfl, hp⟩
 obtain ⟨X', D', h3, hX, hD, x3⟩ := h2d.disk hp
 have hrec : kR iI S s k v = if (GS S (jJ s.nm) s.log (uD iI k v)).2 = 0 then ((GS S (jJ s.nm) s.log (uD iI k v)).1, { s with log := s.log + 13 }, 0) else ((GS S (jJ s.nm) s.log (uD iI k v)).1, s, (GS S (jJ s.nm) s.log (uD iI k v)).2) := rfl
 generalize GS S (jJ s.nm) s.log (uD iI k v) = W at *
 obtain ⟨S', e⟩ := W
 simp only at h3 hrec
 unfold sJ tF pE
 have x3' : gT (dr w2) w3 (fun b => X b ∨ Y b) := x3.mono fun _ _ h => .inl h
 by_cases he : e = 0
 .subst he
  rw [if_pos rfl] at hrec
  obtain ⟨c0, c1, c2, c3, c4, c5, c6, c7, c8, c9⟩ := h3.cells
  have e1 : (s.log : Int) + (13 : Int) = ((s.log + 13 : Nat) : Int) := by omega
  rw [h13] at *
  simp (disch := omega) only [eY, gN, dX, stepR_skip, fO, gI, fP, gJ, gC, gE, gR, fZ, eU, fX, fU, gD, fR, fN, fW, fS, fV, gK, gG, fQ, fC, fY, gA, fL, iP, iS, iL, iT, iR, iM, iN, iQ, iO, eP, Result.ok.injEq, Next.value.injEq, true_and, and_true, fI, fJ, gB, fM, gH, gQ, ZO, fD, fF, fG, fE, eZ, eT, fB, eX, eQ, eH, if_true, if_false, ZM, ZS, ZN, ZP, ZR, ZQ, ZL, ZK, eA, dV, aB, dE, dJ, cB, eB, eS, eD, dN, eE, fA, dG, eI, bR, dL, bC, dR, aL, aH, eK, aZ, cI, eJ, aG, eL, dQ, aR, bD, eC, bG, bF, bJ, aP, aM, cG, fH, dY, cJ, cA, dB, cH, dT, bB, eM, bX, dS, bQ, bA, bT, aC, bU, bP, cF, bY, aU, aV, aX, bV, dD, cP, bO, aY, aN, aK, bH, aD, dC, dW, aJ, aI, aT, aF, cY, aE, cL, bW, bE, aO, cM, bZ, aA, dF, cU, cV, cC, dK, cD, dM, dU, cN, eF, eN, bN, aS, dZ, bS, aQ, bM, dI, dA, cS, cO, cR, bK, bL, cX, dO, cQ, dH, cZ, n1, c7, e1]
  refine KC h3.own rfl (by simp) fun w4 o4 x4 s4 => ?_
  have h4 := h3.set (s' := { s with log := s.log + 13 }) x4 o4 rfl rfl rfl h.ep hlg
  rw [hRR, hrec]
  exact ⟨rfl, iK.step x02 (fun _ h => .inl h) (fun _ h => h) (fun _ h => .inl h) ⟨X', D', Y, _, _, h4, hX, hD, fun _ h => .inl h, x3'.seq (x4.mono fun y _ hy => .inr (hy ▸ h.yq))⟩⟩
 .rw [if_neg he] at hrec
  have n2 : (e == 0) = false := beq_eq_false_iff_ne.2 he
  simp (disch := omega) only [eY, gN, dX, stepR_skip, fO, gI, fP, gJ, gC, gE, gR, fZ, eU, fX, fU, gD, fR, fN, fW, fS, fV, gK, gG, fQ, fC, fY, gA, fL, iP, iS, iL, iT, iR, iM, iN, iQ, iO, eP, Result.ok.injEq, Next.value.injEq, true_and, and_true, fI, fJ, gB, fM, gH, gQ, ZO, fD, fF, fG, fE, eZ, eT, fB, eX, eQ, eH, if_true, if_false, ZM, ZS, ZN, ZP, ZR, ZQ, ZL, ZK, eA, dV, aB, dE, dJ, cB, eB, eS, eD, dN, eE, fA, dG, eI, bR, dL, bC, dR, aL, aH, eK, aZ, cI, eJ, aG, eL, dQ, aR, bD, eC, bG, bF, bJ, aP, aM, cG, fH, dY, cJ, cA, dB, cH, dT, bB, eM, bX, dS, bQ, bA, bT, aC, bU, bP, cF, bY, aU, aV, aX, bV, dD, cP, bO, aY, aN, aK, bH, aD, dC, dW, aJ, aI, aT, aF, cY, aE, cL, bW, bE, aO, cM, bZ, aA, dF, cU, cV, cC, dK, cD, dM, dU, cN, eF, eN, bN, aS, dZ, bS, aQ, bM, dI, dA, cS, cO, cR, bK, bL, cX, dO, cQ, dH, cZ, n1, n2]
  rw [hRR, hrec]
  exact ⟨rfl, iK.step x02 (fun _ h => .inl h) (fun _ h => h) (fun _ h => .inl h) ⟨X', D', Y, _, _, h3, hX, hD, fun _ h => .inl h, x3'⟩⟩
theorem Vj {n0 q p : Nat} {X D Y : Nat -> Prop} {S : kD} {s : oQ} {lv hv : adS} {w : adR} (h : jZ n0 w q p X D Y S s lv hv) (hB : Ec 2 S) :
 gS pg pW #[dP q] w (fun r w' => ∃ bv, r = .tuple #[bv, .int .i64 (jU S s).2.2] /\ Bs w' bv (jU S s).2.1 /\ (∀ b, (X b ∨ Y b) -> ¬ wC bv (fun y => y = b)) /\ iK n0 w q p X D Y (jU S s).1 s w') := by
 refine Gl ?_
 obtain ⟨RR, hRR⟩ : ∃ RR : adS -> adR -> Prop, RR = fun r w' => ∃ bv, r = .tuple #[bv, .int .i64 (jU S s).2.2] /\ Bs w' bv (jU S s).2.1 /\ (∀ b, (X b ∨ Y b) -> ¬ wC bv (fun y => y = b)) /\ iK n0 w q p X D Y (jU S s).1 s w' := ⟨_, rfl⟩
 rw [<- hRR]
 obtain ⟨c0, c1, c2, c3, c4, c5, c6, c7, c8, c9⟩ := h.cells
 have ct := OM h.nl
 unfold DL sU tH
 simp (disch := omega) only [eY, gN, dX, stepR_skip, fO, gI, fP, gJ, gC, gE, gR, fZ, eU, fX, fU, gD, fR, fN, fW, fS, fV, gK, gG, fQ, fC, fY, gA, fL, iP, iS, iL, iT, iR, iM, iN, iQ, iO, eP, Result.ok.injEq, Next.value.injEq, true_and, and_true, fI, fJ, gB, fM, gH, gQ, ZO, fD, fF, fG, fE, eZ, eT, fB, eX, eQ, eH, if_true, if_false, ZM, ZS, ZN, ZP, ZR, ZQ, ZL, ZK, eA, dV, aB, dE, dJ, cB, eB, eS, eD, dN, eE, fA, dG, eI, bR, dL, bC, dR, aL, aH, eK, aZ, cI, eJ, aG, eL, dQ, aR, bD, eC, bG, bF, bJ, aP, aM, cG, fH, dY, cJ, cA, dB, cH, dT, bB, eM, bX, dS, bQ, bA, bT, aC, bU, bP, cF, bY, aU, aV, aX, bV, dD, cP, bO, aY, aN, aK, bH, aD, dC, dW, aJ, aI, aT, aF, cY, aE, cL, bW, bE, aO, cM, bZ, aA, dF, cU, cV, cC, dK, cD, dM, dU, cN, eF, eN, bN, aS, dZ, bS, aQ, bM, dI, dA, cS, cO, cR, bK, bL, cX, dO, cQ, dH, cZ, c1, ct]
 refine (NR (n := iC s.nm) h.dsk (hB.le (by omega)) c0).mono ?_
 rintro r w1 ⟨v, rfl, ho, x1⟩
 have h1 := h.new x1
 obtain ⟨rb, hrb⟩ : ∃ rb, rb = iX S (iC s.nm) := ⟨_, rfl⟩
 rw [<- hrb] at ho ⊢
 obtain ⟨b, th, e⟩ := rb
 simp only at ho ⊢
 have hno : ∀ b, (X b ∨ Y b) -> ¬ wC v (fun y => y = b) := fun y hy hi => by
  have hlt := jZ.lt h y hy
  rcases ho.2 with ⟨rfl, _⟩ | ⟨bb, cc, rest, rfl, g2, _⟩
  .exact hi
  .unfold wC at hi
   split at hi
   .rename_i e
    simp only [Value.slice.injEq, aaH] at e
    obtain ⟨rfl, _⟩ := e
    have hi : bb = y := hi
    omega
   .exact hi
 have hnn : ∀ y : Nat, (X y ∨ Y y) -> ¬ wC (.slice none 0 0) (fun z => z = y) := fun y _ h => h
 have hf : jU S s = if e ≠ 0 then (S, [], e) else if s.man.size < b.length then (if (UO S (iC s.nm)).2 ≠ 0 then ((UO S (iC s.nm)).1, [], (UO S (iC s.nm)).2) else ((GS (UO S (iC s.nm)).1 (iC s.nm) 0 (List.replicate s.man.size 0)).1, [], (GS (UO S (iC s.nm)).1 (iC s.nm) 0 (List.replicate s.man.size 0)).2))
     else if b.length < s.man.size ∨ th = false then ((GS S (iC s.nm) b.length (List.replicate (s.man.size - b.length) 0)).1, b, (GS S (iC s.nm) b.length (List.replicate (s.man.size - b.length) 0)).2) else (S, b, 0) := by
  unfold jU
  rw [<- hrb]
 have hsz := h.man.size
 by_cases he : e = 0
 rotate_left
 .have n1 : (e != 0) = true := bne_iff_ne.2 he
  rw [if_pos he] at hf
  simp (disch := omega) only [eY, gN, dX, stepR_skip, fO, gI, fP, gJ, gC, gE, gR, fZ, eU, fX, fU, gD, fR, fN, fW, fS, fV, gK, gG, fQ, fC, fY, gA, fL, iP, iS, iL, iT, iR, iM, iN, iQ, iO, eP, Result.ok.injEq, Next.value.injEq, true_and, and_true, fI, fJ, gB, fM, gH, gQ, ZO, fD, fF, fG, fE, eZ, eT, fB, eX, eQ, eH, if_true, if_false, ZM, ZS, ZN, ZP, ZR, ZQ, ZL, ZK, eA, dV, aB, dE, dJ, cB, eB, eS, eD, dN, eE, fA, dG, eI, bR, dL, bC, dR, aL, aH, eK, aZ, cI, eJ, aG, eL, dQ, aR, bD, eC, bG, bF, bJ, aP, aM, cG, fH, dY, cJ, cA, dB, cH, dT, bB, eM, bX, dS, bQ, bA, bT, aC, bU, bP, cF, bY, aU, aV, aX, bV, dD, cP, bO, aY, aN, aK, bH, aD, dC, dW, aJ, aI, aT, aF, cY, aE, cL, bW, bE, aO, cM, bZ, aA, dF, cU, cV, cC, dK, cD, dM, dU, cN, eF, eN, bN, aS, dZ, bS, aQ, bM, dI, dA, cS, cO, cR, bK, bL, cX, dO, cQ, dH, cZ, n1]
  rw [hRR, hf]
  exact ⟨_, rfl, Sl.nil _, hnn, iK.step (x1.mono fun _ _ h => h.elim) (fun _ h => .inl h) (fun _ h => h) (fun _ h => .inl h) (iK.refl h1)⟩
 subst he
 rw [if_neg (by decide)] at hf
 have n1 : ((0 : Int) != 0) = false := rfl
 have hbs : Bs w1 v b := ho.sl
 obtain ⟨va, vc, rfl, _⟩ := hbs.len
 rw [ZT] at hbs hno ho
 have hbl : b.length <= 1000000000 := by
  unfold iX at hrb
  split at hrb
  .cases hrb
  .cases hg : jF (iC s.nm) S.seen with
   | none => rw [hg] at hrb; cases hrb; simp
   | some b' => rw [hg] at hrb; cases hrb; exact hB.file hg
 have tail : ∀ {w2 : adR} {X2 D2 : Nat -> Prop} {S2 : kD} {b2 : List UInt8} {a2 : Option Addr} {c2 : Nat} {th2 : Bool}, jZ n0 w2 q p X2 D2 Y S2 s lv hv -> Ec 1 S2 -> Bs w2 (.slice a2 b2.length c2) b2 -> (∀ y, (X2 y ∨ Y y) -> ¬ wC (.slice a2 b2.length c2) (fun z => z = y)) -> b2.length <= s.man.size →
     (∀ w3 e3 S3, (if b2.length < s.man.size ∨ th2 = false then ((GS S2 (iC s.nm) b2.length (List.replicate (s.man.size - b2.length) 0)).1, (GS S2 (iC s.nm) b2.length (List.replicate (s.man.size - b2.length) 0)).2) else (S2, 0)) = (S3, e3) -> Bs w3 (.slice a2 b2.length c2) b2 -> iK n0 w2 q p X2 D2 Y S3 s w3 -> RR (.tuple #[.slice a2 b2.length c2, .int .i64 e3]) w3) →
     mQ RR (dP q) (.slice a2 b2.length c2) (.bool th2) w2 := by
  intro w2 X2 D2 S2 b2 a2 c2 th2 h2 hB2 hb2 hn2 hle hK
  obtain ⟨d0, d1, d2, d3, d4, d5, d6, d7, d8, d9⟩ := h2.cells
  have e1 : IntKind.i64.wrap ((s.man.size : Nat) : Int) = ((s.man.size : Nat) : Int) := fI (by omega) (by omega)
  have e2 : (s.man.size : Int) - (b2.length : Int) = ((s.man.size - b2.length : Nat) : Int) := by omega
  have fin : ∀ {w3 : adR}, (b2.length < s.man.size ∨ th2 = false) -> jH w3 (dr w2).heap.size (List.replicate (s.man.size - b2.length) (.int .u8 0)) -> gT (dr w2) w3 jL -> gS pg kM #[dP p, .string (iC s.nm), .int .i64 (b2.length : Nat), .slice (some ⟨(dr w2).heap.size, 0, none⟩) (s.man.size - b2.length) (s.man.size - b2.length)] w3 fun t74 w4 => RR (.tuple #[.slice a2 b2.length c2, t74]) w4 := by
   intro w3 hc o3 x3
   rw [if_pos hc] at hK
   have x23 : gT w2 w3 jL := (gT.dr _ _).seq x3
   have h3 := h2.new x23
   have hbz : Bs w3 (.slice (some ⟨(dr w2).heap.size, 0, none⟩) (s.man.size - b2.length) (s.man.size - b2.length)) (List.replicate (s.man.size - b2.length) 0) := by
    refine jH.whole (l := List.replicate (s.man.size - b2.length) (0 : UInt8)) (c := s.man.size - b2.length) ?_ ?_ |> fun hh => by rw [aaF] at hh; exact hh
    .rw [TB]; exact o3
    .simp
   have hdw := Lo (name := iC s.nm) (a := (b2.length : Nat)) h3.dsk hB2.bd hbz (by rw [aaF]; omega) (by omega) (by omega)
   refine hdw.mono ?_
   rintro r w4 ⟨rfl, hp⟩
   obtain ⟨X', D', h4, hX, hD, x4⟩ := h3.disk hp
   refine hK w4 _ _ rfl ((hb2.ext x23 (jI _)).ext x4 fun hi => ?_) (iK.step (x23.mono fun _ _ h => h.elim) (fun _ h => .inl h) (fun _ h => h) (fun _ h => .inl h) ⟨X', D', Y, _, _, h4, hX, hD, fun _ h => .inl h, x4.mono fun _ _ h => .inl h⟩)
   unfold wC at hi
   split at hi
   .rename_i b' _ m _ he
    have := hn2 _ (.inl hi)
    rw [he] at this
    exact this rfl
   .exact hi
  have h2d := (h2.new (gT.dr w2 jL))
  obtain ⟨f0, f1, f2, f3, f4, f5, f6, f7, f8, f9⟩ := h2d.cells
  unfold mQ
  have mk : (b2.length < s.man.size ∨ th2 = false) -> eY pg (uM 22 (.int .i64 ((s.man.size - b2.length : Nat) : Int)) (.int .i64 ((s.man.size - b2.length : Nat) : Int))) (dr w2) fun t73 w3 =>
      (NM (w3.cell? ⟨q, 1, none⟩) w3 (Pk pg 9 ⟨q, 1, none⟩ w3) = Result.ok (Next.value (Value.string s.nm)) w3 /\ NM (w3.cell? ⟨q, 0, none⟩) w3 (Pk pg 32 ⟨q, 0, none⟩ w3) = Result.ok (Next.value (dP p)) w3) /\
      gS pg kM #[dP p, .string (iC s.nm), .int .i64 (b2.length : Nat), t73] w3 fun t74 w4 => RR (.tuple #[.slice a2 b2.length c2, t74]) w4 := fun hc => by
   refine Nf (by omega) (by omega) fun w3 o3 x3 s3 => ?_
   rw [ZO] at o3 ⊢
   obtain ⟨g0, g1, _⟩ := (h2.new ((gT.dr _ _).seq x3)).cells
   refine ⟨⟨by rw [g1] <;> rfl, by rw [g0] <;> rfl⟩, fin hc o3 x3⟩
  by_cases hlt : b2.length < s.man.size
  .have q1 : decide ((0 : Int) < ((s.man.size - b2.length : Nat) : Int)) = true := by simp only [decide_eq_true_eq]; omega
   simp (disch := omega) only [eY, gN, dX, stepR_skip, fO, gI, fP, gJ, gC, gE, gR, fZ, eU, fX, fU, gD, fR, fN, fW, fS, fV, gK, gG, fQ, fC, fY, gA, fL, iP, iS, iL, iT, iR, iM, iN, iQ, iO, eP, Result.ok.injEq, Next.value.injEq, true_and, and_true, fI, fJ, gB, fM, gH, gQ, ZO, fD, fF, fG, fE, eZ, eT, fB, eX, eQ, eH, if_true, if_false, ZM, ZS, ZN, ZP, ZR, ZQ, ZL, ZK, eA, dV, aB, dE, dJ, cB, eB, eS, eD, dN, eE, fA, dG, eI, bR, dL, bC, dR, aL, aH, eK, aZ, cI, eJ, aG, eL, dQ, aR, bD, eC, bG, bF, bJ, aP, aM, cG, fH, dY, cJ, cA, dB, cH, dT, bB, eM, bX, dS, bQ, bA, bT, aC, bU, bP, cF, bY, aU, aV, aX, bV, dD, cP, bO, aY, aN, aK, bH, aD, dC, dW, aJ, aI, aT, aF, cY, aE, cL, bW, bE, aO, cM, bZ, aA, dF, cU, cV, cC, dK, cD, dM, dU, cN, eF, eN, bN, aS, dZ, bS, aQ, bM, dI, dA, cS, cO, cR, bK, bL, cX, dO, cQ, dH, cZ, d2, e1, e2, q1, f0, f1, ct]
   exact mk (.inl hlt)
  .have q1 : decide ((0 : Int) < ((s.man.size - b2.length : Nat) : Int)) = false := by simp only [decide_eq_false_iff_not]; omega
   cases th2 with
   | false =>
     simp (disch := omega) only [eY, gN, dX, stepR_skip, fO, gI, fP, gJ, gC, gE, gR, fZ, eU, fX, fU, gD, fR, fN, fW, fS, fV, gK, gG, fQ, fC, fY, gA, fL, iP, iS, iL, iT, iR, iM, iN, iQ, iO, eP, Result.ok.injEq, Next.value.injEq, true_and, and_true, fI, fJ, gB, fM, gH, gQ, ZO, fD, fF, fG, fE, eZ, eT, fB, eX, eQ, eH, if_true, if_false, ZM, ZS, ZN, ZP, ZR, ZQ, ZL, ZK, eA, dV, aB, dE, dJ, cB, eB, eS, eD, dN, eE, fA, dG, eI, bR, dL, bC, dR, aL, aH, eK, aZ, cI, eJ, aG, eL, dQ, aR, bD, eC, bG, bF, bJ, aP, aM, cG, fH, dY, cJ, cA, dB, cH, dT, bB, eM, bX, dS, bQ, bA, bT, aC, bU, bP, cF, bY, aU, aV, aX, bV, dD, cP, bO, aY, aN, aK, bH, aD, dC, dW, aJ, aI, aT, aF, cY, aE, cL, bW, bE, aO, cM, bZ, aA, dF, cU, cV, cC, dK, cD, dM, dU, cN, eF, eN, bN, aS, dZ, bS, aQ, bM, dI, dA, cS, cO, cR, bK, bL, cX, dO, cQ, dH, cZ, d2, e1, e2, q1, f0, f1, ct]
     exact mk (.inr rfl)
   | true =>
     rw [if_neg (by rintro (h | h); exact hlt h; cases h)] at hK
     simp (disch := omega) only [eY, gN, dX, stepR_skip, fO, gI, fP, gJ, gC, gE, gR, fZ, eU, fX, fU, gD, fR, fN, fW, fS, fV, gK, gG, fQ, fC, fY, gA, fL, iP, iS, iL, iT, iR, iM, iN, iQ, iO, eP, Result.ok.injEq, Next.value.injEq, true_and, and_true, fI, fJ, gB, fM, gH, gQ, ZO, fD, fF, fG, fE, eZ, eT, fB, eX, eQ, eH, if_true, if_false, ZM, ZS, ZN, ZP, ZR, ZQ, ZL, ZK, eA, dV, aB, dE, dJ, cB, eB, eS, eD, dN, eE, fA, dG, eI, bR, dL, bC, dR, aL, aH, eK, aZ, cI, eJ, aG, eL, dQ, aR, bD, eC, bG, bF, bJ, aP, aM, cG, fH, dY, cJ, cA, dB, cH, dT, bB, eM, bX, dS, bQ, bA, bT, aC, bU, bP, cF, bY, aU, aV, aX, bV, dD, cP, bO, aY, aN, aK, bH, aD, dC, dW, aJ, aI, aT, aF, cY, aE, cL, bW, bE, aO, cM, bZ, aA, dF, cU, cV, cC, dK, cD, dM, dU, cN, eF, eN, bN, aS, dZ, bS, aQ, bM, dI, dA, cS, cO, cR, bK, bL, cX, dO, cQ, dH, cZ, d2, e1, e2, q1]
     exact hK w2 0 S2 rfl hb2 (iK.refl h2)
 have x1' : gT w w1 (fun b => X b ∨ Y b) := x1.mono fun _ _ h => h.elim
 obtain ⟨d0, d1, d2, d3, d4, d5, d6, d7, d8, d9⟩ := h1.cells
 have e1 : IntKind.u64.wrap ((b.length : Nat) : Int) = ((b.length : Nat) : Int) := fJ (by omega) (by omega)
 by_cases hgt : s.man.size < b.length
 .rw [if_pos hgt] at hf
  have q1 : decide (((s.man.size : Nat) : Int) < ((b.length : Nat) : Int)) = true := by simp only [decide_eq_true_eq]; omega
  have h1d := h1.new (gT.dr w1 jL)
  obtain ⟨f0, f1, f2, f3, f4, f5, f6, f7, f8, f9⟩ := h1d.cells
  simp (disch := omega) only [eY, gN, dX, stepR_skip, fO, gI, fP, gJ, gC, gE, gR, fZ, eU, fX, fU, gD, fR, fN, fW, fS, fV, gK, gG, fQ, fC, fY, gA, fL, iP, iS, iL, iT, iR, iM, iN, iQ, iO, eP, Result.ok.injEq, Next.value.injEq, true_and, and_true, fI, fJ, gB, fM, gH, gQ, ZO, fD, fF, fG, fE, eZ, eT, fB, eX, eQ, eH, if_true, if_false, ZM, ZS, ZN, ZP, ZR, ZQ, ZL, ZK, eA, dV, aB, dE, dJ, cB, eB, eS, eD, dN, eE, fA, dG, eI, bR, dL, bC, dR, aL, aH, eK, aZ, cI, eJ, aG, eL, dQ, aR, bD, eC, bG, bF, bJ, aP, aM, cG, fH, dY, cJ, cA, dB, cH, dT, bB, eM, bX, dS, bQ, bA, bT, aC, bU, bP, cF, bY, aU, aV, aX, bV, dD, cP, bO, aY, aN, aK, bH, aD, dC, dW, aJ, aI, aT, aF, cY, aE, cL, bW, bE, aO, cM, bZ, aA, dF, cU, cV, cC, dK, cD, dM, dU, cN, eF, eN, bN, aS, dZ, bS, aQ, bM, dI, dA, cS, cO, cR, bK, bL, cX, dO, cQ, dH, cZ, ZT, n1, d2, e1, q1, f0, f1, ct]
  refine (Ud (name := iC s.nm) h1d.dsk hB.bd).mono ?_
  rintro r w2 ⟨rfl, hp⟩
  obtain ⟨X', D', h2, hX, hD, x2⟩ := h1d.disk hp
  have hB2 : Ec 1 (UO S (iC s.nm)).1 := VX hB
  have x02 : gT w w2 (fun b => X b ∨ Y b) := (x1'.seq (gT.dr _ _)).seq (x2.mono fun _ _ h => .inl h)
  have hX0 : ∀ b, X' b -> X b ∨ w.heap.size <= b := fun b hb => by
   have := x1.size
   rcases hX b hb with h | h
   .exact .inl h
   .exact .inr (acM this h)
  generalize UO S (iC s.nm) = R at *
  obtain ⟨S2, e⟩ := R
  simp only at h2 hB2 hf
  by_cases he : e = 0
  .subst he
   rw [if_neg (by decide)] at hf
   simp (disch := omega) only [eY, gN, dX, stepR_skip, fO, gI, fP, gJ, gC, gE, gR, fZ, eU, fX, fU, gD, fR, fN, fW, fS, fV, gK, gG, fQ, fC, fY, gA, fL, iP, iS, iL, iT, iR, iM, iN, iQ, iO, eP, Result.ok.injEq, Next.value.injEq, true_and, and_true, fI, fJ, gB, fM, gH, gQ, ZO, fD, fF, fG, fE, eZ, eT, fB, eX, eQ, eH, if_true, if_false, ZM, ZS, ZN, ZP, ZR, ZQ, ZL, ZK, eA, dV, aB, dE, dJ, cB, eB, eS, eD, dN, eE, fA, dG, eI, bR, dL, bC, dR, aL, aH, eK, aZ, cI, eJ, aG, eL, dQ, aR, bD, eC, bG, bF, bJ, aP, aM, cG, fH, dY, cJ, cA, dB, cH, dT, bB, eM, bX, dS, bQ, bA, bT, aC, bU, bP, cF, bY, aU, aV, aX, bV, dD, cP, bO, aY, aN, aK, bH, aD, dC, dW, aJ, aI, aT, aF, cY, aE, cL, bW, bE, aO, cM, bZ, aA, dF, cU, cV, cC, dK, cD, dM, dU, cN, eF, eN, bN, aS, dZ, bS, aQ, bM, dI, dA, cS, cO, cR, bK, bL, cX, dO, cQ, dH, cZ, n1]
   refine tail (th2 := false) (a2 := none) (c2 := 0) (b2 := []) h2 hB2 (Sl.nil _) (fun y _ h => h) (by simp) fun w3 e3 S3 h3 hb3 hp3 => ?_
   rw [if_pos (.inr rfl)] at h3
   have h3 : ((GS S2 (iC s.nm) 0 (List.replicate s.man.size 0)).1, (GS S2 (iC s.nm) 0 (List.replicate s.man.size 0)).2) = (S3, e3) := h3
   rw [hRR, hf]
   obtain ⟨ha, hb'⟩ := acQ .. ▸ h3
   rw [ha, hb']
   exact ⟨_, rfl, Sl.nil _, hnn, iK.step x02 hX0 hD (fun _ h => .inl h) hp3⟩
  .have n2 : (e != 0) = true := bne_iff_ne.2 he
   rw [if_pos he] at hf
   simp (disch := omega) only [eY, gN, dX, stepR_skip, fO, gI, fP, gJ, gC, gE, gR, fZ, eU, fX, fU, gD, fR, fN, fW, fS, fV, gK, gG, fQ, fC, fY, gA, fL, iP, iS, iL, iT, iR, iM, iN, iQ, iO, eP, Result.ok.injEq, Next.value.injEq, true_and, and_true, fI, fJ, gB, fM, gH, gQ, ZO, fD, fF, fG, fE, eZ, eT, fB, eX, eQ, eH, if_true, if_false, ZM, ZS, ZN, ZP, ZR, ZQ, ZL, ZK, eA, dV, aB, dE, dJ, cB, eB, eS, eD, dN, eE, fA, dG, eI, bR, dL, bC, dR, aL, aH, eK, aZ, cI, eJ, aG, eL, dQ, aR, bD, eC, bG, bF, bJ, aP, aM, cG, fH, dY, cJ, cA, dB, cH, dT, bB, eM, bX, dS, bQ, bA, bT, aC, bU, bP, cF, bY, aU, aV, aX, bV, dD, cP, bO, aY, aN, aK, bH, aD, dC, dW, aJ, aI, aT, aF, cY, aE, cL, bW, bE, aO, cM, bZ, aA, dF, cU, cV, cC, dK, cD, dM, dU, cN, eF, eN, bN, aS, dZ, bS, aQ, bM, dI, dA, cS, cO, cR, bK, bL, cX, dO, cQ, dH, cZ, n2]
   rw [hRR, hf]
   exact ⟨_, rfl, Sl.nil _, hnn, iK.step x02 hX0 hD (fun _ h => .inl h) (iK.refl h2)⟩
 .rw [if_neg hgt] at hf
  have q1 : decide (((s.man.size : Nat) : Int) < ((b.length : Nat) : Int)) = false := by simp only [decide_eq_false_iff_not]; omega
  simp (disch := omega) only [eY, gN, dX, stepR_skip, fO, gI, fP, gJ, gC, gE, gR, fZ, eU, fX, fU, gD, fR, fN, fW, fS, fV, gK, gG, fQ, fC, fY, gA, fL, iP, iS, iL, iT, iR, iM, iN, iQ, iO, eP, Result.ok.injEq, Next.value.injEq, true_and, and_true, fI, fJ, gB, fM, gH, gQ, ZO, fD, fF, fG, fE, eZ, eT, fB, eX, eQ, eH, if_true, if_false, ZM, ZS, ZN, ZP, ZR, ZQ, ZL, ZK, eA, dV, aB, dE, dJ, cB, eB, eS, eD, dN, eE, fA, dG, eI, bR, dL, bC, dR, aL, aH, eK, aZ, cI, eJ, aG, eL, dQ, aR, bD, eC, bG, bF, bJ, aP, aM, cG, fH, dY, cJ, cA, dB, cH, dT, bB, eM, bX, dS, bQ, bA, bT, aC, bU, bP, cF, bY, aU, aV, aX, bV, dD, cP, bO, aY, aN, aK, bH, aD, dC, dW, aJ, aI, aT, aF, cY, aE, cL, bW, bE, aO, cM, bZ, aA, dF, cU, cV, cC, dK, cD, dM, dU, cN, eF, eN, bN, aS, dZ, bS, aQ, bM, dI, dA, cS, cO, cR, bK, bL, cX, dO, cQ, dH, cZ, ZT, n1, d2, e1, q1]
  refine tail (th2 := th) h1 (hB.le (by omega)) hbs hno (by omega) fun w3 e3 S3 h3 hb3 hp3 => ?_
  rw [hRR, hf]
  by_cases hc : b.length < s.man.size ∨ th = false
  .rw [if_pos hc] at h3 ⊢
   obtain ⟨ha, hb'⟩ := acQ .. ▸ h3
   rw [ha, hb']
   exact ⟨_, rfl, hb3, hno, iK.step x1' (fun _ h => .inl h) (fun _ h => h) (fun _ h => .inl h) hp3⟩
  .rw [if_neg hc] at h3 ⊢
   obtain ⟨ha, hb'⟩ := acQ .. ▸ h3
   rw [ha, hb']
   exact ⟨_, rfl, hb3, hno, iK.step x1' (fun _ h => .inl h) (fun _ h => h) (fun _ h => .inl h) hp3⟩
theorem Jw {P : Program} {f : FuncId} {fn : Func} (hf : P.funcs[f]? = some fn) (hb : fn.body.isSome = true) (hn : (fn.name == "runtime.NumGoroutine") = false) (first cap : Array adS) (args : List adS) (w : adR) :
 (xY (.func (.func f) first cap) args).run P w = .ok (.enter f (first ++ args.toArray ++ cap)) w := by
 unfold xY Deferred.ofValue
 simp only [pure_bind, invoke]
 exact G9 hf hb hn _ _
theorem Ty {fs : List adS} {b c : Nat} {w : adR} (J : Nat -> adR -> Prop) (E : Int -> adR -> Prop) (hl : fs.length <= 100) (h0 : J 0 w) (ho : ∀ i w', J i w' -> jH w' b fs)
 (hs : ∀ i w' f, fs[i]? = some f -> J i w' -> MK pg ((xY f []).run pg w') (fun r w'' => ∃ e : Int, r = .int .i64 e /\ (if e = 0 then J (i + 1) w'' else E e w''))) :
 gS pg wQ #[.slice (some ⟨b, 0, none⟩) fs.length c] w (fun r w' => ∃ e : Int, r = .int .i64 e /\ (if e = 0 then J fs.length w' else E e w')) := by
 refine Md ?_
 obtain ⟨RR, hRR⟩ : ∃ RR : adS -> adR -> Prop, RR = fun r w' => ∃ e : Int, r = .int .i64 e /\ (if e = 0 then J fs.length w' else E e w') := ⟨_, rfl⟩
 rw [<- hRR]
 unfold M8 Dl C0 Da Dj DT DW DZ
 simp (disch := omega) only [eY, gN, dX, stepR_skip, fO, gI, fP, gJ, gC, gE, gR, fZ, eU, fX, fU, gD, fR, fN, fW, fS, fV, gK, gG, fQ, fC, fY, gA, fL, iP, iS, iL, iT, iR, iM, iN, iQ, iO, eP, Result.ok.injEq, Next.value.injEq, true_and, and_true, fI, fJ, gB, fM, gH, gQ, ZO, fD, fF, fG, fE, eZ, eT, fB, eX, eQ, eH, if_true, if_false, ZM, ZS, ZN, ZP, ZR, ZQ, ZL, ZK, eA, dV, aB, dE, dJ, cB, eB, eS, eD, dN, eE, fA, dG, eI, bR, dL, bC, dR, aL, aH, eK, aZ, cI, eJ, aG, eL, dQ, aR, bD, eC, bG, bF, bJ, aP, aM, cG, fH, dY, cJ, cA, dB, cH, dT, bB, eM, bX, dS, bQ, bA, bT, aC, bU, bP, cF, bY, aU, aV, aX, bV, dD, cP, bO, aY, aN, aK, bH, aD, dC, dW, aJ, aI, aT, aF, cY, aE, cL, bW, bE, aO, cM, bZ, aA, dF, cU, cV, cC, dK, cD, dM, dU, cN, eF, eN, bN, aS, dZ, bS, aQ, bM, dI, dA, cS, cO, cR, bK, bL, cX, dO, cQ, dH, cZ]
 refine kC.rule (fun m (t : adS) w' => ∃ i : Nat, m = fs.length - i /\ i <= fs.length /\ t = .int .i64 (i : Nat) /\ J i w') fs.length ⟨0, rfl, by omega, rfl, h0⟩ ?_
 rintro m t w1 ⟨i, rfl, hi, rfl, hJ⟩
 unfold zH
 by_cases hlt : i < fs.length
 .have d1 : decide ((i : Int) < (fs.length : Int)) = true := by simp; omega
  have c1 := (ho _ _ hJ).cell (off := i)
  rw [ZU hlt] at c1
  have hss := hs i w1 fs[i] (ZU hlt) hJ
  simp (disch := omega) only [eY, gN, dX, stepR_skip, fO, gI, fP, gJ, gC, gE, gR, fZ, eU, fX, fU, gD, fR, fN, fW, fS, fV, gK, gG, fQ, fC, fY, gA, fL, iP, iS, iL, iT, iR, iM, iN, iQ, iO, eP, Result.ok.injEq, Next.value.injEq, true_and, and_true, fI, fJ, gB, fM, gH, gQ, ZO, fD, fF, fG, fE, eZ, eT, fB, eX, eQ, eH, if_true, if_false, ZM, ZS, ZN, ZP, ZR, ZQ, ZL, ZK, eA, dV, aB, dE, dJ, cB, eB, eS, eD, dN, eE, fA, dG, eI, bR, dL, bC, dR, aL, aH, eK, aZ, cI, eJ, aG, eL, dQ, aR, bD, eC, bG, bF, bJ, aP, aM, cG, fH, dY, cJ, cA, dB, cH, dT, bB, eM, bX, dS, bQ, bA, bT, aC, bU, bP, cF, bY, aU, aV, aX, bV, dD, cP, bO, aY, aN, aK, bH, aD, dC, dW, aJ, aI, aT, aF, cY, aE, cL, bW, bE, aO, cM, bZ, aA, dF, cU, cV, cC, dK, cD, dM, dU, cN, eF, eN, bN, aS, dZ, bS, aQ, bM, dI, dA, cS, cO, cR, bK, bL, cX, dO, cQ, dH, cZ, d1, c1]
  have mono : ∀ {r : Result Next} {K K' : adS -> adR -> Prop}, MK pg r K -> (∀ v w, K v w -> K' v w) -> MK pg r K' := fun {r K K'} h hk => by
   unfold MK at *
   split at h
   .exact hk _ _ h
   .exact hk _ _ h
   .exact h.mono hk
   .obtain ⟨v, w', h1, h2⟩ := h
    exact ⟨v, w', h1, hk _ _ h2⟩
   .exact h
  refine mono hss ?_
  rintro r w2 ⟨e, rfl, he⟩
  by_cases h0' : e = 0
  .subst h0'
   rw [if_pos rfl] at he
   have n1 : ((0 : Int) != 0) = false := rfl
   simp (disch := omega) only [eY, gN, dX, stepR_skip, fO, gI, fP, gJ, gC, gE, gR, fZ, eU, fX, fU, gD, fR, fN, fW, fS, fV, gK, gG, fQ, fC, fY, gA, fL, iP, iS, iL, iT, iR, iM, iN, iQ, iO, eP, Result.ok.injEq, Next.value.injEq, true_and, and_true, fI, fJ, gB, fM, gH, gQ, ZO, fD, fF, fG, fE, eZ, eT, fB, eX, eQ, eH, if_true, if_false, ZM, ZS, ZN, ZP, ZR, ZQ, ZL, ZK, eA, dV, aB, dE, dJ, cB, eB, eS, eD, dN, eE, fA, dG, eI, bR, dL, bC, dR, aL, aH, eK, aZ, cI, eJ, aG, eL, dQ, aR, bD, eC, bG, bF, bJ, aP, aM, cG, fH, dY, cJ, cA, dB, cH, dT, bB, eM, bX, dS, bQ, bA, bT, aC, bU, bP, cF, bY, aU, aV, aX, bV, dD, cP, bO, aY, aN, aK, bH, aD, dC, dW, aJ, aI, aT, aF, cY, aE, cL, bW, bE, aO, cM, bZ, aA, dF, cU, cV, cC, dK, cD, dM, dU, cN, eF, eN, bN, aS, dZ, bS, aQ, bM, dI, dA, cS, cO, cR, bK, bL, cX, dO, cQ, dH, cZ, n1]
   exact ⟨fs.length - (i + 1), by omega, i + 1, rfl, by omega, rfl, he⟩
  .have n1 : (e != 0) = true := bne_iff_ne.2 h0'
   rw [if_neg h0'] at he
   simp (disch := omega) only [eY, gN, dX, stepR_skip, fO, gI, fP, gJ, gC, gE, gR, fZ, eU, fX, fU, gD, fR, fN, fW, fS, fV, gK, gG, fQ, fC, fY, gA, fL, iP, iS, iL, iT, iR, iM, iN, iQ, iO, eP, Result.ok.injEq, Next.value.injEq, true_and, and_true, fI, fJ, gB, fM, gH, gQ, ZO, fD, fF, fG, fE, eZ, eT, fB, eX, eQ, eH, if_true, if_false, ZM, ZS, ZN, ZP, ZR, ZQ, ZL, ZK, eA, dV, aB, dE, dJ, cB, eB, eS, eD, dN, eE, fA, dG, eI, bR, dL, bC, dR, aL, aH, eK, aZ, cI, eJ, aG, eL, dQ, aR, bD, eC, bG, bF, bJ, aP, aM, cG, fH, dY, cJ, cA, dB, cH, dT, bB, eM, bX, dS, bQ, bA, bT, aC, bU, bP, cF, bY, aU, aV, aX, bV, dD, cP, bO, aY, aN, aK, bH, aD, dC, dW, aJ, aI, aT, aF, cY, aE, cL, bW, bE, aO, cM, bZ, aA, dF, cU, cV, cC, dK, cD, dM, dU, cN, eF, eN, bN, aS, dZ, bS, aQ, bM, dI, dA, cS, cO, cR, bK, bL, cX, dO, cQ, dH, cZ, n1]
   rw [hRR]
   exact ⟨e, rfl, by rw [if_neg h0']; exact he⟩
 .have d1 : decide ((i : Int) < (fs.length : Int)) = false := by simp; omega
  obtain rfl : i = fs.length := by omega
  unfold Ad
  simp (disch := omega) only [eY, gN, dX, stepR_skip, fO, gI, fP, gJ, gC, gE, gR, fZ, eU, fX, fU, gD, fR, fN, fW, fS, fV, gK, gG, fQ, fC, fY, gA, fL, iP, iS, iL, iT, iR, iM, iN, iQ, iO, eP, Result.ok.injEq, Next.value.injEq, true_and, and_true, fI, fJ, gB, fM, gH, gQ, ZO, fD, fF, fG, fE, eZ, eT, fB, eX, eQ, eH, if_true, if_false, ZM, ZS, ZN, ZP, ZR, ZQ, ZL, ZK, eA, dV, aB, dE, dJ, cB, eB, eS, eD, dN, eE, fA, dG, eI, bR, dL, bC, dR, aL, aH, eK, aZ, cI, eJ, aG, eL, dQ, aR, bD, eC, bG, bF, bJ, aP, aM, cG, fH, dY, cJ, cA, dB, cH, dT, bB, eM, bX, dS, bQ, bA, bT, aC, bU, bP, cF, bY, aU, aV, aX, bV, dD, cP, bO, aY, aN, aK, bH, aD, dC, dW, aJ, aI, aT, aF, cY, aE, cL, bW, bE, aO, cM, bZ, aA, dF, cU, cV, cC, dK, cD, dM, dU, cN, eF, eN, bN, aS, dZ, bS, aQ, bM, dI, dA, cS, cO, cR, bK, bL, cX, dO, cQ, dH, cZ, d1]
  rw [hRR]
  exact ⟨0, rfl, by rw [if_pos rfl]; exact hJ⟩
theorem VI {n : Nat} {S : kD} {s : oQ} {k v : Nat} (h : Ec (n + 1) S) : Ec n (kR iI S s k v).1 := by
 have := Q6 (k := jJ s.nm) (a := s.log) (l := uD iI k v) h
 unfold kR
 simp only
 split
 .exact this
 .exact this
theorem iK.keep {n0 : Nat} {w w' : adR} {q p b : Nat} {X D Y : Nat -> Prop} {S : kD} {s : oQ} {cs : List adS} (h : iK n0 w q p X D Y S s w') (o : jH w b cs) (hb : ¬ (X b ∨ Y b)) : jH w' b cs := by
 obtain ⟨_, _, _, _, _, _, _, _, _, x⟩ := h
 exact o.ext x hb
theorem iK.andThen {n0 : Nat} {w w1 w2 : adR} {q p : Nat} {X D Y : Nat -> Prop} {S1 S2 : kD} {s1 s2 : oQ} (h : iK n0 w q p X D Y S1 s1 w1) (h2 : ∀ {X' D' Y' lv hv}, jZ n0 w1 q p X' D' Y' S1 s1 lv hv -> iK n0 w1 q p X' D' Y' S2 s2 w2) : iK n0 w q p X D Y S2 s2 w2 := by
 obtain ⟨X', D', Y', lv, hv, h1, hX, hD, hY, x⟩ := h
 exact iK.step x hX hD hY (h2 h1)
theorem QM {n0 q p : Nat} {X D Y : Nat -> Prop} {S : kD} {s : oQ} {w w1 : adR} (h : iK n0 w q p X D Y S s w1) (hB : Ec 0 S) :
 gS pg jP #[dP p] w1 (fun r w2 => r = .int .i64 (EE S).2 /\ iK n0 w q p X D Y (EE S).1 s w2) := by
 obtain ⟨X', D', Y', lv, hv, h1, hX, hD, hY, x⟩ := h
 refine (X4 h1.dsk hB.bd).mono ?_
 rintro r w2 ⟨rfl, hp⟩
 obtain ⟨X2, D2, h2, hX2, hD2, x2⟩ := h1.disk hp
 exact ⟨rfl, iK.step x hX hD hY ⟨X2, D2, Y', _, _, h2, hX2, hD2, fun _ h => .inl h, x2.mono fun _ _ h => .inl h⟩⟩
theorem QO {S : kD} {s : oQ} {k v : Nat} : (kR iI S s k v).2.1.hv = s.hv /\ (kR iI S s k v).2.1.man = s.man /\ (kR iI S s k v).2.1.nm = s.nm /\ (kR iI S s k v).2.1.epoch = s.epoch := by
 unfold kR
 simp only
 split <;> exact ⟨rfl, rfl, rfl, rfl⟩
theorem U9 {S : kD} {s : oQ} {i : Nat} {b : List UInt8} : (mL iI S s i b).2.1.hv = s.hv := by
 unfold mL
 simp only
 split
 .rfl
 .split
  .rfl
  .split
   .exact QO.1
   .exact QO.1
theorem jZ.setHv {n0 : Nat} {w : adR} {q p : Nat} {X D Y : Nat -> Prop} {S : kD} {s : oQ} {lv hv : adS} (h : jZ n0 w q p X D Y S s lv hv) {i : Nat} (hi : i < s.hv.length) :
 ∃ hb c rest, hv = .slice (some ⟨hb, 0, none⟩) s.hv.length c /\ Y hb /\ hb ≠ q /\ jH w hb (s.hv.map Value.bool ++ rest) /\ ∀ {w' : adR} {z : Bool}, jH w' hb ((s.hv.map Value.bool ++ rest).set i (.bool z)) -> gT w w' (fun y => y = hb) -> jZ n0 w' q p X D Y S { s with hv := s.hv.set i z } lv hv := by
 rcases h.hv.2 with ⟨_, h0⟩ | ⟨hb, c, rest, hhv, ⟨hbY, hbq⟩, o, ol, oc⟩
 .omega
 refine ⟨hb, c, rest, hhv, hbY, hbq, o, fun {w' z} o' x => ?_⟩
 have hg := h.g0
 have hn := h.lo hb (.inr hbY)
 have hd := h.yd hb hbY
 refine ⟨h.glob.extM x (by omega) (by omega), h.g0, h.lo, acM h.hi x.size, h.dsk.ext x fun b hb => hb ▸ hd, h.yq, h.yd, h.own.ext x (fun e => hbq e.symm), h.man, h.lv.keep (x.mono fun b _ hb => .inr (hb ▸ hbY)) fun b hb => .inl hb, ?_, h.ep, h.lg, ?_, h.nl⟩
 .refine ⟨by rw [ZT]; simp, .inr ⟨hb, c, rest, ?_, ⟨hbY, hbq⟩, ?_, ?_, ?_⟩⟩
  .rw [hhv]; simp
  .rw [List.set_append_left _ _ (by rw [ZT]; exact hi)] at o'
   rw [acX]; exact o'
  .rw [ZV, ZT] at ol ⊢
   rw [acC]; exact ol
  .rw [acC]; exact oc
 .show (s.hv.set i z).length <= 1024
  rw [acC]; exact h.hl
theorem T3 {n0 q p i s3 i4 b5 a7 : Nat} {X D Y : Nat -> Prop} {S : kD} {s : oQ} {lv hv bv : adS} {b : List UInt8} {w : adR} {RR : adS -> adR -> Prop} (h : jZ n0 w q p X D Y S s lv hv) (hB : Ec 2 S) (hi : i < s.hv.length) (hb : Bs w bv b) (hbl : b.length <= 1000000)
 (hbn : ¬ wC bv (fun y => X y ∨ Y y)) (hlg : s.log + 13 <= 1000000000) (hpi : s.man.part * i <= 1000000000) (o3 : jH w s3 [dP q]) (o4 : jH w i4 [.int .i64 (i : Nat)]) (o5 : jH w b5 [bv]) (o7 : jH w a7 [.int .u64 ((s.man.part * i : Nat) : Int)])
 (m3 : ¬ (X s3 ∨ Y s3)) (m4 : ¬ (X i4 ∨ Y i4)) (m5 : ¬ (X b5 ∨ Y b5)) (m7 : ¬ (X a7 ∨ Y a7))
 (hR : ∀ w', iK n0 w q p X D Y (mL iI S s i b).1 { (mL iI S s i b).2.1 with err := (mL iI S s i b).2.2, hv := (mL iI S s i b).2.1.hv.set i ((mL iI S s i b).2.2 == 0) } w' -> RR (.int .i64 (mL iI S s i b).2.2) w') :
 mV RR (.pointer (some ⟨s3, 0, none⟩)) (.pointer (some ⟨i4, 0, none⟩)) (.pointer (some ⟨b5, 0, none⟩)) (.pointer (some ⟨a7, 0, none⟩)) w := by
 unfold mV
 have hd := h.new (gT.dr w jL)
 obtain ⟨c0, c1, c2, c3, c4, c5, c6, c7, c8, c9⟩ := hd.cells
 have k3 := (kI o3).cell (off := 0)
 simp only [ZK] at k3
 have f1 := fun w => Mj (P := pg) (f := oA) [] [.pointer (some ⟨s3, 0, none⟩), .pointer (some ⟨a7, 0, none⟩), .pointer (some ⟨b5, 0, none⟩)] w
 have f2 := fun w => Mj (P := pg) (f := jP) [dP p] [] w
 have f3 := fun w => Mj (P := pg) (f := oB) [] [.pointer (some ⟨s3, 0, none⟩), .pointer (some ⟨i4, 0, none⟩)] w
 simp (disch := omega) only [eY, gN, dX, stepR_skip, fO, gI, fP, gJ, gC, gE, gR, fZ, eU, fX, fU, gD, fR, fN, fW, fS, fV, gK, gG, fQ, fC, fY, gA, fL, iP, iS, iL, iT, iR, iM, iN, iQ, iO, eP, Result.ok.injEq, Next.value.injEq, true_and, and_true, fI, fJ, gB, fM, gH, gQ, ZO, fD, fF, fG, fE, eZ, eT, fB, eX, eQ, eH, if_true, if_false, ZM, ZS, ZN, ZP, ZR, ZQ, ZL, ZK, eA, dV, aB, dE, dJ, cB, eB, eS, eD, dN, eE, fA, dG, eI, bR, dL, bC, dR, aL, aH, eK, aZ, cI, eJ, aG, eL, dQ, aR, bD, eC, bG, bF, bJ, aP, aM, cG, fH, dY, cJ, cA, dB, cH, dT, bB, eM, bX, dS, bQ, bA, bT, aC, bU, bP, cF, bY, aU, aV, aX, bV, dD, cP, bO, aY, aN, aK, bH, aD, dC, dW, aJ, aI, aT, aF, cY, aE, cL, bW, bE, aO, cM, bZ, aA, dF, cU, cV, cC, dK, cD, dM, dU, cN, eF, eN, bN, aS, dZ, bS, aQ, bM, dI, dA, cS, cO, cR, bK, bL, cX, dO, cQ, dH, cZ, k3, c0, f1, f2, f3]
 obtain ⟨fs, hfs⟩ : ∃ fs : List adS, fs = [.func (.func oA) #[] #[.pointer (some ⟨s3, 0, none⟩), .pointer (some ⟨a7, 0, none⟩), .pointer (some ⟨b5, 0, none⟩)], .func (.func jP) #[dP p] #[], .func (.func oB) #[] #[.pointer (some ⟨s3, 0, none⟩), .pointer (some ⟨i4, 0, none⟩)], .func (.func jP) #[dP p] #[]] := ⟨_, rfl⟩
 refine Ac (cells := fs.toArray) (by decide) (by decide) (by rw [hfs]; kernel_rfl) fun w1 o1 x1 s1 => ?_
 have o1 : jH w1 (dr w).heap.size fs := o1
 obtain ⟨bb, hbb⟩ : ∃ bb, bb = (dr w).heap.size := ⟨_, rfl⟩
 rw [<- hbb] at o1 ⊢
 have hw0 : bb = w.heap.size := hbb
 have x01 : gT w w1 jL := (gT.dr w _).seq x1
 have h1 := h.new x01
 have mb : ¬ (X bb ∨ Y bb) := fun hx => by have := jZ.lt h bb hx; omega
 have o3 := o3.ext x01 (fun h => h)
 have o4 := o4.ext x01 (fun h => h)
 have o5 := o5.ext x01 (fun h => h)
 have o7 := o7.ext x01 (fun h => h)
 have hb1 := hb.ext x01 (jI _)
 obtain ⟨A1, hA1⟩ : ∃ A1, A1 = GS S (iC s.nm) (s.man.part * i : Nat) b := ⟨_, rfl⟩
 have hB1 : Ec 1 A1.1 := hA1 ▸ Q6 hB
 obtain ⟨A2, hA2⟩ : ∃ A2, A2 = EE A1.1 := ⟨_, rfl⟩
 have hB2 : Ec 1 A2.1 := hA2 ▸ YM hB1
 obtain ⟨A3, hA3⟩ : ∃ A3, A3 = kR iI A2.1 s 2 i := ⟨_, rfl⟩
 have hB3 : Ec 0 A3.1 := hA3 ▸ VI hB2
 obtain ⟨A4, hA4⟩ : ∃ A4, A4 = EE A3.1 := ⟨_, rfl⟩
 have hch : mL iI S s i b = if A1.2 ≠ 0 then (A1.1, s, A1.2) else if A2.2 ≠ 0 then (A2.1, s, A2.2) else if A3.2.2 ≠ 0 then (A3.1, A3.2.1, A3.2.2) else (A4.1, A3.2.1, A4.2) := by
  unfold mL
  simp only [<- hA1, <- hA2, <- hA3, <- hA4]
 obtain ⟨C, hC⟩ : ∃ C, C = mL iI S s i b := ⟨_, rfl⟩
 rw [<- hC] at hch hR
 let J : Nat -> adR -> Prop := fun k w' => match k with
  | 0 => iK n0 w1 q p X D Y S s w'
  | 1 => A1.2 = 0 /\ iK n0 w1 q p X D Y A1.1 s w'
  | 2 => A1.2 = 0 /\ A2.2 = 0 /\ iK n0 w1 q p X D Y A2.1 s w'
  | 3 => A1.2 = 0 /\ A2.2 = 0 /\ A3.2.2 = 0 /\ iK n0 w1 q p X D Y A3.1 A3.2.1 w'
  | _ => C.2.2 = 0 /\ iK n0 w1 q p X D Y C.1 C.2.1 w'
 let E : Int -> adR -> Prop := fun e w' => C.2.2 = e /\ iK n0 w1 q p X D Y C.1 C.2.1 w'
 have hJown : ∀ k w', J k w' -> ∃ S' s', iK n0 w1 q p X D Y S' s' w' := fun k w' hk => by
  match k, hk with
  | 0, hk => exact ⟨_, _, hk⟩
  | 1, hk => exact ⟨_, _, hk.2⟩
  | 2, hk => exact ⟨_, _, hk.2.2⟩
  | 3, hk => exact ⟨_, _, hk.2.2.2⟩
  | n + 4, hk => exact ⟨_, _, hk.2⟩
 have hmain := Ty (fs := fs) (b := bb) (c := 4) (w := w1) J E (by rw [hfs]; simp) (iK.refl h1) (fun k w' hk => by
  obtain ⟨_, _, hp⟩ := hJown k w' hk
  exact hp.keep o1 mb) ?hs
 case hs =>
  intro k w' f hf hk
  rw [hfs] at hf
  match k, hf, hk with
  | 0, hf, hk =>
    simp only [ZK, aaH] at hf
    rw [<- hf, Jw Tryd.func33 (by kernel_rfl) (by kernel_rfl)]
    show gS pg oA #[.pointer (some ⟨s3, 0, none⟩), .pointer (some ⟨a7, 0, none⟩), .pointer (some ⟨b5, 0, none⟩)] w' _
    have hk : iK n0 w1 q p X D Y S s w' := hk
    refine Hc ?_
    unfold Es vP
    have e3 := (kI (hk.keep o3 m3)).cell (off := 0)
    have e7 := (kI (hk.keep o7 m7)).cell (off := 0)
    have e5 := (kI (hk.keep o5 m5)).cell (off := 0)
    simp only [ZK] at e3 e7 e5
    obtain ⟨X', D', Y', lv', hv', g1, hX, hD, hY, gx⟩ := hk
    have g1d := g1.new (gT.dr w' jL)
    obtain ⟨d0, d1, d2, d3, d4, d5, d6, d7, d8, d9⟩ := g1d.cells
    have ct := OM h.nl
    have ew : IntKind.i64.wrap ((s.man.part * i : Nat) : Int) = ((s.man.part * i : Nat) : Int) := fI (by omega) (by omega)
    have hbw : Bs (dr w') bv b := (hb1.ext gx hbn).ext (gT.dr _ jL) (jI _)
    generalize s.man.part * i = at' at *
    obtain ⟨ba, bc, rfl, _⟩ := hbw.len
    simp (disch := omega) only [eY, gN, dX, stepR_skip, fO, gI, fP, gJ, gC, gE, gR, fZ, eU, fX, fU, gD, fR, fN, fW, fS, fV, gK, gG, fQ, fC, fY, gA, fL, iP, iS, iL, iT, iR, iM, iN, iQ, iO, eP, Result.ok.injEq, Next.value.injEq, true_and, and_true, fI, fJ, gB, fM, gH, gQ, ZO, fD, fF, fG, fE, eZ, eT, fB, eX, eQ, eH, if_true, if_false, ZM, ZS, ZN, ZP, ZR, ZQ, ZL, ZK, eA, dV, aB, dE, dJ, cB, eB, eS, eD, dN, eE, fA, dG, eI, bR, dL, bC, dR, aL, aH, eK, aZ, cI, eJ, aG, eL, dQ, aR, bD, eC, bG, bF, bJ, aP, aM, cG, fH, dY, cJ, cA, dB, cH, dT, bB, eM, bX, dS, bQ, bA, bT, aC, bU, bP, cF, bY, aU, aV, aX, bV, dD, cP, bO, aY, aN, aK, bH, aD, dC, dW, aJ, aI, aT, aF, cY, aE, cL, bW, bE, aO, cM, bZ, aA, dF, cU, cV, cC, dK, cD, dM, dU, cN, eF, eN, bN, aS, dZ, bS, aQ, bM, dI, dA, cS, cO, cR, bK, bL, cX, dO, cQ, dH, cZ, e3, e7, e5, d0, d1, ct, ew]
    refine (Lo (name := iC s.nm) (a := (at' : Nat)) g1d.dsk hB.bd hbw (by omega) (by omega) (by omega)).mono ?_
    rintro r w2 ⟨rfl, hp⟩
    obtain ⟨X2, D2, g2, hX2, hD2, gx2⟩ := g1d.disk hp
    rw [<- hA1] at g2 ⊢
    have hpost : iK n0 w1 q p X D Y A1.1 s w2 := iK.step (gx.seq (gT.dr _ _)) hX hD hY ⟨X2, D2, Y', _, _, g2, hX2, hD2, fun _ h => .inl h, gx2.mono fun _ _ h => .inl h⟩
    refine ⟨_, rfl, ?_⟩
    split
    .rename_i he; exact ⟨he, hpost⟩
    .rename_i he
     rw [if_pos he] at hch
     show C.2.2 = _ /\ iK n0 w1 q p X D Y C.1 C.2.1 w2
     rw [hch]
     exact ⟨rfl, hpost⟩
  | 1, hf, hk =>
    simp only [ZK, ZL, aaH] at hf
    rw [<- hf, Jw Tryd.func19 (by kernel_rfl) (by kernel_rfl)]
    show gS pg jP #[dP p] w' _
    have hk : A1.2 = 0 /\ iK n0 w1 q p X D Y A1.1 s w' := hk
    refine (QM hk.2 (hB1.le (by omega))).mono ?_
    rintro r w2 ⟨rfl, hp⟩
    rw [<- hA2] at hp ⊢
    refine ⟨_, rfl, ?_⟩
    split
    .rename_i he; exact ⟨hk.1, he, hp⟩
    .rename_i he
     rw [if_neg (by rw [hk.1]; decide), if_pos he] at hch
     show C.2.2 = _ /\ iK n0 w1 q p X D Y C.1 C.2.1 w2
     rw [hch]
     exact ⟨rfl, hp⟩
  | 2, hf, hk =>
    simp only [ZK, ZL, aaH] at hf
    rw [<- hf, Jw Tryd.func34 (by kernel_rfl) (by kernel_rfl)]
    show gS pg oB #[.pointer (some ⟨s3, 0, none⟩), .pointer (some ⟨i4, 0, none⟩)] w' _
    have hk : A1.2 = 0 /\ A2.2 = 0 /\ iK n0 w1 q p X D Y A2.1 s w' := hk
    refine GW ?_
    unfold El uT
    have e3 := (hk.2.2.keep o3 m3).cell (off := 0)
    have e4 := (hk.2.2.keep o4 m4).cell (off := 0)
    simp only [ZK] at e3 e4
    have hi' := h.hl
    have ew : IntKind.u64.wrap (i : Int) = (i : Int) := fJ (by omega) (by omega)
    simp (disch := omega) only [eY, gN, dX, stepR_skip, fO, gI, fP, gJ, gC, gE, gR, fZ, eU, fX, fU, gD, fR, fN, fW, fS, fV, gK, gG, fQ, fC, fY, gA, fL, iP, iS, iL, iT, iR, iM, iN, iQ, iO, eP, Result.ok.injEq, Next.value.injEq, true_and, and_true, fI, fJ, gB, fM, gH, gQ, ZO, fD, fF, fG, fE, eZ, eT, fB, eX, eQ, eH, if_true, if_false, ZM, ZS, ZN, ZP, ZR, ZQ, ZL, ZK, eA, dV, aB, dE, dJ, cB, eB, eS, eD, dN, eE, fA, dG, eI, bR, dL, bC, dR, aL, aH, eK, aZ, cI, eJ, aG, eL, dQ, aR, bD, eC, bG, bF, bJ, aP, aM, cG, fH, dY, cJ, cA, dB, cH, dT, bB, eM, bX, dS, bQ, bA, bT, aC, bU, bP, cF, bY, aU, aV, aX, bV, dD, cP, bO, aY, aN, aK, bH, aD, dC, dW, aJ, aI, aT, aF, cY, aE, cL, bW, bE, aO, cM, bZ, aA, dF, cU, cV, cC, dK, cD, dM, dU, cN, eF, eN, bN, aS, dZ, bS, aQ, bM, dI, dA, cS, cO, cR, bK, bL, cX, dO, cQ, dH, cZ, e3, e4, ew]
    obtain ⟨X', D', Y', lv', hv', g1, hX, hD, hY, gx⟩ := hk.2.2
    refine (RI (k := 2) (v := i) g1 hB2 (.inr rfl) (by omega) hlg).mono ?_
    rintro r w2 ⟨rfl, hp⟩
    rw [<- hA3] at hp ⊢
    have hpost := iK.step gx hX hD hY hp
    refine ⟨_, rfl, ?_⟩
    split
    .rename_i he; exact ⟨hk.1, hk.2.1, he, hpost⟩
    .rename_i he
     rw [if_neg (by rw [hk.1]; decide), if_neg (by rw [hk.2.1]; decide), if_pos he] at hch
     show C.2.2 = _ /\ iK n0 w1 q p X D Y C.1 C.2.1 w2
     rw [hch]
     exact ⟨rfl, hpost⟩
  | 3, hf, hk =>
    simp only [ZK, ZL, aaH] at hf
    rw [<- hf, Jw Tryd.func19 (by kernel_rfl) (by kernel_rfl)]
    show gS pg jP #[dP p] w' _
    have hk : A1.2 = 0 /\ A2.2 = 0 /\ A3.2.2 = 0 /\ iK n0 w1 q p X D Y A3.1 A3.2.1 w' := hk
    refine (QM hk.2.2.2 hB3).mono ?_
    rintro r w2 ⟨rfl, hp⟩
    rw [<- hA4] at hp ⊢
    rw [if_neg (by rw [hk.1]; decide), if_neg (by rw [hk.2.1]; decide), if_neg (by rw [hk.2.2.1]; decide)] at hch
    refine ⟨_, rfl, ?_⟩
    have hE : C.2.2 = A4.2 /\ iK n0 w1 q p X D Y C.1 C.2.1 w2 := by rw [hch]; exact ⟨rfl, hp⟩
    split
    .rename_i he; exact ⟨hE.1.trans he, hE.2⟩
    .exact hE
  | n + 4, hf, hk => simp at hf
 rw [show fs.length = 4 from by rw [hfs] <;> rfl] at hmain
 have k3' := (o3).cell (off := 0)
 simp only [ZK] at k3'
 simp (disch := omega) only [eY, gN, dX, stepR_skip, fO, gI, fP, gJ, gC, gE, gR, fZ, eU, fX, fU, gD, fR, fN, fW, fS, fV, gK, gG, fQ, fC, fY, gA, fL, iP, iS, iL, iT, iR, iM, iN, iQ, iO, eP, Result.ok.injEq, Next.value.injEq, true_and, and_true, fI, fJ, gB, fM, gH, gQ, ZO, fD, fF, fG, fE, eZ, eT, fB, eX, eQ, eH, if_true, if_false, ZM, ZS, ZN, ZP, ZR, ZQ, ZL, ZK, eA, dV, aB, dE, dJ, cB, eB, eS, eD, dN, eE, fA, dG, eI, bR, dL, bC, dR, aL, aH, eK, aZ, cI, eJ, aG, eL, dQ, aR, bD, eC, bG, bF, bJ, aP, aM, cG, fH, dY, cJ, cA, dB, cH, dT, bB, eM, bX, dS, bQ, bA, bT, aC, bU, bP, cF, bY, aU, aV, aX, bV, dD, cP, bO, aY, aN, aK, bH, aD, dC, dW, aJ, aI, aT, aF, cY, aE, cL, bW, bE, aO, cM, bZ, aA, dF, cU, cV, cC, dK, cD, dM, dU, cN, eF, eN, bN, aS, dZ, bS, aQ, bM, dI, dA, cS, cO, cR, bK, bL, cX, dO, cQ, dH, cZ, k3']
 refine hmain.mono ?_
 rintro r w2 ⟨e, rfl, he⟩
 have hfin : C.2.2 = e /\ iK n0 w1 q p X D Y C.1 C.2.1 w2 := by
  split at he
  .rename_i h0; rw [h0]; exact he
  .exact he
 clear he hmain
 obtain ⟨rfl, hp⟩ := hfin
 have q3 := (hp.keep o3 m3).cell (off := 0)
 simp only [ZK] at q3
 obtain ⟨X2, D2, Y2, lv2, hv2, h2, hX2, hD2, hY2, x2⟩ := id hp
 have hChv : C.2.1.hv = s.hv := by rw [hC]; exact U9
 have l1 : w.heap.size <= w1.heap.size := x01.size
 have notin : ∀ {y : Nat}, y < w1.heap.size -> ¬ (X y ∨ Y y) -> ¬ (X2 y ∨ Y2 y) := fun {y} hy hn h => by
  rcases h with h | h
  .rcases hX2 y h with h | h
   .exact hn (.inl h)
   .omega
  .rcases hY2 y h with h | h
   .exact hn (.inr h)
   .omega
 simp (disch := omega) only [eY, gN, dX, stepR_skip, fO, gI, fP, gJ, gC, gE, gR, fZ, eU, fX, fU, gD, fR, fN, fW, fS, fV, gK, gG, fQ, fC, fY, gA, fL, iP, iS, iL, iT, iR, iM, iN, iQ, iO, eP, Result.ok.injEq, Next.value.injEq, true_and, and_true, fI, fJ, gB, fM, gH, gQ, ZO, fD, fF, fG, fE, eZ, eT, fB, eX, eQ, eH, if_true, if_false, ZM, ZS, ZN, ZP, ZR, ZQ, ZL, ZK, eA, dV, aB, dE, dJ, cB, eB, eS, eD, dN, eE, fA, dG, eI, bR, dL, bC, dR, aL, aH, eK, aZ, cI, eJ, aG, eL, dQ, aR, bD, eC, bG, bF, bJ, aP, aM, cG, fH, dY, cJ, cA, dB, cH, dT, bB, eM, bX, dS, bQ, bA, bT, aC, bU, bP, cF, bY, aU, aV, aX, bV, dD, cP, bO, aY, aN, aK, bH, aD, dC, dW, aJ, aI, aT, aF, cY, aE, cL, bW, bE, aO, cM, bZ, aA, dF, cU, cV, cC, dK, cD, dM, dU, cN, eF, eN, bN, aS, dZ, bS, aQ, bM, dI, dA, cS, cO, cR, bK, bL, cX, dO, cQ, dH, cZ, q3]
 refine CH h2.own rfl (by simp) fun w3 q3' x3 zz3 => ?_
 have h3 := h2.set (s' := { C.2.1 with err := C.2.2 }) x3 q3' rfl rfl rfl h2.ep h2.lg
 have x3Y : gT w2 w3 (fun b => X2 b ∨ Y2 b) := x3.mono fun y _ hy => .inr (hy ▸ h2.yq)
 have h3d := h3.new (gT.dr w3 jL)
 obtain ⟨d0, d1, d2, d3, d4, d5, d6, d7, d8, d9⟩ := h3d.cells
 obtain ⟨hb, c, rest, hhv, hbY, hbq, oh, hset⟩ := h3d.setHv (i := i) (by show i < C.2.1.hv.length; rw [hChv]; exact hi)
 have hlen : ({ C.2.1 with err := C.2.2 } : oQ).hv.length = s.hv.length := by show C.2.1.hv.length = _; rw [hChv]
 rw [hlen] at hhv
 subst hhv
 have e3 : w3.cell? ⟨s3, 0, none⟩ = some (dP q) := (((hp.keep o3 m3).ext x3Y (notin o3.lt m3))).cell (off := 0)
 have e4 : w3.cell? ⟨i4, 0, none⟩ = some (.int .i64 (i : Nat)) := (((hp.keep o4 m4).ext x3Y (notin o4.lt m4))).cell (off := 0)
 have e3d : (dr w3).cell? ⟨s3, 0, none⟩ = some (dP q) := e3
 have e4d : (dr w3).cell? ⟨i4, 0, none⟩ = some (.int .i64 (i : Nat)) := e4
 simp (disch := omega) only [eY, gN, dX, stepR_skip, fO, gI, fP, gJ, gC, gE, gR, fZ, eU, fX, fU, gD, fR, fN, fW, fS, fV, gK, gG, fQ, fC, fY, gA, fL, iP, iS, iL, iT, iR, iM, iN, iQ, iO, eP, Result.ok.injEq, Next.value.injEq, true_and, and_true, fI, fJ, gB, fM, gH, gQ, ZO, fD, fF, fG, fE, eZ, eT, fB, eX, eQ, eH, if_true, if_false, ZM, ZS, ZN, ZP, ZR, ZQ, ZL, ZK, eA, dV, aB, dE, dJ, cB, eB, eS, eD, dN, eE, fA, dG, eI, bR, dL, bC, dR, aL, aH, eK, aZ, cI, eJ, aG, eL, dQ, aR, bD, eC, bG, bF, bJ, aP, aM, cG, fH, dY, cJ, cA, dB, cH, dT, bB, eM, bX, dS, bQ, bA, bT, aC, bU, bP, cF, bY, aU, aV, aX, bV, dD, cP, bO, aY, aN, aK, bH, aD, dC, dW, aJ, aI, aT, aF, cY, aE, cL, bW, bE, aO, cM, bZ, aA, dF, cU, cV, cC, dK, cD, dM, dU, cN, eF, eN, bN, aS, dZ, bS, aQ, bM, dI, dA, cS, cO, cR, bK, bL, cX, dO, cQ, dH, cZ, e3d, e4d, d6, d9]
 refine Er oh rfl (by rw [ZV, ZT, hlen]; omega) fun w4 o4' x4 zz4 => ?_
 have h4 := hset o4' x4
 obtain ⟨g0, g1, g2, g3, g4, g5, g6, g7, g8, g9⟩ := h4.cells
 have e34 : w4.cell? ⟨s3, 0, none⟩ = some (dP q) := by
  have hk := ((kI ((hp.keep o3 m3).ext x3Y (notin o3.lt m3))).ext x4 (fun e => (notin o3.lt m3) (.inr (e ▸ hbY))))
  exact hk.cell (off := 0)
 simp (disch := omega) only [eY, gN, dX, stepR_skip, fO, gI, fP, gJ, gC, gE, gR, fZ, eU, fX, fU, gD, fR, fN, fW, fS, fV, gK, gG, fQ, fC, fY, gA, fL, iP, iS, iL, iT, iR, iM, iN, iQ, iO, eP, Result.ok.injEq, Next.value.injEq, true_and, and_true, fI, fJ, gB, fM, gH, gQ, ZO, fD, fF, fG, fE, eZ, eT, fB, eX, eQ, eH, if_true, if_false, ZM, ZS, ZN, ZP, ZR, ZQ, ZL, ZK, eA, dV, aB, dE, dJ, cB, eB, eS, eD, dN, eE, fA, dG, eI, bR, dL, bC, dR, aL, aH, eK, aZ, cI, eJ, aG, eL, dQ, aR, bD, eC, bG, bF, bJ, aP, aM, cG, fH, dY, cJ, cA, dB, cH, dT, bB, eM, bX, dS, bQ, bA, bT, aC, bU, bP, cF, bY, aU, aV, aX, bV, dD, cP, bO, aY, aN, aK, bH, aD, dC, dW, aJ, aI, aT, aF, cY, aE, cL, bW, bE, aO, cM, bZ, aA, dF, cU, cV, cC, dK, cD, dM, dU, cN, eF, eN, bN, aS, dZ, bS, aQ, bM, dI, dA, cS, cO, cR, bK, bL, cX, dO, cQ, dH, cZ, e34, g9]
 refine hR w4 (iK.step (x01.mono fun _ _ h => h.elim) (fun _ h => .inl h) (fun _ h => h) (fun _ h => .inl h) ⟨X2, D2, Y2, _, _, h4, hX2, hD2, hY2, ?_⟩)
 refine (x2.trans x3Y fun y hy h => ?_).trans ((gT.dr w3 _).seq x4) fun y hy h => ?_
 .rcases h with h | h
  .rcases hX2 y h with h | h
   .exact .inl h
   .omega
  .rcases hY2 y h with h | h
   .exact .inr h
   .omega
 .rcases hY2 y (h ▸ hbY) with h | h
  .exact .inr h
  .omega
theorem Vt {n0 q p : Nat} {i : Int} {X D Y : Nat -> Prop} {S : kD} {s : oQ} {lv hv bv : adS} {b : List UInt8} {w : adR} (h : jZ n0 w q p X D Y S s lv hv) (hB : Ec 2 S) (hlen : s.hv.length = s.man.leaves.length) (hb : Bs w bv b) (hbl : b.length <= 1000000)
 (hbn : ¬ wC bv (fun y => X y ∨ Y y)) (hlg : s.log + 13 <= 1000000000) (hi64 : -9223372036854775808 <= i /\ i <= 9223372036854775807) :
 gS pg jQ #[dP q, .int .i64 i, bv] w (fun r w' => r = .int .i64 (By gZ iI S s i b).2.2 /\ iK n0 w q p X D Y (By gZ iI S s i b).1 (By gZ iI S s i b).2.1 w') := by
 refine Jg ?_
 obtain ⟨RR, hRR⟩ : ∃ RR : adS -> adR -> Prop, RR = fun r w' => r = .int .i64 (By gZ iI S s i b).2.2 /\ iK n0 w q p X D Y (By gZ iI S s i b).1 (By gZ iI S s i b).2.1 w' := ⟨_, rfl⟩
 rw [<- hRR]
 unfold HC xZ xM
 refine oC fun w1 o1 x1 s1 => ?_
 refine oC fun w2 o2 x2 s2 => ?_
 refine oC fun w3 o3 x3 s3 => ?_
 have hlt0 := fun y hy => jZ.lt h y hy
 generalize hn : w.heap.size = n at *
 rw [s1] at o2
 rw [show w2.heap.size = n + 2 from by omega] at o3 ⊢
 rw [s1]
 have o1 : jH w3 n [dP q] := ((jH.ext (cs := [dP q]) o1 x2 (fun h => h)).ext x3 (fun h => h))
 have o2 : jH w3 (n + 1) [.int .i64 i] := jH.ext (cs := [.int .i64 i]) o2 x3 (fun h => h)
 have o3 : jH w3 (n + 2) [bv] := by
  obtain ⟨ba, bc, rfl, _⟩ := hb.len
  exact o3
 have x03 : gT w w3 jL := (x1.seq x2).seq x3
 have h3 := h.new x03
 have hb3 := hb.ext x03 (jI _)
 have z3 : w3.heap.size = n + 3 := by omega
 clear x1 x2 x3
 have c1 := o1.cell (off := 0)
 have c2 := o2.cell (off := 0)
 have c3 := o3.cell (off := 0)
 simp only [ZK] at c1 c2 c3
 have x03' : gT w w3 (fun y => X y ∨ Y y) := x03.mono fun _ _ h => h.elim
 have stay : ∀ {w' : adR} {e : Int}, gT w3 w' jL -> By gZ iI S s i b = (S, s, e) -> RR (.int .i64 e) w' := fun {w' e} x he => by
  rw [hRR, he]
  exact ⟨rfl, iK.step x03' (fun _ h => .inl h) (fun _ h => h) (fun _ h => .inl h) (iK.step (x.mono fun _ _ h => h.elim) (fun _ h => .inl h) (fun _ h => h) (fun _ h => .inl h) (iK.refl (h3.new x)))⟩
 simp (disch := omega) only [eY, gN, dX, stepR_skip, fO, gI, fP, gJ, gC, gE, gR, fZ, eU, fX, fU, gD, fR, fN, fW, fS, fV, gK, gG, fQ, fC, fY, gA, fL, iP, iS, iL, iT, iR, iM, iN, iQ, iO, eP, Result.ok.injEq, Next.value.injEq, true_and, and_true, fI, fJ, gB, fM, gH, gQ, ZO, fD, fF, fG, fE, eZ, eT, fB, eX, eQ, eH, if_true, if_false, ZM, ZS, ZN, ZP, ZR, ZQ, ZL, ZK, eA, dV, aB, dE, dJ, cB, eB, eS, eD, dN, eE, fA, dG, eI, bR, dL, bC, dR, aL, aH, eK, aZ, cI, eJ, aG, eL, dQ, aR, bD, eC, bG, bF, bJ, aP, aM, cG, fH, dY, cJ, cA, dB, cH, dT, bB, eM, bX, dS, bQ, bA, bT, aC, bU, bP, cF, bY, aU, aV, aX, bV, dD, cP, bO, aY, aN, aK, bH, aD, dC, dW, aJ, aI, aT, aF, cY, aE, cL, bW, bE, aO, cM, bZ, aA, dF, cU, cV, cC, dK, cD, dM, dU, cN, eF, eN, bN, aS, dZ, bS, aQ, bM, dI, dA, cS, cO, cR, bK, bL, cX, dO, cQ, dH, cZ, c1]
 refine (NB h3).mono ?_
 rintro r w4 ⟨rfl, hw⟩
 rw [hw]; clear hw w4
 by_cases he : s.err = 0
 rotate_left
 .have n1 : (s.err != 0) = true := bne_iff_ne.2 he
  simp (disch := omega) only [eY, gN, dX, stepR_skip, fO, gI, fP, gJ, gC, gE, gR, fZ, eU, fX, fU, gD, fR, fN, fW, fS, fV, gK, gG, fQ, fC, fY, gA, fL, iP, iS, iL, iT, iR, iM, iN, iQ, iO, eP, Result.ok.injEq, Next.value.injEq, true_and, and_true, fI, fJ, gB, fM, gH, gQ, ZO, fD, fF, fG, fE, eZ, eT, fB, eX, eQ, eH, if_true, if_false, ZM, ZS, ZN, ZP, ZR, ZQ, ZL, ZK, eA, dV, aB, dE, dJ, cB, eB, eS, eD, dN, eE, fA, dG, eI, bR, dL, bC, dR, aL, aH, eK, aZ, cI, eJ, aG, eL, dQ, aR, bD, eC, bG, bF, bJ, aP, aM, cG, fH, dY, cJ, cA, dB, cH, dT, bB, eM, bX, dS, bQ, bA, bT, aC, bU, bP, cF, bY, aU, aV, aX, bV, dD, cP, bO, aY, aN, aK, bH, aD, dC, dW, aJ, aI, aT, aF, cY, aE, cL, bW, bE, aO, cM, bZ, aA, dF, cU, cV, cC, dK, cD, dM, dU, cN, eF, eN, bN, aS, dZ, bS, aQ, bM, dI, dA, cS, cO, cR, bK, bL, cX, dO, cQ, dH, cZ, n1, c1]
  refine (NB h3).mono ?_
  rintro r w4 ⟨rfl, hw⟩
  rw [hw]; clear hw w4
  exact stay (gT.refl _ _) (by unfold By; rw [if_pos he])
 have n1 : (s.err != 0) = false := bne_eq_false_iff_eq.2 he
 have P1 : By gZ iI S s i b = if i < 0 ∨ (s.hv.length : Int) <= i then (S, s, 17) else if s.fin || s.hv.getD i.toNat false then (S, s, 0) else if AA gZ s.man i.toNat b = false then (S, s, 13) else ((mL iI S s i.toNat b).1, { (mL iI S s i.toNat b).2.1 with err := (mL iI S s i.toNat b).2.2, hv := (mL iI S s i.toNat b).2.1.hv.set i.toNat ((mL iI S s i.toNat b).2.2 == 0) }, (mL iI S s i.toNat b).2.2) := by
  unfold By
  rw [if_neg (by rw [he]; decide)]
 have h3d := h3.new (gT.dr w3 jL)
 obtain ⟨d0, d1, d2, d3, d4, d5, d6, d7, d8, d9⟩ := h3d.cells
 obtain ⟨ha, hc, hhv⟩ := Db h3.hv
 rw [hhv] at d6
 have c1d : (dr w3).cell? ⟨n, 0, none⟩ = some (dP q) := c1
 have c2d : (dr w3).cell? ⟨n + 1, 0, none⟩ = some (.int .i64 i) := c2
 have hx1 : gT w3 (dr w3) jL := gT.dr _ _
 by_cases hneg : i < 0
 .have q1 : decide (i < 0) = true := decide_eq_true hneg
  rw [if_pos (.inl hneg)] at P1
  simp (disch := omega) only [eY, gN, dX, stepR_skip, fO, gI, fP, gJ, gC, gE, gR, fZ, eU, fX, fU, gD, fR, fN, fW, fS, fV, gK, gG, fQ, fC, fY, gA, fL, iP, iS, iL, iT, iR, iM, iN, iQ, iO, eP, Result.ok.injEq, Next.value.injEq, true_and, and_true, fI, fJ, gB, fM, gH, gQ, ZO, fD, fF, fG, fE, eZ, eT, fB, eX, eQ, eH, if_true, if_false, ZM, ZS, ZN, ZP, ZR, ZQ, ZL, ZK, eA, dV, aB, dE, dJ, cB, eB, eS, eD, dN, eE, fA, dG, eI, bR, dL, bC, dR, aL, aH, eK, aZ, cI, eJ, aG, eL, dQ, aR, bD, eC, bG, bF, bJ, aP, aM, cG, fH, dY, cJ, cA, dB, cH, dT, bB, eM, bX, dS, bQ, bA, bT, aC, bU, bP, cF, bY, aU, aV, aX, bV, dD, cP, bO, aY, aN, aK, bH, aD, dC, dW, aJ, aI, aT, aF, cY, aE, cL, bW, bE, aO, cM, bZ, aA, dF, cU, cV, cC, dK, cD, dM, dU, cN, eF, eN, bN, aS, dZ, bS, aQ, bM, dI, dA, cS, cO, cR, bK, bL, cX, dO, cQ, dH, cZ, n1, c2d, q1]
  exact stay hx1 P1
 have q1 : decide (i < 0) = false := decide_eq_false hneg
 obtain ⟨j, rfl⟩ : ∃ j : Nat, i = j := ⟨i.toNat, by omega⟩
 rw [ZO] at P1
 by_cases hge : s.hv.length <= j
 .have q2 : decide (((s.hv.length : Nat) : Int) <= (j : Int)) = true := by simp; omega
  rw [if_pos (.inr (by omega))] at P1
  simp (disch := omega) only [eY, gN, dX, stepR_skip, fO, gI, fP, gJ, gC, gE, gR, fZ, eU, fX, fU, gD, fR, fN, fW, fS, fV, gK, gG, fQ, fC, fY, gA, fL, iP, iS, iL, iT, iR, iM, iN, iQ, iO, eP, Result.ok.injEq, Next.value.injEq, true_and, and_true, fI, fJ, gB, fM, gH, gQ, ZO, fD, fF, fG, fE, eZ, eT, fB, eX, eQ, eH, if_true, if_false, ZM, ZS, ZN, ZP, ZR, ZQ, ZL, ZK, eA, dV, aB, dE, dJ, cB, eB, eS, eD, dN, eE, fA, dG, eI, bR, dL, bC, dR, aL, aH, eK, aZ, cI, eJ, aG, eL, dQ, aR, bD, eC, bG, bF, bJ, aP, aM, cG, fH, dY, cJ, cA, dB, cH, dT, bB, eM, bX, dS, bQ, bA, bT, aC, bU, bP, cF, bY, aU, aV, aX, bV, dD, cP, bO, aY, aN, aK, bH, aD, dC, dW, aJ, aI, aT, aF, cY, aE, cL, bW, bE, aO, cM, bZ, aA, dF, cU, cV, cC, dK, cD, dM, dU, cN, eF, eN, bN, aS, dZ, bS, aQ, bM, dI, dA, cS, cO, cR, bK, bL, cX, dO, cQ, dH, cZ, n1, c2d, q1, c1d, d6, q2]
  exact stay hx1 P1
 have q2 : decide (((s.hv.length : Nat) : Int) <= (j : Int)) = false := by simp; omega
 rw [if_neg (by omega)] at P1
 have hj : j < s.hv.length := by omega
 have hx2 : gT w3 (dr (dr w3)) jL := hx1.seq (gT.dr _ _)
 have h3e := h3.new hx2
 obtain ⟨e0, e1, e2, e3, e4, e5, e6, e7, e8, e9⟩ := h3e.cells
 rw [hhv] at e6
 have c1e : (dr (dr w3)).cell? ⟨n, 0, none⟩ = some (dP q) := c1
 have c2e : (dr (dr w3)).cell? ⟨n + 1, 0, none⟩ = some (.int .i64 (j : Nat)) := c2
 have c3e : (dr (dr w3)).cell? ⟨n + 2, 0, none⟩ = some bv := c3
 cases hfin : s.fin with
 | true =>
   rw [hfin] at e8 P1
   rw [Bool.true_or, if_pos rfl] at P1
   simp (disch := omega) only [eY, gN, dX, stepR_skip, fO, gI, fP, gJ, gC, gE, gR, fZ, eU, fX, fU, gD, fR, fN, fW, fS, fV, gK, gG, fQ, fC, fY, gA, fL, iP, iS, iL, iT, iR, iM, iN, iQ, iO, eP, Result.ok.injEq, Next.value.injEq, true_and, and_true, fI, fJ, gB, fM, gH, gQ, ZO, fD, fF, fG, fE, eZ, eT, fB, eX, eQ, eH, if_true, if_false, ZM, ZS, ZN, ZP, ZR, ZQ, ZL, ZK, eA, dV, aB, dE, dJ, cB, eB, eS, eD, dN, eE, fA, dG, eI, bR, dL, bC, dR, aL, aH, eK, aZ, cI, eJ, aG, eL, dQ, aR, bD, eC, bG, bF, bJ, aP, aM, cG, fH, dY, cJ, cA, dB, cH, dT, bB, eM, bX, dS, bQ, bA, bT, aC, bU, bP, cF, bY, aU, aV, aX, bV, dD, cP, bO, aY, aN, aK, bH, aD, dC, dW, aJ, aI, aT, aF, cY, aE, cL, bW, bE, aO, cM, bZ, aA, dF, cU, cV, cC, dK, cD, dM, dU, cN, eF, eN, bN, aS, dZ, bS, aQ, bM, dI, dA, cS, cO, cR, bK, bL, cX, dO, cQ, dH, cZ, n1, c2d, q1, c1d, d6, q2, c1e, e8]
   exact stay hx2 P1
 | false =>
   rw [hfin] at e8 P1
   rw [adE] at P1
   obtain ⟨sa, so, sc, hsv, hcell⟩ := QU (show Sl (dr (dr w3)) hv (s.hv.map Value.bool) from Ml h3e.hv) hj
   rw [hhv] at hsv
   cases hsv
   cases hvj : s.hv.getD j false with
   | true =>
     rw [hvj] at hcell P1
     rw [if_pos rfl] at P1
     simp (disch := omega) only [eY, gN, dX, stepR_skip, fO, gI, fP, gJ, gC, gE, gR, fZ, eU, fX, fU, gD, fR, fN, fW, fS, fV, gK, gG, fQ, fC, fY, gA, fL, iP, iS, iL, iT, iR, iM, iN, iQ, iO, eP, Result.ok.injEq, Next.value.injEq, true_and, and_true, fI, fJ, gB, fM, gH, gQ, ZO, fD, fF, fG, fE, eZ, eT, fB, eX, eQ, eH, if_true, if_false, ZM, ZS, ZN, ZP, ZR, ZQ, ZL, ZK, eA, dV, aB, dE, dJ, cB, eB, eS, eD, dN, eE, fA, dG, eI, bR, dL, bC, dR, aL, aH, eK, aZ, cI, eJ, aG, eL, dQ, aR, bD, eC, bG, bF, bJ, aP, aM, cG, fH, dY, cJ, cA, dB, cH, dT, bB, eM, bX, dS, bQ, bA, bT, aC, bU, bP, cF, bY, aU, aV, aX, bV, dD, cP, bO, aY, aN, aK, bH, aD, dC, dW, aJ, aI, aT, aF, cY, aE, cL, bW, bE, aO, cM, bZ, aA, dF, cU, cV, cC, dK, cD, dM, dU, cN, eF, eN, bN, aS, dZ, bS, aQ, bM, dI, dA, cS, cO, cR, bK, bL, cX, dO, cQ, dH, cZ, n1, c2d, q1, c1d, d6, q2, c1e, e8, e6, c2e, hcell]
     exact stay hx2 P1
   | false =>
     rw [hvj] at hcell P1
     rw [if_neg (by decide)] at P1
     simp (disch := omega) only [eY, gN, dX, stepR_skip, fO, gI, fP, gJ, gC, gE, gR, fZ, eU, fX, fU, gD, fR, fN, fW, fS, fV, gK, gG, fQ, fC, fY, gA, fL, iP, iS, iL, iT, iR, iM, iN, iQ, iO, eP, Result.ok.injEq, Next.value.injEq, true_and, and_true, fI, fJ, gB, fM, gH, gQ, ZO, fD, fF, fG, fE, eZ, eT, fB, eX, eQ, eH, if_true, if_false, ZM, ZS, ZN, ZP, ZR, ZQ, ZL, ZK, eA, dV, aB, dE, dJ, cB, eB, eS, eD, dN, eE, fA, dG, eI, bR, dL, bC, dR, aL, aH, eK, aZ, cI, eJ, aG, eL, dQ, aR, bD, eC, bG, bF, bJ, aP, aM, cG, fH, dY, cJ, cA, dB, cH, dT, bB, eM, bX, dS, bQ, bA, bT, aC, bU, bP, cF, bY, aU, aV, aX, bV, dD, cP, bO, aY, aN, aK, bH, aD, dC, dW, aJ, aI, aT, aF, cY, aE, cL, bW, bE, aO, cM, bZ, aA, dF, cU, cV, cC, dK, cD, dM, dU, cN, eF, eN, bN, aS, dZ, bS, aQ, bM, dI, dA, cS, cO, cR, bK, bL, cX, dO, cQ, dH, cZ, n1, c2d, q1, c1d, d6, q2, c1e, e8, e6, c2e, hcell, c3e]
     refine (Tp h3e (by omega) (hb3.ext hx2 (jI _)) hbl).mono ?_
     rintro r w4 ⟨rfl, x4⟩
     cases hwh : AA gZ s.man j b with
     | false =>
       rw [hwh] at P1
       rw [if_pos rfl] at P1
       simp (disch := omega) only [eY, gN, dX, stepR_skip, fO, gI, fP, gJ, gC, gE, gR, fZ, eU, fX, fU, gD, fR, fN, fW, fS, fV, gK, gG, fQ, fC, fY, gA, fL, iP, iS, iL, iT, iR, iM, iN, iQ, iO, eP, Result.ok.injEq, Next.value.injEq, true_and, and_true, fI, fJ, gB, fM, gH, gQ, ZO, fD, fF, fG, fE, eZ, eT, fB, eX, eQ, eH, if_true, if_false, ZM, ZS, ZN, ZP, ZR, ZQ, ZL, ZK, eA, dV, aB, dE, dJ, cB, eB, eS, eD, dN, eE, fA, dG, eI, bR, dL, bC, dR, aL, aH, eK, aZ, cI, eJ, aG, eL, dQ, aR, bD, eC, bG, bF, bJ, aP, aM, cG, fH, dY, cJ, cA, dB, cH, dT, bB, eM, bX, dS, bQ, bA, bT, aC, bU, bP, cF, bY, aU, aV, aX, bV, dD, cP, bO, aY, aN, aK, bH, aD, dC, dW, aJ, aI, aT, aF, cY, aE, cL, bW, bE, aO, cM, bZ, aA, dF, cU, cV, cC, dK, cD, dM, dU, cN, eF, eN, bN, aS, dZ, bS, aQ, bM, dI, dA, cS, cO, cR, bK, bL, cX, dO, cQ, dH, cZ]
       exact stay (hx2.seq x4) P1
     | true =>
       rw [hwh] at P1
       rw [if_neg (by decide)] at P1
       have x34 := hx2.seq x4
       have h4 := h3.new x34
       have hm := h.man
       have hm1 := hm.cnt
       have hm2 := hm.max
       have hm3 := hm.part
       have hm4 := hm.size
       have hpj : s.man.part * j < s.man.size := (vQ (by omega)).1 (by omega)
       have o14 := o1.ext x34 (fun h => h)
       have o24 := o2.ext x34 (fun h => h)
       have o34 := o3.ext x34 (fun h => h)
       have z4 := x34.size
       have ew : IntKind.i64.wrap ((s.man.part : Nat) : Int) = ((s.man.part : Nat) : Int) := fI (by omega) (by omega)
       have tail : ∀ {w5 : adR} {a7 : Nat}, gT w4 w5 jL -> w4.heap.size <= a7 -> jH w5 a7 [.int .u64 ((s.man.part * j : Nat) : Int)] -> mV RR (.pointer (some ⟨n, 0, none⟩)) (.pointer (some ⟨n + 1, 0, none⟩)) (.pointer (some ⟨n + 2, 0, none⟩)) (.pointer (some ⟨a7, 0, none⟩)) w5 := fun {w5 a7} x ha o7 => by
        have x05 := x34.seq x
        have nin : ∀ y, n <= y -> ¬ (X y ∨ Y y) := fun y hy hm => by have := hlt0 y hm; omega
        refine T3 (i := j) (h3.new x05) hB hj ((hb3.ext x34 (jI _)).ext x (jI _)) hbl hbn hlg (by omega) (o14.ext x (fun h => h)) (o24.ext x (fun h => h)) (o34.ext x (fun h => h)) o7 (nin _ (by omega)) (nin _ (by omega)) (nin _ (by omega)) (nin _ (by omega)) fun w' hp => ?_
        rw [hRR, P1]
        exact ⟨rfl, iK.step (x03'.seq (x05.mono fun _ _ h => h.elim)) (fun _ h => .inl h) (fun _ h => h) (fun _ h => .inl h) hp⟩
       obtain ⟨f0, f1, f2, f3, f4, f5, f6, f7, f8, f9⟩ := (h4.new (gT.dr w4 jL)).cells
       have k1 : (dr w4).cell? ⟨n, 0, none⟩ = some (dP q) := o14.cell (off := 0)
       have k2 : (dr w4).cell? ⟨n + 1, 0, none⟩ = some (.int .i64 (j : Nat)) := o24.cell (off := 0)
       obtain ⟨pj, hpj'⟩ : ∃ pj, pj = s.man.part * j := ⟨_, rfl⟩
       rw [<- hpj'] at tail
       have zd : (dr w4).heap.size = w4.heap.size := rfl
       simp (disch := omega) only [eY, gN, dX, stepR_skip, fO, gI, fP, gJ, gC, gE, gR, fZ, eU, fX, fU, gD, fR, fN, fW, fS, fV, gK, gG, fQ, fC, fY, gA, fL, iP, iS, iL, iT, iR, iM, iN, iQ, iO, eP, Result.ok.injEq, Next.value.injEq, true_and, and_true, fI, fJ, gB, fM, gH, gQ, ZO, fD, fF, fG, fE, eZ, eT, fB, eX, eQ, eH, if_true, if_false, ZM, ZS, ZN, ZP, ZR, ZQ, ZL, ZK, eA, dV, aB, dE, dJ, cB, eB, eS, eD, dN, eE, fA, dG, eI, bR, dL, bC, dR, aL, aH, eK, aZ, cI, eJ, aG, eL, dQ, aR, bD, eC, bG, bF, bJ, aP, aM, cG, fH, dY, cJ, cA, dB, cH, dT, bB, eM, bX, dS, bQ, bA, bT, aC, bU, bP, cF, bY, aU, aV, aX, bV, dD, cP, bO, aY, aN, aK, bH, aD, dC, dW, aJ, aI, aT, aF, cY, aE, cL, bW, bE, aO, cM, bZ, aA, dF, cU, cV, cC, dK, cD, dM, dU, cN, eF, eN, bN, aS, dZ, bS, aQ, bM, dI, dA, cS, cO, cR, bK, bL, cX, dO, cQ, dH, cZ]
       refine Vs ?_ ?_
       .simp (disch := omega) only [eY, gN, dX, stepR_skip, fO, gI, fP, gJ, gC, gE, gR, fZ, eU, fX, fU, gD, fR, fN, fW, fS, fV, gK, gG, fQ, fC, fY, gA, fL, iP, iS, iL, iT, iR, iM, iN, iQ, iO, eP, Result.ok.injEq, Next.value.injEq, true_and, and_true, fI, fJ, gB, fM, gH, gQ, ZO, fD, fF, fG, fE, eZ, eT, fB, eX, eQ, eH, if_true, if_false, ZM, ZS, ZN, ZP, ZR, ZQ, ZL, ZK, eA, dV, aB, dE, dJ, cB, eB, eS, eD, dN, eE, fA, dG, eI, bR, dL, bC, dR, aL, aH, eK, aZ, cI, eJ, aG, eL, dQ, aR, bD, eC, bG, bF, bJ, aP, aM, cG, fH, dY, cJ, cA, dB, cH, dT, bB, eM, bX, dS, bQ, bA, bT, aC, bU, bP, cF, bY, aU, aV, aX, bV, dD, cP, bO, aY, aN, aK, bH, aD, dC, dW, aJ, aI, aT, aF, cY, aE, cL, bW, bE, aO, cM, bZ, aA, dF, cU, cV, cC, dK, cD, dM, dU, cN, eF, eN, bN, aS, dZ, bS, aQ, bM, dI, dA, cS, cO, cR, bK, bL, cX, dO, cQ, dH, cZ, k1, k2, f2, f3, ew]
        refine (NU (by omega) hm3.1 hm3.2 hm2 (by omega)).mono ?_
        rintro r w5 ⟨rfl, hw⟩
        rw [hw]; clear hw w5
        rw [<- hpj']
        simp (disch := omega) only [eY, gN, dX, stepR_skip, fO, gI, fP, gJ, gC, gE, gR, fZ, eU, fX, fU, gD, fR, fN, fW, fS, fV, gK, gG, fQ, fC, fY, gA, fL, iP, iS, iL, iT, iR, iM, iN, iQ, iO, eP, Result.ok.injEq, Next.value.injEq, true_and, and_true, fI, fJ, gB, fM, gH, gQ, ZO, fD, fF, fG, fE, eZ, eT, fB, eX, eQ, eH, if_true, if_false, ZM, ZS, ZN, ZP, ZR, ZQ, ZL, ZK, eA, dV, aB, dE, dJ, cB, eB, eS, eD, dN, eE, fA, dG, eI, bR, dL, bC, dR, aL, aH, eK, aZ, cI, eJ, aG, eL, dQ, aR, bD, eC, bG, bF, bJ, aP, aM, cG, fH, dY, cJ, cA, dB, cH, dT, bB, eM, bX, dS, bQ, bA, bT, aC, bU, bP, cF, bY, aU, aV, aX, bV, dD, cP, bO, aY, aN, aK, bH, aD, dC, dW, aJ, aI, aT, aF, cY, aE, cL, bW, bE, aO, cM, bZ, aA, dF, cU, cV, cC, dK, cD, dM, dU, cN, eF, eN, bN, aS, dZ, bS, aQ, bM, dI, dA, cS, cO, cR, bK, bL, cX, dO, cQ, dH, cZ]
        refine PA fun w5 o5 x5 s5 => ?_
        refine Ju o5 rfl (by simp) fun w6 o6 x6 s6 => ?_
        simp only [Z7] at o6
        exact tail (((gT.dr w4 _).seq x5).trans x6 fun y hy h => by omega) (Z2 _) o6
       .simp (disch := omega) only [eY, gN, dX, stepR_skip, fO, gI, fP, gJ, gC, gE, gR, fZ, eU, fX, fU, gD, fR, fN, fW, fS, fV, gK, gG, fQ, fC, fY, gA, fL, iP, iS, iL, iT, iR, iM, iN, iQ, iO, eP, Result.ok.injEq, Next.value.injEq, true_and, and_true, fI, fJ, gB, fM, gH, gQ, ZO, fD, fF, fG, fE, eZ, eT, fB, eX, eQ, eH, if_true, if_false, ZM, ZS, ZN, ZP, ZR, ZQ, ZL, ZK, eA, dV, aB, dE, dJ, cB, eB, eS, eD, dN, eE, fA, dG, eI, bR, dL, bC, dR, aL, aH, eK, aZ, cI, eJ, aG, eL, dQ, aR, bD, eC, bG, bF, bJ, aP, aM, cG, fH, dY, cJ, cA, dB, cH, dT, bB, eM, bX, dS, bQ, bA, bT, aC, bU, bP, cF, bY, aU, aV, aX, bV, dD, cP, bO, aY, aN, aK, bH, aD, dC, dW, aJ, aI, aT, aF, cY, aE, cL, bW, bE, aO, cM, bZ, aA, dF, cU, cV, cC, dK, cD, dM, dU, cN, eF, eN, bN, aS, dZ, bS, aQ, bM, dI, dA, cS, cO, cR, bK, bL, cX, dO, cQ, dH, cZ, k1, k2, f2, f3, ew]
        refine PA fun w5 o5 x5 s5 => ?_
        obtain ⟨g0, g1, g2, g3, g4, g5, g6, g7, g8, g9⟩ := (h4.new ((gT.dr w4 jL).seq x5)).cells
        have k1' : w5.cell? ⟨n, 0, none⟩ = some (dP q) := (o14.ext ((gT.dr w4 jL).seq x5) (fun h => h)).cell (off := 0)
        have k2' : w5.cell? ⟨n + 1, 0, none⟩ = some (.int .i64 (j : Nat)) := (o24.ext ((gT.dr w4 jL).seq x5) (fun h => h)).cell (off := 0)
        simp (disch := omega) only [eY, gN, dX, stepR_skip, fO, gI, fP, gJ, gC, gE, gR, fZ, eU, fX, fU, gD, fR, fN, fW, fS, fV, gK, gG, fQ, fC, fY, gA, fL, iP, iS, iL, iT, iR, iM, iN, iQ, iO, eP, Result.ok.injEq, Next.value.injEq, true_and, and_true, fI, fJ, gB, fM, gH, gQ, ZO, fD, fF, fG, fE, eZ, eT, fB, eX, eQ, eH, if_true, if_false, ZM, ZS, ZN, ZP, ZR, ZQ, ZL, ZK, eA, dV, aB, dE, dJ, cB, eB, eS, eD, dN, eE, fA, dG, eI, bR, dL, bC, dR, aL, aH, eK, aZ, cI, eJ, aG, eL, dQ, aR, bD, eC, bG, bF, bJ, aP, aM, cG, fH, dY, cJ, cA, dB, cH, dT, bB, eM, bX, dS, bQ, bA, bT, aC, bU, bP, cF, bY, aU, aV, aX, bV, dD, cP, bO, aY, aN, aK, bH, aD, dC, dW, aJ, aI, aT, aF, cY, aE, cL, bW, bE, aO, cM, bZ, aA, dF, cU, cV, cC, dK, cD, dM, dU, cN, eF, eN, bN, aS, dZ, bS, aQ, bM, dI, dA, cS, cO, cR, bK, bL, cX, dO, cQ, dH, cZ, k1', k2', g2, g3, ew]
        refine (NU (by omega) hm3.1 hm3.2 hm2 (by omega)).mono ?_
        rintro r w6 ⟨rfl, hw⟩
        rw [hw]; clear hw w6
        rw [<- hpj']
        simp (disch := omega) only [eY, gN, dX, stepR_skip, fO, gI, fP, gJ, gC, gE, gR, fZ, eU, fX, fU, gD, fR, fN, fW, fS, fV, gK, gG, fQ, fC, fY, gA, fL, iP, iS, iL, iT, iR, iM, iN, iQ, iO, eP, Result.ok.injEq, Next.value.injEq, true_and, and_true, fI, fJ, gB, fM, gH, gQ, ZO, fD, fF, fG, fE, eZ, eT, fB, eX, eQ, eH, if_true, if_false, ZM, ZS, ZN, ZP, ZR, ZQ, ZL, ZK, eA, dV, aB, dE, dJ, cB, eB, eS, eD, dN, eE, fA, dG, eI, bR, dL, bC, dR, aL, aH, eK, aZ, cI, eJ, aG, eL, dQ, aR, bD, eC, bG, bF, bJ, aP, aM, cG, fH, dY, cJ, cA, dB, cH, dT, bB, eM, bX, dS, bQ, bA, bT, aC, bU, bP, cF, bY, aU, aV, aX, bV, dD, cP, bO, aY, aN, aK, bH, aD, dC, dW, aJ, aI, aT, aF, cY, aE, cL, bW, bE, aO, cM, bZ, aA, dF, cU, cV, cC, dK, cD, dM, dU, cN, eF, eN, bN, aS, dZ, bS, aQ, bM, dI, dA, cS, cO, cR, bK, bL, cX, dO, cQ, dH, cZ]
        refine Ju o5 rfl (by simp) fun w6 o6 x6 s6 => ?_
        simp only [Z7] at o6
        exact tail (((gT.dr w4 _).seq x5).trans x6 fun y hy h => by omega) (Z2 _) o6
theorem jZ.newHv {n0 : Nat} {w w1 w2 : adR} {q p ob : Nat} {X D Y : Nat -> Prop} {S : kD} {s s' : oQ} {lv hv : adS} {l : List Bool} (h : jZ n0 w q p X D Y S s lv hv) (x1 : gT w w1 jL) (hob : w.heap.size <= ob) (o1 : jH w1 ob (l.map Value.bool)) (hl : l.length <= 1024)
 (x2 : gT w1 w2 (fun y => y = q)) (o2 : jH w2 q (Zl p s' lv (.slice (some ⟨ob, 0, none⟩) l.length l.length))) (hm : s'.man = s.man) (hh : s'.hv = l) (hn : s'.nm = s.nm) (he : s'.epoch < 18446744073709551616) (hlg : s'.log <= 1000000000) :
 jZ n0 w2 q p X (fun b => D b ∨ b = ob) (fun b => Y b ∨ b = ob) S s' lv (.slice (some ⟨ob, 0, none⟩) l.length l.length) := by
 have hlt := jZ.lt h
 have hqY := hlt q (.inr h.yq)
 have hq := h.yd q h.yq
 have hqn := h.lo q (.inr h.yq)
 have hg := h.g0
 have hhi := h.hi
 have hol := o1.lt
 have z1 := x1.size
 have z2 := x2.size
 have hd1 := h.dsk.more x1 hob hol
 refine ⟨(h.glob.ext x1).extM x2 (by omega) (by omega), h.g0, fun b hb => ?_, by omega, hd1.ext x2 fun b hb => ⟨.inl (hb ▸ hq.1), hb ▸ hq.2⟩, .inl h.yq, fun b hb => ?_, o2, hm ▸ h.man, ?_, ?_, he, hlg, hh ▸ hl, hn ▸ h.nl⟩
 .rcases hb with hb | hb | hb
  .exact h.lo b (.inl hb)
  .exact h.lo b (.inr hb)
  .omega
 .rcases hb with hb | hb
  .exact ⟨.inl (h.yd b hb).1, (h.yd b hb).2⟩
  .exact ⟨.inr hb, fun hx => by have := hlt b (.inl hx); omega⟩
 .rw [hm]
  have k1 : Up w1 (fun b => X b ∨ Y b) lv s.man.leaves := h.lv.keep (x1.mono fun _ _ h => h.elim) fun b hb => .inl hb
  have k2 : Up w1 (fun b => X b ∨ Y b ∨ b = ob) lv s.man.leaves := h.lv.keep (x1.mono fun _ _ h => h.elim) fun b hb => by
   rcases hb with hb | hb | hb
   .exact .inl (.inl hb)
   .exact .inl (.inr hb)
   .exact .inr (by omega)
  exact k2.keep (x2.mono fun b _ hb => .inr (.inl (hb ▸ h.yq))) fun b hb => .inl hb
 .rw [hh]
  refine ⟨by rw [ZT]; simp, .inr ⟨ob, l.length, [], rfl, ⟨.inr rfl, by omega⟩, ?_, by simp, Z2 _⟩⟩
  rw [aaT]
  exact o1.ext x2 (by omega)
theorem Vb {n0 q p : Nat} {X D Y : Nat -> Prop} {S : kD} {s : oQ} {lv hv : adS} {w : adR} (h : jZ n0 w q p X D Y S s lv hv) (hB : Ec 2 S) (hbp : ∀ b, jF (iC s.nm) S.seen = some b -> b.length <= 1000000) :
 gS pg lW #[dP q] w (fun r w' => r = .int .i64 (mN gZ S s).2.2 /\ iK n0 w q p X D Y (mN gZ S s).1 (mN gZ S s).2.1 w') := by
 refine F5 ?_
 obtain ⟨RR, hRR⟩ : ∃ RR : adS -> adR -> Prop, RR = fun r w' => r = .int .i64 (mN gZ S s).2.2 /\ iK n0 w q p X D Y (mN gZ S s).1 (mN gZ S s).2.1 w' := ⟨_, rfl⟩
 rw [<- hRR]
 unfold D8 sT
 refine oC fun w1 o1 x1 s1 => ?_
 have hlt0 := fun y hy => jZ.lt h y hy
 generalize hn : w.heap.size = n at *
 have o1 : jH w1 n [dP q] := o1
 have h1 := h.new x1
 have c1 := o1.cell (off := 0)
 simp only [ZK] at c1
 have x01 : gT w w1 (fun y => X y ∨ Y y) := x1.mono fun _ _ h => h.elim
 have stay : ∀ {w' : adR} {e : Int}, gT w1 w' jL -> mN gZ S s = (S, s, e) -> RR (.int .i64 e) w' := fun {w' e} x he => by
  rw [hRR, he]
  exact ⟨rfl, iK.step x01 (fun _ h => .inl h) (fun _ h => h) (fun _ h => .inl h) (iK.step (x.mono fun _ _ h => h.elim) (fun _ h => .inl h) (fun _ h => h) (fun _ h => .inl h) (iK.refl (h1.new x)))⟩
 obtain ⟨d0, d1, d2, d3, d4, d5, d6, d7, d8, d9⟩ := h1.cells
 simp (disch := omega) only [eY, gN, dX, stepR_skip, fO, gI, fP, gJ, gC, gE, gR, fZ, eU, fX, fU, gD, fR, fN, fW, fS, fV, gK, gG, fQ, fC, fY, gA, fL, iP, iS, iL, iT, iR, iM, iN, iQ, iO, eP, Result.ok.injEq, Next.value.injEq, true_and, and_true, fI, fJ, gB, fM, gH, gQ, ZO, fD, fF, fG, fE, eZ, eT, fB, eX, eQ, eH, if_true, if_false, ZM, ZS, ZN, ZP, ZR, ZQ, ZL, ZK, eA, dV, aB, dE, dJ, cB, eB, eS, eD, dN, eE, fA, dG, eI, bR, dL, bC, dR, aL, aH, eK, aZ, cI, eJ, aG, eL, dQ, aR, bD, eC, bG, bF, bJ, aP, aM, cG, fH, dY, cJ, cA, dB, cH, dT, bB, eM, bX, dS, bQ, bA, bT, aC, bU, bP, cF, bY, aU, aV, aX, bV, dD, cP, bO, aY, aN, aK, bH, aD, dC, dW, aJ, aI, aT, aF, cY, aE, cL, bW, bE, aO, cM, bZ, aA, dF, cU, cV, cC, dK, cD, dM, dU, cN, eF, eN, bN, aS, dZ, bS, aQ, bM, dI, dA, cS, cO, cR, bK, bL, cX, dO, cQ, dH, cZ, c1]
 refine (NB h1).mono ?_
 rintro r w2 ⟨rfl, hw⟩
 rw [hw]; clear hw w2
 by_cases he : s.err = 0
 rotate_left
 .have n1 : (s.err != 0) = true := bne_iff_ne.2 he
  simp (disch := omega) only [eY, gN, dX, stepR_skip, fO, gI, fP, gJ, gC, gE, gR, fZ, eU, fX, fU, gD, fR, fN, fW, fS, fV, gK, gG, fQ, fC, fY, gA, fL, iP, iS, iL, iT, iR, iM, iN, iQ, iO, eP, Result.ok.injEq, Next.value.injEq, true_and, and_true, fI, fJ, gB, fM, gH, gQ, ZO, fD, fF, fG, fE, eZ, eT, fB, eX, eQ, eH, if_true, if_false, ZM, ZS, ZN, ZP, ZR, ZQ, ZL, ZK, eA, dV, aB, dE, dJ, cB, eB, eS, eD, dN, eE, fA, dG, eI, bR, dL, bC, dR, aL, aH, eK, aZ, cI, eJ, aG, eL, dQ, aR, bD, eC, bG, bF, bJ, aP, aM, cG, fH, dY, cJ, cA, dB, cH, dT, bB, eM, bX, dS, bQ, bA, bT, aC, bU, bP, cF, bY, aU, aV, aX, bV, dD, cP, bO, aY, aN, aK, bH, aD, dC, dW, aJ, aI, aT, aF, cY, aE, cL, bW, bE, aO, cM, bZ, aA, dF, cU, cV, cC, dK, cD, dM, dU, cN, eF, eN, bN, aS, dZ, bS, aQ, bM, dI, dA, cS, cO, cR, bK, bL, cX, dO, cQ, dH, cZ, n1, c1]
  refine (NB h1).mono ?_
  rintro r w2 ⟨rfl, hw⟩
  rw [hw]; clear hw w2
  exact stay (gT.refl _ _) (by unfold mN; rw [if_pos he])
 have n1 : (s.err != 0) = false := bne_eq_false_iff_eq.2 he
 cases hfin : s.fin with
 | true =>
   rw [hfin] at d8
   simp (disch := omega) only [eY, gN, dX, stepR_skip, fO, gI, fP, gJ, gC, gE, gR, fZ, eU, fX, fU, gD, fR, fN, fW, fS, fV, gK, gG, fQ, fC, fY, gA, fL, iP, iS, iL, iT, iR, iM, iN, iQ, iO, eP, Result.ok.injEq, Next.value.injEq, true_and, and_true, fI, fJ, gB, fM, gH, gQ, ZO, fD, fF, fG, fE, eZ, eT, fB, eX, eQ, eH, if_true, if_false, ZM, ZS, ZN, ZP, ZR, ZQ, ZL, ZK, eA, dV, aB, dE, dJ, cB, eB, eS, eD, dN, eE, fA, dG, eI, bR, dL, bC, dR, aL, aH, eK, aZ, cI, eJ, aG, eL, dQ, aR, bD, eC, bG, bF, bJ, aP, aM, cG, fH, dY, cJ, cA, dB, cH, dT, bB, eM, bX, dS, bQ, bA, bT, aC, bU, bP, cF, bY, aU, aV, aX, bV, dD, cP, bO, aY, aN, aK, bH, aD, dC, dW, aJ, aI, aT, aF, cY, aE, cL, bW, bE, aO, cM, bZ, aA, dF, cU, cV, cC, dK, cD, dM, dU, cN, eF, eN, bN, aS, dZ, bS, aQ, bM, dI, dA, cS, cO, cR, bK, bL, cX, dO, cQ, dH, cZ, n1, c1, d8]
   exact stay (gT.refl _ _) (by unfold mN; rw [if_neg (by rw [he]; decide), hfin, if_pos rfl])
 | false =>
   rw [hfin] at d8
   have C1 : mN gZ S s = if CD s.hv = false then (S, s, 30) else if S.down then (S, { s with err := 20 }, 20) else match jF (iC s.nm) S.seen with
    | none => (S, { s with err := 21 }, 21)
    | some b => if CD (jB gZ s.man b) = false then (S, { s with hv := jB gZ s.man b }, 13) else
      (if (M4 S (iC s.nm) s.nm).2 ≠ 0 then ((M4 S (iC s.nm) s.nm).1, { s with hv := jB gZ s.man b, err := (M4 S (iC s.nm) s.nm).2, fin := false }, (M4 S (iC s.nm) s.nm).2) else
       ((EE (M4 S (iC s.nm) s.nm).1).1, { s with hv := jB gZ s.man b, err := (EE (M4 S (iC s.nm) s.nm).1).2, fin := (EE (M4 S (iC s.nm) s.nm).1).2 == 0 }, (EE (M4 S (iC s.nm) s.nm).1).2)) := by
    unfold mN
    exact (if_neg (by rw [he]; decide)).trans ((if_neg (by rw [hfin]; decide)).trans rfl)
   simp (disch := omega) only [eY, gN, dX, stepR_skip, fO, gI, fP, gJ, gC, gE, gR, fZ, eU, fX, fU, gD, fR, fN, fW, fS, fV, gK, gG, fQ, fC, fY, gA, fL, iP, iS, iL, iT, iR, iM, iN, iQ, iO, eP, Result.ok.injEq, Next.value.injEq, true_and, and_true, fI, fJ, gB, fM, gH, gQ, ZO, fD, fF, fG, fE, eZ, eT, fB, eX, eQ, eH, if_true, if_false, ZM, ZS, ZN, ZP, ZR, ZQ, ZL, ZK, eA, dV, aB, dE, dJ, cB, eB, eS, eD, dN, eE, fA, dG, eI, bR, dL, bC, dR, aL, aH, eK, aZ, cI, eJ, aG, eL, dQ, aR, bD, eC, bG, bF, bJ, aP, aM, cG, fH, dY, cJ, cA, dB, cH, dT, bB, eM, bX, dS, bQ, bA, bT, aC, bU, bP, cF, bY, aU, aV, aX, bV, dD, cP, bO, aY, aN, aK, bH, aD, dC, dW, aJ, aI, aT, aF, cY, aE, cL, bW, bE, aO, cM, bZ, aA, dF, cU, cV, cC, dK, cD, dM, dU, cN, eF, eN, bN, aS, dZ, bS, aQ, bM, dI, dA, cS, cO, cR, bK, bL, cX, dO, cQ, dH, cZ, n1, c1, d8, d6]
   refine (NO (Ml h1.hv) (by have := h.hl; omega)).mono ?_
   rintro r w2 ⟨rfl, hw⟩
   rw [hw]; clear hw w2
   have hall : (!s.hv.contains false) = CD s.hv := rfl
   rw [hall]
   cases hab : CD s.hv with
   | false =>
     rw [if_pos hab] at C1
     simp (disch := omega) only [eY, gN, dX, stepR_skip, fO, gI, fP, gJ, gC, gE, gR, fZ, eU, fX, fU, gD, fR, fN, fW, fS, fV, gK, gG, fQ, fC, fY, gA, fL, iP, iS, iL, iT, iR, iM, iN, iQ, iO, eP, Result.ok.injEq, Next.value.injEq, true_and, and_true, fI, fJ, gB, fM, gH, gQ, ZO, fD, fF, fG, fE, eZ, eT, fB, eX, eQ, eH, if_true, if_false, ZM, ZS, ZN, ZP, ZR, ZQ, ZL, ZK, eA, dV, aB, dE, dJ, cB, eB, eS, eD, dN, eE, fA, dG, eI, bR, dL, bC, dR, aL, aH, eK, aZ, cI, eJ, aG, eL, dQ, aR, bD, eC, bG, bF, bJ, aP, aM, cG, fH, dY, cJ, cA, dB, cH, dT, bB, eM, bX, dS, bQ, bA, bT, aC, bU, bP, cF, bY, aU, aV, aX, bV, dD, cP, bO, aY, aN, aK, bH, aD, dC, dW, aJ, aI, aT, aF, cY, aE, cL, bW, bE, aO, cM, bZ, aA, dF, cU, cV, cC, dK, cD, dM, dU, cN, eF, eN, bN, aS, dZ, bS, aQ, bM, dI, dA, cS, cO, cR, bK, bL, cX, dO, cQ, dH, cZ]
     exact stay (gT.refl _ _) C1
   | true =>
     rw [if_neg (by rw [hab]; decide)] at C1
     have hd := h1.new (gT.dr w1 jL)
     obtain ⟨e0, e1, e2, e3, e4, e5, e6, e7, e8, e9⟩ := hd.cells
     have c1d : (dr w1).cell? ⟨n, 0, none⟩ = some (dP q) := c1
     have ct := OM h.nl
     simp (disch := omega) only [eY, gN, dX, stepR_skip, fO, gI, fP, gJ, gC, gE, gR, fZ, eU, fX, fU, gD, fR, fN, fW, fS, fV, gK, gG, fQ, fC, fY, gA, fL, iP, iS, iL, iT, iR, iM, iN, iQ, iO, eP, Result.ok.injEq, Next.value.injEq, true_and, and_true, fI, fJ, gB, fM, gH, gQ, ZO, fD, fF, fG, fE, eZ, eT, fB, eX, eQ, eH, if_true, if_false, ZM, ZS, ZN, ZP, ZR, ZQ, ZL, ZK, eA, dV, aB, dE, dJ, cB, eB, eS, eD, dN, eE, fA, dG, eI, bR, dL, bC, dR, aL, aH, eK, aZ, cI, eJ, aG, eL, dQ, aR, bD, eC, bG, bF, bJ, aP, aM, cG, fH, dY, cJ, cA, dB, cH, dT, bB, eM, bX, dS, bQ, bA, bT, aC, bU, bP, cF, bY, aU, aV, aX, bV, dD, cP, bO, aY, aN, aK, bH, aD, dC, dW, aJ, aI, aT, aF, cY, aE, cL, bW, bE, aO, cM, bZ, aA, dF, cU, cV, cC, dK, cD, dM, dU, cN, eF, eN, bN, aS, dZ, bS, aQ, bM, dI, dA, cS, cO, cR, bK, bL, cX, dO, cQ, dH, cZ, c1d, e0, e1, ct]
     refine (QF (name := iC s.nm) hd.dsk hB.bd (fun b hb => hB.file hb)).mono ?_
     rintro r w2 ⟨hr, x2⟩
     have x12 : gT w1 w2 jL := (gT.dr w1 _).seq x2
     have h2 := h1.new x12
     have c2 : w2.cell? ⟨n, 0, none⟩ = some (dP q) := (o1.ext x12 (fun h => h)).cell (off := 0)
     have x02 : gT w w2 (fun y => X y ∨ Y y) := x01.seq (x12.mono fun _ _ h => h.elim)
     have bad : ∀ {e : Int}, mN gZ S s = (S, { s with err := e }, e) -> eY pg (iF 29 (.pointer (some ⟨q, 9, none⟩)) (.int .i64 e)) w2 fun _u w => RR (.int .i64 e) w := fun {e} hC => by
      refine CH h2.own rfl (by simp) fun w3 o3 x3 z3 => ?_
      have h3 := h2.set (s' := { s with err := e }) x3 o3 rfl rfl rfl h.ep h.lg
      rw [hRR, hC]
      exact ⟨rfl, iK.step x02 (fun _ h => .inl h) (fun _ h => h) (fun _ h => .inl h) ⟨X, D, Y, _, _, h3, fun _ h => .inl h, fun _ h => h, fun _ h => .inl h, x3.mono fun y _ hy => .inr (hy ▸ h.yq)⟩⟩
     rcases hr with ⟨hdn, rfl⟩ | ⟨hdn, hg, rfl⟩ | ⟨hdn, b, v, hg, rfl, ho⟩
     .rw [if_pos hdn] at C1
      have n2 : ((20 : Int) != 0) = true := rfl
      have := bad C1
      simp (disch := omega) only [eY, gN, dX, stepR_skip, fO, gI, fP, gJ, gC, gE, gR, fZ, eU, fX, fU, gD, fR, fN, fW, fS, fV, gK, gG, fQ, fC, fY, gA, fL, iP, iS, iL, iT, iR, iM, iN, iQ, iO, eP, Result.ok.injEq, Next.value.injEq, true_and, and_true, fI, fJ, gB, fM, gH, gQ, ZO, fD, fF, fG, fE, eZ, eT, fB, eX, eQ, eH, if_true, if_false, ZM, ZS, ZN, ZP, ZR, ZQ, ZL, ZK, eA, dV, aB, dE, dJ, cB, eB, eS, eD, dN, eE, fA, dG, eI, bR, dL, bC, dR, aL, aH, eK, aZ, cI, eJ, aG, eL, dQ, aR, bD, eC, bG, bF, bJ, aP, aM, cG, fH, dY, cJ, cA, dB, cH, dT, bB, eM, bX, dS, bQ, bA, bT, aC, bU, bP, cF, bY, aU, aV, aX, bV, dD, cP, bO, aY, aN, aK, bH, aD, dC, dW, aJ, aI, aT, aF, cY, aE, cL, bW, bE, aO, cM, bZ, aA, dF, cU, cV, cC, dK, cD, dM, dU, cN, eF, eN, bN, aS, dZ, bS, aQ, bM, dI, dA, cS, cO, cR, bK, bL, cX, dO, cQ, dH, cZ, n2, c2]
      exact this
     .rw [if_neg (by rw [hdn]; decide), hg] at C1
      have n2 : ((21 : Int) != 0) = true := rfl
      have := bad C1
      simp (disch := omega) only [eY, gN, dX, stepR_skip, fO, gI, fP, gJ, gC, gE, gR, fZ, eU, fX, fU, gD, fR, fN, fW, fS, fV, gK, gG, fQ, fC, fY, gA, fL, iP, iS, iL, iT, iR, iM, iN, iQ, iO, eP, Result.ok.injEq, Next.value.injEq, true_and, and_true, fI, fJ, gB, fM, gH, gQ, ZO, fD, fF, fG, fE, eZ, eT, fB, eX, eQ, eH, if_true, if_false, ZM, ZS, ZN, ZP, ZR, ZQ, ZL, ZK, eA, dV, aB, dE, dJ, cB, eB, eS, eD, dN, eE, fA, dG, eI, bR, dL, bC, dR, aL, aH, eK, aZ, cI, eJ, aG, eL, dQ, aR, bD, eC, bG, bF, bJ, aP, aM, cG, fH, dY, cJ, cA, dB, cH, dT, bB, eM, bX, dS, bQ, bA, bT, aC, bU, bP, cF, bY, aU, aV, aX, bV, dD, cP, bO, aY, aN, aK, bH, aD, dC, dW, aJ, aI, aT, aF, cY, aE, cL, bW, bE, aO, cM, bZ, aA, dF, cU, cV, cC, dK, cD, dM, dU, cN, eF, eN, bN, aS, dZ, bS, aQ, bM, dI, dA, cS, cO, cR, bK, bL, cX, dO, cQ, dH, cZ, n2, c2]
      exact this
     rw [if_neg (by rw [hdn]; decide), hg] at C1
     have C1 : mN gZ S s = if CD (jB gZ s.man b) = false then (S, { s with hv := jB gZ s.man b }, 13) else
      (if (M4 S (iC s.nm) s.nm).2 ≠ 0 then ((M4 S (iC s.nm) s.nm).1, { s with hv := jB gZ s.man b, err := (M4 S (iC s.nm) s.nm).2, fin := false }, (M4 S (iC s.nm) s.nm).2) else
       ((EE (M4 S (iC s.nm) s.nm).1).1, { s with hv := jB gZ s.man b, err := (EE (M4 S (iC s.nm) s.nm).1).2, fin := (EE (M4 S (iC s.nm) s.nm).1).2 == 0 }, (EE (M4 S (iC s.nm) s.nm).1).2)) := C1
     have n2 : ((0 : Int) != 0) = false := rfl
     have h2d := h2.new (gT.dr w2 jL)
     have c2d : (dr w2).cell? ⟨n, 0, none⟩ = some (dP q) := c2
     have hvb : Bs (dr w2) v b := (show Bs w2 v b from ho.sl).ext (gT.dr w2 jL) (jI _)
     simp (disch := omega) only [eY, gN, dX, stepR_skip, fO, gI, fP, gJ, gC, gE, gR, fZ, eU, fX, fU, gD, fR, fN, fW, fS, fV, gK, gG, fQ, fC, fY, gA, fL, iP, iS, iL, iT, iR, iM, iN, iQ, iO, eP, Result.ok.injEq, Next.value.injEq, true_and, and_true, fI, fJ, gB, fM, gH, gQ, ZO, fD, fF, fG, fE, eZ, eT, fB, eX, eQ, eH, if_true, if_false, ZM, ZS, ZN, ZP, ZR, ZQ, ZL, ZK, eA, dV, aB, dE, dJ, cB, eB, eS, eD, dN, eE, fA, dG, eI, bR, dL, bC, dR, aL, aH, eK, aZ, cI, eJ, aG, eL, dQ, aR, bD, eC, bG, bF, bJ, aP, aM, cG, fH, dY, cJ, cA, dB, cH, dT, bB, eM, bX, dS, bQ, bA, bT, aC, bU, bP, cF, bY, aU, aV, aX, bV, dD, cP, bO, aY, aN, aK, bH, aD, dC, dW, aJ, aI, aT, aF, cY, aE, cL, bW, bE, aO, cM, bZ, aA, dF, cU, cV, cC, dK, cD, dM, dU, cN, eF, eN, bN, aS, dZ, bS, aQ, bM, dI, dA, cS, cO, cR, bK, bL, cX, dO, cQ, dH, cZ, n2, c2d]
     refine (Oy h2d hvb (hbp b hg)).mono ?_
     rintro r w3 ⟨ob, rfl, hob, oo, x3⟩
     have x23 : gT w2 w3 jL := (gT.dr w2 _).seq x3
     have c3 : w3.cell? ⟨n, 0, none⟩ = some (dP q) := ((o1.ext x12 (fun h => h)).ext x23 (fun h => h)).cell (off := 0)
     obtain ⟨W, hW⟩ : ∃ W, W = jB gZ s.man b := ⟨_, rfl⟩
     have hWl : W.length = s.man.leaves.length := by rw [hW]; unfold jB; simp
     rw [<- hW] at oo C1
     rw [<- hWl]
     have hob2 : w2.heap.size <= ob := hob
     have hmx := h.man.max
     have hmc := h.man.cnt
     simp (disch := omega) only [eY, gN, dX, stepR_skip, fO, gI, fP, gJ, gC, gE, gR, fZ, eU, fX, fU, gD, fR, fN, fW, fS, fV, gK, gG, fQ, fC, fY, gA, fL, iP, iS, iL, iT, iR, iM, iN, iQ, iO, eP, Result.ok.injEq, Next.value.injEq, true_and, and_true, fI, fJ, gB, fM, gH, gQ, ZO, fD, fF, fG, fE, eZ, eT, fB, eX, eQ, eH, if_true, if_false, ZM, ZS, ZN, ZP, ZR, ZQ, ZL, ZK, eA, dV, aB, dE, dJ, cB, eB, eS, eD, dN, eE, fA, dG, eI, bR, dL, bC, dR, aL, aH, eK, aZ, cI, eJ, aG, eL, dQ, aR, bD, eC, bG, bF, bJ, aP, aM, cG, fH, dY, cJ, cA, dB, cH, dT, bB, eM, bX, dS, bQ, bA, bT, aC, bU, bP, cF, bY, aU, aV, aX, bV, dD, cP, bO, aY, aN, aK, bH, aD, dC, dW, aJ, aI, aT, aF, cY, aE, cL, bW, bE, aO, cM, bZ, aA, dF, cU, cV, cC, dK, cD, dM, dU, cN, eF, eN, bN, aS, dZ, bS, aQ, bM, dI, dA, cS, cO, cR, bK, bL, cX, dO, cQ, dH, cZ, c3]
     refine KL ((h2.new x23).own) rfl (by simp) fun w4 o4 x4 z4 => ?_
     have h4 := h2.newHv (s' := { s with hv := W }) x23 hob2 oo (by omega) x4 o4 rfl rfl rfl h.ep h.lg
     have x04 : gT w w4 (fun y => X y ∨ Y y) := x02.seq ((x23.mono fun _ _ h => h.elim).seq (x4.mono fun y _ hy => .inr (hy ▸ h.yq)))
     have nq : n ≠ q := fun e => by have := hlt0 q (.inr h.yq); omega
     have o14 := ((o1.ext x12 (fun h => h)).ext x23 (fun h => h)).ext x4 (fun e => nq e)
     have c4 : w4.cell? ⟨n, 0, none⟩ = some (dP q) := o14.cell (off := 0)
     have hz2 := (x1.seq x12).size
     have hYn : ∀ b, (Y b ∨ b = ob) -> Y b ∨ w.heap.size <= b := fun b hb => hb.imp id fun hb => by omega
     have hDn : ∀ b, D b -> (D b ∨ b = ob) := fun _ h => .inl h
     obtain ⟨g0, g1, g2, g3, g4, g5, g6, g7, g8, g9⟩ := h4.cells
     simp (disch := omega) only [eY, gN, dX, stepR_skip, fO, gI, fP, gJ, gC, gE, gR, fZ, eU, fX, fU, gD, fR, fN, fW, fS, fV, gK, gG, fQ, fC, fY, gA, fL, iP, iS, iL, iT, iR, iM, iN, iQ, iO, eP, Result.ok.injEq, Next.value.injEq, true_and, and_true, fI, fJ, gB, fM, gH, gQ, ZO, fD, fF, fG, fE, eZ, eT, fB, eX, eQ, eH, if_true, if_false, ZM, ZS, ZN, ZP, ZR, ZQ, ZL, ZK, eA, dV, aB, dE, dJ, cB, eB, eS, eD, dN, eE, fA, dG, eI, bR, dL, bC, dR, aL, aH, eK, aZ, cI, eJ, aG, eL, dQ, aR, bD, eC, bG, bF, bJ, aP, aM, cG, fH, dY, cJ, cA, dB, cH, dT, bB, eM, bX, dS, bQ, bA, bT, aC, bU, bP, cF, bY, aU, aV, aX, bV, dD, cP, bO, aY, aN, aK, bH, aD, dC, dW, aJ, aI, aT, aF, cY, aE, cL, bW, bE, aO, cM, bZ, aA, dF, cU, cV, cC, dK, cD, dM, dU, cN, eF, eN, bN, aS, dZ, bS, aQ, bM, dI, dA, cS, cO, cR, bK, bL, cX, dO, cQ, dH, cZ, c4, g6]
     refine (NO (Ml h4.hv) (by show W.length <= _; omega)).mono ?_
     rintro r w5 ⟨rfl, hw⟩
     rw [hw]; clear hw w5
     have hall : (!({ s with hv := W } : oQ).hv.contains false) = CD W := rfl
     rw [hall]
     cases hab2 : CD W with
     | false =>
       rw [if_pos hab2] at C1
       simp (disch := omega) only [eY, gN, dX, stepR_skip, fO, gI, fP, gJ, gC, gE, gR, fZ, eU, fX, fU, gD, fR, fN, fW, fS, fV, gK, gG, fQ, fC, fY, gA, fL, iP, iS, iL, iT, iR, iM, iN, iQ, iO, eP, Result.ok.injEq, Next.value.injEq, true_and, and_true, fI, fJ, gB, fM, gH, gQ, ZO, fD, fF, fG, fE, eZ, eT, fB, eX, eQ, eH, if_true, if_false, ZM, ZS, ZN, ZP, ZR, ZQ, ZL, ZK, eA, dV, aB, dE, dJ, cB, eB, eS, eD, dN, eE, fA, dG, eI, bR, dL, bC, dR, aL, aH, eK, aZ, cI, eJ, aG, eL, dQ, aR, bD, eC, bG, bF, bJ, aP, aM, cG, fH, dY, cJ, cA, dB, cH, dT, bB, eM, bX, dS, bQ, bA, bT, aC, bU, bP, cF, bY, aU, aV, aX, bV, dD, cP, bO, aY, aN, aK, bH, aD, dC, dW, aJ, aI, aT, aF, cY, aE, cL, bW, bE, aO, cM, bZ, aA, dF, cU, cV, cC, dK, cD, dM, dU, cN, eF, eN, bN, aS, dZ, bS, aQ, bM, dI, dA, cS, cO, cR, bK, bL, cX, dO, cQ, dH, cZ]
       rw [hRR, C1]
       exact ⟨rfl, iK.step x04 (fun _ h => .inl h) hDn hYn (iK.refl h4)⟩
     | true =>
       rw [if_neg (by rw [hab2]; decide)] at C1
       have h4d := h4.new (gT.dr w4 jL)
       obtain ⟨f0, f1, f2, f3, f4, f5, f6, f7, f8, f9⟩ := h4d.cells
       have c4d : (dr w4).cell? ⟨n, 0, none⟩ = some (dP q) := c4
       have m1 := fun w => Mj (P := pg) (f := mE) [] [.pointer (some ⟨n, 0, none⟩)] w
       have m2 := fun w => Mj (P := pg) (f := jP) [dP p] [] w
       simp (disch := omega) only [eY, gN, dX, stepR_skip, fO, gI, fP, gJ, gC, gE, gR, fZ, eU, fX, fU, gD, fR, fN, fW, fS, fV, gK, gG, fQ, fC, fY, gA, fL, iP, iS, iL, iT, iR, iM, iN, iQ, iO, eP, Result.ok.injEq, Next.value.injEq, true_and, and_true, fI, fJ, gB, fM, gH, gQ, ZO, fD, fF, fG, fE, eZ, eT, fB, eX, eQ, eH, if_true, if_false, ZM, ZS, ZN, ZP, ZR, ZQ, ZL, ZK, eA, dV, aB, dE, dJ, cB, eB, eS, eD, dN, eE, fA, dG, eI, bR, dL, bC, dR, aL, aH, eK, aZ, cI, eJ, aG, eL, dQ, aR, bD, eC, bG, bF, bJ, aP, aM, cG, fH, dY, cJ, cA, dB, cH, dT, bB, eM, bX, dS, bQ, bA, bT, aC, bU, bP, cF, bY, aU, aV, aX, bV, dD, cP, bO, aY, aN, aK, bH, aD, dC, dW, aJ, aI, aT, aF, cY, aE, cL, bW, bE, aO, cM, bZ, aA, dF, cU, cV, cC, dK, cD, dM, dU, cN, eF, eN, bN, aS, dZ, bS, aQ, bM, dI, dA, cS, cO, cR, bK, bL, cX, dO, cQ, dH, cZ, c4d, f0, m1, m2]
       obtain ⟨fs, hfs⟩ : ∃ fs : List adS, fs = [.func (.func mE) #[] #[.pointer (some ⟨n, 0, none⟩)], .func (.func jP) #[dP p] #[]] := ⟨_, rfl⟩
       refine Ac (cells := fs.toArray) (by decide) (by decide) (by rw [hfs]; kernel_rfl) fun w5 o5 x5 z5 => ?_
       obtain ⟨bb, hbb⟩ : ∃ bb, bb = w4.heap.size := ⟨_, rfl⟩
       have o5 : jH w5 bb fs := by rw [hbb]; exact o5
       rw [show (dr w4).heap.size = bb from hbb.symm]
       have x45 : gT w4 w5 jL := (gT.dr w4 _).seq x5
       have h5 := h4.new x45
       have o15 := o14.ext x45 (fun h => h)
       have zz4 := x4.size
       have zz5 := x45.size
       have zz23 := x23.size
       have hlt4 := fun y hy => jZ.lt h4 y hy
       have mb : ¬ (X bb ∨ (Y bb ∨ bb = ob)) := fun hx => by have := hlt4 bb hx; omega
       have mn : ¬ (X n ∨ (Y n ∨ n = ob)) := fun hx => by
        rcases hx with hx | hx | hx
        .have := hlt0 n (.inl hx); omega
        .have := hlt0 n (.inr hx); omega
        .have := x12.size; omega
       obtain ⟨A1, hA1⟩ : ∃ A1, A1 = M4 S (iC s.nm) s.nm := ⟨_, rfl⟩
       have hB1 : Ec 1 A1.1 := hA1 ▸ YW hB
       obtain ⟨A2, hA2⟩ : ∃ A2, A2 = EE A1.1 := ⟨_, rfl⟩
       rw [<- hA1, <- hA2] at C1
       obtain ⟨s', hs'⟩ : ∃ s' : oQ, s' = { s with hv := W } := ⟨_, rfl⟩
       rw [<- hs'] at h4 h5
       obtain ⟨C, hC⟩ : ∃ C : kD × Int, C = if A1.2 ≠ 0 then (A1.1, A1.2) else (A2.1, A2.2) := ⟨_, rfl⟩
       have C2 : mN gZ S s = (C.1, { s' with err := C.2, fin := C.2 == 0 }, C.2) := by
        rw [C1, hC, hs']
        split
        .rename_i hne
         have : (A1.2 == 0) = false := beq_eq_false_iff_ne.2 hne
         simp only [this]
        .rfl
       let J : Nat -> adR -> Prop := fun k w' => match k with
        | 0 => iK n0 w5 q p X (fun b => D b ∨ b = ob) (fun b => Y b ∨ b = ob) S s' w'
        | 1 => A1.2 = 0 /\ iK n0 w5 q p X (fun b => D b ∨ b = ob) (fun b => Y b ∨ b = ob) A1.1 s' w'
        | _ => C.2 = 0 /\ iK n0 w5 q p X (fun b => D b ∨ b = ob) (fun b => Y b ∨ b = ob) C.1 s' w'
       let E : Int -> adR -> Prop := fun e w' => C.2 = e /\ iK n0 w5 q p X (fun b => D b ∨ b = ob) (fun b => Y b ∨ b = ob) C.1 s' w'
       have hmain := Ty (fs := fs) (b := bb) (c := 2) (w := w5) J E (by rw [hfs]; simp) (iK.refl h5) (fun k w' hk => by
        match k, hk with
        | 0, hk => exact iK.keep hk o5 mb
        | 1, hk => exact iK.keep hk.2 o5 mb
        | n + 2, hk => exact iK.keep hk.2 o5 mb) ?hs
       case hs =>
        intro k w' f hf hk
        rw [hfs] at hf
        match k, hf, hk with
        | 0, hf, hk =>
          simp only [ZK, aaH] at hf
          rw [<- hf, Jw Tryd.func36 (by kernel_rfl) (by kernel_rfl)]
          show gS pg mE #[.pointer (some ⟨n, 0, none⟩)] w' _
          have hk : iK n0 w5 q p X (fun b => D b ∨ b = ob) (fun b => Y b ∨ b = ob) S s' w' := hk
          refine Ei ?_
          unfold BE qK
          have e1 := (kI (hk.keep o15 mn)).cell (off := 0)
          simp only [ZK] at e1
          obtain ⟨X', D', Y', lv', hv', g1, hX, hD, hY, gx⟩ := hk
          have g1d := g1.new (gT.dr w' jL)
          obtain ⟨k0, k1, k2, k3, k4, k5, k6, k7, k8, k9⟩ := g1d.cells
          have hnm : s'.nm = s.nm := by rw [hs']
          rw [hnm] at k1
          simp (disch := omega) only [eY, gN, dX, stepR_skip, fO, gI, fP, gJ, gC, gE, gR, fZ, eU, fX, fU, gD, fR, fN, fW, fS, fV, gK, gG, fQ, fC, fY, gA, fL, iP, iS, iL, iT, iR, iM, iN, iQ, iO, eP, Result.ok.injEq, Next.value.injEq, true_and, and_true, fI, fJ, gB, fM, gH, gQ, ZO, fD, fF, fG, fE, eZ, eT, fB, eX, eQ, eH, if_true, if_false, ZM, ZS, ZN, ZP, ZR, ZQ, ZL, ZK, eA, dV, aB, dE, dJ, cB, eB, eS, eD, dN, eE, fA, dG, eI, bR, dL, bC, dR, aL, aH, eK, aZ, cI, eJ, aG, eL, dQ, aR, bD, eC, bG, bF, bJ, aP, aM, cG, fH, dY, cJ, cA, dB, cH, dT, bB, eM, bX, dS, bQ, bA, bT, aC, bU, bP, cF, bY, aU, aV, aX, bV, dD, cP, bO, aY, aN, aK, bH, aD, dC, dW, aJ, aI, aT, aF, cY, aE, cL, bW, bE, aO, cM, bZ, aA, dF, cU, cV, cC, dK, cD, dM, dU, cN, eF, eN, bN, aS, dZ, bS, aQ, bM, dI, dA, cS, cO, cR, bK, bL, cX, dO, cQ, dH, cZ, e1, k0, k1, ct]
          refine (UA (old := iC s.nm) (name := s.nm) g1d.dsk hB.bd).mono ?_
          rintro r w6 ⟨rfl, hp⟩
          obtain ⟨X2, D2, q2, hX2, hD2, qx2⟩ := g1d.disk hp
          rw [<- hA1] at q2 ⊢
          have hpost : iK n0 w5 q p X (fun b => D b ∨ b = ob) (fun b => Y b ∨ b = ob) A1.1 s' w6 := iK.step (gx.seq (gT.dr _ _)) hX hD hY ⟨X2, D2, Y', _, _, q2, hX2, hD2, fun _ h => .inl h, qx2.mono fun _ _ h => .inl h⟩
          refine ⟨_, rfl, ?_⟩
          split
          .rename_i he; exact ⟨he, hpost⟩
          .rename_i he
           rw [if_pos he] at hC
           show C.2 = _ /\ iK n0 w5 q p X (fun b => D b ∨ b = ob) (fun b => Y b ∨ b = ob) C.1 s' w6
           rw [hC]
           exact ⟨rfl, hpost⟩
        | 1, hf, hk =>
          simp only [ZK, ZL, aaH] at hf
          rw [<- hf, Jw Tryd.func19 (by kernel_rfl) (by kernel_rfl)]
          show gS pg jP #[dP p] w' _
          have hk : A1.2 = 0 /\ iK n0 w5 q p X (fun b => D b ∨ b = ob) (fun b => Y b ∨ b = ob) A1.1 s' w' := hk
          refine (QM hk.2 (hB1.le (by omega))).mono ?_
          rintro r w6 ⟨rfl, hp⟩
          rw [<- hA2] at hp ⊢
          rw [if_neg (by rw [hk.1]; decide)] at hC
          have hE : C.2 = A2.2 /\ iK n0 w5 q p X (fun b => D b ∨ b = ob) (fun b => Y b ∨ b = ob) C.1 s' w6 := by rw [hC]; exact ⟨rfl, hp⟩
          refine ⟨_, rfl, ?_⟩
          split
          .rename_i he; exact ⟨hE.1.trans he, hE.2⟩
          .exact hE
        | m + 2, hf, hk => simp at hf
       rw [show fs.length = 2 from by rw [hfs] <;> rfl] at hmain
       have c5 := o15.cell (off := 0)
       simp only [ZK] at c5
       simp (disch := omega) only [eY, gN, dX, stepR_skip, fO, gI, fP, gJ, gC, gE, gR, fZ, eU, fX, fU, gD, fR, fN, fW, fS, fV, gK, gG, fQ, fC, fY, gA, fL, iP, iS, iL, iT, iR, iM, iN, iQ, iO, eP, Result.ok.injEq, Next.value.injEq, true_and, and_true, fI, fJ, gB, fM, gH, gQ, ZO, fD, fF, fG, fE, eZ, eT, fB, eX, eQ, eH, if_true, if_false, ZM, ZS, ZN, ZP, ZR, ZQ, ZL, ZK, eA, dV, aB, dE, dJ, cB, eB, eS, eD, dN, eE, fA, dG, eI, bR, dL, bC, dR, aL, aH, eK, aZ, cI, eJ, aG, eL, dQ, aR, bD, eC, bG, bF, bJ, aP, aM, cG, fH, dY, cJ, cA, dB, cH, dT, bB, eM, bX, dS, bQ, bA, bT, aC, bU, bP, cF, bY, aU, aV, aX, bV, dD, cP, bO, aY, aN, aK, bH, aD, dC, dW, aJ, aI, aT, aF, cY, aE, cL, bW, bE, aO, cM, bZ, aA, dF, cU, cV, cC, dK, cD, dM, dU, cN, eF, eN, bN, aS, dZ, bS, aQ, bM, dI, dA, cS, cO, cR, bK, bL, cX, dO, cQ, dH, cZ, c5]
       refine hmain.mono ?_
       rintro r w6 ⟨e, rfl, he⟩
       have hfin' : C.2 = e /\ iK n0 w5 q p X (fun b => D b ∨ b = ob) (fun b => Y b ∨ b = ob) C.1 s' w6 := by
        split at he
        .rename_i h0; rw [h0]; exact he
        .exact he
       clear he hmain
       obtain ⟨rfl, hp⟩ := hfin'
       have c6 := (hp.keep o15 mn).cell (off := 0)
       simp only [ZK] at c6
       have o16 := hp.keep o15 mn
       obtain ⟨X2, D2, Y2, lv2, hv2, h6, hX2, hD2, hY2, x6⟩ := id hp
       simp (disch := omega) only [eY, gN, dX, stepR_skip, fO, gI, fP, gJ, gC, gE, gR, fZ, eU, fX, fU, gD, fR, fN, fW, fS, fV, gK, gG, fQ, fC, fY, gA, fL, iP, iS, iL, iT, iR, iM, iN, iQ, iO, eP, Result.ok.injEq, Next.value.injEq, true_and, and_true, fI, fJ, gB, fM, gH, gQ, ZO, fD, fF, fG, fE, eZ, eT, fB, eX, eQ, eH, if_true, if_false, ZM, ZS, ZN, ZP, ZR, ZQ, ZL, ZK, eA, dV, aB, dE, dJ, cB, eB, eS, eD, dN, eE, fA, dG, eI, bR, dL, bC, dR, aL, aH, eK, aZ, cI, eJ, aG, eL, dQ, aR, bD, eC, bG, bF, bJ, aP, aM, cG, fH, dY, cJ, cA, dB, cH, dT, bB, eM, bX, dS, bQ, bA, bT, aC, bU, bP, cF, bY, aU, aV, aX, bV, dD, cP, bO, aY, aN, aK, bH, aD, dC, dW, aJ, aI, aT, aF, cY, aE, cL, bW, bE, aO, cM, bZ, aA, dF, cU, cV, cC, dK, cD, dM, dU, cN, eF, eN, bN, aS, dZ, bS, aQ, bM, dI, dA, cS, cO, cR, bK, bL, cX, dO, cQ, dH, cZ, c6]
       refine CH h6.own rfl (by simp) fun w7 o7 x7 z7 => ?_
       have h7 := h6.set (s' := { s' with err := C.2 }) x7 o7 rfl rfl rfl h6.ep h6.lg
       have n2' : ¬ n = q := nq
       have o17 := o16.ext x7 n2'
       have h7d := h7.new (gT.dr w7 jL)
       obtain ⟨k0, k1, k2, k3, k4, k5, k6, k7, k8, k9⟩ := h7d.cells
       have c7d : (dr w7).cell? ⟨n, 0, none⟩ = some (dP q) := (kI o17).cell (off := 0)
       simp (disch := omega) only [eY, gN, dX, stepR_skip, fO, gI, fP, gJ, gC, gE, gR, fZ, eU, fX, fU, gD, fR, fN, fW, fS, fV, gK, gG, fQ, fC, fY, gA, fL, iP, iS, iL, iT, iR, iM, iN, iQ, iO, eP, Result.ok.injEq, Next.value.injEq, true_and, and_true, fI, fJ, gB, fM, gH, gQ, ZO, fD, fF, fG, fE, eZ, eT, fB, eX, eQ, eH, if_true, if_false, ZM, ZS, ZN, ZP, ZR, ZQ, ZL, ZK, eA, dV, aB, dE, dJ, cB, eB, eS, eD, dN, eE, fA, dG, eI, bR, dL, bC, dR, aL, aH, eK, aZ, cI, eJ, aG, eL, dQ, aR, bD, eC, bG, bF, bJ, aP, aM, cG, fH, dY, cJ, cA, dB, cH, dT, bB, eM, bX, dS, bQ, bA, bT, aC, bU, bP, cF, bY, aU, aV, aX, bV, dD, cP, bO, aY, aN, aK, bH, aD, dC, dW, aJ, aI, aT, aF, cY, aE, cL, bW, bE, aO, cM, bZ, aA, dF, cU, cV, cC, dK, cD, dM, dU, cN, eF, eN, bN, aS, dZ, bS, aQ, bM, dI, dA, cS, cO, cR, bK, bL, cX, dO, cQ, dH, cZ, c7d, k9]
       refine Er h7d.own rfl (by simp) fun w8 o8 x8 z8 => ?_
       have h8 := h7d.set (s' := { s' with err := C.2, fin := C.2 == 0 }) x8 o8 rfl rfl rfl h6.ep h6.lg
       have c8 : w8.cell? ⟨n, 0, none⟩ = some (dP q) := ((kI o17).ext x8 n2').cell (off := 0)
       obtain ⟨j0, j1, j2, j3, j4, j5, j6, j7, j8, j9⟩ := h8.cells
       simp (disch := omega) only [eY, gN, dX, stepR_skip, fO, gI, fP, gJ, gC, gE, gR, fZ, eU, fX, fU, gD, fR, fN, fW, fS, fV, gK, gG, fQ, fC, fY, gA, fL, iP, iS, iL, iT, iR, iM, iN, iQ, iO, eP, Result.ok.injEq, Next.value.injEq, true_and, and_true, fI, fJ, gB, fM, gH, gQ, ZO, fD, fF, fG, fE, eZ, eT, fB, eX, eQ, eH, if_true, if_false, ZM, ZS, ZN, ZP, ZR, ZQ, ZL, ZK, eA, dV, aB, dE, dJ, cB, eB, eS, eD, dN, eE, fA, dG, eI, bR, dL, bC, dR, aL, aH, eK, aZ, cI, eJ, aG, eL, dQ, aR, bD, eC, bG, bF, bJ, aP, aM, cG, fH, dY, cJ, cA, dB, cH, dT, bB, eM, bX, dS, bQ, bA, bT, aC, bU, bP, cF, bY, aU, aV, aX, bV, dD, cP, bO, aY, aN, aK, bH, aD, dC, dW, aJ, aI, aT, aF, cY, aE, cL, bW, bE, aO, cM, bZ, aA, dF, cU, cV, cC, dK, cD, dM, dU, cN, eF, eN, bN, aS, dZ, bS, aQ, bM, dI, dA, cS, cO, cR, bK, bL, cX, dO, cQ, dH, cZ, c8, j9]
       rw [hRR, C2]
       refine ⟨rfl, iK.step x04 (fun _ h => .inl h) hDn hYn (iK.step (x45.mono fun _ _ h => h.elim) (fun _ h => .inl h) (fun _ h => h) (fun _ h => .inl h) ⟨X2, D2, Y2, _, _, h8, hX2, hD2, hY2, ?_⟩)⟩
       refine (x6.trans x7 fun y hy h => ?_).trans ((gT.dr w7 _).seq x8) fun y hy h => ?_
       .exact .inr (.inl (h ▸ h4.yq.elim id fun e => by rw [e] at nq; have := hlt0 q (.inr h1.yq); omega))
       .exact .inr (.inl (h ▸ h1.yq))
def qA (S : kD) (s : oQ) : kD × oQ × Int × List (Nat × Nat) :=
 if (iX S (jJ s.nm)).2.2 ≠ 0 then (S, s, (iX S (jJ s.nm)).2.2, []) else
 if kA 1 (mT iI (iX S (jJ s.nm)).1) = 18446744073709551615 then (S, s, 23, []) else
 let q := kR iI S { s with epoch := kA 1 (mT iI (iX S (jJ s.nm)).1) + 1, log := 13 * (mT iI (iX S (jJ s.nm)).1).length } 1 (kA 1 (mT iI (iX S (jJ s.nm)).1) + 1)
 (q.1, q.2.1, q.2.2, mT iI (iX S (jJ s.nm)).1)
theorem TF {w w' : adR} {S : Nat -> Prop} {sz n : Nat} {v : adS} {l : List adS} {T : Nat -> Prop} (h : IQ w S sz v n l) (hT : ∀ b, S b -> b < w.heap.size -> ¬ T b) : ¬ wC v T := by
 intro hi
 rcases h.2 with ⟨rfl, _⟩ | ⟨b, c, rest, rfl, g2, g3, _⟩
 .exact hi
 .unfold wC at hi
  split at hi
  .rename_i e
   simp only [Value.slice.injEq, aaH] at e
   obtain ⟨rfl, _⟩ := e
   exact hT _ g2 g3.lt hi
  .exact hi
theorem QJ {w : adR} {S : Nat -> Prop} {sz n : Nat} {v : adS} {l : List adS} (h : IQ w S sz v n l) : Cl w sz v n l := by
 rcases h.2 with ⟨rfl, h0⟩ | ⟨b, c, rest, rfl, g2, g3, g4, g5⟩
 .exact ⟨_, _, by rw [h0], h.1, fun h => by omega⟩
 .refine ⟨_, _, rfl, h.1, fun _ => ⟨b, 0, rfl, fun i hi => ?_⟩⟩
  rw [ZS, g3.cell, aaA hi]
theorem U5 {n0 q p : Nat} {X D Y : Nat -> Prop} {S : kD} {s : oQ} {lv hv : adS} {w : adR} (h : jZ n0 w q p X D Y S s lv hv) (hB : Ec 1 S) (hbl : ∀ b, jF (jJ s.nm) S.seen = some b -> b.length <= 1000000) :
 gS pg nD #[dP q] w (fun r w' => ∃ o X' D' Y' lv' hv', r = .tuple #[o, .int .i64 (qA S s).2.2.1] /\ jZ n0 w' q p X' D' Y' (qA S s).1 (qA S s).2.1 lv' hv' /\ (∀ b, X' b -> X b ∨ w.heap.size <= b) /\ (∀ b, D b -> D' b) /\ (∀ b, Y' b -> Y b ∨ w.heap.size <= b) /\ gT w w' (fun b => X b ∨ Y b) /\
  Cl w' 2 o (qA S s).2.2.2.length ((qA S s).2.2.2.flatMap A5) /\ ¬ wC o (fun b => X' b ∨ Y' b)) := by
 refine F7 ?_
 obtain ⟨RR, hRR⟩ : ∃ RR : adS -> adR -> Prop, RR = fun r w' => ∃ o X' D' Y' lv' hv', r = .tuple #[o, .int .i64 (qA S s).2.2.1] /\ jZ n0 w' q p X' D' Y' (qA S s).1 (qA S s).2.1 lv' hv' /\ (∀ b, X' b -> X b ∨ w.heap.size <= b) /\ (∀ b, D b -> D' b) /\ (∀ b, Y' b -> Y b ∨ w.heap.size <= b) /\ gT w w' (fun b => X b ∨ Y b) /\
  Cl w' 2 o (qA S s).2.2.2.length ((qA S s).2.2.2.flatMap A5) /\ ¬ wC o (fun b => X' b ∨ Y' b) := ⟨_, rfl⟩
 rw [<- hRR]
 obtain ⟨c0, c1, c2, c3, c4, c5, c6, c7, c8, c9⟩ := h.cells
 have ct := Td h.nl
 unfold CT tJ
 simp (disch := omega) only [eY, gN, dX, stepR_skip, fO, gI, fP, gJ, gC, gE, gR, fZ, eU, fX, fU, gD, fR, fN, fW, fS, fV, gK, gG, fQ, fC, fY, gA, fL, iP, iS, iL, iT, iR, iM, iN, iQ, iO, eP, Result.ok.injEq, Next.value.injEq, true_and, and_true, fI, fJ, gB, fM, gH, gQ, ZO, fD, fF, fG, fE, eZ, eT, fB, eX, eQ, eH, if_true, if_false, ZM, ZS, ZN, ZP, ZR, ZQ, ZL, ZK, eA, dV, aB, dE, dJ, cB, eB, eS, eD, dN, eE, fA, dG, eI, bR, dL, bC, dR, aL, aH, eK, aZ, cI, eJ, aG, eL, dQ, aR, bD, eC, bG, bF, bJ, aP, aM, cG, fH, dY, cJ, cA, dB, cH, dT, bB, eM, bX, dS, bQ, bA, bT, aC, bU, bP, cF, bY, aU, aV, aX, bV, dD, cP, bO, aY, aN, aK, bH, aD, dC, dW, aJ, aI, aT, aF, cY, aE, cL, bW, bE, aO, cM, bZ, aA, dF, cU, cV, cC, dK, cD, dM, dU, cN, eF, eN, bN, aS, dZ, bS, aQ, bM, dI, dA, cS, cO, cR, bK, bL, cX, dO, cQ, dH, cZ, c1, ct]
 refine (NR (n := jJ s.nm) h.dsk (hB.le (by omega)) c0).mono ?_
 rintro r w1 ⟨v, rfl, ho, x1⟩
 have h1 := h.new x1
 have hlt0 := fun y hy => jZ.lt h y hy
 have hB0 : qA S s = if (iX S (jJ s.nm)).2.2 ≠ 0 then (S, s, (iX S (jJ s.nm)).2.2, []) else
  if kA 1 (mT iI (iX S (jJ s.nm)).1) = 18446744073709551615 then (S, s, 23, []) else
  ((kR iI S { s with epoch := kA 1 (mT iI (iX S (jJ s.nm)).1) + 1, log := 13 * (mT iI (iX S (jJ s.nm)).1).length } 1 (kA 1 (mT iI (iX S (jJ s.nm)).1) + 1)).1,
   (kR iI S { s with epoch := kA 1 (mT iI (iX S (jJ s.nm)).1) + 1, log := 13 * (mT iI (iX S (jJ s.nm)).1).length } 1 (kA 1 (mT iI (iX S (jJ s.nm)).1) + 1)).2.1,
   (kR iI S { s with epoch := kA 1 (mT iI (iX S (jJ s.nm)).1) + 1, log := 13 * (mT iI (iX S (jJ s.nm)).1).length } 1 (kA 1 (mT iI (iX S (jJ s.nm)).1) + 1)).2.2, mT iI (iX S (jJ s.nm)).1) := rfl
 have hbl' : (iX S (jJ s.nm)).1.length <= 1000000 := by
  unfold iX
  split
  .simp
  .cases hg : jF (jJ s.nm) S.seen with
   | none => simp
   | some b => exact hbl b hg
 generalize iX S (jJ s.nm) = rb at *
 obtain ⟨b, th, e⟩ := rb
 simp only at ho hB0 hbl' ⊢
 have nilc : ∀ w : adR, Cl w 2 (.slice none 0 0) ([] : List (Nat × Nat)).length (([] : List (Nat × Nat)).flatMap A5) := fun w => ⟨_, _, rfl, rfl, fun h => by simp at h⟩
 have stay : ∀ {w' : adR} {e : Int}, gT w w' jL -> qA S s = (S, s, e, []) -> RR (.tuple #[.slice none 0 0, .int .i64 e]) w' := fun {w' e} x he => by
  rw [hRR, he]
  exact ⟨_, X, D, Y, _, _, rfl, h.new x, fun _ h => .inl h, fun _ h => h, fun _ h => .inl h, x.mono fun _ _ h => h.elim, nilc _, fun h => h⟩
 by_cases he : e = 0
 rotate_left
 .have n1 : (e != 0) = true := bne_iff_ne.2 he
  rw [if_pos he] at hB0
  simp (disch := omega) only [eY, gN, dX, stepR_skip, fO, gI, fP, gJ, gC, gE, gR, fZ, eU, fX, fU, gD, fR, fN, fW, fS, fV, gK, gG, fQ, fC, fY, gA, fL, iP, iS, iL, iT, iR, iM, iN, iQ, iO, eP, Result.ok.injEq, Next.value.injEq, true_and, and_true, fI, fJ, gB, fM, gH, gQ, ZO, fD, fF, fG, fE, eZ, eT, fB, eX, eQ, eH, if_true, if_false, ZM, ZS, ZN, ZP, ZR, ZQ, ZL, ZK, eA, dV, aB, dE, dJ, cB, eB, eS, eD, dN, eE, fA, dG, eI, bR, dL, bC, dR, aL, aH, eK, aZ, cI, eJ, aG, eL, dQ, aR, bD, eC, bG, bF, bJ, aP, aM, cG, fH, dY, cJ, cA, dB, cH, dT, bB, eM, bX, dS, bQ, bA, bT, aC, bU, bP, cF, bY, aU, aV, aX, bV, dD, cP, bO, aY, aN, aK, bH, aD, dC, dW, aJ, aI, aT, aF, cY, aE, cL, bW, bE, aO, cM, bZ, aA, dF, cU, cV, cC, dK, cD, dM, dU, cN, eF, eN, bN, aS, dZ, bS, aQ, bM, dI, dA, cS, cO, cR, bK, bL, cX, dO, cQ, dH, cZ, n1]
  exact stay x1 hB0
 have n1 : (e != 0) = false := bne_eq_false_iff_eq.2 he
 rw [if_neg (by rw [he]; decide)] at hB0
 simp (disch := omega) only [eY, gN, dX, stepR_skip, fO, gI, fP, gJ, gC, gE, gR, fZ, eU, fX, fU, gD, fR, fN, fW, fS, fV, gK, gG, fQ, fC, fY, gA, fL, iP, iS, iL, iT, iR, iM, iN, iQ, iO, eP, Result.ok.injEq, Next.value.injEq, true_and, and_true, fI, fJ, gB, fM, gH, gQ, ZO, fD, fF, fG, fE, eZ, eT, fB, eX, eQ, eH, if_true, if_false, ZM, ZS, ZN, ZP, ZR, ZQ, ZL, ZK, eA, dV, aB, dE, dJ, cB, eB, eS, eD, dN, eE, fA, dG, eI, bR, dL, bC, dR, aL, aH, eK, aZ, cI, eJ, aG, eL, dQ, aR, bD, eC, bG, bF, bJ, aP, aM, cG, fH, dY, cJ, cA, dB, cH, dT, bB, eM, bX, dS, bQ, bA, bT, aC, bU, bP, cF, bY, aU, aV, aX, bV, dD, cP, bO, aY, aN, aK, bH, aD, dC, dW, aJ, aI, aT, aF, cY, aE, cL, bW, bE, aO, cM, bZ, aA, dF, cU, cV, cC, dK, cD, dM, dU, cN, eF, eN, bN, aS, dZ, bS, aQ, bM, dI, dA, cS, cO, cR, bK, bL, cX, dO, cQ, dH, cZ, n1]
 refine (Ub h1.glob (show Bs w1 v b from ho.sl) (by omega)).mono ?_
 rintro r w2 ⟨o, rfl, hrv, x2⟩
 have h2 := h1.new x2
 obtain ⟨L, hL⟩ : ∃ L, L = mT iI b := ⟨_, rfl⟩
 have hok : ∀ r ∈ L, UH r := by rw [hL]; exact Qv iI _ b
 have hLl : 13 * L.length <= b.length := by rw [hL]; exact NY iI _ b
 rw [<- hL] at hrv hB0 ⊢
 simp (disch := omega) only [eY, gN, dX, stepR_skip, fO, gI, fP, gJ, gC, gE, gR, fZ, eU, fX, fU, gD, fR, fN, fW, fS, fV, gK, gG, fQ, fC, fY, gA, fL, iP, iS, iL, iT, iR, iM, iN, iQ, iO, eP, Result.ok.injEq, Next.value.injEq, true_and, and_true, fI, fJ, gB, fM, gH, gQ, ZO, fD, fF, fG, fE, eZ, eT, fB, eX, eQ, eH, if_true, if_false, ZM, ZS, ZN, ZP, ZR, ZQ, ZL, ZK, eA, dV, aB, dE, dJ, cB, eB, eS, eD, dN, eE, fA, dG, eI, bR, dL, bC, dR, aL, aH, eK, aZ, cI, eJ, aG, eL, dQ, aR, bD, eC, bG, bF, bJ, aP, aM, cG, fH, dY, cJ, cA, dB, cH, dT, bB, eM, bX, dS, bQ, bA, bT, aC, bU, bP, cF, bY, aU, aV, aX, bV, dD, cP, bO, aY, aN, aK, bH, aD, dC, dW, aJ, aI, aT, aF, cY, aE, cL, bW, bE, aO, cM, bZ, aA, dF, cU, cV, cC, dK, cD, dM, dU, cN, eF, eN, bN, aS, dZ, bS, aQ, bM, dI, dA, cS, cO, cR, bK, bL, cX, dO, cQ, dH, cZ]
 refine (UE (k := 1) ⟨_, hrv⟩ (by omega) (fun r hr => ⟨by have := (hok r hr).1; omega, (hok r hr).2⟩) (by omega)).mono ?_
 rintro r w3 ⟨⟨tb, rfl⟩, x3⟩
 have h3 := h2.new x3
 obtain ⟨M, hM⟩ : ∃ M, M = kA 1 L := ⟨_, rfl⟩
 have hM64 : M < 2 ^ 64 := by rw [hM]; exact RK hok
 rw [<- hM] at hB0 ⊢
 have x03 : gT w w3 jL := (x1.seq x2).seq x3
 by_cases hmx : M = 18446744073709551615
 .have q1 : (((M : Nat) : Int) == 18446744073709551615) = true := by rw [beq_iff_eq]; omega
  rw [if_pos hmx] at hB0
  simp (disch := omega) only [eY, gN, dX, stepR_skip, fO, gI, fP, gJ, gC, gE, gR, fZ, eU, fX, fU, gD, fR, fN, fW, fS, fV, gK, gG, fQ, fC, fY, gA, fL, iP, iS, iL, iT, iR, iM, iN, iQ, iO, eP, Result.ok.injEq, Next.value.injEq, true_and, and_true, fI, fJ, gB, fM, gH, gQ, ZO, fD, fF, fG, fE, eZ, eT, fB, eX, eQ, eH, if_true, if_false, ZM, ZS, ZN, ZP, ZR, ZQ, ZL, ZK, eA, dV, aB, dE, dJ, cB, eB, eS, eD, dN, eE, fA, dG, eI, bR, dL, bC, dR, aL, aH, eK, aZ, cI, eJ, aG, eL, dQ, aR, bD, eC, bG, bF, bJ, aP, aM, cG, fH, dY, cJ, cA, dB, cH, dT, bB, eM, bX, dS, bQ, bA, bT, aC, bU, bP, cF, bY, aU, aV, aX, bV, dD, cP, bO, aY, aN, aK, bH, aD, dC, dW, aJ, aI, aT, aF, cY, aE, cL, bW, bE, aO, cM, bZ, aA, dF, cU, cV, cC, dK, cD, dM, dU, cN, eF, eN, bN, aS, dZ, bS, aQ, bM, dI, dA, cS, cO, cR, bK, bL, cX, dO, cQ, dH, cZ, q1]
  exact stay x03 hB0
 have q1 : (((M : Nat) : Int) == 18446744073709551615) = false := by rw [beq_eq_false_iff_ne]; omega
 rw [if_neg hmx] at hB0
 have e1 : (M : Int) + 1 = ((M + 1 : Nat) : Int) := by omega
 simp (disch := omega) only [eY, gN, dX, stepR_skip, fO, gI, fP, gJ, gC, gE, gR, fZ, eU, fX, fU, gD, fR, fN, fW, fS, fV, gK, gG, fQ, fC, fY, gA, fL, iP, iS, iL, iT, iR, iM, iN, iQ, iO, eP, Result.ok.injEq, Next.value.injEq, true_and, and_true, fI, fJ, gB, fM, gH, gQ, ZO, fD, fF, fG, fE, eZ, eT, fB, eX, eQ, eH, if_true, if_false, ZM, ZS, ZN, ZP, ZR, ZQ, ZL, ZK, eA, dV, aB, dE, dJ, cB, eB, eS, eD, dN, eE, fA, dG, eI, bR, dL, bC, dR, aL, aH, eK, aZ, cI, eJ, aG, eL, dQ, aR, bD, eC, bG, bF, bJ, aP, aM, cG, fH, dY, cJ, cA, dB, cH, dT, bB, eM, bX, dS, bQ, bA, bT, aC, bU, bP, cF, bY, aU, aV, aX, bV, dD, cP, bO, aY, aN, aK, bH, aD, dC, dW, aJ, aI, aT, aF, cY, aE, cL, bW, bE, aO, cM, bZ, aA, dF, cU, cV, cC, dK, cD, dM, dU, cN, eF, eN, bN, aS, dZ, bS, aQ, bM, dI, dA, cS, cO, cR, bK, bL, cX, dO, cQ, dH, cZ, q1, e1]
 refine Ju h3.own rfl (by simp) fun w4 o4 x4 z4 => ?_
 have h4 := h3.set (s' := { s with epoch := M + 1 }) x4 o4 rfl rfl rfl (by show M + 1 < _; omega) h.lg
 refine KC h4.own rfl (by simp) fun w5 o5 x5 z5 => ?_
 obtain ⟨s1, hs1⟩ : ∃ s1 : oQ, s1 = { s with epoch := M + 1, log := 13 * L.length } := ⟨_, rfl⟩
 have h5 := h4.set (s' := { s with epoch := M + 1, log := 13 * L.length }) x5 o5 rfl rfl rfl (by show M + 1 < _; omega) (by show 13 * L.length <= _; omega)
 rw [<- hs1] at h5 hB0
 obtain ⟨d0, d1, d2, d3, d4, d5, d6, d7, d8, d9⟩ := h5.cells
 have hep : s1.epoch = M + 1 := by rw [hs1]
 rw [hep] at d5
 have x35 : gT w3 w5 (fun y => X y ∨ Y y) := (x4.mono fun y _ hy => .inr (hy ▸ h.yq)).seq (x5.mono fun y _ hy => .inr (hy ▸ h.yq))
 have x05 : gT w w5 (fun y => X y ∨ Y y) := (x03.mono fun _ _ h => h.elim).seq x35
 simp (disch := omega) only [eY, gN, dX, stepR_skip, fO, gI, fP, gJ, gC, gE, gR, fZ, eU, fX, fU, gD, fR, fN, fW, fS, fV, gK, gG, fQ, fC, fY, gA, fL, iP, iS, iL, iT, iR, iM, iN, iQ, iO, eP, Result.ok.injEq, Next.value.injEq, true_and, and_true, fI, fJ, gB, fM, gH, gQ, ZO, fD, fF, fG, fE, eZ, eT, fB, eX, eQ, eH, if_true, if_false, ZM, ZS, ZN, ZP, ZR, ZQ, ZL, ZK, eA, dV, aB, dE, dJ, cB, eB, eS, eD, dN, eE, fA, dG, eI, bR, dL, bC, dR, aL, aH, eK, aZ, cI, eJ, aG, eL, dQ, aR, bD, eC, bG, bF, bJ, aP, aM, cG, fH, dY, cJ, cA, dB, cH, dT, bB, eM, bX, dS, bQ, bA, bT, aC, bU, bP, cF, bY, aU, aV, aX, bV, dD, cP, bO, aY, aN, aK, bH, aD, dC, dW, aJ, aI, aT, aF, cY, aE, cL, bW, bE, aO, cM, bZ, aA, dF, cU, cV, cC, dK, cD, dM, dU, cN, eF, eN, bN, aS, dZ, bS, aQ, bM, dI, dA, cS, cO, cR, bK, bL, cX, dO, cQ, dH, cZ, d5]
 refine (RI (k := 1) (v := M + 1) h5 hB (.inl rfl) (by omega) (by rw [hs1]; show 13 * L.length + 13 <= _; omega)).mono ?_
 rintro r w6 ⟨rfl, X', D', Y', lv', hv', h6, hX, hD, hY, x6⟩
 rw [hRR, hB0]
 have zz1 := x1.size
 have zz5 := x05.size
 have zz35 := x35.size
 have zz3 := x3.size
 have ho3 : IQ w3 (fun b => w1.heap.size <= b) 2 o L.length (L.flatMap A5) := hrv.ext x3 fun _ _ h => h
 have ho5 : IQ w5 (fun b => w1.heap.size <= b) 2 o L.length (L.flatMap A5) := wI ho3 x35 fun b hb h => by have := hlt0 b h; omega
 have ho6 : IQ w6 (fun b => w1.heap.size <= b /\ b < w5.heap.size) 2 o L.length (L.flatMap A5) := wI (NA ho5) x6 fun b hb h => by have := hlt0 b h; omega
 refine ⟨o, X', D', Y', lv', hv', rfl, h6, fun b hb => ?_, hD, fun b hb => ?_, x05.trans x6 fun y hy h => h, QJ ho6, TF (w' := w6) ho6 fun b hb _ hx => ?_⟩
 .rcases hX b hb with h | h
  .exact .inl h
  .exact .inr (by omega)
 .rcases hY b hb with h | h
  .exact .inl h
  .exact .inr (by omega)
 .rcases hx with hx | hx
  .rcases hX b hx with h | h
   .have := hlt0 b (.inl h); omega
   .omega
  .rcases hY b hx with h | h
   .have := hlt0 b (.inr h); omega
   .omega
theorem QY {v : adS} {n : Nat} {l : List adS} {w : adR} (h : Cl w 32 v n l) (hone : ∀ y ∈ l, one y = true) (hl : n <= 100000) :
 gS pg qC #[v] w (fun r w' => zF w' w.heap.size 32 r n l /\ gT w w' jL) := by
 refine GX ?_
 have h1 := h
 obtain ⟨a, c, rfl, hn, hh⟩ := h
 unfold EA uN
 cases a with
 | none =>
   have h0 : n = 0 := by
    cases n with
    | zero => rfl
    | succ n => obtain ⟨b, off, h, _⟩ := hh (by omega); cases h
   subst h0
   have : l = [] := aaB.1 (by omega)
   subst this
   simp (disch := omega) only [eY, gN, dX, stepR_skip, fO, gI, fP, gJ, gC, gE, gR, fZ, eU, fX, fU, gD, fR, fN, fW, fS, fV, gK, gG, fQ, fC, fY, gA, fL, iP, iS, iL, iT, iR, iM, iN, iQ, iO, eP, Result.ok.injEq, Next.value.injEq, true_and, and_true, fI, fJ, gB, fM, gH, gQ, ZO, fD, fF, fG, fE, eZ, eT, fB, eX, eQ, eH, if_true, if_false, ZM, ZS, ZN, ZP, ZR, ZQ, ZL, ZK, eA, dV, aB, dE, dJ, cB, eB, eS, eD, dN, eE, fA, dG, eI, bR, dL, bC, dR, aL, aH, eK, aZ, cI, eJ, aG, eL, dQ, aR, bD, eC, bG, bF, bJ, aP, aM, cG, fH, dY, cJ, cA, dB, cH, dT, bB, eM, bX, dS, bQ, bA, bT, aC, bU, bP, cF, bY, aU, aV, aX, bV, dD, cP, bO, aY, aN, aK, bH, aD, dC, dW, aJ, aI, aT, aF, cY, aE, cL, bW, bE, aO, cM, bZ, aA, dF, cU, cV, cC, dK, cD, dM, dU, cN, eF, eN, bN, aS, dZ, bS, aQ, bM, dI, dA, cS, cO, cR, bK, bL, cX, dO, cQ, dH, cZ]
   exact ⟨zF.nil _ _ _, gT.refl _ _⟩
 | some x =>
   simp (disch := omega) only [eY, gN, dX, stepR_skip, fO, gI, fP, gJ, gC, gE, gR, fZ, eU, fX, fU, gD, fR, fN, fW, fS, fV, gK, gG, fQ, fC, fY, gA, fL, iP, iS, iL, iT, iR, iM, iN, iQ, iO, eP, Result.ok.injEq, Next.value.injEq, true_and, and_true, fI, fJ, gB, fM, gH, gQ, ZO, fD, fF, fG, fE, eZ, eT, fB, eX, eQ, eH, if_true, if_false, ZM, ZS, ZN, ZP, ZR, ZQ, ZL, ZK, eA, dV, aB, dE, dJ, cB, eB, eS, eD, dN, eE, fA, dG, eI, bR, dL, bC, dR, aL, aH, eK, aZ, cI, eJ, aG, eL, dQ, aR, bD, eC, bG, bF, bJ, aP, aM, cG, fH, dY, cJ, cA, dB, cH, dT, bB, eM, bX, dS, bQ, bA, bT, aC, bU, bP, cF, bY, aU, aV, aX, bV, dD, cP, bO, aY, aN, aK, bH, aD, dC, dW, aJ, aI, aT, aF, cY, aE, cL, bW, bE, aO, cM, bZ, aA, dF, cU, cV, cC, dK, cD, dM, dU, cN, eF, eN, bN, aS, dZ, bS, aQ, bM, dI, dA, cS, cO, cR, bK, bL, cX, dO, cQ, dH, cZ]
   refine Jj Tryd.underlying26 LA fun w1 o1 x1 s1 => ?_
   have hcl1 := HF h1 x1 (jI _)
   have hos : zF w1 w.heap.size 32 (.slice (some ⟨w.heap.size, 0, none⟩) 0 0) 0 [] := ⟨rfl, .inr ⟨_, 0, [], rfl, Z2 _, o1, rfl, Z2 _⟩⟩
   refine wV hos hcl1 hone x1.size (by omega) fun v3 w3 o3 x3 => ?_
   rw [ZS, Z9] at o3
   exact ⟨o3, x1.trans x3 fun b hb h => Nat.not_le_of_lt hb h⟩
theorem WA (l : List (List UInt8)) : ∀ y ∈ UY l, one y = true := fun y hy => by
 obtain ⟨x, -, hy⟩ := List.mem_flatMap.1 hy
 exact EV _ y hy
theorem UT {l : List (Nat × Nat)} {W : List Bool} {n j : Nat} (hj : j < l.length) :
 pJ (l.take (j + 1)) W n = if l[j].1 = 2 /\ l[j].2 < n then (pJ (l.take j) W n).set l[j].2 (W.getD l[j].2 false) else pJ (l.take j) W n := by
 unfold pJ
 have ht : l.take (j + 1) = l.take j ++ [l[j]] := abH hj
 generalize l[j] = r at *
 rw [ht]
 obtain ⟨a, v⟩ := r
 simp only
 split
 .rename_i h
  apply adF
  .simp
  .intro x h1 h2
   simp only [ZT, adC] at h1
   rw [List.getElem_set]
   simp only [adG, List.getElem_range, List.any_append, List.any_cons, List.any_nil, acT]
   by_cases hx : v = x
   .rw [if_pos hx]; subst hx; simp [h.1]
   .rw [if_neg hx]
    have : (v == x) = false := beq_eq_false_iff_ne.2 hx
    rw [this, Bool.and_false, acT]
 .rename_i h
  apply abA
  intro x hx
  have hx := aaO.1 hx
  have : (a == 2 && v == x) = false := by
   rw [adJ, beq_eq_false_iff_ne, beq_eq_false_iff_ne]
   by_cases ha : a = 2
   .exact .inr fun e => h ⟨ha, by omega⟩
   .exact .inl ha
  rw [List.any_append, List.any_cons, List.any_nil, acT, this, acT]
theorem RH (l : List (Nat × Nat)) (W : List Bool) (n : Nat) : (pJ l W n).length = n := by unfold pJ; simp
theorem Uu (l : List (Nat × Nat)) (W : List Bool) (n : Nat) : pJ (l.take 0) W n = List.replicate n false := by
 unfold pJ
 rw [List.take_zero]
 apply adF
 .simp
 .intro i h1 h2; simp
def JO (S : kD) (n : ByteArray) (m : Ul) : oQ := ⟨n, m, 0, jB gZ m (iX S n).1, 0, (iX S n).2.1 && (iX S n).1.length == m.size && CD (jB gZ m (iX S n).1), 0⟩
def Nv (S : kD) (s : oQ) (l : List (Nat × Nat)) : kD × Option oQ × Int :=
 if s.fin then (if (EE S).2 ≠ 0 then ((EE S).1, none, (EE S).2) else ((EE S).1, some s, 0))
 else if (jU S s).2.2 ≠ 0 then ((jU S s).1, none, (jU S s).2.2)
 else if (EE (jU S s).1).2 ≠ 0 then ((EE (jU S s).1).1, none, (EE (jU S s).1).2)
 else ((EE (jU S s).1).1, some { s with hv := pJ l (jB gZ s.man (jU S s).2.1) s.man.leaves.length }, 0)
theorem Uw (S : kD) (n : ByteArray) (m : Ul) : Du gZ iI S n m =
 if (iX S n).2.2 ≠ 0 then (S, none, (iX S n).2.2)
 else if (qA S (JO S n m)).2.2.1 ≠ 0 then ((qA S (JO S n m)).1, none, (qA S (JO S n m)).2.2.1)
 else Nv (qA S (JO S n m)).1 (qA S (JO S n m)).2.1 (qA S (JO S n m)).2.2.2 := by
 unfold Du
 simp only
 by_cases h1 : (iX S n).2.2 = 0
 .rw [if_neg (show ¬ (iX S n).2.2 ≠ 0 by rw [h1]; decide), if_neg (show ¬ (iX S n).2.2 ≠ 0 by rw [h1]; decide)]
  have hb : qA S (JO S n m) = if (iX S (jJ n)).2.2 ≠ 0 then (S, JO S n m, (iX S (jJ n)).2.2, []) else
   if kA 1 (mT iI (iX S (jJ n)).1) = 18446744073709551615 then (S, JO S n m, 23, []) else
   ((kR iI S { JO S n m with epoch := kA 1 (mT iI (iX S (jJ n)).1) + 1, log := 13 * (mT iI (iX S (jJ n)).1).length } 1 (kA 1 (mT iI (iX S (jJ n)).1) + 1)).1,
    (kR iI S { JO S n m with epoch := kA 1 (mT iI (iX S (jJ n)).1) + 1, log := 13 * (mT iI (iX S (jJ n)).1).length } 1 (kA 1 (mT iI (iX S (jJ n)).1) + 1)).2.1,
    (kR iI S { JO S n m with epoch := kA 1 (mT iI (iX S (jJ n)).1) + 1, log := 13 * (mT iI (iX S (jJ n)).1).length } 1 (kA 1 (mT iI (iX S (jJ n)).1) + 1)).2.2, mT iI (iX S (jJ n)).1) := rfl
  by_cases h2 : (iX S (jJ n)).2.2 = 0
  .rw [if_neg (by rw [h2]; decide)] at hb
   rw [if_neg (show ¬ (iX S (jJ n)).2.2 ≠ 0 by rw [h2]; decide)]
   by_cases h3 : kA 1 (mT iI (iX S (jJ n)).1) = 18446744073709551615
   .rw [if_pos h3] at hb
    rw [if_pos h3, hb]
    rfl
   .rw [if_neg h3] at hb
    rw [if_neg h3, hb]
    simp only
    have e : (⟨n, m, kA 1 (mT iI (iX S (jJ n)).1) + 1, jB gZ m (iX S n).1, 13 * (mT iI (iX S (jJ n)).1).length, (iX S n).2.1 && (iX S n).1.length == m.size && CD (jB gZ m (iX S n).1), 0⟩ : oQ) =
     { JO S n m with epoch := kA 1 (mT iI (iX S (jJ n)).1) + 1, log := 13 * (mT iI (iX S (jJ n)).1).length } := rfl
    rw [e]
    obtain ⟨q, hq⟩ : ∃ q, q = kR iI S { JO S n m with epoch := kA 1 (mT iI (iX S (jJ n)).1) + 1, log := 13 * (mT iI (iX S (jJ n)).1).length } 1 (kA 1 (mT iI (iX S (jJ n)).1) + 1) := ⟨_, rfl⟩
    have hf : q.2.1.fin = ((iX S n).2.1 && (iX S n).1.length == m.size && CD (jB gZ m (iX S n).1)) /\ q.2.1.man = m := by
     rw [hq]
     unfold kR
     simp only
     split <;> exact ⟨rfl, rfl⟩
    rw [<- hq]
    unfold Nv
    rw [hf.1, hf.2]
  .rw [if_pos h2] at hb
   rw [if_pos h2, hb]
   show _ = if (iX S (jJ n)).2.2 ≠ 0 then (S, none, (iX S (jJ n)).2.2) else _
   rw [if_pos h2]
 .rw [if_pos h1, if_pos h1]
def Ts (n0 : Nat) (w : adR) (p : Nat) (X D : Nat -> Prop) (R : kD × Option oQ × Int) (r : adS) (w' : adR) : Prop :=
 match R.2.1 with
 | some s => R.2.2 = 0 /\ ∃ q X' D' Y' lv hv, r = .tuple #[dP q, .int .i64 0] /\ jZ n0 w' q p X' D' Y' R.1 s lv hv /\ (∀ b, X' b -> X b ∨ w.heap.size <= b) /\ (∀ b, D b -> D' b) /\ (∀ b, Y' b -> w.heap.size <= b) /\ gT w w' X
 | none => r = .tuple #[.pointer none, .int .i64 R.2.2] /\ Bw w p X D R.1 w'
theorem Uk {n0 n1 q p : Nat} {X D Y : Nat -> Prop} {S : kD} {s : oQ} {l : List (Nat × Nat)} {lv hv o : adS} {w : adR} {RR : adS -> adR -> Prop} (h : jZ n0 w q p X D Y S s lv hv) (hB : Ec 2 S)
 (hbp : ∀ b, jF (iC s.nm) S.seen = some b -> b.length <= 1000000) (hn : n1 = s.man.leaves.length) (hcl : Cl w 2 o l.length (l.flatMap A5)) (hno : ¬ wC o (fun b => X b ∨ Y b)) (hlo : l.length <= 1000000) (hok : ∀ r ∈ l, UH r)
 (hR : ∀ r w', (match (Nv S s l).2.1 with
  | some s' => (Nv S s l).2.2 = 0 /\ r = .tuple #[dP q, .int .i64 0] /\ iK n0 w q p X D Y (Nv S s l).1 s' w'
  | none => r = .tuple #[.pointer none, .int .i64 (Nv S s l).2.2] /\ ∃ s', iK n0 w q p X D Y (Nv S s l).1 s' w') -> RR r w') :
 uO RR (dP p) (.int .i64 (n1 : Nat)) (dP q) o w := by
 have fin : ∀ {w1 : adR} {S1 : kD} {s1 : oQ}, iK n0 w q p X D Y S1 s1 w1 -> Ec 0 S1 -> (Nv S s l = if (EE S1).2 ≠ 0 then ((EE S1).1, none, (EE S1).2) else ((EE S1).1, some s1, 0)) -> wW RR (dP p) (dP q) w1 := fun {w1 S1 s1} hp hB1 hE => by
  unfold wW
  refine (QM hp hB1).mono ?_
  rintro r w2 ⟨rfl, hp2⟩
  by_cases he : (EE S1).2 = 0
  .rw [if_neg (by rw [he]; decide)] at hE
   rw [hE] at hR
   rw [he]
   have n1' : ((0 : Int) != 0) = false := rfl
   simp (disch := omega) only [eY, gN, dX, stepR_skip, fO, gI, fP, gJ, gC, gE, gR, fZ, eU, fX, fU, gD, fR, fN, fW, fS, fV, gK, gG, fQ, fC, fY, gA, fL, iP, iS, iL, iT, iR, iM, iN, iQ, iO, eP, Result.ok.injEq, Next.value.injEq, true_and, and_true, fI, fJ, gB, fM, gH, gQ, ZO, fD, fF, fG, fE, eZ, eT, fB, eX, eQ, eH, if_true, if_false, ZM, ZS, ZN, ZP, ZR, ZQ, ZL, ZK, eA, dV, aB, dE, dJ, cB, eB, eS, eD, dN, eE, fA, dG, eI, bR, dL, bC, dR, aL, aH, eK, aZ, cI, eJ, aG, eL, dQ, aR, bD, eC, bG, bF, bJ, aP, aM, cG, fH, dY, cJ, cA, dB, cH, dT, bB, eM, bX, dS, bQ, bA, bT, aC, bU, bP, cF, bY, aU, aV, aX, bV, dD, cP, bO, aY, aN, aK, bH, aD, dC, dW, aJ, aI, aT, aF, cY, aE, cL, bW, bE, aO, cM, bZ, aA, dF, cU, cV, cC, dK, cD, dM, dU, cN, eF, eN, bN, aS, dZ, bS, aQ, bM, dI, dA, cS, cO, cR, bK, bL, cX, dO, cQ, dH, cZ, n1', he]
   exact hR _ _ ⟨rfl, rfl, hp2⟩
  .have n1' : ((EE S1).2 != 0) = true := bne_iff_ne.2 he
   rw [if_pos he] at hE
   rw [hE] at hR
   simp (disch := omega) only [eY, gN, dX, stepR_skip, fO, gI, fP, gJ, gC, gE, gR, fZ, eU, fX, fU, gD, fR, fN, fW, fS, fV, gK, gG, fQ, fC, fY, gA, fL, iP, iS, iL, iT, iR, iM, iN, iQ, iO, eP, Result.ok.injEq, Next.value.injEq, true_and, and_true, fI, fJ, gB, fM, gH, gQ, ZO, fD, fF, fG, fE, eZ, eT, fB, eX, eQ, eH, if_true, if_false, ZM, ZS, ZN, ZP, ZR, ZQ, ZL, ZK, eA, dV, aB, dE, dJ, cB, eB, eS, eD, dN, eE, fA, dG, eI, bR, dL, bC, dR, aL, aH, eK, aZ, cI, eJ, aG, eL, dQ, aR, bD, eC, bG, bF, bJ, aP, aM, cG, fH, dY, cJ, cA, dB, cH, dT, bB, eM, bX, dS, bQ, bA, bT, aC, bU, bP, cF, bY, aU, aV, aX, bV, dD, cP, bO, aY, aN, aK, bH, aD, dC, dW, aJ, aI, aT, aF, cY, aE, cL, bW, bE, aO, cM, bZ, aA, dF, cU, cV, cC, dK, cD, dM, dU, cN, eF, eN, bN, aS, dZ, bS, aQ, bM, dI, dA, cS, cO, cR, bK, bL, cX, dO, cQ, dH, cZ, n1']
   exact hR _ _ ⟨rfl, _, hp2⟩
 obtain ⟨c0, c1, c2, c3, c4, c5, c6, c7, c8, c9⟩ := h.cells
 have hmx := h.man.max
 have hmc := h.man.cnt
 unfold uO De C8 Di
 cases hf : s.fin with
 | true =>
   rw [hf] at c8
   unfold Fk
   simp (disch := omega) only [eY, gN, dX, stepR_skip, fO, gI, fP, gJ, gC, gE, gR, fZ, eU, fX, fU, gD, fR, fN, fW, fS, fV, gK, gG, fQ, fC, fY, gA, fL, iP, iS, iL, iT, iR, iM, iN, iQ, iO, eP, Result.ok.injEq, Next.value.injEq, true_and, and_true, fI, fJ, gB, fM, gH, gQ, ZO, fD, fF, fG, fE, eZ, eT, fB, eX, eQ, eH, if_true, if_false, ZM, ZS, ZN, ZP, ZR, ZQ, ZL, ZK, eA, dV, aB, dE, dJ, cB, eB, eS, eD, dN, eE, fA, dG, eI, bR, dL, bC, dR, aL, aH, eK, aZ, cI, eJ, aG, eL, dQ, aR, bD, eC, bG, bF, bJ, aP, aM, cG, fH, dY, cJ, cA, dB, cH, dT, bB, eM, bX, dS, bQ, bA, bT, aC, bU, bP, cF, bY, aU, aV, aX, bV, dD, cP, bO, aY, aN, aK, bH, aD, dC, dW, aJ, aI, aT, aF, cY, aE, cL, bW, bE, aO, cM, bZ, aA, dF, cU, cV, cC, dK, cD, dM, dU, cN, eF, eN, bN, aS, dZ, bS, aQ, bM, dI, dA, cS, cO, cR, bK, bL, cX, dO, cQ, dH, cZ, c8]
   refine fin (iK.refl h) (hB.le (by omega)) ?_
   unfold Nv
   rw [if_pos hf]
 | false =>
   rw [hf] at c8
   have hE0 : Nv S s l = if (jU S s).2.2 ≠ 0 then ((jU S s).1, none, (jU S s).2.2)
    else if (EE (jU S s).1).2 ≠ 0 then ((EE (jU S s).1).1, none, (EE (jU S s).1).2)
    else ((EE (jU S s).1).1, some { s with hv := pJ l (jB gZ s.man (jU S s).2.1) s.man.leaves.length }, 0) := by
    unfold Nv
    rw [if_neg (by rw [hf]; decide)]
   unfold Kg Fh
   simp (disch := omega) only [eY, gN, dX, stepR_skip, fO, gI, fP, gJ, gC, gE, gR, fZ, eU, fX, fU, gD, fR, fN, fW, fS, fV, gK, gG, fQ, fC, fY, gA, fL, iP, iS, iL, iT, iR, iM, iN, iQ, iO, eP, Result.ok.injEq, Next.value.injEq, true_and, and_true, fI, fJ, gB, fM, gH, gQ, ZO, fD, fF, fG, fE, eZ, eT, fB, eX, eQ, eH, if_true, if_false, ZM, ZS, ZN, ZP, ZR, ZQ, ZL, ZK, eA, dV, aB, dE, dJ, cB, eB, eS, eD, dN, eE, fA, dG, eI, bR, dL, bC, dR, aL, aH, eK, aZ, cI, eJ, aG, eL, dQ, aR, bD, eC, bG, bF, bJ, aP, aM, cG, fH, dY, cJ, cA, dB, cH, dT, bB, eM, bX, dS, bQ, bA, bT, aC, bU, bP, cF, bY, aU, aV, aX, bV, dD, cP, bO, aY, aN, aK, bH, aD, dC, dW, aJ, aI, aT, aF, cY, aE, cL, bW, bE, aO, cM, bZ, aA, dF, cU, cV, cC, dK, cD, dM, dU, cN, eF, eN, bN, aS, dZ, bS, aQ, bM, dI, dA, cS, cO, cR, bK, bL, cX, dO, cQ, dH, cZ, c8]
   refine (Vj h hB).mono ?_
   rintro r w1 ⟨bv, rfl, hbv, hbn, hp1⟩
   have hBf : Ec 0 (jU S s).1 := by
    unfold jU
    simp only
    split
    .exact hB.le (by omega)
    .split
     .split
      .exact VX (n := 0) (hB.le (by omega))
      .exact Q6 (VX hB)
     .split
      .exact Q6 (n := 0) (hB.le (by omega))
      .exact hB.le (by omega)
   have hbl : (jU S s).2.1.length <= 1000000 := by
    have hr : (iX S (iC s.nm)).1.length <= 1000000 := by
     unfold iX
     split
     .simp
     .cases hg : jF (iC s.nm) S.seen with
      | none => simp
      | some b => exact hbp b hg
    unfold jU
    simp only
    split
    .simp
    .split
     .split <;> simp
     .split
      .exact hr
      .exact hr
   generalize jU S s = F at *
   obtain ⟨S1, b, e⟩ := F
   simp only at hbv hp1 hE0 hBf hbl ⊢
   by_cases he : e = 0
   rotate_left
   .have n1' : (e != 0) = true := bne_iff_ne.2 he
    rw [if_pos he] at hE0
    rw [hE0] at hR
    simp (disch := omega) only [eY, gN, dX, stepR_skip, fO, gI, fP, gJ, gC, gE, gR, fZ, eU, fX, fU, gD, fR, fN, fW, fS, fV, gK, gG, fQ, fC, fY, gA, fL, iP, iS, iL, iT, iR, iM, iN, iQ, iO, eP, Result.ok.injEq, Next.value.injEq, true_and, and_true, fI, fJ, gB, fM, gH, gQ, ZO, fD, fF, fG, fE, eZ, eT, fB, eX, eQ, eH, if_true, if_false, ZM, ZS, ZN, ZP, ZR, ZQ, ZL, ZK, eA, dV, aB, dE, dJ, cB, eB, eS, eD, dN, eE, fA, dG, eI, bR, dL, bC, dR, aL, aH, eK, aZ, cI, eJ, aG, eL, dQ, aR, bD, eC, bG, bF, bJ, aP, aM, cG, fH, dY, cJ, cA, dB, cH, dT, bB, eM, bX, dS, bQ, bA, bT, aC, bU, bP, cF, bY, aU, aV, aX, bV, dD, cP, bO, aY, aN, aK, bH, aD, dC, dW, aJ, aI, aT, aF, cY, aE, cL, bW, bE, aO, cM, bZ, aA, dF, cU, cV, cC, dK, cD, dM, dU, cN, eF, eN, bN, aS, dZ, bS, aQ, bM, dI, dA, cS, cO, cR, bK, bL, cX, dO, cQ, dH, cZ, n1']
    exact hR _ _ ⟨rfl, _, hp1⟩
   have n1' : (e != 0) = false := bne_eq_false_iff_eq.2 he
   rw [if_neg (by rw [he]; decide)] at hE0
   have hp1' := hp1
   obtain ⟨X1, D1, Y1, lv1, hv1, h1, hX1, hD1, hY1, x1⟩ := hp1
   simp (disch := omega) only [eY, gN, dX, stepR_skip, fO, gI, fP, gJ, gC, gE, gR, fZ, eU, fX, fU, gD, fR, fN, fW, fS, fV, gK, gG, fQ, fC, fY, gA, fL, iP, iS, iL, iT, iR, iM, iN, iQ, iO, eP, Result.ok.injEq, Next.value.injEq, true_and, and_true, fI, fJ, gB, fM, gH, gQ, ZO, fD, fF, fG, fE, eZ, eT, fB, eX, eQ, eH, if_true, if_false, ZM, ZS, ZN, ZP, ZR, ZQ, ZL, ZK, eA, dV, aB, dE, dJ, cB, eB, eS, eD, dN, eE, fA, dG, eI, bR, dL, bC, dR, aL, aH, eK, aZ, cI, eJ, aG, eL, dQ, aR, bD, eC, bG, bF, bJ, aP, aM, cG, fH, dY, cJ, cA, dB, cH, dT, bB, eM, bX, dS, bQ, bA, bT, aC, bU, bP, cF, bY, aU, aV, aX, bV, dD, cP, bO, aY, aN, aK, bH, aD, dC, dW, aJ, aI, aT, aF, cY, aE, cL, bW, bE, aO, cM, bZ, aA, dF, cU, cV, cC, dK, cD, dM, dU, cN, eF, eN, bN, aS, dZ, bS, aQ, bM, dI, dA, cS, cO, cR, bK, bL, cX, dO, cQ, dH, cZ, n1']
   refine Kv (by omega) (by omega) fun w2 o2 x2 s2 => ?_
   rw [ZO] at o2 ⊢
   obtain ⟨hb, hhb⟩ : ∃ hb, hb = w1.heap.size := ⟨_, rfl⟩
   rw [<- hhb] at o2 ⊢
   have h2 := h1.new x2
   refine KL h2.own rfl (by simp) fun w3 o3 x3 s3 => ?_
   have hrl : (List.replicate n1 false).length = n1 := aaF
   have o2' : jH w2 hb ((List.replicate n1 false).map Value.bool) := by rw [acW]; exact o2
   have h3 := h1.newHv (s' := { s with hv := List.replicate n1 false }) x2 (by omega) o2' (by omega) x3 (by rw [hrl]; exact o3) rfl rfl rfl h1.ep h1.lg
   rw [hrl] at h3
   have x13 : gT w1 w3 (fun y => y = q) := (x2.mono fun _ _ h => h.elim).seq x3
   have hlt1 := fun y hy => jZ.lt h1 y hy
   have hlt0 := fun y hy => jZ.lt h y hy
   have z1 := x1.size
   have hq1 : ¬ wC bv (fun y => y = q) := hbn q (.inr h.yq)
   refine (Oy h3 (hbv.ext x13 hq1) hbl).mono ?_
   rintro r w4 ⟨ob, rfl, hob, oo, x4⟩
   obtain ⟨W, hW⟩ : ∃ W, W = jB gZ s.man b := ⟨_, rfl⟩
   have hWl : W.length = n1 := by rw [hW, hn]; unfold jB; simp
   have oo : jH w4 ob (W.map Value.bool) := by rw [hW]; exact oo
   rw [<- hW] at hE0
   have h4 := h3.new x4
   have hcl1 : Cl w1 2 o l.length (l.flatMap A5) := HF hcl x1 hno
   have hno1 : ¬ wC o (fun y => X1 y ∨ Y1 y ∨ y = hb) := fun hi => by
    have hold := Xp hcl (by decide)
    obtain ⟨a, c, rfl, hl, hh⟩ := hcl
    unfold wC at hi hno hold
    split at hi
    .rename_i e'
     simp only [Value.slice.injEq] at e'
     obtain ⟨rfl, e2, rfl⟩ := e'
     rw [e2] at hno hold
     rcases hi with hi | hi | hi
     .rcases hX1 _ hi with h | h
      .exact hno (.inl h)
      .exact hold h
     .rcases hY1 _ hi with h | h
      .exact hno (.inr h)
      .exact hold h
     .exact hold (show w.heap.size <= _ by omega)
    .exact hi
   have hcl4 : Cl w4 2 o l.length (l.flatMap A5) := HF (HF hcl1 x13 fun hi => hno1 (zJ hi fun y hy => .inr (.inl (hy ▸ h1.yq)))) x4 (jI _)
   obtain ⟨oa, oc, hov, hol, hoh⟩ := id hcl4
   subst hov
   have z3 := x13.size
   have z4 := x4.size
   unfold FI EY
   simp (disch := omega) only [eY, gN, dX, stepR_skip, fO, gI, fP, gJ, gC, gE, gR, fZ, eU, fX, fU, gD, fR, fN, fW, fS, fV, gK, gG, fQ, fC, fY, gA, fL, iP, iS, iL, iT, iR, iM, iN, iQ, iO, eP, Result.ok.injEq, Next.value.injEq, true_and, and_true, fI, fJ, gB, fM, gH, gQ, ZO, fD, fF, fG, fE, eZ, eT, fB, eX, eQ, eH, if_true, if_false, ZM, ZS, ZN, ZP, ZR, ZQ, ZL, ZK, eA, dV, aB, dE, dJ, cB, eB, eS, eD, dN, eE, fA, dG, eI, bR, dL, bC, dR, aL, aH, eK, aZ, cI, eJ, aG, eL, dQ, aR, bD, eC, bG, bF, bJ, aP, aM, cG, fH, dY, cJ, cA, dB, cH, dT, bB, eM, bX, dS, bQ, bA, bT, aC, bU, bP, cF, bY, aU, aV, aX, bV, dD, cP, bO, aY, aN, aK, bH, aD, dC, dW, aJ, aI, aT, aF, cY, aE, cL, bW, bE, aO, cM, bZ, aA, dF, cU, cV, cC, dK, cD, dM, dU, cN, eF, eN, bN, aS, dZ, bS, aQ, bM, dI, dA, cS, cO, cR, bK, bL, cX, dO, cQ, dH, cZ]
   have hobn : ¬ (X1 ob ∨ Y1 ob ∨ ob = hb) := fun hx => by
    rcases hx with hx | hx | hx
    .have := hlt1 ob (.inl hx); omega
    .have := hlt1 ob (.inr hx); omega
    .have := o2.lt; have := x3.size; omega
   refine kC.rule (fun m (t : adS) w' => ∃ (j : Nat), m = l.length - j /\ t = .int .i64 (j : Nat) /\ j <= l.length /\ jZ n0 w' q p X1 (fun b => D1 b ∨ b = hb) (fun b => Y1 b ∨ b = hb) S1 { s with hv := pJ (l.take j) W n1 } lv1 (.slice (some ⟨hb, 0, none⟩) n1 n1) /\ gT w4 w' (fun y => y = hb)) l.length
    ⟨0, rfl, rfl, by omega, by rw [Uu]; exact h4, gT.refl _ _⟩ ?_
   rintro m t w5 ⟨j, rfl, rfl, hj, h5, x5⟩
   unfold Bt Fj
   by_cases hlt : j < l.length
   .have d1 : decide ((j : Int) < (l.length : Int)) = true := by simp; omega
    obtain ⟨lb, lo, rfl, hcell⟩ := hoh (by omega)
    have hlbn : ¬ (X1 lb ∨ Y1 lb ∨ lb = hb) := fun hx => hno1 (by
     obtain ⟨l', hl'⟩ : ∃ l', l.length = l' + 1 := ⟨l.length - 1, by omega⟩
     rw [hl']
     exact hx)
    have rl := KT l
    have lrec : ∀ {w' : adR}, gT w4 w' (fun y => y = hb) -> (fK 77 (.pointer (some ⟨lb, lo + j * 2, none⟩))).run pg w' = .ok (.value (.agg (A5 l[j]).toArray)) w' := fun {w'} x => by
     refine LL rfl fun k hk => ?_
     have hk : k < 2 := hk
     have hgc := hcell (j * 2 + k) (by omega)
     have hrc := congrArg (fun q => q[k]?) (PJ hlt)
     simp only [List.getElem?_take, acH, if_pos hk] at hrc
     rw [hrc] at hgc
     obtain ⟨v, hv⟩ : ∃ v, (A5 l[j])[k]? = some v := ⟨_, ZU hk⟩
     rw [hv] at hgc ⊢
     rw [acD]
     exact CP hgc x (fun e => hlbn (.inr (.inr e)))
    have l5 := lrec x5
    have hst := UT (W := W) (n := n1) hlt
    obtain ⟨ho1, ho2⟩ := hok _ (abG hlt)
    generalize l[j]'hlt = rec at *
    obtain ⟨k, v⟩ := rec
    simp only at ho1 ho2 hst
    simp (disch := omega) only [eY, gN, dX, stepR_skip, fO, gI, fP, gJ, gC, gE, gR, fZ, eU, fX, fU, gD, fR, fN, fW, fS, fV, gK, gG, fQ, fC, fY, gA, fL, iP, iS, iL, iT, iR, iM, iN, iQ, iO, eP, Result.ok.injEq, Next.value.injEq, true_and, and_true, fI, fJ, gB, fM, gH, gQ, ZO, fD, fF, fG, fE, eZ, eT, fB, eX, eQ, eH, if_true, if_false, ZM, ZS, ZN, ZP, ZR, ZQ, ZL, ZK, eA, dV, aB, dE, dJ, cB, eB, eS, eD, dN, eE, fA, dG, eI, bR, dL, bC, dR, aL, aH, eK, aZ, cI, eJ, aG, eL, dQ, aR, bD, eC, bG, bF, bJ, aP, aM, cG, fH, dY, cJ, cA, dB, cH, dT, bB, eM, bX, dS, bQ, bA, bT, aC, bU, bP, cF, bY, aU, aV, aX, bV, dD, cP, bO, aY, aN, aK, bH, aD, dC, dW, aJ, aI, aT, aF, cY, aE, cL, bW, bE, aO, cM, bZ, aA, dF, cU, cV, cC, dK, cD, dM, dU, cN, eF, eN, bN, aS, dZ, bS, aQ, bM, dI, dA, cS, cO, cR, bK, bL, cX, dO, cQ, dH, cZ, d1, l5]
    refine Ba fun w6 o6 x6 s6 => ?_
    refine Az o6 rfl (by simp [one]) (by simp) fun w7 o7 x7 s7 => ?_
    have o7 : jH w7 w5.heap.size (A5 (k, v)) := o7
    have x57 : gT w5 w7 jL := x6.trans x7 fun y hy h => by omega
    have h7 := h5.new x57
    have k0 := o7.cell (off := 0)
    have k1 := o7.cell (off := 1)
    have k1d := (kI o7).cell (off := 1)
    simp only [ZK, ZL] at k0 k1 k1d
    have e1 : IntKind.u64.wrap ((n1 : Nat) : Int) = ((n1 : Nat) : Int) := fJ (by omega) (by omega)
    have ej : (j : Int) + 1 = ((j + 1 : Nat) : Int) := by omega
    have skip : ¬ (k = 2 /\ v < n1) -> ∃ m, m < l.length - j /\ ∃ (j' : Nat), m = l.length - j' /\ (Value.int .i64 ((j + 1 : Nat) : Int)) = .int .i64 (j' : Nat) /\ j' <= l.length /\ jZ n0 w7 q p X1 (fun b => D1 b ∨ b = hb) (fun b => Y1 b ∨ b = hb) S1 { s with hv := pJ (l.take j') W n1 } lv1 (.slice (some ⟨hb, 0, none⟩) n1 n1) /\ gT w4 w7 (fun y => y = hb) := fun hc => by
     rw [if_neg hc] at hst
     exact ⟨l.length - (j + 1), by omega, j + 1, rfl, rfl, by omega, by rw [hst]; exact h7, x5.seq (x57.mono fun _ _ h => h.elim)⟩
    unfold Bq
    by_cases hk2 : k = 2
    rotate_left
    .have q1 : (((k : Nat) : Int) == 2) = false := by rw [beq_eq_false_iff_ne]; omega
     simp (disch := omega) only [eY, gN, dX, stepR_skip, fO, gI, fP, gJ, gC, gE, gR, fZ, eU, fX, fU, gD, fR, fN, fW, fS, fV, gK, gG, fQ, fC, fY, gA, fL, iP, iS, iL, iT, iR, iM, iN, iQ, iO, eP, Result.ok.injEq, Next.value.injEq, true_and, and_true, fI, fJ, gB, fM, gH, gQ, ZO, fD, fF, fG, fE, eZ, eT, fB, eX, eQ, eH, if_true, if_false, ZM, ZS, ZN, ZP, ZR, ZQ, ZL, ZK, eA, dV, aB, dE, dJ, cB, eB, eS, eD, dN, eE, fA, dG, eI, bR, dL, bC, dR, aL, aH, eK, aZ, cI, eJ, aG, eL, dQ, aR, bD, eC, bG, bF, bJ, aP, aM, cG, fH, dY, cJ, cA, dB, cH, dT, bB, eM, bX, dS, bQ, bA, bT, aC, bU, bP, cF, bY, aU, aV, aX, bV, dD, cP, bO, aY, aN, aK, bH, aD, dC, dW, aJ, aI, aT, aF, cY, aE, cL, bW, bE, aO, cM, bZ, aA, dF, cU, cV, cC, dK, cD, dM, dU, cN, eF, eN, bN, aS, dZ, bS, aQ, bM, dI, dA, cS, cO, cR, bK, bL, cX, dO, cQ, dH, cZ, k0, q1, ej]
     exact skip (fun h => hk2 h.1)
    have q1 : (((k : Nat) : Int) == 2) = true := by rw [beq_iff_eq]; omega
    by_cases hvn : v < n1
    rotate_left
    .have q2 : decide (((v : Nat) : Int) < ((n1 : Nat) : Int)) = false := by simp only [decide_eq_false_iff_not]; omega
     simp (disch := omega) only [eY, gN, dX, stepR_skip, fO, gI, fP, gJ, gC, gE, gR, fZ, eU, fX, fU, gD, fR, fN, fW, fS, fV, gK, gG, fQ, fC, fY, gA, fL, iP, iS, iL, iT, iR, iM, iN, iQ, iO, eP, Result.ok.injEq, Next.value.injEq, true_and, and_true, fI, fJ, gB, fM, gH, gQ, ZO, fD, fF, fG, fE, eZ, eT, fB, eX, eQ, eH, if_true, if_false, ZM, ZS, ZN, ZP, ZR, ZQ, ZL, ZK, eA, dV, aB, dE, dJ, cB, eB, eS, eD, dN, eE, fA, dG, eI, bR, dL, bC, dR, aL, aH, eK, aZ, cI, eJ, aG, eL, dQ, aR, bD, eC, bG, bF, bJ, aP, aM, cG, fH, dY, cJ, cA, dB, cH, dT, bB, eM, bX, dS, bQ, bA, bT, aC, bU, bP, cF, bY, aU, aV, aX, bV, dD, cP, bO, aY, aN, aK, bH, aD, dC, dW, aJ, aI, aT, aF, cY, aE, cL, bW, bE, aO, cM, bZ, aA, dF, cU, cV, cC, dK, cD, dM, dU, cN, eF, eN, bN, aS, dZ, bS, aQ, bM, dI, dA, cS, cO, cR, bK, bL, cX, dO, cQ, dH, cZ, k0, k1, q1, e1, q2, ej]
     exact skip (fun h => hvn h.2)
    have q2 : decide (((v : Nat) : Int) < ((n1 : Nat) : Int)) = true := by simp only [decide_eq_true_eq]; omega
    rw [if_pos ⟨hk2, hvn⟩] at hst
    have h7d := h7.new (gT.dr w7 jL)
    obtain ⟨f0, f1, f2, f3, f4, f5, f6, f7, f8, f9⟩ := h7d.cells
    have ow : jH (dr w7) ob (W.map Value.bool) := ((oo.ext x5 (fun e => hobn (.inr (.inr e)))).ext x57 (fun h => h)).ext (gT.dr _ jL) (fun h => h)
    have hWv : W.getD v false = W[v]'(by omega) := by rw [ZW, ZU (by omega)] <;> rfl
    have cw : (dr w7).cell? ⟨ob, v, none⟩ = some (.bool (W.getD v false)) := by
     rw [ow.cell, aaD, ZU (by omega), hWv] <;> rfl
    clear hWv
    obtain ⟨hb', c', rest, hhv, hbY, hbq, oh, hset⟩ := h7d.setHv (i := v) (by show v < (pJ (l.take j) W n1).length; rw [RH]; omega)
    simp only [Value.slice.injEq, aaH] at hhv
    obtain ⟨hbe, hlen', _⟩ := hhv
    have hbe : hb' = hb := by have := congrArg Addr.block hbe; exact this.symm
    subst hbe
    have hWn : s.man.leaves.length = n1 := hn.symm
    simp (disch := omega) only [eY, gN, dX, stepR_skip, fO, gI, fP, gJ, gC, gE, gR, fZ, eU, fX, fU, gD, fR, fN, fW, fS, fV, gK, gG, fQ, fC, fY, gA, fL, iP, iS, iL, iT, iR, iM, iN, iQ, iO, eP, Result.ok.injEq, Next.value.injEq, true_and, and_true, fI, fJ, gB, fM, gH, gQ, ZO, fD, fF, fG, fE, eZ, eT, fB, eX, eQ, eH, if_true, if_false, ZM, ZS, ZN, ZP, ZR, ZQ, ZL, ZK, eA, dV, aB, dE, dJ, cB, eB, eS, eD, dN, eE, fA, dG, eI, bR, dL, bC, dR, aL, aH, eK, aZ, cI, eJ, aG, eL, dQ, aR, bD, eC, bG, bF, bJ, aP, aM, cG, fH, dY, cJ, cA, dB, cH, dT, bB, eM, bX, dS, bQ, bA, bT, aC, bU, bP, cF, bY, aU, aV, aX, bV, dD, cP, bO, aY, aN, aK, bH, aD, dC, dW, aJ, aI, aT, aF, cY, aE, cL, bW, bE, aO, cM, bZ, aA, dF, cU, cV, cC, dK, cD, dM, dU, cN, eF, eN, bN, aS, dZ, bS, aQ, bM, dI, dA, cS, cO, cR, bK, bL, cX, dO, cQ, dH, cZ, k0, k1, q1, e1, q2, f6, k1d, cw, hWn]
    refine Er oh rfl (by rw [ZV, ZT]; show v < (pJ (l.take j) W n1).length + _; rw [RH]; omega) fun w8 o8 x8 s8 => ?_
    have h8 := hset o8 x8
    simp (disch := omega) only [eY, gN, dX, stepR_skip, fO, gI, fP, gJ, gC, gE, gR, fZ, eU, fX, fU, gD, fR, fN, fW, fS, fV, gK, gG, fQ, fC, fY, gA, fL, iP, iS, iL, iT, iR, iM, iN, iQ, iO, eP, Result.ok.injEq, Next.value.injEq, true_and, and_true, fI, fJ, gB, fM, gH, gQ, ZO, fD, fF, fG, fE, eZ, eT, fB, eX, eQ, eH, if_true, if_false, ZM, ZS, ZN, ZP, ZR, ZQ, ZL, ZK, eA, dV, aB, dE, dJ, cB, eB, eS, eD, dN, eE, fA, dG, eI, bR, dL, bC, dR, aL, aH, eK, aZ, cI, eJ, aG, eL, dQ, aR, bD, eC, bG, bF, bJ, aP, aM, cG, fH, dY, cJ, cA, dB, cH, dT, bB, eM, bX, dS, bQ, bA, bT, aC, bU, bP, cF, bY, aU, aV, aX, bV, dD, cP, bO, aY, aN, aK, bH, aD, dC, dW, aJ, aI, aT, aF, cY, aE, cL, bW, bE, aO, cM, bZ, aA, dF, cU, cV, cC, dK, cD, dM, dU, cN, eF, eN, bN, aS, dZ, bS, aQ, bM, dI, dA, cS, cO, cR, bK, bL, cX, dO, cQ, dH, cZ, ej]
    refine ⟨l.length - (j + 1), by omega, j + 1, rfl, rfl, by omega, ?_, (x5.seq (x57.mono fun _ _ h => h.elim)).seq ((gT.dr w7 _).seq x8)⟩
    rw [hst]
    exact h8
   .have d1 : decide ((j : Int) < (l.length : Int)) = false := by simp; omega
    obtain rfl : j = l.length := by omega
    rw [ZY (Z2 _)] at h5
    simp (disch := omega) only [eY, gN, dX, stepR_skip, fO, gI, fP, gJ, gC, gE, gR, fZ, eU, fX, fU, gD, fR, fN, fW, fS, fV, gK, gG, fQ, fC, fY, gA, fL, iP, iS, iL, iT, iR, iM, iN, iQ, iO, eP, Result.ok.injEq, Next.value.injEq, true_and, and_true, fI, fJ, gB, fM, gH, gQ, ZO, fD, fF, fG, fE, eZ, eT, fB, eX, eQ, eH, if_true, if_false, ZM, ZS, ZN, ZP, ZR, ZQ, ZL, ZK, eA, dV, aB, dE, dJ, cB, eB, eS, eD, dN, eE, fA, dG, eI, bR, dL, bC, dR, aL, aH, eK, aZ, cI, eJ, aG, eL, dQ, aR, bD, eC, bG, bF, bJ, aP, aM, cG, fH, dY, cJ, cA, dB, cH, dT, bB, eM, bX, dS, bQ, bA, bT, aC, bU, bP, cF, bY, aU, aV, aX, bV, dD, cP, bO, aY, aN, aK, bH, aD, dC, dW, aJ, aI, aT, aF, cY, aE, cL, bW, bE, aO, cM, bZ, aA, dF, cU, cV, cC, dK, cD, dM, dU, cN, eF, eN, bN, aS, dZ, bS, aQ, bM, dI, dA, cS, cO, cR, bK, bL, cX, dO, cQ, dH, cZ, d1]
    refine fin (iK.step x1 hX1 hD1 hY1 ⟨X1, _, _, _, _, h5, fun _ h => .inl h, fun _ h => .inl h, fun b hb' => hb'.imp id fun e => by omega, ?_⟩) hBf (by rw [hE0, hn])
    have xx : gT w1 w4 (fun b => X1 b ∨ Y1 b) := (x13.seq (x4.mono fun _ _ h => h.elim)).mono fun y _ hy => .inr (hy ▸ h1.yq)
    exact xx.trans x5 fun y hy h => by omega
theorem YT (n : ByteArray) : iC n ≠ jJ n := fun h => by
 have := congrArg ByteArray.size h
 unfold iC jJ at this
 rw [ByteArray.size_append, ByteArray.size_append] at this
 have h5 : (⟨#[46, 112, 97, 114, 116]⟩ : ByteArray).size = 5 := rfl
 have h4 : (⟨#[46, 108, 111, 103]⟩ : ByteArray).size = 4 := rfl
 omega
theorem Uf {S : kD} {o : RS} : (AK S o).1.seen = S.seen ∨ (AK S o).1.seen = Ny o S.seen := by
 unfold AK
 split
 .exact .inl rfl
 .exact .inr rfl
theorem Wq {S : kD} {k : ByteArray} {a : Int} {l : List UInt8} : (GS S k a l).1.seen = S.seen ∨ ∃ v, (GS S k a l).1.seen = pH k v S.seen := by
 unfold GS
 split
 .rcases Uf (S := S) (o := ⟨0, k, ⟨#[]⟩, a.toNat, l⟩) with h | h
  .exact .inl h
  .exact .inr ⟨_, h⟩
 .exact .inl rfl
theorem Wd {S : kD} {s : oQ} {k v : Nat} : (kR iI S s k v).1.seen = S.seen ∨ ∃ u, (kR iI S s k v).1.seen = pH (jJ s.nm) u S.seen := by
 have := Wq (S := S) (k := jJ s.nm) (a := s.log) (l := uD iI k v)
 unfold kR
 simp only
 split <;> exact this
theorem S7 {S : kD} {s : oQ} : (qA S s).2.1.man = s.man /\ (qA S s).2.1.nm = s.nm /\ jF (iC s.nm) (qA S s).1.seen = jF (iC s.nm) S.seen /\ (∀ r ∈ (qA S s).2.2.2, UH r) /\ 13 * (qA S s).2.2.2.length <= (iX S (jJ s.nm)).1.length := by
 unfold qA
 split
 .exact ⟨rfl, rfl, rfl, by simp, by simp⟩
 .split
  .exact ⟨rfl, rfl, rfl, by simp, by simp⟩
  .simp only
   refine ⟨QO.2.1, QO.2.2.1, ?_, Qv iI _ _, NY iI _ _⟩
   rcases Wd (S := S) (s := { s with epoch := kA 1 (mT iI (iX S (jJ s.nm)).1) + 1, log := 13 * (mT iI (iX S (jJ s.nm)).1).length }) (k := 1) (v := kA 1 (mT iI (iX S (jJ s.nm)).1) + 1) with h | ⟨u, h⟩
   .rw [h]
   .rw [h, Ol, if_neg (YT _)]
theorem WR {n : Nat} {S : kD} {s : oQ} (h : Ec (n + 1) S) : Ec n (qA S s).1 := by
 unfold qA
 split
 .exact h.le (by omega)
 .split
  .exact h.le (by omega)
  .exact VI h
theorem Yk {n0 p : Nat} {X D : Nat -> Prop} {S : kD} {nm : ByteArray} {m : Ul} {lv : adS} {w : adR} (hd : lX w p X D S) (hg : rF w) (g0 : 0 < n0 /\ 1 < n0) (hX : ∀ b, X b -> n0 <= b) (hn0 : n0 <= w.heap.size) (hB : Ec 3 S) (hm : TD m) (hlv : Cl w 32 lv m.leaves.length (UY m.leaves))
 (hnm : 1 <= nm.size /\ nm.size <= 27) (hb1 : ∀ b, jF nm S.seen = some b -> b.length <= 1000000) (hb2 : ∀ b, jF (jJ nm) S.seen = some b -> b.length <= 1000000) (hb3 : ∀ b, jF (iC nm) S.seen = some b -> b.length <= 1000000) :
 gS pg rN #[dP p, .string nm, .agg (O4 m lv).toArray] w (Ts n0 w p X D (Du gZ iI S nm m)) := by
 refine No ?_
 obtain ⟨RR, hRR⟩ : ∃ RR : adS -> adR -> Prop, RR = Ts n0 w p X D (Du gZ iI S nm m) := ⟨_, rfl⟩
 rw [<- hRR]
 have hO := Uw S nm m
 have hm1 := hm.size
 have hm2 := hm.part
 have hm3 := hm.cnt
 have hm4 := hm.max
 unfold OF C6 C9
 refine oC fun w1 o1 x1 s1 => ?_
 have o1 : jH w1 w.heap.size (O4 m lv) := o1
 obtain ⟨mb, hmb⟩ : ∃ mb, mb = w.heap.size := ⟨_, rfl⟩
 rw [<- hmb] at o1 ⊢
 have c0 := o1.cell (off := 0)
 have c1 := o1.cell (off := 1)
 have c2 := o1.cell (off := 2)
 simp only [ZK, ZL] at c0 c1 c2
 have d1 : decide ((nm.size : Int) < 1) = false := by simp; omega
 have d2 : decide ((27 : Int) < (nm.size : Int)) = false := by simp; omega
 have e1 : IntKind.i64.wrap ((m.part : Nat) : Int) = ((m.part : Nat) : Int) := fI (by omega) (by omega)
 simp (disch := omega) only [eY, gN, dX, stepR_skip, fO, gI, fP, gJ, gC, gE, gR, fZ, eU, fX, fU, gD, fR, fN, fW, fS, fV, gK, gG, fQ, fC, fY, gA, fL, iP, iS, iL, iT, iR, iM, iN, iQ, iO, eP, Result.ok.injEq, Next.value.injEq, true_and, and_true, fI, fJ, gB, fM, gH, gQ, ZO, fD, fF, fG, fE, eZ, eT, fB, eX, eQ, eH, if_true, if_false, ZM, ZS, ZN, ZP, ZR, ZQ, ZL, ZK, eA, dV, aB, dE, dJ, cB, eB, eS, eD, dN, eE, fA, dG, eI, bR, dL, bC, dR, aL, aH, eK, aZ, cI, eJ, aG, eL, dQ, aR, bD, eC, bG, bF, bJ, aP, aM, cG, fH, dY, cJ, cA, dB, cH, dT, bB, eM, bX, dS, bQ, bA, bT, aC, bU, bP, cF, bY, aU, aV, aX, bV, dD, cP, bO, aY, aN, aK, bH, aD, dC, dW, aJ, aI, aT, aF, cY, aE, cL, bW, bE, aO, cM, bZ, aA, dF, cU, cV, cC, dK, cD, dM, dU, cN, eF, eN, bN, aS, dZ, bS, aQ, bM, dI, dA, cS, cO, cR, bK, bL, cX, dO, cQ, dH, cZ, d1, d2, c0, c1, e1]
 refine (Qi (by omega) hm2.1 hm2.2).mono ?_
 rintro r w2 ⟨rfl, hw⟩
 rw [hw]; clear hw w2
 rw [if_neg (by omega)]
 have n1 : ((0 : Int) != 0) = false := rfl
 obtain ⟨la, lc, hlve, hln, -⟩ := id hlv
 subst hlve
 have q1 : (((mF m.size m.part : Nat) : Int) != ((m.leaves.length : Nat) : Int)) = false := by rw [bne_eq_false_iff_eq]; omega
 simp (disch := omega) only [eY, gN, dX, stepR_skip, fO, gI, fP, gJ, gC, gE, gR, fZ, eU, fX, fU, gD, fR, fN, fW, fS, fV, gK, gG, fQ, fC, fY, gA, fL, iP, iS, iL, iT, iR, iM, iN, iQ, iO, eP, Result.ok.injEq, Next.value.injEq, true_and, and_true, fI, fJ, gB, fM, gH, gQ, ZO, fD, fF, fG, fE, eZ, eT, fB, eX, eQ, eH, if_true, if_false, ZM, ZS, ZN, ZP, ZR, ZQ, ZL, ZK, eA, dV, aB, dE, dJ, cB, eB, eS, eD, dN, eE, fA, dG, eI, bR, dL, bC, dR, aL, aH, eK, aZ, cI, eJ, aG, eL, dQ, aR, bD, eC, bG, bF, bJ, aP, aM, cG, fH, dY, cJ, cA, dB, cH, dT, bB, eM, bX, dS, bQ, bA, bT, aC, bU, bP, cF, bY, aU, aV, aX, bV, dD, cP, bO, aY, aN, aK, bH, aD, dC, dW, aJ, aI, aT, aF, cY, aE, cL, bW, bE, aO, cM, bZ, aA, dF, cU, cV, cC, dK, cD, dM, dU, cN, eF, eN, bN, aS, dZ, bS, aQ, bM, dI, dA, cS, cO, cR, bK, bL, cX, dO, cQ, dH, cZ, n1, c2, q1]
 refine (QY (HF hlv x1 (jI _)) (WA _) (by omega)).mono ?_
 rintro r w2 ⟨hcl, x2⟩
 have o2 := o1.ext x2 (fun h => h)
 obtain ⟨ca, cc, rfl⟩ := hcl.len
 refine J5 o2 rfl (by simp) fun w3 o3 x3 s3 => ?_
 simp only [Z7, aaR] at o3
 have z1 := x1.size
 have z2 := x2.size
 have hcl3 : zF w3 w1.heap.size 32 (.slice ca m.leaves.length cc) m.leaves.length (UY m.leaves) := hcl.ext x3 fun b hb h => by omega
 obtain ⟨lv', hlv'⟩ : ∃ lv', lv' = Value.slice ca m.leaves.length cc := ⟨_, rfl⟩
 rw [<- hlv'] at hcl3 o3
 have x03 : gT w w3 jL := (x1.seq x2).trans x3 fun y hy h => by omega
 have lm := qI (off := 0) o3 (by simp)
 have lm : (fK 28 (.pointer (some ⟨mb, 0, none⟩))).run pg w3 = .ok (.value (.agg (O4 m lv').toArray)) w3 := lm
 have bd := aR (some ⟨p, 0, none⟩) nm (.int .u64 (m.size : Nat)) (.int .u32 (m.part : Nat)) lv' w3
 simp (disch := omega) only [eY, gN, dX, stepR_skip, fO, gI, fP, gJ, gC, gE, gR, fZ, eU, fX, fU, gD, fR, fN, fW, fS, fV, gK, gG, fQ, fC, fY, gA, fL, iP, iS, iL, iT, iR, iM, iN, iQ, iO, eP, Result.ok.injEq, Next.value.injEq, true_and, and_true, fI, fJ, gB, fM, gH, gQ, ZO, fD, fF, fG, fE, eZ, eT, fB, eX, eQ, eH, if_true, if_false, ZM, ZS, ZN, ZP, ZR, ZQ, ZL, ZK, eA, dV, aB, dE, dJ, cB, eB, eS, eD, dN, eE, fA, dG, eI, bR, dL, bC, dR, aL, aH, eK, aZ, cI, eJ, aG, eL, dQ, aR, bD, eC, bG, bF, bJ, aP, aM, cG, fH, dY, cJ, cA, dB, cH, dT, bB, eM, bX, dS, bQ, bA, bT, aC, bU, bP, cF, bY, aU, aV, aX, bV, dD, cP, bO, aY, aN, aK, bH, aD, dC, dW, aJ, aI, aT, aF, cY, aE, cL, bW, bE, aO, cM, bZ, aA, dF, cU, cV, cC, dK, cD, dM, dU, cN, eF, eN, bN, aS, dZ, bS, aQ, bM, dI, dA, cS, cO, cR, bK, bL, cX, dO, cQ, dH, cZ, lm, bd]
 refine oC fun w4 o4 x4 s4 => ?_
 obtain ⟨q, hq⟩ : ∃ q, q = w3.heap.size := ⟨_, rfl⟩
 rw [<- hq] at o4 ⊢
 have x04 := x03.seq x4
 have z3 := x3.size
 have h4 : jZ n0 w4 q p X (fun b => D b ∨ b = q) (fun b => b = q) S ⟨nm, m, 0, [], 0, false, 0⟩ lv' (.slice none 0 0) := by
  have hlt := lX.lt hd
  have hxd := lX.xd' hd
  refine ⟨hg.ext x04, g0, fun b hb => ?_, by have := x04.size; omega, hd.more x04 (by omega) o4.lt, rfl, fun b hb => ⟨.inr hb, fun hx => by have := hlt b (hxd b hx); omega⟩, o4, hm, ⟨?_, ?_⟩, ⟨rfl, .inl ⟨rfl, rfl⟩⟩, (by show 0 < _; omega), (by show 0 <= _; omega), (by show 0 <= _; omega), hnm.2⟩
  .rcases hb with hb | hb
   .exact hX b hb
   .omega
  .exact HF (QJ hcl3) x4 (jI _)
  .refine TF (w' := w3) hcl3 fun b hb hl hx => ?_
   rcases hx with hx | hx
   .have := hlt b (hxd b hx); omega
   .omega
 have o34 := o3.ext x4 (fun h => h)
 obtain ⟨f0, f1, f2, f3, f4, f5, f6, f7, f8, f9⟩ := h4.cells
 refine (NR (n := nm) h4.dsk (hB.le (by omega)) f0).mono ?_
 rintro r w5 ⟨v, rfl, ho, x5⟩
 have h5 := h4.new x5
 have z4 := x04.size
 have toPost : ∀ {w' : adR} {S' : kD} {s' : oQ}, iK n0 w4 q p X (fun b => D b ∨ b = q) (fun b => b = q) S' s' w' -> Bw w p X D S' w' := fun {w' S' s'} ⟨X', D', Y', _, _, h, h1, h2, h3, hx⟩ => by
  refine ⟨X', D', h.dsk, fun b hb => ?_, fun b hb => h2 b (.inl hb), (x04.mono fun _ _ h => h.elim).trans hx fun y hy h => ?_⟩
  .rcases h1 b hb with h | h
   .exact .inl h
   .exact .inr (by omega)
  .rcases h with h | h
   .exact h
   .omega
 have toOpen : ∀ {r : adS} {w' : adR} {R : kD × Option oQ × Int}, Du gZ iI S nm m = R -> (match R.2.1 with
     | some s' => R.2.2 = 0 /\ r = .tuple #[dP q, .int .i64 0] /\ iK n0 w4 q p X (fun b => D b ∨ b = q) (fun b => b = q) R.1 s' w'
     | none => r = .tuple #[.pointer none, .int .i64 R.2.2] /\ ∃ s', iK n0 w4 q p X (fun b => D b ∨ b = q) (fun b => b = q) R.1 s' w') -> RR r w' := fun {r w' R} hR hm => by
  rw [hRR, hR]
  unfold Ts
  obtain ⟨S', so, e⟩ := R
  cases so with
  | none =>
    obtain ⟨h1, s', h2⟩ := hm
    exact ⟨h1, toPost h2⟩
  | some s' =>
    obtain ⟨h0, h1, h2⟩ := hm
    have hp := toPost h2
    obtain ⟨X', D', Y', lv2, hv2, h, k1, k2, k3, hx⟩ := h2
    refine ⟨h0, q, X', D', Y', lv2, hv2, h1, h, fun b hb => ?_, fun b hb => k2 b (.inl hb), fun b hb => ?_, (x04.mono fun _ _ h => h.elim).trans hx fun y hy h => ?_⟩
    .rcases k1 b hb with h | h
     .exact .inl h
     .exact .inr (by omega)
    .rcases k3 b hb with h | h
     .omega
     .omega
    .rcases h with h | h
     .exact h
     .omega
 have hini : JO S nm m = ⟨nm, m, 0, jB gZ m (iX S nm).1, 0, (iX S nm).2.1 && (iX S nm).1.length == m.size && CD (jB gZ m (iX S nm).1), 0⟩ := rfl
 have hbl : (iX S nm).1.length <= 1000000 := by
  unfold iX
  split
  .simp
  .cases hg : jF nm S.seen with
   | none => simp
   | some b => exact hb1 b hg
 generalize iX S nm = rb at *
 obtain ⟨b, th, e⟩ := rb
 simp only at ho hO hini hbl ⊢
 by_cases he : e = 0
 rotate_left
 .have n2 : (e != 0) = true := bne_iff_ne.2 he
  rw [if_pos he] at hO
  simp (disch := omega) only [eY, gN, dX, stepR_skip, fO, gI, fP, gJ, gC, gE, gR, fZ, eU, fX, fU, gD, fR, fN, fW, fS, fV, gK, gG, fQ, fC, fY, gA, fL, iP, iS, iL, iT, iR, iM, iN, iQ, iO, eP, Result.ok.injEq, Next.value.injEq, true_and, and_true, fI, fJ, gB, fM, gH, gQ, ZO, fD, fF, fG, fE, eZ, eT, fB, eX, eQ, eH, if_true, if_false, ZM, ZS, ZN, ZP, ZR, ZQ, ZL, ZK, eA, dV, aB, dE, dJ, cB, eB, eS, eD, dN, eE, fA, dG, eI, bR, dL, bC, dR, aL, aH, eK, aZ, cI, eJ, aG, eL, dQ, aR, bD, eC, bG, bF, bJ, aP, aM, cG, fH, dY, cJ, cA, dB, cH, dT, bB, eM, bX, dS, bQ, bA, bT, aC, bU, bP, cF, bY, aU, aV, aX, bV, dD, cP, bO, aY, aN, aK, bH, aD, dC, dW, aJ, aI, aT, aF, cY, aE, cL, bW, bE, aO, cM, bZ, aA, dF, cU, cV, cC, dK, cD, dM, dU, cN, eF, eN, bN, aS, dZ, bS, aQ, bM, dI, dA, cS, cO, cR, bK, bL, cX, dO, cQ, dH, cZ, n2]
  exact toOpen hO ⟨rfl, _, iK.step (x5.mono fun _ _ h => h.elim) (fun _ h => .inl h) (fun _ h => h) (fun _ h => .inl h) (iK.refl h5)⟩
 have n2 : (e != 0) = false := bne_eq_false_iff_eq.2 he
 rw [if_neg (by rw [he]; decide)] at hO
 have hbv : Bs w5 v b := ho.sl
 obtain ⟨va, vc, rfl, _⟩ := hbv.len
 rw [ZT] at hbv ho ⊢
 simp (disch := omega) only [eY, gN, dX, stepR_skip, fO, gI, fP, gJ, gC, gE, gR, fZ, eU, fX, fU, gD, fR, fN, fW, fS, fV, gK, gG, fQ, fC, fY, gA, fL, iP, iS, iL, iT, iR, iM, iN, iQ, iO, eP, Result.ok.injEq, Next.value.injEq, true_and, and_true, fI, fJ, gB, fM, gH, gQ, ZO, fD, fF, fG, fE, eZ, eT, fB, eX, eQ, eH, if_true, if_false, ZM, ZS, ZN, ZP, ZR, ZQ, ZL, ZK, eA, dV, aB, dE, dJ, cB, eB, eS, eD, dN, eE, fA, dG, eI, bR, dL, bC, dR, aL, aH, eK, aZ, cI, eJ, aG, eL, dQ, aR, bD, eC, bG, bF, bJ, aP, aM, cG, fH, dY, cJ, cA, dB, cH, dT, bB, eM, bX, dS, bQ, bA, bT, aC, bU, bP, cF, bY, aU, aV, aX, bV, dD, cP, bO, aY, aN, aK, bH, aD, dC, dW, aJ, aI, aT, aF, cY, aE, cL, bW, bE, aO, cM, bZ, aA, dF, cU, cV, cC, dK, cD, dM, dU, cN, eF, eN, bN, aS, dZ, bS, aQ, bM, dI, dA, cS, cO, cR, bK, bL, cX, dO, cQ, dH, cZ, n2]
 refine (Oy h5 hbv hbl).mono ?_
 rintro r w6 ⟨ob, rfl, hob, oo, x6⟩
 obtain ⟨W, hW⟩ : ∃ W, W = jB gZ m b := ⟨_, rfl⟩
 have hWl : W.length = m.leaves.length := by rw [hW]; unfold jB; simp
 have oo : jH w6 ob (W.map Value.bool) := by rw [hW]; exact oo
 rw [<- hW] at hini
 have hml : (⟨nm, m, 0, [], 0, false, 0⟩ : oQ).man.leaves.length = W.length := hWl.symm
 rw [hml]
 have h6 := h5.new x6
 refine KL h6.own rfl (by simp) fun w7 o7 x7 s7 => ?_
 have h7 := h5.newHv (s' := ⟨nm, m, 0, W, 0, false, 0⟩) x6 hob oo (by omega) x7 o7 rfl rfl rfl (by show 0 < _; omega) (by show 0 <= _; omega)
 have x47 : gT w4 w7 (fun y => X y ∨ y = q) := ((x5.seq x6).mono fun _ _ h => h.elim).seq (x7.mono fun _ _ h => .inr h)
 have o37 := ((o34.ext x5 (fun h => h)).ext x6 (fun h => h)).ext x7 (show ¬ mb = q by have := x2.size; have := x1.size; omega)
 have k0 := o37.cell (off := 0)
 simp only [ZK] at k0
 obtain ⟨f0, f1, f2, f3, f4, f5, f6, f7, f8, f9⟩ := h7.cells
 have z5 := x5.size
 have hYn : ∀ y, (y = q ∨ y = ob) -> y = q ∨ w4.heap.size <= y := fun y hy => hy.imp id fun h => by omega
 have tail : ∀ {w8 : adR} {fn : Bool}, fn = (th && b.length == m.size && CD W) -> gT w7 w8 jL →
     eY pg (iF 4 (.pointer (some ⟨q, 8, none⟩)) (.bool fn)) w8 fun _u w => gS pg nD #[dP q] w fun t97 w => eY pg (iW t97 0) w fun t98 w => eY pg (iW t97 1) w fun t99 w => eY pg (gO .neq 29 (.tmp 100) (.const (.int .i64 0)) t99 (.int .i64 0)) w fun t101 w => lN t101 (RR (.tuple #[.pointer none, t99]) w) (uO RR (dP p) (.int .i64 (mF m.size m.part : Nat)) (dP q) t98 w) := fun {w8 fn} hfn x8 => by
  have h8 := h7.new x8
  refine Er h8.own rfl (by simp) fun w9 o9 x9 s9 => ?_
  obtain ⟨s0, hs0⟩ : ∃ s0 : oQ, s0 = ⟨nm, m, 0, W, 0, fn, 0⟩ := ⟨_, rfl⟩
  have hs0' : s0 = JO S nm m := by rw [hini, hs0, hfn]
  have h9 := h8.set (s' := s0) x9 (by rw [hs0]; exact o9) (by rw [hs0]) (by rw [hs0]) (by rw [hs0]) (by rw [hs0]; show 0 < _; omega) (by rw [hs0]; show 0 <= _; omega)
  have hnm0 : s0.nm = nm := by rw [hs0]
  have hman0 : s0.man = m := by rw [hs0]
  have x49 : gT w4 w9 (fun y => X y ∨ y = q) := (x47.seq (x8.mono fun _ _ h => h.elim)).seq (x9.mono fun _ _ h => .inr h)
  refine (U5 h9 (hB.le (by omega)) (by rw [hnm0]; exact hb2)).mono ?_
  rintro r w10 ⟨o, X', D', Y', lv2, hv2, rfl, h10, hX', hD', hY', x10, hocl, hon⟩
  obtain ⟨bf1, bf2, bf3, bf4, bf5⟩ := S7 (S := S) (s := s0)
  rw [hnm0] at bf2 bf3 bf5
  rw [hman0] at bf1
  have hBk := WR (n := 2) (s := s0) hB
  rw [<- hs0'] at hO
  have hlogl : (iX S (jJ nm)).1.length <= 1000000 := by
   unfold iX
   split
   .simp
   .cases hg : jF (jJ nm) S.seen with
    | none => simp
    | some b => exact hb2 b hg
  generalize qA S s0 = B at *
  obtain ⟨S2, s2', e2, L⟩ := B
  simp only at h10 hO bf1 bf2 bf3 bf4 bf5 hBk hocl ⊢
  have pst : iK n0 w4 q p X (fun b => D b ∨ b = q) (fun b => b = q) S2 s2' w10 := iK.step x49 (fun _ h => .inl h) (fun _ h => .inl h) hYn ⟨X', D', Y', _, _, h10, hX', hD', hY', x10⟩
  by_cases he2 : e2 = 0
  .subst he2
   rw [if_neg (by decide)] at hO
   have n3 : ((0 : Int) != 0) = false := rfl
   simp (disch := omega) only [eY, gN, dX, stepR_skip, fO, gI, fP, gJ, gC, gE, gR, fZ, eU, fX, fU, gD, fR, fN, fW, fS, fV, gK, gG, fQ, fC, fY, gA, fL, iP, iS, iL, iT, iR, iM, iN, iQ, iO, eP, Result.ok.injEq, Next.value.injEq, true_and, and_true, fI, fJ, gB, fM, gH, gQ, ZO, fD, fF, fG, fE, eZ, eT, fB, eX, eQ, eH, if_true, if_false, ZM, ZS, ZN, ZP, ZR, ZQ, ZL, ZK, eA, dV, aB, dE, dJ, cB, eB, eS, eD, dN, eE, fA, dG, eI, bR, dL, bC, dR, aL, aH, eK, aZ, cI, eJ, aG, eL, dQ, aR, bD, eC, bG, bF, bJ, aP, aM, cG, fH, dY, cJ, cA, dB, cH, dT, bB, eM, bX, dS, bQ, bA, bT, aC, bU, bP, cF, bY, aU, aV, aX, bV, dD, cP, bO, aY, aN, aK, bH, aD, dC, dW, aJ, aI, aT, aF, cY, aE, cL, bW, bE, aO, cM, bZ, aA, dF, cU, cV, cC, dK, cD, dM, dU, cN, eF, eN, bN, aS, dZ, bS, aQ, bM, dI, dA, cS, cO, cR, bK, bL, cX, dO, cQ, dH, cZ, n3]
   refine Uk h10 hBk (by rw [bf2, bf3]; exact hb3) (by rw [bf1]; exact hm3.symm) hocl hon (by omega) bf4 fun r w' hm => toOpen hO ?_
   generalize Nv S2 s2' L = R at *
   obtain ⟨S3, so, e3⟩ := R
   cases so with
   | none =>
     obtain ⟨k1, s', k2⟩ := hm
     exact ⟨k1, s', iK.step x49 (fun _ h => .inl h) (fun _ h => .inl h) hYn (iK.step x10 hX' hD' hY' k2)⟩
   | some s' =>
     obtain ⟨k0, k1, k2⟩ := hm
     exact ⟨k0, k1, iK.step x49 (fun _ h => .inl h) (fun _ h => .inl h) hYn (iK.step x10 hX' hD' hY' k2)⟩
  .have n3 : (e2 != 0) = true := bne_iff_ne.2 he2
   rw [if_pos he2] at hO
   simp (disch := omega) only [eY, gN, dX, stepR_skip, fO, gI, fP, gJ, gC, gE, gR, fZ, eU, fX, fU, gD, fR, fN, fW, fS, fV, gK, gG, fQ, fC, fY, gA, fL, iP, iS, iL, iT, iR, iM, iN, iQ, iO, eP, Result.ok.injEq, Next.value.injEq, true_and, and_true, fI, fJ, gB, fM, gH, gQ, ZO, fD, fF, fG, fE, eZ, eT, fB, eX, eQ, eH, if_true, if_false, ZM, ZS, ZN, ZP, ZR, ZQ, ZL, ZK, eA, dV, aB, dE, dJ, cB, eB, eS, eD, dN, eE, fA, dG, eI, bR, dL, bC, dR, aL, aH, eK, aZ, cI, eJ, aG, eL, dQ, aR, bD, eC, bG, bF, bJ, aP, aM, cG, fH, dY, cJ, cA, dB, cH, dT, bB, eM, bX, dS, bQ, bA, bT, aC, bU, bP, cF, bY, aU, aV, aX, bV, dD, cP, bO, aY, aN, aK, bH, aD, dC, dW, aJ, aI, aT, aF, cY, aE, cL, bW, bE, aO, cM, bZ, aA, dF, cU, cV, cC, dK, cD, dM, dU, cN, eF, eN, bN, aS, dZ, bS, aQ, bM, dI, dA, cS, cO, cR, bK, bL, cX, dO, cQ, dH, cZ, n3]
   exact toOpen hO ⟨rfl, _, pst⟩
 cases th with
 | false =>
   have := tail (w8 := w7) (fn := false) (by simp) (gT.refl _ _)
   simp (disch := omega) only [eY, gN, dX, stepR_skip, fO, gI, fP, gJ, gC, gE, gR, fZ, eU, fX, fU, gD, fR, fN, fW, fS, fV, gK, gG, fQ, fC, fY, gA, fL, iP, iS, iL, iT, iR, iM, iN, iQ, iO, eP, Result.ok.injEq, Next.value.injEq, true_and, and_true, fI, fJ, gB, fM, gH, gQ, ZO, fD, fF, fG, fE, eZ, eT, fB, eX, eQ, eH, if_true, if_false, ZM, ZS, ZN, ZP, ZR, ZQ, ZL, ZK, eA, dV, aB, dE, dJ, cB, eB, eS, eD, dN, eE, fA, dG, eI, bR, dL, bC, dR, aL, aH, eK, aZ, cI, eJ, aG, eL, dQ, aR, bD, eC, bG, bF, bJ, aP, aM, cG, fH, dY, cJ, cA, dB, cH, dT, bB, eM, bX, dS, bQ, bA, bT, aC, bU, bP, cF, bY, aU, aV, aX, bV, dD, cP, bO, aY, aN, aK, bH, aD, dC, dW, aJ, aI, aT, aF, cY, aE, cL, bW, bE, aO, cM, bZ, aA, dF, cU, cV, cC, dK, cD, dM, dU, cN, eF, eN, bN, aS, dZ, bS, aQ, bM, dI, dA, cS, cO, cR, bK, bL, cX, dO, cQ, dH, cZ]
   exact this
 | true =>
   have e3 : IntKind.u64.wrap ((b.length : Nat) : Int) = ((b.length : Nat) : Int) := fJ (by omega) (by omega)
   by_cases hle : b.length = m.size
   .have q2 : (((b.length : Nat) : Int) == ((m.size : Nat) : Int)) = true := by rw [beq_iff_eq]; omega
    simp (disch := omega) only [eY, gN, dX, stepR_skip, fO, gI, fP, gJ, gC, gE, gR, fZ, eU, fX, fU, gD, fR, fN, fW, fS, fV, gK, gG, fQ, fC, fY, gA, fL, iP, iS, iL, iT, iR, iM, iN, iQ, iO, eP, Result.ok.injEq, Next.value.injEq, true_and, and_true, fI, fJ, gB, fM, gH, gQ, ZO, fD, fF, fG, fE, eZ, eT, fB, eX, eQ, eH, if_true, if_false, ZM, ZS, ZN, ZP, ZR, ZQ, ZL, ZK, eA, dV, aB, dE, dJ, cB, eB, eS, eD, dN, eE, fA, dG, eI, bR, dL, bC, dR, aL, aH, eK, aZ, cI, eJ, aG, eL, dQ, aR, bD, eC, bG, bF, bJ, aP, aM, cG, fH, dY, cJ, cA, dB, cH, dT, bB, eM, bX, dS, bQ, bA, bT, aC, bU, bP, cF, bY, aU, aV, aX, bV, dD, cP, bO, aY, aN, aK, bH, aD, dC, dW, aJ, aI, aT, aF, cY, aE, cL, bW, bE, aO, cM, bZ, aA, dF, cU, cV, cC, dK, cD, dM, dU, cN, eF, eN, bN, aS, dZ, bS, aQ, bM, dI, dA, cS, cO, cR, bK, bL, cX, dO, cQ, dH, cZ, e3, k0, q2, f6]
    refine (NO (Ml h7.hv) (by show W.length <= _; omega)).mono ?_
    rintro r w8 ⟨rfl, hw⟩
    rw [hw]; clear hw w8
    have := tail (w8 := w7) (fn := CD W) (by have : (b.length == m.size) = true := by rw [beq_iff_eq]; exact hle
                                             rw [this]; simp) (gT.refl _ _)
    simp (disch := omega) only [eY, gN, dX, stepR_skip, fO, gI, fP, gJ, gC, gE, gR, fZ, eU, fX, fU, gD, fR, fN, fW, fS, fV, gK, gG, fQ, fC, fY, gA, fL, iP, iS, iL, iT, iR, iM, iN, iQ, iO, eP, Result.ok.injEq, Next.value.injEq, true_and, and_true, fI, fJ, gB, fM, gH, gQ, ZO, fD, fF, fG, fE, eZ, eT, fB, eX, eQ, eH, if_true, if_false, ZM, ZS, ZN, ZP, ZR, ZQ, ZL, ZK, eA, dV, aB, dE, dJ, cB, eB, eS, eD, dN, eE, fA, dG, eI, bR, dL, bC, dR, aL, aH, eK, aZ, cI, eJ, aG, eL, dQ, aR, bD, eC, bG, bF, bJ, aP, aM, cG, fH, dY, cJ, cA, dB, cH, dT, bB, eM, bX, dS, bQ, bA, bT, aC, bU, bP, cF, bY, aU, aV, aX, bV, dD, cP, bO, aY, aN, aK, bH, aD, dC, dW, aJ, aI, aT, aF, cY, aE, cL, bW, bE, aO, cM, bZ, aA, dF, cU, cV, cC, dK, cD, dM, dU, cN, eF, eN, bN, aS, dZ, bS, aQ, bM, dI, dA, cS, cO, cR, bK, bL, cX, dO, cQ, dH, cZ]
    exact this
   .have q2 : (((b.length : Nat) : Int) == ((m.size : Nat) : Int)) = false := by rw [beq_eq_false_iff_ne]; omega
    have := tail (w8 := w7) (fn := false) (by have : (b.length == m.size) = false := by rw [beq_eq_false_iff_ne]; exact hle
                                              rw [this]; simp) (gT.refl _ _)
    simp (disch := omega) only [eY, gN, dX, stepR_skip, fO, gI, fP, gJ, gC, gE, gR, fZ, eU, fX, fU, gD, fR, fN, fW, fS, fV, gK, gG, fQ, fC, fY, gA, fL, iP, iS, iL, iT, iR, iM, iN, iQ, iO, eP, Result.ok.injEq, Next.value.injEq, true_and, and_true, fI, fJ, gB, fM, gH, gQ, ZO, fD, fF, fG, fE, eZ, eT, fB, eX, eQ, eH, if_true, if_false, ZM, ZS, ZN, ZP, ZR, ZQ, ZL, ZK, eA, dV, aB, dE, dJ, cB, eB, eS, eD, dN, eE, fA, dG, eI, bR, dL, bC, dR, aL, aH, eK, aZ, cI, eJ, aG, eL, dQ, aR, bD, eC, bG, bF, bJ, aP, aM, cG, fH, dY, cJ, cA, dB, cH, dT, bB, eM, bX, dS, bQ, bA, bT, aC, bU, bP, cF, bY, aU, aV, aX, bV, dD, cP, bO, aY, aN, aK, bH, aD, dC, dW, aJ, aI, aT, aF, cY, aE, cL, bW, bE, aO, cM, bZ, aA, dF, cU, cV, cC, dK, cD, dM, dU, cN, eF, eN, bN, aS, dZ, bS, aQ, bM, dI, dA, cS, cO, cR, bK, bL, cX, dO, cQ, dH, cZ, e3, k0, q2]
    exact this
end Go.Proofs.YteelnmpbnaohpaaDoor
namespace Go.Proofs.YteelnmpbnaohpaaDoor
open Go Go.En Go.Pu
def sF : ByteArray := ⟨#[102]⟩
theorem V7 : sF ≠ iC sF := by decide
theorem XW : sF ≠ jJ sF := by decide
theorem UU : iC sF ≠ jJ sF := by decide
theorem Yz : KZ sF = true := by decide
theorem TE : KZ (iC sF) = true := by decide
theorem YB : KZ (jJ sF) = true := by decide
section
variable (lf : List UInt8 -> List UInt8) (cf : List UInt8 -> Nat)
theorem Lj {α : Type} (n : Nat) (g : Nat -> α) (d : α) {i : Nat} (h : i < n) : ((List.range n).map g).getD i d = g i := by
 rw [ZW, aaD, List.getElem?_range h] <;> rfl
theorem OH {l : List Bool} : CD l = true ↔ ∀ i, i < l.length -> l.getD i false = true := by
 unfold CD
 constructor
 .intro h i hi
  have h1 : ¬ false ∈ l := by simpa using h
  rw [ZW, ZU hi]
  have := abG hi
  cases hq : l[i] with
  | true => rfl
  | false => rw [hq] at this; exact absurd this h1
 .intro h
  have h1 : ¬ false ∈ l := fun hm => by
   obtain ⟨i, hi, e⟩ := acU hm
   have := h i hi
   rw [ZW, ZU hi, e] at this
   cases this
  simpa using h1
theorem Oj (m : Ul) (b : List UInt8) : (jB lf m b).length = m.leaves.length := by unfold jB; simp
theorem Br (f : List UInt8) (k : Nat) : (kL lf f k).leaves.length = mF f.length k := by unfold kL; simp
theorem Rv {f : List UInt8} {k i : Nat} (h : i < mF f.length k) : (kL lf f k).leaves.getD i [] = lf (vV f.length k i f) := by
 unfold kL
 exact Lj _ _ _ h
theorem P2 {f : List UInt8} {k i : Nat} (h : i < mF f.length k) : AA lf (kL lf f k) i (vV f.length k i f) = true := by
 unfold AA
 rw [Rv lf h]
 show ((vV f.length k i f).length == Iq f.length k i && _) = true
 rw [DD rfl]
 simp
theorem RC {f b : List UInt8} {k : Nat} (hk : 0 < k) (hb : b.length = f.length) {i : Nat} (h : i < mF f.length k) (hp : vV f.length k i b = vV f.length k i f) : (jB lf (kL lf f k) b).getD i false = true := by
 unfold jB
 rw [Br, Lj _ _ _ h]
 unfold wholeAt
 show (decide (k * i + Iq f.length k i <= b.length) && AA lf (kL lf f k) i (vV f.length k i b)) = true
 rw [hp, P2 lf h, hb]
 have := CI ((vQ hk).1 h)
 simpa using this
theorem QE {f : List UInt8} {k : Nat} (hk : 0 < k) : CD (jB lf (kL lf f k) f) = true := by
 rw [OH, Oj, Br]
 exact fun i hi => RC lf hk rfl hi rfl
theorem M0 {S : kD} {s : oQ} {recs : List (Nat × Nat)} {k v : Nat} (h : Calm S) (hnm : s.nm = sF) (hl : (jF (jJ sF) S.seen).getD [] = nH cf recs) (hs : s.log = 13 * recs.length) :
 kR cf S s k v = if S.room < ((iY S.seen + 13 : Nat) : Int) then (S, s, 22) else ({ S with under := S.under ++ [⟨0, jJ sF, ⟨#[]⟩, 13 * recs.length, uD cf k v⟩], seen := pH (jJ sF) (nH cf (recs ++ [(k, v)])) S.seen }, { s with log := s.log + 13 }, 0) := by
 have hlen : (rV S (jJ sF)).length = 13 * recs.length := by unfold rV; rw [hl, mX]
 have e := NI (k := jJ sF) (a := 13 * recs.length) (l := uD cf k v) h YB (by omega)
 rw [hlen, rG, show iY S.seen + (13 * recs.length + 13 - 13 * recs.length) = iY S.seen + 13 from by omega] at e
 have eo : over (rV S (jJ sF)) (13 * recs.length) (uD cf k v) = nH cf (recs ++ [(k, v)]) := by
  rw [SI, <- hlen, VM]
  unfold rV
  rw [hl]
 rw [eo] at e
 unfold kR
 rw [hnm, hs, e]
 split
 .rfl
 .rfl
structure QP (f : List UInt8) (k : Nat) (F0 : Option (List UInt8)) (recs : List (Nat × Nat)) (P : List UInt8) (S : kD) (s : oQ) : Prop where
 calm : Calm S
 nm : s.nm = sF
 man : s.man = kL lf f k
 err : s.err = 0
 fin : s.fin = false
 hvl : s.hv.length = mF f.length k
 log : s.log = 13 * recs.length
 gF : jF sF S.seen = F0
 gP : jF (iC sF) S.seen = some P
 gL : jF (jJ sF) S.seen = some (nH cf recs)
 Pl : P.length = f.length
 ok : ∀ r ∈ recs, UH r
 part : ∀ i, i < mF f.length k -> s.hv.getD i false = true -> vV f.length k i P = vV f.length k i f
 told : ∀ i, i < mF f.length k -> (s.hv.getD i false = true ↔ (2, i) ∈ recs)
 cnt : recs.length = 1 + s.hv.count true
 sz : iY S.seen = (F0.getD []).length + f.length + 13 * recs.length
 rm : (iY S.seen : Int) <= S.room
 nd : (S.seen.map (·.1)).Nodup
 un : S.under = []
 rb : 0 <= S.room /\ S.room <= 16777216
variable {lf cf}
theorem lR {k j : ByteArray} {v : List UInt8} {l : tY} (h : j ≠ k) : jF j (pH k v l) = jF j l := by rw [Ol, if_neg h]
theorem yX {k : ByteArray} {v : List UInt8} {l : tY} : jF k (pH k v l) = some v := by rw [Ol, if_pos rfl]
theorem Xl {f : List UInt8} {k : Nat} {F0 : Option (List UInt8)} {recs : List (Nat × Nat)} {P : List UInt8} {S : kD} {s : oQ} (h : QP lf cf f k F0 recs P S s) {i : Nat} (hi : i < mF f.length k) (hv : s.hv.getD i false = true) (b : List UInt8) : By lf cf S s i b = (S, s, 0) := by
 unfold By
 rw [h.err, h.hvl, if_neg (by decide), if_neg (by omega), ZO, hv, Bool.or_true, if_pos rfl]
theorem ND {f : List UInt8} {k : Nat} {F0 : Option (List UInt8)} {recs : List (Nat × Nat)} {P : List UInt8} {S : kD} {s : oQ} (h : QP lf cf f k F0 recs P S s) (hk : 0 < k) (hL : f.length <= 1000000) {i : Nat} (hi : i < mF f.length k) (hv : s.hv.getD i false = false) :
 (¬ S.room < ((iY S.seen + 13 : Nat) : Int) -> ∃ S' s', By lf cf S s i (vV f.length k i f) = (S', s', 0) /\ QP lf cf f k F0 (recs ++ [(2, i)]) (over P (k * i) (vV f.length k i f)) S' s' /\ S'.room = S.room /\ s'.epoch = s.epoch /\ s'.hv = s.hv.set i true) /\
 (S.room < ((iY S.seen + 13 : Nat) : Int) -> ∃ S' s', By lf cf S s i (vV f.length k i f) = (S', s', 22) /\ s'.err = 22 /\ Calm S' /\ jF sF S'.seen = F0) := by
 have hki := (vQ hk).1 hi
 have hpl : (vV f.length k i f).length = Iq f.length k i := DD rfl
 have hse := CI hki
 have hPB : rV S (iC sF) = P := by unfold rV; rw [h.gP] <;> rfl
 have e0 := NI (k := iC sF) (a := k * i) (l := vV f.length k i f) h.calm TE (by rw [hPB, h.Pl]; omega)
 have hrm := h.rm
 rw [hPB, h.Pl, hpl, show iY S.seen + (k * i + Iq f.length k i - f.length) = iY S.seen from by omega, if_neg (by omega)] at e0
 obtain ⟨P', hP'⟩ : ∃ P', P' = over P (k * i) (vV f.length k i f) := ⟨_, rfl⟩
 have hP'l : P'.length = f.length := by rw [hP', IV, h.Pl, hpl]; omega
 rw [<- hP'] at e0 ⊢
 obtain ⟨S1, hS1⟩ : ∃ S1 : kD, S1 = { S with under := S.under ++ [⟨0, iC sF, ⟨#[]⟩, k * i, vV f.length k i f⟩], seen := pH (iC sF) P' S.seen } := ⟨_, rfl⟩
 rw [<- hS1] at e0
 have c1 : Calm S1 := by rw [hS1]; exact ⟨h.calm.up, h.calm.left⟩
 have e1 := Jt c1
 obtain ⟨S2, hS2⟩ : ∃ S2 : kD, S2 = { S1 with sure := S1.seen, under := [] } := ⟨_, rfl⟩
 rw [<- hS2] at e1
 have c2 : Calm S2 := by rw [hS2]; exact ⟨c1.up, c1.left⟩
 have s2 : S2.seen = pH (iC sF) P' S.seen := by rw [hS2, hS1]
 have r2 : S2.room = S.room := by rw [hS2, hS1]
 have g2L : jF (jJ sF) S2.seen = some (nH cf recs) := by rw [s2, lR (Ne.symm UU), h.gL]
 have z2 : iY S2.seen = iY S.seen := by
  have := rZ (iC sF) P' S.seen
  rw [h.gP, aaZ, h.Pl, hP'l] at this
  rw [s2]; omega
 have e2 := M0 cf (s := s) (k := 2) (v := i) c2 h.nm (recs := recs) (by rw [g2L] <;> rfl) h.log
 have hput : By lf cf S s i (vV f.length k i f) = ((mL cf S s i (vV f.length k i f)).1, { (mL cf S s i (vV f.length k i f)).2.1 with err := (mL cf S s i (vV f.length k i f)).2.2, hv := (mL cf S s i (vV f.length k i f)).2.1.hv.set i ((mL cf S s i (vV f.length k i f)).2.2 == 0) }, (mL cf S s i (vV f.length k i f)).2.2) := by
  unfold By
  rw [h.err, h.hvl, if_neg (by decide), if_neg (by omega), ZO, h.fin, hv, acT, if_neg (by decide), h.man, P2 lf hi, if_neg (by decide)]
 have hpart : s.man.part = k := by rw [h.man] <;> rfl
 refine ⟨fun hr => ?_, fun hr => ?_⟩
 .rw [if_neg (by rw [z2, r2]; exact hr)] at e2
  obtain ⟨S3, hS3⟩ : ∃ S3 : kD, S3 = { S2 with under := S2.under ++ [⟨0, jJ sF, ⟨#[]⟩, 13 * recs.length, uD cf 2 i⟩], seen := pH (jJ sF) (nH cf (recs ++ [(2, i)])) S2.seen } := ⟨_, rfl⟩
  rw [<- hS3] at e2
  have c3 : Calm S3 := by rw [hS3]; exact ⟨c2.up, c2.left⟩
  have e3 := Jt c3
  have hch : mL cf S s i (vV f.length k i f) = ({ S3 with sure := S3.seen, under := [] }, { s with log := s.log + 13 }, 0) := by
   unfold mL
   simp only [hpart, h.nm, e0, ne_eq, not_true_eq_false, if_false, e1, e2, e3]
  rw [hch] at hput
  have s3 : S3.seen = pH (jJ sF) (nH cf (recs ++ [(2, i)])) (pH (iC sF) P' S.seen) := by rw [hS3, s2]
  have hset : ∀ j, (s.hv.set i true).getD j false = if j = i then true else s.hv.getD j false := fun j => by
   rw [ZW, adA]
   by_cases hj : i = j
   .rw [if_pos hj, if_pos hj.symm, if_pos (by have := h.hvl; omega)] <;> rfl
   .rw [if_neg hj, if_neg (fun e => hj e.symm), <- ZW]
  refine ⟨_, _, hput, ⟨⟨c3.up, c3.left⟩, h.nm, h.man, rfl, h.fin, ?_, ?_, ?_, ?_, ?_, hP'l, ?_, ?_, ?_, ?_, ?_, ?_, ?_, rfl, ?_⟩, ?_, rfl, rfl⟩
  .show (s.hv.set i true).length = _
   rw [acC]; exact h.hvl
  .show s.log + 13 = _
   rw [h.log, ZV]; simp; omega
  .show jF sF S3.seen = F0
   rw [s3, lR XW, lR V7]; exact h.gF
  .show jF (iC sF) S3.seen = _
   rw [s3, lR UU, yX]
  .show jF (jJ sF) S3.seen = _
   rw [s3, yX]
  .intro r hr
   rcases abJ.1 hr with hr | hr
   .exact h.ok r hr
   .rw [acY] at hr
    subst hr
    have := NK (L := f.length) hk
    exact ⟨.inr rfl, by show i < _; omega⟩
  .intro j hj hjv
   have hjv : (s.hv.set i true).getD j false = true := hjv
   rw [hset] at hjv
   by_cases hji : j = i
   .rw [hji, hP']
    exact Ph h.Pl rfl hki
   .rw [if_neg hji] at hjv
    rw [hP', Om h.Pl rfl hki hji]
    exact h.part j hj hjv
  .intro j hj
   show (s.hv.set i true).getD j false = true ↔ _
   rw [hset, abJ, acY]
   by_cases hji : j = i
   .rw [if_pos hji, hji]; exact ⟨fun _ => .inr rfl, fun _ => rfl⟩
   .rw [if_neg hji, h.told j hj]
    exact ⟨.inl, fun hh => hh.elim id fun e => absurd (congrArg Prod.snd e) hji⟩
  .show _ = 1 + (s.hv.set i true).count true
   have hlt : i < s.hv.length := by rw [h.hvl]; exact hi
   have hvi : s.hv[i] = false := by
    rw [ZW, ZU hlt] at hv; exact hv
   rw [List.count_set hlt, hvi, ZV, h.cnt]
   simp; omega
  .have h1 := rZ (jJ sF) (nH cf (recs ++ [(2, i)])) S2.seen
   rw [g2L, aaZ, mX, mX, z2, h.sz, ZV] at h1
   show iY S3.seen = _
   rw [s3, <- s2, ZV]
   simp only [acB] at h1 ⊢
   omega
  .have h1 := rZ (jJ sF) (nH cf (recs ++ [(2, i)])) S2.seen
   rw [g2L, aaZ, mX, mX, z2, ZV] at h1
   show (iY S3.seen : Int) <= S3.room
   have r3 : S3.room = S.room := by rw [hS3]; exact r2
   rw [s3, <- s2, r3]
   simp only [acB] at h1
   omega
  .show (S3.seen.map (·.1)).Nodup
   rw [s3]; exact C4 (C4 h.nd)
  .show 0 <= S3.room /\ S3.room <= 16777216
   rw [hS3]
   show 0 <= S2.room /\ S2.room <= 16777216
   rw [r2]; exact h.rb
  .show S3.room = S.room
   rw [hS3]; exact r2
 .rw [if_pos (by rw [z2, r2]; exact hr)] at e2
  have hch : mL cf S s i (vV f.length k i f) = (S2, s, 22) := by
   unfold mL
   simp only [hpart, h.nm, e0, ne_eq, not_true_eq_false, if_false, e1, e2]
   rfl
  rw [hch] at hput
  refine ⟨_, _, hput, rfl, c2, ?_⟩
  show jF sF S2.seen = F0
  rw [s2, lR V7]; exact h.gF
theorem SM {f : List UInt8} {k : Nat} {F0 : Option (List UInt8)} {recs : List (Nat × Nat)} {P : List UInt8} {S : kD} {s : oQ} (h : QP lf cf f k F0 recs P S s) (hk : 0 < k) (ha : ∀ i, i < mF f.length k -> s.hv.getD i false = true) :
 ∃ S' s', mN lf S s = (S', s', 0) /\ s'.fin = true /\ s'.err = 0 /\ s'.epoch = s.epoch /\ s'.nm = sF /\ s'.man = s.man /\ Calm S' /\ S'.room = S.room /\ jF sF S'.seen = some f /\ jF (jJ sF) S'.seen = some (nH cf recs) /\ jF (iC sF) S'.seen = none /\ iY S'.seen <= iY S.seen /\ S'.under = [] /\ s'.hv.length = mF f.length k /\ s'.log = s.log := by
 have hPf : P = f := UX hk h.Pl rfl fun i hi => h.part i hi (ha i hi)
 subst hPf
 have hall : CD s.hv = true := OH.2 fun i hi => ha i (by rw [<- h.hvl]; exact hi)
 have hw := QE lf (f := P) hk
 have e1 : M4 S (iC sF) sF = ({ S with under := S.under ++ [⟨1, iC sF, sF, 0, []⟩], seen := pH sF P (CF (iC sF) S.seen) }, 0) := by
  have e0 : M4 S (iC sF) sF = AK S ⟨1, iC sF, sF, 0, []⟩ := by
   unfold M4
   rw [if_neg (by rw [h.calm.up]; decide), if_neg (by rw [TE, Yz]; decide), if_neg (by rw [h.gP]; simp)]
  have e1 : Ny ⟨1, iC sF, sF, 0, []⟩ S.seen = pH sF P (CF (iC sF) S.seen) := by
   unfold Ny
   rw [if_neg (show ¬ (1 : Nat) = 0 by decide), if_pos (show (1 : Nat) = 1 from rfl)]
   simp only [h.gP]
  rw [e0, PE h.calm, e1]
 obtain ⟨S1, hS1⟩ : ∃ S1 : kD, S1 = { S with under := S.under ++ [⟨1, iC sF, sF, 0, []⟩], seen := pH sF P (CF (iC sF) S.seen) } := ⟨_, rfl⟩
 rw [<- hS1] at e1
 have c1 : Calm S1 := by rw [hS1]; exact ⟨h.calm.up, h.calm.left⟩
 have hc : mN lf S s = ({ S1 with sure := S1.seen, under := [] }, { s with hv := jB lf s.man P, err := 0, fin := (0 : Int) == 0 }, 0) := by
  unfold mN
  rw [h.err, if_neg (by decide), h.fin, if_neg (by decide), hall, if_neg (by decide), h.calm.up, if_neg (by decide), h.nm, h.gP]
  simp only [h.man, hw, if_neg (show ¬ true = false by decide), e1, ne_eq, not_true_eq_false, if_false, Jt c1]
 have hd : ∀ j, jF j (CF (iC sF) S.seen) = if j = iC sF then none else jF j S.seen := fun j => R9 h.nd
 have s1 : S1.seen = pH sF P (CF (iC sF) S.seen) := by rw [hS1]
 have hz1 := rZ sF P (CF (iC sF) S.seen)
 have hz2 := Gz (iC sF) S.seen
 rw [h.gP, aaZ] at hz2
 refine ⟨_, _, hc, rfl, rfl, rfl, h.nm, rfl, ⟨c1.up, c1.left⟩, ?_, ?_, ?_, ?_, ?_, rfl, ?_, rfl⟩
 .show S1.room = S.room
  rw [hS1]
 .show jF sF S1.seen = _
  rw [s1, yX]
 .show jF (jJ sF) S1.seen = _
  rw [s1, lR (Ne.symm XW), hd, if_neg (Ne.symm UU), h.gL]
 .show jF (iC sF) S1.seen = _
  rw [s1, lR (Ne.symm V7), hd, if_pos rfl]
 .show iY S1.seen <= _
  rw [s1]; omega
 .show (jB lf s.man P).length = _
  rw [Oj, h.man, Br]
end
section
variable (lf : List UInt8 -> List UInt8) (cf : List UInt8 -> Nat)
theorem Jx {S : kD} (h : Calm S) (n : ByteArray) : iX S n = ((jF n S.seen).getD [], (jF n S.seen).isSome, 0) := by
 unfold iX
 rw [h.up, if_neg (by decide)]
 cases jF n S.seen <;> rfl
def Pe (f : List UInt8) (k : Nat) (S : kD) : Bool := (jF sF S.seen).isSome && ((jF sF S.seen).getD []).length == f.length && CD (jB lf (kL lf f k) ((jF sF S.seen).getD []))
def KQ (recs : List (Nat × Nat)) (S : kD) : kD := { S with under := S.under ++ [⟨0, jJ sF, ⟨#[]⟩, 13 * recs.length, uD cf 1 (kA 1 recs + 1)⟩], seen := pH (jJ sF) (nH cf (recs ++ [(1, kA 1 recs + 1)])) S.seen }
def Uo (f : List UInt8) (k : Nat) (recs : List (Nat × Nat)) (S : kD) : oQ := ⟨sF, kL lf f k, kA 1 recs + 1, jB lf (kL lf f k) ((jF sF S.seen).getD []), 13 * recs.length + 13, Pe lf f k S, 0⟩
variable {lf cf}
theorem Q8 {f : List UInt8} {k : Nat} {S : kD} {recs : List (Nat × Nat)} (h : Calm S) (hL : (jF (jJ sF) S.seen).getD [] = nH cf recs) (ok : ∀ r ∈ recs, UH r) (hlast : kA 1 recs < 18446744073709551615) :
 (S.room < ((iY S.seen + 13 : Nat) : Int) -> Du lf cf S sF (kL lf f k) = (S, none, 22)) /\
 (¬ S.room < ((iY S.seen + 13 : Nat) : Int) -> Du lf cf S sF (kL lf f k) =
   if Pe lf f k S then ({ KQ cf recs S with sure := (KQ cf recs S).seen, under := [] }, some (Uo lf f k recs S), 0)
   else
    let q := jU (KQ cf recs S) (Uo lf f k recs S)
    if q.2.2 ≠ 0 then (q.1, none, q.2.2) else
    let y := EE q.1
    if y.2 ≠ 0 then (y.1, none, y.2) else (y.1, some { Uo lf f k recs S with hv := pJ recs (jB lf (kL lf f k) q.2.1) (kL lf f k).leaves.length }, 0)) := by
 have e2 := M0 cf (s := ⟨sF, kL lf f k, kA 1 recs + 1, jB lf (kL lf f k) ((jF sF S.seen).getD []), 13 * recs.length, Pe lf f k S, 0⟩) (k := 1) (v := kA 1 recs + 1) h rfl hL rfl
 have hled : mT cf (nH cf recs) = recs := TY cf ok
 have hfin : ((jF sF S.seen).isSome && ((jF sF S.seen).getD []).length == (kL lf f k).size && CD (jB lf (kL lf f k) ((jF sF S.seen).getD []))) = Pe lf f k S := rfl
 refine ⟨fun hr => ?_, fun hr => ?_⟩
 .rw [if_pos hr] at e2
  unfold Du
  simp only [Jx h, hL, hled, hfin, ne_eq, not_true_eq_false, if_false, if_neg (acK hlast), e2]
  rfl
 .rw [if_neg hr] at e2
  have c1 : Calm (KQ cf recs S) := ⟨h.up, h.left⟩
  have e3 := Jt c1
  unfold Du
  simp only [Jx h, hL, hled, hfin, ne_eq, not_true_eq_false, if_false, if_neg (acK hlast), e2]
  have : ({ room := S.room, sure := S.sure, seen := pH (jJ sF) (nH cf (recs ++ [(1, kA 1 recs + 1)])) S.seen, under := S.under ++ [⟨0, jJ sF, ⟨#[]⟩, 13 * recs.length, uD cf 1 (kA 1 recs + 1)⟩], left := S.left, down := S.down } : kD) = KQ cf recs S := rfl
  rw [this]
  cases hf : Pe lf f k S with
  | true =>
    simp only [if_true, e3, not_true_eq_false, if_false]
    unfold Uo
    rw [hf]
  | false =>
    simp only [ZM, if_false]
    unfold Uo
    rw [hf]
theorem Lr {recs : List (Nat × Nat)} {S : kD} : jF (iC sF) (KQ cf recs S).seen = jF (iC sF) S.seen := lR UU
theorem Sa {recs : List (Nat × Nat)} {S : kD} (hL : (jF (jJ sF) S.seen).getD [] = nH cf recs) : iY (KQ cf recs S).seen = iY S.seen + 13 := by
 have h1 := rZ (jJ sF) (nH cf (recs ++ [(1, kA 1 recs + 1)])) S.seen
 rw [hL, mX, mX, ZV] at h1
 show iY (pH _ _ _) = _
 simp only [acB] at h1
 omega
theorem Ue {f P : List UInt8} {k : Nat} {S : kD} {recs : List (Nat × Nat)} (h : Calm S) (hL : (jF (jJ sF) S.seen).getD [] = nH cf recs) (ok : ∀ r ∈ recs, UH r) (hlast : kA 1 recs < 18446744073709551615)
 (hr : ¬ S.room < ((iY S.seen + 13 : Nat) : Int)) (hf : Pe lf f k S = false) (hP : jF (iC sF) S.seen = some P) (hPl : P.length = f.length) :
 Du lf cf S sF (kL lf f k) = ({ KQ cf recs S with sure := (KQ cf recs S).seen, under := [] }, some { Uo lf f k recs S with hv := pJ recs (jB lf (kL lf f k) P) (mF f.length k) }, 0) := by
 have c1 : Calm (KQ cf recs S) := ⟨h.up, h.left⟩
 have hq : jU (KQ cf recs S) (Uo lf f k recs S) = (KQ cf recs S, P, 0) := by
  unfold jU
  have e : iC (Uo lf f k recs S).nm = iC sF := rfl
  have e2 : (Uo lf f k recs S).man.size = f.length := rfl
  simp only [e, e2, Jx c1, Lr, hP, aaZ, Option.isSome_some, ne_eq, not_true_eq_false, if_false, hPl, Nat.lt_irrefl, Bool.true_eq_false, or_self]
 rw [(Q8 h hL ok hlast).2 hr, hf]
 simp only [ZM, if_false, hq, ne_eq, not_true_eq_false, Jt c1, Br]
theorem Um {f : List UInt8} {k : Nat} {S : kD} {recs : List (Nat × Nat)} (h : Calm S) (hL : (jF (jJ sF) S.seen).getD [] = nH cf recs) (ok : ∀ r ∈ recs, UH r) (hlast : kA 1 recs < 18446744073709551615)
 (hr : ¬ S.room < ((iY S.seen + 13 : Nat) : Int)) (hf : Pe lf f k S = false) (hP : jF (iC sF) S.seen = none) :
 (S.room < ((iY S.seen + 13 + f.length : Nat) : Int) -> Du lf cf S sF (kL lf f k) = (KQ cf recs S, none, 22)) /\
 (¬ S.room < ((iY S.seen + 13 + f.length : Nat) : Int) -> ∃ S', Du lf cf S sF (kL lf f k) = ({ S' with sure := S'.seen, under := [] }, some { Uo lf f k recs S with hv := pJ recs (jB lf (kL lf f k) []) (mF f.length k) }, 0) /\
   S' = ({ KQ cf recs S with under := (KQ cf recs S).under ++ [⟨0, iC sF, ⟨#[]⟩, 0, List.replicate f.length 0⟩], seen := pH (iC sF) (List.replicate f.length 0) (KQ cf recs S).seen } : kD)) := by
 have c1 : Calm (KQ cf recs S) := ⟨h.up, h.left⟩
 have e : iC (Uo lf f k recs S).nm = iC sF := rfl
 have e2 : (Uo lf f k recs S).man.size = f.length := rfl
 have hsb : rV (KQ cf recs S) (iC sF) = [] := by unfold rV; rw [Lr, hP] <;> rfl
 have hw := NI (k := iC sF) (a := 0) (l := List.replicate f.length 0) c1 TE (by omega)
 rw [hsb, Sa hL, aaF, We] at hw
 have hrm : (KQ cf recs S).room = S.room := rfl
 have hz : iY S.seen + 13 + (0 + f.length - ([] : List UInt8).length) = iY S.seen + 13 + f.length := by simp
 rw [hrm, hz] at hw
 have hw0 : GS (KQ cf recs S) (iC sF) ((([] : List UInt8).length : Nat) : Int) (List.replicate (f.length - ([] : List UInt8).length) 0) = GS (KQ cf recs S) (iC sF) ((0 : Nat) : Int) (List.replicate f.length 0) := rfl
 have hq : jU (KQ cf recs S) (Uo lf f k recs S) = ((GS (KQ cf recs S) (iC sF) ((0 : Nat) : Int) (List.replicate f.length 0)).1, [], (GS (KQ cf recs S) (iC sF) ((0 : Nat) : Int) (List.replicate f.length 0)).2) := by
  unfold jU
  simp only [e, e2, Jx c1, Lr, hP, Option.getD_none, Option.isSome_none, ne_eq, not_true_eq_false, if_false, hw0, if_neg (show ¬ f.length < ([] : List UInt8).length by simp), or_true, if_true]
 rw [(Q8 h hL ok hlast).2 hr, hf]
 refine ⟨fun hr2 => ?_, fun hr2 => ?_⟩
 .rw [if_pos hr2] at hw
  rw [hw] at hq
  simp only [ZM, if_false, hq]
  rfl
 .rw [if_neg hr2] at hw
  rw [hw] at hq
  refine ⟨_, ?_, rfl⟩
  have c2 : Calm ({ KQ cf recs S with room := S.room, under := (KQ cf recs S).under ++ [⟨0, iC sF, ⟨#[]⟩, 0, List.replicate f.length 0⟩], seen := pH (iC sF) (List.replicate f.length 0) (KQ cf recs S).seen } : kD) := ⟨h.up, h.left⟩
  simp only [ZM, if_false, hq, ne_eq, not_true_eq_false, Jt c2, Br]
  rfl
end
end Go.Proofs.YteelnmpbnaohpaaDoor
namespace Go.Proofs.YteelnmpbnaohpaaDoor
open Go Go.En Go.Pu
set_option maxRecDepth 4000
def Rm (f : List UInt8) (k i : Nat) : List (List UInt8) := (List.range i).map fun j => gZ (vV f.length k j f)
theorem Ur (f : List UInt8) (k i : Nat) : Rm f k (i + 1) = Rm f k i ++ [gZ (vV f.length k i f)] := by simp [Rm, adO]
theorem VR (f : List UInt8) (k i : Nat) : (Rm f k i).length = i := by simp [Rm]
theorem U7 (f : List UInt8) (k : Nat) : (kL gZ f k).leaves = Rm f k (mF f.length k) := rfl
theorem Ok {f : List UInt8} {k : Nat} (hk : 1 <= k /\ k <= 65536) (hf : f.length <= 1000) : TD (kL gZ f k) := by
 have := NK (L := f.length) (show 0 < k by omega)
 refine ⟨by show f.length <= _; omega, hk, Br gZ f k, by show mF f.length k <= _; omega, fun x hx => ?_⟩
 obtain ⟨j, -, rfl⟩ := aaU.1 hx
 exact wT _
theorem VL {h : List UInt8} (hl : h.length = 32) : Go.Instr.fill (fun j => some (j * 32, 32)) ((Array.range (1 * 32)).map ((Tryd.t49.zero.get!).cells[· % (Tryd.t49.zero.get!).cells.size]!)) [(0, .agg (h.map nU).toArray)] = some (h.map nU).toArray :=
 match h, hl with
 | [a0, a1, a2, a3, a4, a5, a6, a7, a8, a9, a10, a11, a12, a13, a14, a15, a16, a17, a18, a19, a20, a21, a22, a23, a24, a25, a26, a27, a28, a29, a30, a31], _ => by kernel_rfl
theorem Oa {f : List UInt8} {bv : adS} {k : Nat} {w : adR} (hg : rF w) (hb : Bs w bv f) (hf : f.length <= 1000) (hk : 1 <= k /\ k <= 65536) :
 gS pg BO #[bv, .int .i64 (k : Nat)] w (fun r w' => ∃ lv, r = .tuple #[.agg (O4 (kL gZ f k) lv).toArray, .int .i64 0] /\ zF w' w.heap.size 32 lv (kL gZ f k).leaves.length (UY (kL gZ f k).leaves) /\ gT w w' jL) := by
 refine OW ?_
 obtain ⟨RR, hRR⟩ : ∃ RR : adS -> adR -> Prop, RR = fun r w' => ∃ lv, r = .tuple #[.agg (O4 (kL gZ f k) lv).toArray, .int .i64 0] /\ zF w' w.heap.size 32 lv (kL gZ f k).leaves.length (UY (kL gZ f k).leaves) /\ gT w w' jL := ⟨_, rfl⟩
 rw [<- hRR]
 obtain ⟨g0, g1⟩ := hg.lt
 have hcn := NK (L := f.length) (show 0 < k by omega)
 unfold PT GV G2
 obtain ⟨ba, bc, rfl, hbc⟩ := hb.len
 rw [ZT] at hb hbc ⊢
 refine rS fun w1 o1 x1 s1 => ?_
 have e1 : IntKind.u64.wrap ((f.length : Nat) : Int) = ((f.length : Nat) : Int) := fJ (by omega) (by omega)
 have e2 : IntKind.u32.wrap ((k : Nat) : Int) = ((k : Nat) : Int) := fM (by omega) (by omega)
 have n1 : ((0 : Int) != 0) = false := rfl
 simp (disch := omega) only [eY, gN, dX, stepR_skip, fO, gI, fP, gJ, gC, gE, gR, fZ, eU, fX, fU, gD, fR, fN, fW, fS, fV, gK, gG, fQ, fC, fY, gA, fL, iP, iS, iL, iT, iR, iM, iN, iQ, iO, eP, Result.ok.injEq, Next.value.injEq, true_and, and_true, fI, fJ, gB, fM, gH, gQ, ZO, fD, fF, fG, fE, eZ, eT, fB, eX, eQ, eH, if_true, if_false, ZM, ZS, ZN, ZP, ZR, ZQ, ZL, ZK, eA, dV, aB, dE, dJ, cB, eB, eS, eD, dN, eE, fA, dG, eI, bR, dL, bC, dR, aL, aH, eK, aZ, cI, eJ, aG, eL, dQ, aR, bD, eC, bG, bF, bJ, aP, aM, cG, fH, dY, cJ, cA, dB, cH, dT, bB, eM, bX, dS, bQ, bA, bT, aC, bU, bP, cF, bY, aU, aV, aX, bV, dD, cP, bO, aY, aN, aK, bH, aD, dC, dW, aJ, aI, aT, aF, cY, aE, cL, bW, bE, aO, cM, bZ, aA, dF, cU, cV, cC, dK, cD, dM, dU, cN, eF, eN, bN, aS, dZ, bS, aQ, bM, dI, dA, cS, cO, cR, bK, bL, cX, dO, cQ, dH, cZ, e1]
 refine (Qi (by omega) hk.1 hk.2).mono ?_
 rintro r w2 ⟨rfl, hw⟩
 rw [hw]; clear hw w2
 rw [if_neg (by omega)]
 simp (disch := omega) only [eY, gN, dX, stepR_skip, fO, gI, fP, gJ, gC, gE, gR, fZ, eU, fX, fU, gD, fR, fN, fW, fS, fV, gK, gG, fQ, fC, fY, gA, fL, iP, iS, iL, iT, iR, iM, iN, iQ, iO, eP, Result.ok.injEq, Next.value.injEq, true_and, and_true, fI, fJ, gB, fM, gH, gQ, ZO, fD, fF, fG, fE, eZ, eT, fB, eX, eQ, eH, if_true, if_false, ZM, ZS, ZN, ZP, ZR, ZQ, ZL, ZK, eA, dV, aB, dE, dJ, cB, eB, eS, eD, dN, eE, fA, dG, eI, bR, dL, bC, dR, aL, aH, eK, aZ, cI, eJ, aG, eL, dQ, aR, bD, eC, bG, bF, bJ, aP, aM, cG, fH, dY, cJ, cA, dB, cH, dT, bB, eM, bX, dS, bQ, bA, bT, aC, bU, bP, cF, bY, aU, aV, aX, bV, dD, cP, bO, aY, aN, aK, bH, aD, dC, dW, aJ, aI, aT, aF, cY, aE, cL, bW, bE, aO, cM, bZ, aA, dF, cU, cV, cC, dK, cD, dM, dU, cN, eF, eN, bN, aS, dZ, bS, aQ, bM, dI, dA, cS, cO, cR, bK, bL, cX, dO, cQ, dH, cZ, n1, e1, e2]
 refine rS fun w2 o2 x2 s2 => ?_
 obtain ⟨p, hp⟩ : ∃ p, p = w.heap.size := ⟨_, rfl⟩
 obtain ⟨q, hq⟩ : ∃ q, q = w1.heap.size := ⟨_, rfl⟩
 rw [<- hp] at o1 ⊢
 rw [<- hq] at o2 ⊢
 refine qD o2 rfl (by simp [one]) (by simp) fun w3 o3 x3 s3 => ?_
 have o3 : jH w3 q [.int .u64 (f.length : Nat), .int .u32 (k : Nat), .slice none 0 0] := o3
 have o13 := (o1.ext x2 (fun h => h)).ext x3 (show ¬ p = q by omega)
 have x03 : gT w w3 jL := (x1.seq x2).trans x3 fun y hy h => by omega
 have z3 : w3.heap.size = q + 1 := by omega
 unfold Hm Ha GY GP Hh
 simp (disch := omega) only [eY, gN, dX, stepR_skip, fO, gI, fP, gJ, gC, gE, gR, fZ, eU, fX, fU, gD, fR, fN, fW, fS, fV, gK, gG, fQ, fC, fY, gA, fL, iP, iS, iL, iT, iR, iM, iN, iQ, iO, eP, Result.ok.injEq, Next.value.injEq, true_and, and_true, fI, fJ, gB, fM, gH, gQ, ZO, fD, fF, fG, fE, eZ, eT, fB, eX, eQ, eH, if_true, if_false, ZM, ZS, ZN, ZP, ZR, ZQ, ZL, ZK, eA, dV, aB, dE, dJ, cB, eB, eS, eD, dN, eE, fA, dG, eI, bR, dL, bC, dR, aL, aH, eK, aZ, cI, eJ, aG, eL, dQ, aR, bD, eC, bG, bF, bJ, aP, aM, cG, fH, dY, cJ, cA, dB, cH, dT, bB, eM, bX, dS, bQ, bA, bT, aC, bU, bP, cF, bY, aU, aV, aX, bV, dD, cP, bO, aY, aN, aK, bH, aD, dC, dW, aJ, aI, aT, aF, cY, aE, cL, bW, bE, aO, cM, bZ, aA, dF, cU, cV, cC, dK, cD, dM, dU, cN, eF, eN, bN, aS, dZ, bS, aQ, bM, dI, dA, cS, cO, cR, bK, bL, cX, dO, cQ, dH, cZ]
 refine kC.rule (fun m (t : adS) w' => ∃ (i : Nat) (lv : adS), m = mF f.length k - i /\ i <= mF f.length k /\ t = .int .i64 (i : Nat) /\ jH w' q [.int .u64 (f.length : Nat), .int .u32 (k : Nat), lv] /\ zF w' (q + 1) 32 lv i (UY (Rm f k i)) /\ gT w3 w' (fun y => y = q ∨ q < y)) (mF f.length k)
  ⟨0, _, rfl, by omega, rfl, o3, zF.nil _ _ _, gT.refl _ _⟩ ?_
 clear o3
 rintro m t w4 ⟨i, lv, rfl, hi, rfl, o4, hs, x4⟩
 unfold CB
 have x04 : gT w w4 jL := x03.trans x4 fun y hy h => by omega
 have z4 := x4.size
 by_cases hlt : i < mF f.length k
 .have d1 : decide ((i : Int) < ((mF f.length k : Nat) : Int)) = true := by simp; omega
  have c0 := o4.cell (off := 0)
  simp only [ZK] at c0
  simp (disch := omega) only [eY, gN, dX, stepR_skip, fO, gI, fP, gJ, gC, gE, gR, fZ, eU, fX, fU, gD, fR, fN, fW, fS, fV, gK, gG, fQ, fC, fY, gA, fL, iP, iS, iL, iT, iR, iM, iN, iQ, iO, eP, Result.ok.injEq, Next.value.injEq, true_and, and_true, fI, fJ, gB, fM, gH, gQ, ZO, fD, fF, fG, fE, eZ, eT, fB, eX, eQ, eH, if_true, if_false, ZM, ZS, ZN, ZP, ZR, ZQ, ZL, ZK, eA, dV, aB, dE, dJ, cB, eB, eS, eD, dN, eE, fA, dG, eI, bR, dL, bC, dR, aL, aH, eK, aZ, cI, eJ, aG, eL, dQ, aR, bD, eC, bG, bF, bJ, aP, aM, cG, fH, dY, cJ, cA, dB, cH, dT, bB, eM, bX, dS, bQ, bA, bT, aC, bU, bP, cF, bY, aU, aV, aX, bV, dD, cP, bO, aY, aN, aK, bH, aD, dC, dW, aJ, aI, aT, aF, cY, aE, cL, bW, bE, aO, cM, bZ, aA, dF, cU, cV, cC, dK, cD, dM, dU, cN, eF, eN, bN, aS, dZ, bS, aQ, bM, dI, dA, cS, cO, cR, bK, bL, cX, dO, cQ, dH, cZ, d1, c0]
  refine (NU (by omega) hk.1 hk.2 (by omega) hlt).mono ?_
  rintro r w5 ⟨rfl, hw⟩
  rw [hw]; clear hw w5
  have hki := (vQ (show 0 < k by omega)).1 hlt
  have hse := CI hki
  obtain ⟨P, hP⟩ : ∃ P, P = k * i := ⟨_, rfl⟩
  obtain ⟨N, hN⟩ : ∃ N, N = Iq f.length k i := ⟨_, rfl⟩
  rw [<- hP, <- hN] at hse ⊢
  have e3 : IntKind.u64.wrap ((N : Nat) : Int) = ((N : Nat) : Int) := fJ (by omega) (by omega)
  have e4 : (P : Int) + (N : Int) = ((P + N : Nat) : Int) := by omega
  have od := kI o4
  have c2 := od.cell (off := 2)
  simp only [ZK, ZL] at c2
  have x04d : gT w (dr w4) jL := x04.seq (gT.dr _ _)
  simp (disch := omega) only [eY, gN, dX, stepR_skip, fO, gI, fP, gJ, gC, gE, gR, fZ, eU, fX, fU, gD, fR, fN, fW, fS, fV, gK, gG, fQ, fC, fY, gA, fL, iP, iS, iL, iT, iR, iM, iN, iQ, iO, eP, Result.ok.injEq, Next.value.injEq, true_and, and_true, fI, fJ, gB, fM, gH, gQ, ZO, fD, fF, fG, fE, eZ, eT, fB, eX, eQ, eH, if_true, if_false, ZM, ZS, ZN, ZP, ZR, ZQ, ZL, ZK, eA, dV, aB, dE, dJ, cB, eB, eS, eD, dN, eE, fA, dG, eI, bR, dL, bC, dR, aL, aH, eK, aZ, cI, eJ, aG, eL, dQ, aR, bD, eC, bG, bF, bJ, aP, aM, cG, fH, dY, cJ, cA, dB, cH, dT, bB, eM, bX, dS, bQ, bA, bT, aC, bU, bP, cF, bY, aU, aV, aX, bV, dD, cP, bO, aY, aN, aK, bH, aD, dC, dW, aJ, aI, aT, aF, cY, aE, cL, bW, bE, aO, cM, bZ, aA, dF, cU, cV, cC, dK, cD, dM, dU, cN, eF, eN, bN, aS, dZ, bS, aQ, bM, dI, dA, cS, cO, cR, bK, bL, cX, dO, cQ, dH, cZ, n1, c2, e3, e4]
  have hbd : Bs (dr w4) (.slice (jR ba bc P 1) (P + N - P) (bc - P)) (vV f.length k i f) := by
   have := Sl.mid (hb.ext x04d (jI _)) (i := P) (j := P + N) (by omega) (by omega)
   rw [<- acE, <- acR, abF] at this
   rw [abF]
   unfold vV
   rw [<- hP, <- hN]
   exact this
  refine (SK (hg.ext x04d) hbd (by have := GR f.length k i f; omega)).mono ?_
  rintro r w5 ⟨rfl, x5⟩
  have o5 := od.ext x5 (fun h => h)
  have c5 := o5.cell (off := 2)
  simp only [ZK, ZL] at c5
  have hll : (gZ (vV f.length k i f)).length = 32 := wT _
  simp (disch := omega) only [eY, gN, dX, stepR_skip, fO, gI, fP, gJ, gC, gE, gR, fZ, eU, fX, fU, gD, fR, fN, fW, fS, fV, gK, gG, fQ, fC, fY, gA, fL, iP, iS, iL, iT, iR, iM, iN, iQ, iO, eP, Result.ok.injEq, Next.value.injEq, true_and, and_true, fI, fJ, gB, fM, gH, gQ, ZO, fD, fF, fG, fE, eZ, eT, fB, eX, eQ, eH, if_true, if_false, ZM, ZS, ZN, ZP, ZR, ZQ, ZL, ZK, eA, dV, aB, dE, dJ, cB, eB, eS, eD, dN, eE, fA, dG, eI, bR, dL, bC, dR, aL, aH, eK, aZ, cI, eJ, aG, eL, dQ, aR, bD, eC, bG, bF, bJ, aP, aM, cG, fH, dY, cJ, cA, dB, cH, dT, bB, eM, bX, dS, bQ, bA, bT, aC, bU, bP, cF, bY, aU, aV, aX, bV, dD, cP, bO, aY, aN, aK, bH, aD, dC, dW, aJ, aI, aT, aF, cY, aE, cL, bW, bE, aO, cM, bZ, aA, dF, cU, cV, cC, dK, cD, dM, dU, cN, eF, eN, bN, aS, dZ, bS, aQ, bM, dI, dA, cS, cO, cR, bK, bL, cX, dO, cQ, dH, cZ, c5]
  refine Ps (cells := ((gZ (vV f.length k i f)).map nU).toArray) (by decide) (by decide) ?_ fun w6 o6 x6 s6 => ?_
  .exact VL hll
  rw [aaP] at o6
  have o65 := o5.ext x6 (fun h => h)
  have c6 := o65.cell (off := 2)
  simp only [ZK, ZL] at c6
  simp (disch := omega) only [eY, gN, dX, stepR_skip, fO, gI, fP, gJ, gC, gE, gR, fZ, eU, fX, fU, gD, fR, fN, fW, fS, fV, gK, gG, fQ, fC, fY, gA, fL, iP, iS, iL, iT, iR, iM, iN, iQ, iO, eP, Result.ok.injEq, Next.value.injEq, true_and, and_true, fI, fJ, gB, fM, gH, gQ, ZO, fD, fF, fG, fE, eZ, eT, fB, eX, eQ, eH, if_true, if_false, ZM, ZS, ZN, ZP, ZR, ZQ, ZL, ZK, eA, dV, aB, dE, dJ, cB, eB, eS, eD, dN, eE, fA, dG, eI, bR, dL, bC, dR, aL, aH, eK, aZ, cI, eJ, aG, eL, dQ, aR, bD, eC, bG, bF, bJ, aP, aM, cG, fH, dY, cJ, cA, dB, cH, dT, bB, eM, bX, dS, bQ, bA, bT, aC, bU, bP, cF, bY, aU, aV, aX, bV, dD, cP, bO, aY, aN, aK, bH, aD, dC, dW, aJ, aI, aT, aF, cY, aE, cL, bW, bE, aO, cM, bZ, aA, dF, cU, cV, cC, dK, cD, dM, dU, cN, eF, eN, bN, aS, dZ, bS, aQ, bM, dI, dA, cS, cO, cR, bK, bL, cX, dO, cQ, dH, cZ, c6]
  have z5 := x5.size
  have z6 := x6.size
  have zd : (dr w4).heap.size = w4.heap.size := rfl
  refine wV ((hs.ext ((gT.dr w4 jL).seq x5) (fun _ _ h => h)).ext x6 (fun _ _ h => h)) (o6.cl (off := 0) (n := 1) (by rw [ZT, hll]) (fun j hj => by rw [ZS])) (EV _) (by omega) (by omega) fun v7 w7 o7 x7 => ?_
  have o75 := o65.ext x7 (by omega)
  refine J5 o75 (by rcases o7.2 with ⟨rfl, _⟩ | ⟨_, _, _, rfl, _⟩ <;> rfl) (by simp) fun w8 o8 x8 s8 => ?_
  simp only [Z7, aaR] at o8
  have o78 := o7.ext x8 (fun b hb h => by omega)
  refine ⟨mF f.length k - (i + 1), by omega, i + 1, v7, rfl, by omega, rfl, o8, ?_, ?_⟩
  .rw [Ur]
   show zF w8 (q + 1) 32 v7 (i + 1) (List.flatMap _ (Rm f k i ++ [gZ (vV f.length k i f)]))
   rw [List.flatMap_append, List.flatMap_singleton]
   exact o78
  .refine (((x4.seq (gT.dr _ _)).seq (x5.mono fun _ _ h => h.elim)).seq (x6.mono fun _ _ h => h.elim)).seq (x7.mono fun y _ h => .inr (by omega)) |>.seq (x8.mono fun y _ h => .inl h)
 .have d1 : decide ((i : Int) < ((mF f.length k : Nat) : Int)) = false := by simp; omega
  obtain rfl : i = mF f.length k := by omega
  unfold CC
  have lm := qI (off := 0) o4 (by simp)
  have lm : (fK 28 (.pointer (some ⟨q, 0, none⟩))).run pg w4 = .ok (.value (.agg #[.int .u64 (f.length : Nat), .int .u32 (k : Nat), lv])) w4 := lm
  simp (disch := omega) only [eY, gN, dX, stepR_skip, fO, gI, fP, gJ, gC, gE, gR, fZ, eU, fX, fU, gD, fR, fN, fW, fS, fV, gK, gG, fQ, fC, fY, gA, fL, iP, iS, iL, iT, iR, iM, iN, iQ, iO, eP, Result.ok.injEq, Next.value.injEq, true_and, and_true, fI, fJ, gB, fM, gH, gQ, ZO, fD, fF, fG, fE, eZ, eT, fB, eX, eQ, eH, if_true, if_false, ZM, ZS, ZN, ZP, ZR, ZQ, ZL, ZK, eA, dV, aB, dE, dJ, cB, eB, eS, eD, dN, eE, fA, dG, eI, bR, dL, bC, dR, aL, aH, eK, aZ, cI, eJ, aG, eL, dQ, aR, bD, eC, bG, bF, bJ, aP, aM, cG, fH, dY, cJ, cA, dB, cH, dT, bB, eM, bX, dS, bQ, bA, bT, aC, bU, bP, cF, bY, aU, aV, aX, bV, dD, cP, bO, aY, aN, aK, bH, aD, dC, dW, aJ, aI, aT, aF, cY, aE, cL, bW, bE, aO, cM, bZ, aA, dF, cU, cV, cC, dK, cD, dM, dU, cN, eF, eN, bN, aS, dZ, bS, aQ, bM, dI, dA, cS, cO, cR, bK, bL, cX, dO, cQ, dH, cZ, d1, lm]
  have lv1 : one lv = true := by rcases hs.2 with ⟨rfl, _⟩ | ⟨_, _, _, rfl, _⟩ <;> rfl
  refine qD (o13.ext x4 (by omega)) rfl (by simp [one]; exact lv1) (by simp) fun w5 o5 x5 s5 => ?_
  refine JI o5 (by simp [nE]) ?_
  rw [hRR]
  refine ⟨lv, rfl, ?_, x04.trans x5 fun y hy h => by omega⟩
  rw [U7, VR]
  have o' := hs.ext x5 (fun b hb h => by omega)
  refine ⟨o'.1, ?_⟩
  rcases o'.2 with h | ⟨b, c, rest, h1, h2, h3⟩
  .exact .inl h
  .exact .inr ⟨b, c, rest, h1, by omega, h3⟩
end Go.Proofs.YteelnmpbnaohpaaDoor
namespace Go.Proofs.YteelnmpbnaohpaaDoor
open Go Go.En Go.Pu
section
variable {lf : List UInt8 -> List UInt8} {cf : List UInt8 -> Nat}
theorem QP.bk {f : List UInt8} {k : Nat} {F0 : Option (List UInt8)} {recs : List (Nat × Nat)} {P : List UInt8} {S : kD} {s : oQ} (h : QP lf cf f k F0 recs P S s) {n : Nat} (hn : n <= 100) : Ec n S := by
 have h1 := h.rm
 have h2 := h.rb
 refine ⟨⟨by rw [h.calm.left]; omega, by omega, by rw [h.un]; simp, h2⟩, by omega, by rw [h.un]; simp; omega⟩
theorem QP.file {f : List UInt8} {k : Nat} {F0 : Option (List UInt8)} {recs : List (Nat × Nat)} {P : List UInt8} {S : kD} {s : oQ} (h : QP lf cf f k F0 recs P S s) {n : ByteArray} {b : List UInt8} (hb : jF n S.seen = some b) (hs : iY S.seen <= 1000000) : b.length <= 1000000 := by
 have h1 := CK (k := n) (c := S.seen)
 rw [hb] at h1
 have h1 : b.length <= iY S.seen := h1
 omega
theorem LO (W : List Bool) (n i : Nat) : (pJ [] W n).getD i false = false := by
 unfold pJ
 rw [ZW, aaD]
 by_cases h : i < n
 .rw [List.getElem?_range h] <;> rfl
 .rw [aaK (by simp; omega)] <;> rfl
theorem RZ {f : List UInt8} {k : Nat} {F0 : Option (List UInt8)} {S : kD} (h : Calm S) (hk : 0 < k) (gL : jF (jJ sF) S.seen = none) (gP : jF (iC sF) S.seen = none) (gF : jF sF S.seen = F0) (nd : (S.seen.map (·.1)).Nodup) (sz : iY S.seen = (F0.getD []).length)
 (rb : 0 <= S.room /\ S.room <= 16777216) (hf : Pe lf f k S = false) (hr : ¬ S.room < ((iY S.seen + 13 + f.length : Nat) : Int)) :
 ∃ S' s', Du lf cf S sF (kL lf f k) = (S', some s', 0) /\ QP lf cf f k F0 [(1, 1)] (List.replicate f.length 0) S' s' /\ S'.room = S.room /\ s'.epoch = 1 /\ ∀ i, s'.hv.getD i false = false := by
 have hL : (jF (jJ sF) S.seen).getD [] = nH cf [] := by rw [gL] <;> rfl
 obtain ⟨S1, he, hS1⟩ := (Um (f := f) (k := k) h hL (by simp) (by show (0 : Nat) < _; omega) (by omega) hf gP).2 hr
 have hsd := Sa (S := S) hL
 have s1 : S1.seen = pH (iC sF) (List.replicate f.length 0) (KQ cf [] S).seen := by rw [hS1]
 have sD : (KQ cf [] S).seen = pH (jJ sF) (nH cf [(1, 1)]) S.seen := rfl
 have r1 : S1.room = S.room := by rw [hS1] <;> rfl
 have hz := rZ (iC sF) (List.replicate f.length (0 : UInt8)) (KQ cf [] S).seen
 rw [Lr, gP, Option.getD_none, abR, aaF, hsd] at hz
 refine ⟨_, _, he, ⟨⟨?_, ?_⟩, rfl, rfl, rfl, hf, ?_, rfl, ?_, ?_, ?_, ?_, ?_, ?_, ?_, ?_, ?_, ?_, ?_, rfl, ?_⟩, r1, rfl, fun i => ?_⟩
 .show S1.down = false
  rw [hS1]; exact h.up
 .show S1.left = -1
  rw [hS1]; exact h.left
 .show (pJ [] _ _).length = _
  unfold pJ; simp
 .show jF sF S1.seen = F0
  rw [s1, lR V7, sD, lR XW, gF]
 .show jF (iC sF) S1.seen = _
  rw [s1, yX]
 .show jF (jJ sF) S1.seen = _
  rw [s1, lR (Ne.symm UU), sD, yX]
 .simp
 .intro r hr
  rw [acY] at hr
  subst hr
  exact ⟨.inl rfl, by show 1 < _; omega⟩
 .intro i hi hv
  have hv : (pJ [] _ _).getD i false = true := hv
  rw [LO] at hv
  cases hv
 .intro i hi
  show (pJ [] _ _).getD i false = true ↔ _
  rw [LO]
  constructor
  .intro h; cases h
  .intro h
   rw [acY] at h
   exact absurd (congrArg Prod.fst h) (show ¬ (2 : Nat) = 1 by decide)
 .show [((1 : Nat), (1 : Nat))].length = 1 + (pJ [] _ _).count true
  have : (pJ [] (jB lf (kL lf f k) []) (mF f.length k)).count true = 0 := by
   rw [List.count_eq_zero]
   intro hm
   obtain ⟨i, hi, e⟩ := acU hm
   have := LO (jB lf (kL lf f k) []) (mF f.length k) i
   rw [ZW, ZU hi, e] at this
   cases this
  rw [this] <;> rfl
 .show iY S1.seen = _
  rw [s1]
  simp only [acB]
  omega
 .show (iY S1.seen : Int) <= S1.room
  rw [s1, r1]
  omega
 .show (S1.seen.map (·.1)).Nodup
  rw [s1, sD]; exact C4 (C4 nd)
 .show 0 <= S1.room /\ _
  rw [r1]; exact rb
 .exact LO _ _ i
end
end Go.Proofs.YteelnmpbnaohpaaDoor
namespace Go.Proofs.YteelnmpbnaohpaaDoor
open Go Go.En Go.Pu
set_option maxRecDepth 4000
def Xc (w0 : adR) (N : Nat -> Prop) : Nat -> Prop := fun y => w0.heap.size <= y /\ ¬ N y
def zC (w0 : adR) (N : Nat -> Prop) (w : adR) (p : Nat) (S : kD) : Prop := ∃ X D, lX w p X D S /\ (∀ b, X b -> w0.heap.size <= b /\ ¬ N b) /\ gT w0 w jL /\ ∀ b, N b -> D b
def Hs (w0 : adR) (N : Nat -> Prop) (w : adR) (q p : Nat) (S : kD) (s : oQ) : Prop := ∃ X D Y lv hv, jZ w0.heap.size w q p X D Y S s lv hv /\ gT w0 w jL /\ ∀ b, N b -> D b /\ ¬ (X b ∨ Y b)
theorem Hs.new {w0 : adR} {N : Nat -> Prop} {w w' : adR} {q p : Nat} {S : kD} {s : oQ} (h : Hs w0 N w q p S s) (x : gT w w' jL) : Hs w0 N w' q p S s := by
 obtain ⟨X, D, Y, lv, hv, h, x0, hN⟩ := h
 exact ⟨X, D, Y, lv, hv, h.new x, x0.seq x, hN⟩
theorem zC.new {w0 : adR} {N : Nat -> Prop} {w w' : adR} {p : Nat} {S : kD} (h : zC w0 N w p S) (x : gT w w' jL) : zC w0 N w' p S := by
 obtain ⟨X, D, h, hX, x0, hN⟩ := h
 exact ⟨X, D, h.new x, hX, x0.seq x, hN⟩
theorem Hs.x {w0 : adR} {N : Nat -> Prop} {w : adR} {q p : Nat} {S : kD} {s : oQ} (h : Hs w0 N w q p S s) : gT w0 w jL := by
 obtain ⟨_, _, _, _, _, _, x0, _⟩ := h; exact x0
theorem zC.x {w0 : adR} {N : Nat -> Prop} {w : adR} {p : Nat} {S : kD} (h : zC w0 N w p S) : gT w0 w jL := by
 obtain ⟨_, _, _, _, x0, _⟩ := h; exact x0
theorem Hs.lt {w0 : adR} {N : Nat -> Prop} {w : adR} {q p : Nat} {S : kD} {s : oQ} (h : Hs w0 N w q p S s) : ∀ b, N b -> b < w.heap.size := by
 obtain ⟨X, D, Y, lv, hv, h, x0, hN⟩ := h
 exact fun b hb => lX.lt h.dsk b (hN b hb).1
theorem zC.lt {w0 : adR} {N : Nat -> Prop} {w : adR} {p : Nat} {S : kD} (h : zC w0 N w p S) : ∀ b, N b -> b < w.heap.size := by
 obtain ⟨X, D, h, hX, x0, hN⟩ := h
 exact fun b hb => lX.lt h b (hN b hb)
theorem Hs.add {w0 : adR} {N : Nat -> Prop} {w w' : adR} {q p b : Nat} {S : kD} {s : oQ} (h : Hs w0 N w q p S s) (x : gT w w' jL) (hb : w.heap.size <= b) (hb' : b < w'.heap.size) : Hs w0 (fun y => N y ∨ y = b) w' q p S s := by
 obtain ⟨X, D, Y, lv, hv, h, x0, hN⟩ := h
 have hlt := jZ.lt h
 have h1 := h.new x
 have z := x.size
 refine ⟨X, fun y => D y ∨ y = b, Y, lv, hv, ⟨h1.glob, h1.g0, h1.lo, h1.hi, h.dsk.more x hb hb', h1.yq, fun y hy => ⟨.inl (h.yd y hy).1, (h.yd y hy).2⟩, h1.own, h1.man, h1.lv, h1.hv, h1.ep, h1.lg, h1.hl, h1.nl⟩, x0.seq x, fun y hy => ?_⟩
 rcases hy with hy | hy
 .exact ⟨.inl (hN y hy).1, (hN y hy).2⟩
 .exact ⟨.inr hy, fun hx => by have := hlt y hx; omega⟩
theorem zC.add {w0 : adR} {N : Nat -> Prop} {w w' : adR} {p b : Nat} {S : kD} (h : zC w0 N w p S) (x : gT w w' jL) (hb : w.heap.size <= b) (hb' : b < w'.heap.size) : zC w0 (fun y => N y ∨ y = b) w' p S := by
 obtain ⟨X, D, h, hX, x0, hN⟩ := h
 refine ⟨X, fun y => D y ∨ y = b, h.more x hb hb', fun y hy => ⟨(hX y hy).1, fun hn => hn.elim (hX y hy).2 fun e => ?_⟩, x0.seq x, fun y hy => hy.imp (hN y) id⟩
 have := lX.lt h y (lX.xd' h y hy)
 omega
theorem Hs.turn {w0 : adR} {N : Nat -> Prop} {w w' : adR} {q p b : Nat} {S : kD} {s : oQ} {l : List Bool} (h : Hs w0 N w q p S s) (o : jH w b (l.map Value.bool)) (hb : N b) (hb0 : w0.heap.size <= b) (x : gT w w' (fun y => y = b)) : Hs w0 N w' q p S s := by
 obtain ⟨X, D, Y, lv, hv, h, x0, hN⟩ := h
 refine ⟨X, D, Y, lv, hv, h.ext x (fun y hy => ?_) (fun hi => ?_), x0.trans x fun y hy hm => by omega, hN⟩
 .subst hy
  exact ⟨(hN _ hb).1, fun hx => (hN _ hb).2 (.inl hx), fun hx => (hN _ hb).2 (.inr hx), hb0⟩
 .obtain ⟨a, c, hlv, hl, hh⟩ := h.lv.1
  subst hlv
  unfold wC at hi
  split at hi
  .rename_i e
   simp only [Value.slice.injEq] at e
   obtain ⟨rfl, e2, rfl⟩ := e
   obtain ⟨b', off, he, h2⟩ := hh (by omega)
   cases he
   have hi : b' = b := hi
   subst hi
   have h3 := h2 0 (by rw [hl]; omega)
   rw [o.cell] at h3
   have h4 : (UY s.man.leaves)[0]? = (((s.man.leaves.getD 0 []).map nU))[0]? := Qy (i := 0) (j := 0) h.man.len (by omega) (by omega)
   rw [h4, aaD, aaD] at h3
   have hm0 : (s.man.leaves.getD 0 []).length = 32 := h.man.len _ (by rw [ZW, ZU (by omega)]; exact abG _)
   rw [ZU (show 0 < (s.man.leaves.getD 0 []).length by omega)] at h3
   cases hq : l[off + 0]? with
   | none => rw [hq] at h3; cases h3
   | some z => rw [hq] at h3; simp [nU] at h3
  .exact hi
theorem zC.post {w0 : adR} {N : Nat -> Prop} {w w' : adR} {p : Nat} {X D : Nat -> Prop} {S S' : kD} (h : lX w p X D S) (hX : ∀ b, X b -> w0.heap.size <= b /\ ¬ N b) (x0 : gT w0 w jL) (hN : ∀ b, N b -> D b) (hp : Bw w p X D S' w') : zC w0 N w' p S' /\ gT w w' (Xc w0 N) := by
 obtain ⟨X', D', h1, h2, h3, x⟩ := hp
 have z := x0.size
 refine ⟨⟨X', D', h1, fun b hb => ?_, x0.trans x fun y hy hm => by have := (hX y hm).1; omega, fun b hb => h3 b (hN b hb)⟩, x.mono fun b _ hb => hX b hb⟩
 rcases h2 b hb with h4 | h4
 .exact hX b h4
 .exact ⟨by omega, fun hn => by have := lX.lt h b (hN b hn); omega⟩
theorem Hs.post {w0 : adR} {N : Nat -> Prop} {w w' : adR} {q p : Nat} {X D Y : Nat -> Prop} {S S' : kD} {s s' : oQ} {lv hv : adS} (h : jZ w0.heap.size w q p X D Y S s lv hv) (x0 : gT w0 w jL) (hN : ∀ b, N b -> D b /\ ¬ (X b ∨ Y b)) (hp : iK w0.heap.size w q p X D Y S' s' w') : Hs w0 N w' q p S' s' /\ gT w w' (Xc w0 N) := by
 obtain ⟨X', D', Y', lv', hv', h', h1, h2, h3, x⟩ := hp
 have z := x0.size
 refine ⟨⟨X', D', Y', lv', hv', h', x0.trans x fun y hy hm => by have := h.lo y hm; omega, fun b hb => ⟨h2 b (hN b hb).1, fun hx => ?_⟩⟩, x.mono fun b _ hb => ⟨h.lo b hb, fun hn => (hN b hn).2 hb⟩⟩
 have hlt := lX.lt h.dsk b (hN b hb).1
 rcases hx with hx | hx
 .rcases h1 b hx with h | h
  .exact (hN b hb).2 (.inl h)
  .omega
 .rcases h3 b hx with h | h
  .exact (hN b hb).2 (.inr h)
  .omega
theorem Te {w0 : adR} {N : Nat -> Prop} {w w1 : adR} {q p : Nat} {S : kD} {s : oQ} {i : Int} {bv : adS} {b : List UInt8} (h : Hs w0 N w q p S s) (x : gT w w1 jL) (hB : Ec 2 S) (hlen : s.hv.length = s.man.leaves.length) (hb : Bs w1 bv b) (hbl : b.length <= 1000000)
 (hbn : ¬ wC bv (fun y => w0.heap.size <= y /\ y < w.heap.size)) (hlg : s.log + 13 <= 1000000000) (hi : -9223372036854775808 <= i /\ i <= 9223372036854775807) :
 gS pg jQ #[dP q, .int .i64 i, bv] w1 (fun r w' => r = .int .i64 (By gZ iI S s i b).2.2 /\ Hs w0 N w' q p (By gZ iI S s i b).1 (By gZ iI S s i b).2.1 /\ gT w1 w' (Xc w0 N)) := by
 obtain ⟨X, D, Y, lv, hv, h, x0, hN⟩ := h
 have hlt := jZ.lt h
 refine (Vt (h.new x) hB hlen hb hbl (fun hi => hbn (zJ hi fun y hy => ⟨h.lo y hy, hlt y hy⟩)) hlg hi).mono ?_
 rintro r w' ⟨rfl, hp⟩
 exact ⟨rfl, Hs.post (h.new x) (x0.seq x) hN hp⟩
theorem NN {w0 : adR} {N : Nat -> Prop} {w : adR} {q p : Nat} {S : kD} {s : oQ} (h : Hs w0 N w q p S s) (hB : Ec 2 S) (hbp : ∀ b, jF (iC s.nm) S.seen = some b -> b.length <= 1000000) :
 gS pg lW #[dP q] w (fun r w' => r = .int .i64 (mN gZ S s).2.2 /\ Hs w0 N w' q p (mN gZ S s).1 (mN gZ S s).2.1 /\ gT w w' (Xc w0 N)) := by
 obtain ⟨X, D, Y, lv, hv, h, x0, hN⟩ := h
 refine (Vb h hB hbp).mono ?_
 rintro r w' ⟨rfl, hp⟩
 exact ⟨rfl, Hs.post h x0 hN hp⟩
theorem T4 {w0 : adR} {N : Nat -> Prop} {w : adR} {p : Nat} {S : kD} {n : ByteArray} (h : zC w0 N w p S) (hB : Ec 0 S) (hd : S.down = false) :
 gS pg lE #[dP p, .string n] w (fun r w' => ((jF n S.seen = none /\ r = .tuple #[.slice none 0 0, .int .i64 21]) ∨ ∃ b v, jF n S.seen = some b /\ r = .tuple #[v, .int .i64 0] /\ zF w' w.heap.size 1 v b.length (b.map nU)) /\ gT w w' jL) := by
 obtain ⟨X, D, h, hX, x0, hN⟩ := h
 refine (QF h hB.bd (fun b hb => hB.file hb)).mono ?_
 rintro r w' ⟨hr, x⟩
 refine ⟨?_, x⟩
 rcases hr with ⟨h1, _⟩ | ⟨_, h2, h3⟩ | ⟨_, b, v, h2, h3, h4⟩
 .rw [hd] at h1; cases h1
 .exact .inl ⟨h2, h3⟩
 .exact .inr ⟨b, v, h2, h3, h4⟩
theorem Hs.dses {w0 : adR} {N : Nat -> Prop} {w : adR} {q p : Nat} {S : kD} {s : oQ} (h : Hs w0 N w q p S s) : zC w0 N w p S := by
 obtain ⟨X, D, Y, lv, hv, h, x0, hN⟩ := h
 exact ⟨X, D, h.dsk, fun b hb => ⟨h.lo b (.inl hb), fun hn => (hN b hn).2 (.inl hb)⟩, x0, fun b hb => (hN b hb).1⟩
theorem R6 {w0 : adR} {N : Nat -> Prop} {w : adR} {q p : Nat} {S : kD} {s : oQ} {n : ByteArray} (h : Hs w0 N w q p S s) (hB : Ec 0 S) (hd : S.down = false) :
 gS pg lE #[dP p, .string n] w (fun r w' => ((jF n S.seen = none /\ r = .tuple #[.slice none 0 0, .int .i64 21]) ∨ ∃ b v, jF n S.seen = some b /\ r = .tuple #[v, .int .i64 0] /\ zF w' w.heap.size 1 v b.length (b.map nU)) /\ Hs w0 N w' q p S s /\ gT w w' jL) := by
 refine (T4 h.dses hB hd).mono ?_
 rintro r w' ⟨hr, x⟩
 exact ⟨hr, h.new x, x⟩
theorem Wl {w0 : adR} {N : Nat -> Prop} {w : adR} {q p : Nat} {S : kD} {s : oQ} (h : Hs w0 N w q p S s) : gS pg oY #[dP q] w (fun r w' => r = .bool s.fin /\ w' = w) := by
 obtain ⟨X, D, Y, lv, hv, h, x0⟩ := h
 exact VV h
theorem PK {w0 : adR} {N : Nat -> Prop} {w : adR} {q p : Nat} {S : kD} {s : oQ} (h : Hs w0 N w q p S s) : gS pg mI #[dP q] w (fun r w' => r = .int .u64 (s.epoch : Nat) /\ w' = w) := by
 obtain ⟨X, D, Y, lv, hv, h, x0⟩ := h
 exact TU h
theorem QN {v : adS} {l : List Bool} {w : adR} (h : Sl w v (l.map Value.bool)) (hl : l.length <= 1000000) :
 gS pg oF #[v] w (fun r w' => zF w' w.heap.size 1 r l.length (l.map Value.bool) /\ gT w w' jL) := by
 refine Ed ?_
 have h1 := h
 obtain ⟨a, n, c, rfl, hn, hc, hh⟩ := h
 rw [ZT] at hn
 unfold BL qR
 cases a with
 | none =>
   have h0 : l = [] := by
    cases l with
    | nil => rfl
    | cons x l => obtain ⟨b, off, h, _⟩ := hh (by simp at hn; omega); cases h
   subst h0
   simp (disch := omega) only [eY, gN, dX, stepR_skip, fO, gI, fP, gJ, gC, gE, gR, fZ, eU, fX, fU, gD, fR, fN, fW, fS, fV, gK, gG, fQ, fC, fY, gA, fL, iP, iS, iL, iT, iR, iM, iN, iQ, iO, eP, Result.ok.injEq, Next.value.injEq, true_and, and_true, fI, fJ, gB, fM, gH, gQ, ZO, fD, fF, fG, fE, eZ, eT, fB, eX, eQ, eH, if_true, if_false, ZM, ZS, ZN, ZP, ZR, ZQ, ZL, ZK, eA, dV, aB, dE, dJ, cB, eB, eS, eD, dN, eE, fA, dG, eI, bR, dL, bC, dR, aL, aH, eK, aZ, cI, eJ, aG, eL, dQ, aR, bD, eC, bG, bF, bJ, aP, aM, cG, fH, dY, cJ, cA, dB, cH, dT, bB, eM, bX, dS, bQ, bA, bT, aC, bU, bP, cF, bY, aU, aV, aX, bV, dD, cP, bO, aY, aN, aK, bH, aD, dC, dW, aJ, aI, aT, aF, cY, aE, cL, bW, bE, aO, cM, bZ, aA, dF, cU, cV, cC, dK, cD, dM, dU, cN, eF, eN, bN, aS, dZ, bS, aQ, bM, dI, dA, cS, cO, cR, bK, bL, cX, dO, cQ, dH, cZ]
   exact ⟨zF.nil _ _ _, gT.refl _ _⟩
 | some x =>
   simp (disch := omega) only [eY, gN, dX, stepR_skip, fO, gI, fP, gJ, gC, gE, gR, fZ, eU, fX, fU, gD, fR, fN, fW, fS, fV, gK, gG, fQ, fC, fY, gA, fL, iP, iS, iL, iT, iR, iM, iN, iQ, iO, eP, Result.ok.injEq, Next.value.injEq, true_and, and_true, fI, fJ, gB, fM, gH, gQ, ZO, fD, fF, fG, fE, eZ, eT, fB, eX, eQ, eH, if_true, if_false, ZM, ZS, ZN, ZP, ZR, ZQ, ZL, ZK, eA, dV, aB, dE, dJ, cB, eB, eS, eD, dN, eE, fA, dG, eI, bR, dL, bC, dR, aL, aH, eK, aZ, cI, eJ, aG, eL, dQ, aR, bD, eC, bG, bF, bJ, aP, aM, cG, fH, dY, cJ, cA, dB, cH, dT, bB, eM, bX, dS, bQ, bA, bT, aC, bU, bP, cF, bY, aU, aV, aX, bV, dD, cP, bO, aY, aN, aK, bH, aD, dC, dW, aJ, aI, aT, aF, cY, aE, cL, bW, bE, aO, cM, bZ, aA, dF, cU, cV, cC, dK, cD, dM, dU, cN, eF, eN, bN, aS, dZ, bS, aQ, bM, dI, dA, cS, cO, cR, bK, bL, cX, dO, cQ, dH, cZ]
   refine Jj Tryd.underlying45 Su fun w1 o1 x1 s1 => ?_
   have hcl1 := (h1.ext x1 (jI _)).cl
   rw [ZT] at hcl1
   have hos : zF w1 w.heap.size 1 (.slice (some ⟨w.heap.size, 0, none⟩) 0 0) 0 [] := ⟨rfl, .inr ⟨_, 0, [], rfl, Z2 _, o1, rfl, Z2 _⟩⟩
   refine KD hos hcl1 (fun y hy => by obtain ⟨z, -, rfl⟩ := aaU.1 hy; rfl) x1.size (by omega) fun v3 w3 o3 x3 => ?_
   rw [ZS, Z9] at o3
   exact ⟨o3, x1.trans x3 fun b hb h => Nat.not_le_of_lt hb h⟩
theorem QZ {w0 : adR} {N : Nat -> Prop} {w : adR} {q p : Nat} {S : kD} {s : oQ} (h : Hs w0 N w q p S s) : gS pg oT #[dP q] w (fun r w' => zF w' w.heap.size 1 r s.hv.length (s.hv.map Value.bool) /\ Hs w0 N w' q p S s /\ gT w w' jL) := by
 have h' := h
 obtain ⟨X, D, Y, lv, hv, h, x0⟩ := h
 refine HW ?_
 obtain ⟨c0, c1, c2, c3, c4, c5, c6, c7, c8, c9⟩ := h.cells
 unfold GH wM
 simp (disch := omega) only [eY, gN, dX, stepR_skip, fO, gI, fP, gJ, gC, gE, gR, fZ, eU, fX, fU, gD, fR, fN, fW, fS, fV, gK, gG, fQ, fC, fY, gA, fL, iP, iS, iL, iT, iR, iM, iN, iQ, iO, eP, Result.ok.injEq, Next.value.injEq, true_and, and_true, fI, fJ, gB, fM, gH, gQ, ZO, fD, fF, fG, fE, eZ, eT, fB, eX, eQ, eH, if_true, if_false, ZM, ZS, ZN, ZP, ZR, ZQ, ZL, ZK, eA, dV, aB, dE, dJ, cB, eB, eS, eD, dN, eE, fA, dG, eI, bR, dL, bC, dR, aL, aH, eK, aZ, cI, eJ, aG, eL, dQ, aR, bD, eC, bG, bF, bJ, aP, aM, cG, fH, dY, cJ, cA, dB, cH, dT, bB, eM, bX, dS, bQ, bA, bT, aC, bU, bP, cF, bY, aU, aV, aX, bV, dD, cP, bO, aY, aN, aK, bH, aD, dC, dW, aJ, aI, aT, aF, cY, aE, cL, bW, bE, aO, cM, bZ, aA, dF, cU, cV, cC, dK, cD, dM, dU, cN, eF, eN, bN, aS, dZ, bS, aQ, bM, dI, dA, cS, cO, cR, bK, bL, cX, dO, cQ, dH, cZ, c6]
 refine (QN (Ml h.hv) (by have := h.hl; omega)).mono ?_
 rintro r w' ⟨ho, x⟩
 exact ⟨ho, h'.new x, x⟩
def YA (w0 : adR) (N : Nat -> Prop) (w : adR) (p : Nat) (S' : kD) (so : Option oQ) (e : Int) (r : adS) (w' : adR) : Prop := (match so with
 | some s => ∃ q, r = .tuple #[dP q, .int .i64 0] /\ e = 0 /\ Hs w0 N w' q p S' s
 | none => r = .tuple #[.pointer none, .int .i64 e] /\ zC w0 N w' p S') /\ gT w w' (Xc w0 N)
theorem Ms {w0 : adR} {N : Nat -> Prop} {w : adR} {p : Nat} {S S' : kD} {so : Option oQ} {e : Int} {nm : ByteArray} {m : Ul} {lv : adS} (h : zC w0 N w p S) (hg : rF w0) (hB : Ec 3 S) (hm : TD m) (hlv : Cl w 32 lv m.leaves.length (UY m.leaves)) (hnm : 1 <= nm.size /\ nm.size <= 27) (hs : iY S.seen <= 1000000) (hO : Du gZ iI S nm m = (S', so, e)) :
 gS pg rN #[dP p, .string nm, .agg (O4 m lv).toArray] w (YA w0 N w p S' so e) := by
 obtain ⟨X, D, h, hX, x0, hN⟩ := h
 have hf : ∀ {n : ByteArray}, ∀ b, jF n S.seen = some b -> b.length <= 1000000 := fun {n} b hb => by
  have h1 := CK (k := n) (c := S.seen)
  rw [hb] at h1
  have h1 : b.length <= iY S.seen := h1
  omega
 refine (Yk (n0 := w0.heap.size) h (hg.ext x0) hg.lt (fun b hb => (hX b hb).1) x0.size hB hm hlv hnm hf hf hf).mono ?_
 rw [hO]
 intro r w' hr
 unfold Ts at hr
 have z := x0.size
 cases so with
 | none =>
   obtain ⟨h1, hp⟩ := hr
   obtain ⟨a, b⟩ := zC.post h hX x0 hN hp
   exact ⟨⟨h1, a⟩, b⟩
 | some s =>
   obtain ⟨h0, q, X', D', Y', lv', hv', h1, h2, h3, h4, h5, h6⟩ := hr
   refine ⟨⟨q, h1, h0, X', D', Y', lv', hv', h2, x0.trans h6 fun y hy hm => by have := (hX y hm).1; omega, fun b hb => ⟨h4 b (hN b hb), fun hx => ?_⟩⟩, h6.mono fun b _ hb => hX b hb⟩
   have hlt := lX.lt h b (hN b hb)
   rcases hx with hx | hx
   .rcases h3 b hx with h | h
    .exact (hX b h).2 hb
    .omega
   .have := h5 b hx; omega
def PN : List UInt8 := [97, 98, 99, 100, 101]
theorem Wv : gZ [120, 121] ≠ gZ [97, 98] := by decide +kernel
theorem PY (r : Int) : Calm (Qw r) := ⟨rfl, rfl⟩
theorem TK {r : Int} (h : 0 <= r /\ r <= 16777216) {n : Nat} (hn : n <= 100) : Ec n (Qw r) := ⟨⟨by show -1 <= (-1 : Int) /\ (-1 : Int) <= 9223372036854775807; decide, by show 0 <= _; omega, by simp [Qw], h⟩, by show 0 <= _; omega, by show 0 + n <= _; omega⟩
def Y7 : Nat -> Prop := fun _ => False
theorem RT {w0 w : adR} {room : Int} (x0 : gT w0 w jL) (h0 : 0 <= room) (h1 : room <= 16777216) : gS pg Bb #[.int .i64 room] w (fun r w' => ∃ p, r = .tuple #[dP p, .int .i64 0] /\ zC w0 Y7 w' p (Qw room) /\ gT w w' jL) := by
 refine (Yg h0 h1).mono ?_
 rintro r w' ⟨p, X, rfl, h, hX, x⟩
 exact ⟨p, rfl, ⟨X, X, h, fun b hb => ⟨by have := hX b hb; have := x0.size; omega, fun h => h⟩, x0.seq x, fun b h => h.elim⟩, x⟩
theorem WD {w0 w : adR} {y n c : Nat} (hy : w.heap.size <= y) : ¬ wC (.slice (some ⟨y, 0, none⟩) n c) (fun y => w0.heap.size <= y /\ y < w.heap.size) := by
 intro hi
 unfold wC at hi
 split at hi
 .rename_i e
  simp only [Value.slice.injEq, aaH] at e
  obtain ⟨rfl, _⟩ := e
  have hi : w0.heap.size <= y /\ y < w.heap.size := hi
  omega
 .exact hi
theorem Ow {f : List UInt8} {k : Nat} {S : kD} (h : jF sF S.seen = none) : Pe gZ f k S = false := by
 unfold Pe
 rw [h] <;> rfl
theorem Uh {f : List UInt8} {k : Nat} {F0 : Option (List UInt8)} {recs : List (Nat × Nat)} {P : List UInt8} {S : kD} {s : oQ} (h : QP gZ iI f k F0 recs P S s) {i : Nat} (hi : i < mF f.length k) (hv : s.hv.getD i false = false) {b : List UInt8} (hb : gZ b ≠ gZ (vV f.length k i f)) : By gZ iI S s i b = (S, s, 13) := by
 unfold By
 have hw : AA gZ s.man i b = false := by
  unfold AA
  rw [h.man, Rv gZ hi, adJ]
  exact .inr (beq_eq_false_iff_ne.2 hb)
 rw [h.err, h.hvl, if_neg (by decide), if_neg (by omega), ZO, h.fin, hv, hw, if_neg (by decide), if_pos rfl]
theorem RA {f : List UInt8} {k : Nat} {F0 : Option (List UInt8)} {recs : List (Nat × Nat)} {P : List UInt8} {S : kD} {s : oQ} (h : QP gZ iI f k F0 recs P S s) {i : Nat} (hi : i < mF f.length k) (hv : s.hv.getD i false = false) : mN gZ S s = (S, s, 30) := by
 unfold mN
 have ha : CD s.hv = false := by
  cases hq : CD s.hv with
  | false => rfl
  | true => rw [OH] at hq; rw [hq i (by rw [h.hvl]; exact hi)] at hv; cases hv
 rw [h.err, if_neg (by decide), h.fin, if_neg (by decide), ha, if_pos rfl]
theorem CL {l : List Bool} {i j : Nat} (hi : i < l.length) : (l.set i true).getD j false = if j = i then true else l.getD j false := by
 rw [ZW, adA]
 by_cases h : i = j
 .rw [if_pos h, if_pos hi, if_pos h.symm] <;> rfl
 .rw [if_neg h, if_neg (fun e => h e.symm), ZW]
theorem XB {n : Nat} {ps : List (Nat × adS)} {l : List UInt8} {w : adR} {K : adS -> adR -> Prop} (hl : l.length = n) (h1 : ¬ n * 1 > 2 ^ 24) (h0 : ¬ n * 1 = 0)
 (hf : Go.Instr.fill (fun j => some (j * 1, 1)) ((Array.range (n * 1)).map ((Tryd.t5.zero.get!).cells[· % (Tryd.t5.zero.get!).cells.size]!)) ps = some (l.map nU).toArray)
 (hk : ∀ w', Bs w' (.slice (some ⟨w.heap.size, 0, none⟩) n n) l -> gT w w' jL -> w'.heap.size = w.heap.size + 1 -> K (.slice (some ⟨w.heap.size, 0, none⟩) n n) w') :
 eY pg (iJ 22 n ps) w fun t w => eY pg (lC 22 22 t) w K := by
 refine EL h1 h0 hf fun w1 o1 x1 s1 => ?_
 rw [aaP] at o1
 refine Qg o1 fun w2 o2 x2 s2 => ?_
 refine hk w2 ?_ (x1.trans x2 fun y hy h => by omega) (by omega)
 have := o2.whole (c := n) (by omega)
 rw [hl] at this
 exact this
theorem UF {w : adR} (hg : rF w) : gS pg Bp #[] w (fun r w' => r = .bool true /\ gT w w' jL) := by
 refine MA ?_
 obtain ⟨RR, hRR⟩ : ∃ RR : adS -> adR -> Prop, RR = fun r w' => r = .bool true /\ gT w w' jL := ⟨_, rfl⟩
 rw [<- hRR]
 obtain ⟨S1, s1, hO, g1, r1, p1, v1⟩ := RZ (lf := gZ) (cf := iI) (f := PN) (k := 2) (F0 := none) (S := Qw 1000) (PY _) (by decide) rfl rfl rfl (by simp [Qw]) rfl ⟨by show (0 : Int) <= 1000; decide, by show (1000 : Int) <= _; decide⟩ (Ow rfl) (by show ¬ (1000 : Int) < ((0 + 13 + 5 : Nat) : Int); decide)
 have hc : mF PN.length 2 = 3 := by decide
 have e0 : vV PN.length 2 0 PN = [97, 98] := by decide
 have e1 : vV PN.length 2 1 PN = [99, 100] := by decide
 have e2 : vV PN.length 2 2 PN = [101] := by decide
 have rr1 : S1.room = 1000 := r1
 have z1 := g1.sz
 obtain ⟨S2, s2, hP1, g2, r2, p2, v2⟩ := (ND g1 (by decide) (by decide) (i := 1) (by rw [hc]; decide) (v1 1)).1 (by rw [rr1, z1]; decide)
 rw [e1] at hP1
 have hl1 := g1.hvl
 rw [hc] at hl1
 have v20 : s2.hv.getD 0 false = false := by rw [v2, CL (by omega), if_neg (by decide)]; exact v1 0
 have hP2 := Uh g2 (i := 0) (by rw [hc]; decide) v20 (b := [120, 121]) (by rw [e0]; exact Wv)
 have hC1 := RA g2 (i := 0) (by rw [hc]; decide) v20
 have z2 := g2.sz
 have rr2 : S2.room = 1000 := r2.trans rr1
 obtain ⟨S3, s3, hP3, g3, r3, p3, v3⟩ := (ND g2 (by decide) (by decide) (i := 0) (by rw [hc]; decide) v20).1 (by rw [rr2, z2]; decide)
 rw [e0] at hP3
 have hl2 := g2.hvl
 have hl3 := g3.hvl
 rw [hc] at hl2 hl3
 have v32 : s3.hv.getD 2 false = false := by rw [v3, CL (by omega), if_neg (by decide), v2, CL (by omega), if_neg (by decide)]; exact v1 2
 have z3 := g3.sz
 have rr3 : S3.room = 1000 := r3.trans rr2
 obtain ⟨S4, s4, hP4, g4, r4, p4, v4⟩ := (ND g3 (by decide) (by decide) (i := 2) (by rw [hc]; decide) v32).1 (by rw [rr3, z3]; decide)
 rw [e2] at hP4
 have hall : ∀ i, i < mF PN.length 2 -> s4.hv.getD i false = true := fun i hi => by
  rw [hc] at hi
  rw [v4, CL (by omega), v3, CL (by omega), v2, CL (by omega)]
  match i, hi with
  | 0, _ => rfl
  | 1, _ => rfl
  | 2, _ => rfl
 obtain ⟨S5, s5, hC2, f5, er5, ep5, nm5, mn5, c5, r5, gf5, gl5, gp5, fz5, un5, hl5, lg5⟩ := SM g4 (by decide) hall
 have hl4 := g4.hvl
 have z4 := g4.sz
 have hgx : ∀ {w' : adR}, gT w w' jL -> rF w' := fun x => hg.ext x
 unfold MU Dv
 refine (RT (w0 := w) (gT.refl _ _) (by decide) (by decide)).mono ?_
 rintro r w1 ⟨p, rfl, h1, x1⟩
 simp (disch := omega) only [eY, gN, dX, stepR_skip, fO, gI, fP, gJ, gC, gE, gR, fZ, eU, fX, fU, gD, fR, fN, fW, fS, fV, gK, gG, fQ, fC, fY, gA, fL, iP, iS, iL, iT, iR, iM, iN, iQ, iO, eP, Result.ok.injEq, Next.value.injEq, true_and, and_true, fI, fJ, gB, fM, gH, gQ, ZO, fD, fF, fG, fE, eZ, eT, fB, eX, eQ, eH, if_true, if_false, ZM, ZS, ZN, ZP, ZR, ZQ, ZL, ZK, eA, dV, aB, dE, dJ, cB, eB, eS, eD, dN, eE, fA, dG, eI, bR, dL, bC, dR, aL, aH, eK, aZ, cI, eJ, aG, eL, dQ, aR, bD, eC, bG, bF, bJ, aP, aM, cG, fH, dY, cJ, cA, dB, cH, dT, bB, eM, bX, dS, bQ, bA, bT, aC, bU, bP, cF, bY, aU, aV, aX, bV, dD, cP, bO, aY, aN, aK, bH, aD, dC, dW, aJ, aI, aT, aF, cY, aE, cL, bW, bE, aO, cM, bZ, aA, dF, cU, cV, cC, dK, cD, dM, dU, cN, eF, eN, bN, aS, dZ, bS, aQ, bM, dI, dA, cS, cO, cR, bK, bL, cX, dO, cQ, dH, cZ]
 refine XB (l := PN) rfl (by decide) (by decide) (by kernel_rfl) fun w2 b2 x2 zz2 => ?_
 refine (Oa (f := PN) (k := 2) (hgx (x1.seq x2)) b2 (by decide) ⟨by decide, by decide⟩).mono ?_
 rintro r w3 ⟨lv, rfl, hlv, x3⟩
 simp (disch := omega) only [eY, gN, dX, stepR_skip, fO, gI, fP, gJ, gC, gE, gR, fZ, eU, fX, fU, gD, fR, fN, fW, fS, fV, gK, gG, fQ, fC, fY, gA, fL, iP, iS, iL, iT, iR, iM, iN, iQ, iO, eP, Result.ok.injEq, Next.value.injEq, true_and, and_true, fI, fJ, gB, fM, gH, gQ, ZO, fD, fF, fG, fE, eZ, eT, fB, eX, eQ, eH, if_true, if_false, ZM, ZS, ZN, ZP, ZR, ZQ, ZL, ZK, eA, dV, aB, dE, dJ, cB, eB, eS, eD, dN, eE, fA, dG, eI, bR, dL, bC, dR, aL, aH, eK, aZ, cI, eJ, aG, eL, dQ, aR, bD, eC, bG, bF, bJ, aP, aM, cG, fH, dY, cJ, cA, dB, cH, dT, bB, eM, bX, dS, bQ, bA, bT, aC, bU, bP, cF, bY, aU, aV, aX, bV, dD, cP, bO, aY, aN, aK, bH, aD, dC, dW, aJ, aI, aT, aF, cY, aE, cL, bW, bE, aO, cM, bZ, aA, dF, cU, cV, cC, dK, cD, dM, dU, cN, eF, eN, bN, aS, dZ, bS, aQ, bM, dI, dA, cS, cO, cR, bK, bL, cX, dO, cQ, dH, cZ]
 refine rS fun w4 o4 x4 zz4 => ?_
 have lv1 : one lv = true := by rcases hlv.2 with ⟨rfl, _⟩ | ⟨_, _, _, rfl, _⟩ <;> rfl
 refine qD o4 rfl (by simp [one]; exact lv1) (by simp) fun w5 o5 x5 zz5 => ?_
 have o5 : jH w5 w3.heap.size (O4 (kL gZ PN 2) lv) := o5
 have lm := qI (off := 0) o5 (by simp)
 have lm : (fK 28 (.pointer (some ⟨w3.heap.size, 0, none⟩))).run pg w5 = .ok (.value (.agg (O4 (kL gZ PN 2) lv).toArray)) w5 := lm
 have z3 := x3.size
 have z2' := x2.size
 have x15 : gT w1 w5 jL := ((x2.seq x3).seq x4).trans x5 fun y hy h => by omega
 have h5 := h1.new x15
 have hlv5 : Cl w5 32 lv (kL gZ PN 2).leaves.length (UY (kL gZ PN 2).leaves) := QJ (wI (wI (NA (show IQ w3 (fun b => w2.heap.size <= b) 32 lv _ _ from hlv)) x4 (fun _ _ h => h)) x5 (fun b hb h => by omega))
 have hO5 := Ms h5 hg (TK ⟨by decide, by decide⟩ (by decide)) (Ok ⟨by decide, by decide⟩ (by decide)) hlv5 (nm := sF) ⟨by decide, by decide⟩ (by show 0 <= _; omega) hO
 have n0' : ((0 : Int) != 0) = false := rfl
 simp (disch := omega) only [eY, gN, dX, stepR_skip, fO, gI, fP, gJ, gC, gE, gR, fZ, eU, fX, fU, gD, fR, fN, fW, fS, fV, gK, gG, fQ, fC, fY, gA, fL, iP, iS, iL, iT, iR, iM, iN, iQ, iO, eP, Result.ok.injEq, Next.value.injEq, true_and, and_true, fI, fJ, gB, fM, gH, gQ, ZO, fD, fF, fG, fE, eZ, eT, fB, eX, eQ, eH, if_true, if_false, ZM, ZS, ZN, ZP, ZR, ZQ, ZL, ZK, eA, dV, aB, dE, dJ, cB, eB, eS, eD, dN, eE, fA, dG, eI, bR, dL, bC, dR, aL, aH, eK, aZ, cI, eJ, aG, eL, dQ, aR, bD, eC, bG, bF, bJ, aP, aM, cG, fH, dY, cJ, cA, dB, cH, dT, bB, eM, bX, dS, bQ, bA, bT, aC, bU, bP, cF, bY, aU, aV, aX, bV, dD, cP, bO, aY, aN, aK, bH, aD, dC, dW, aJ, aI, aT, aF, cY, aE, cL, bW, bE, aO, cM, bZ, aA, dF, cU, cV, cC, dK, cD, dM, dU, cN, eF, eN, bN, aS, dZ, bS, aQ, bM, dI, dA, cS, cO, cR, bK, bL, cX, dO, cQ, dH, cZ, lm]
 refine hO5.mono ?_
 rintro r w6 ⟨⟨q, rfl, _, h6⟩, -⟩
 have n3 : ((0 : Int) == 0) = true := rfl
 simp (disch := omega) only [eY, gN, dX, stepR_skip, fO, gI, fP, gJ, gC, gE, gR, fZ, eU, fX, fU, gD, fR, fN, fW, fS, fV, gK, gG, fQ, fC, fY, gA, fL, iP, iS, iL, iT, iR, iM, iN, iQ, iO, eP, Result.ok.injEq, Next.value.injEq, true_and, and_true, fI, fJ, gB, fM, gH, gQ, ZO, fD, fF, fG, fE, eZ, eT, fB, eX, eQ, eH, if_true, if_false, ZM, ZS, ZN, ZP, ZR, ZQ, ZL, ZK, eA, dV, aB, dE, dJ, cB, eB, eS, eD, dN, eE, fA, dG, eI, bR, dL, bC, dR, aL, aH, eK, aZ, cI, eJ, aG, eL, dQ, aR, bD, eC, bG, bF, bJ, aP, aM, cG, fH, dY, cJ, cA, dB, cH, dT, bB, eM, bX, dS, bQ, bA, bT, aC, bU, bP, cF, bY, aU, aV, aX, bV, dD, cP, bO, aY, aN, aK, bH, aD, dC, dW, aJ, aI, aT, aF, cY, aE, cL, bW, bE, aO, cM, bZ, aA, dF, cU, cV, cC, dK, cD, dM, dU, cN, eF, eN, bN, aS, dZ, bS, aQ, bM, dI, dA, cS, cO, cR, bK, bL, cX, dO, cQ, dH, cZ, n0']
 have Bl : ∀ {w' : adR} {S S' : kD} {s s' : oQ} {i e : Int} {n : Nat} {ps : List (Nat × adS)} {l : List UInt8} {F0 : Option (List UInt8)} {recs : List (Nat × Nat)} {P : List UInt8} {K : adS -> adR -> Prop}, Hs w Y7 w' q p S s -> QP gZ iI PN 2 F0 recs P S s -> recs.length <= 100 -> By gZ iI S s i l = (S', s', e) -> l.length = n -> l.length <= 100 -> ¬ n * 1 > 2 ^ 24 -> ¬ n * 1 = 0 -> (0 <= i /\ i <= 100) →
     Go.Instr.fill (fun j => some (j * 1, 1)) ((Array.range (n * 1)).map ((Tryd.t5.zero.get!).cells[· % (Tryd.t5.zero.get!).cells.size]!)) ps = some (l.map nU).toArray →
     (∀ w'', Hs w Y7 w'' q p S' s' -> K (.int .i64 e) w'') →
     eY pg (iJ 22 n ps) w' fun t w => eY pg (lC 22 22 t) w fun t w => gS pg jQ #[dP q, .int .i64 i, t] w K := by
  intro w' S S' s s' i e n ps l F0 recs P K hs hgot hrl hput hl hl2 k1 k2 hi hf hK
  refine XB (l := l) hl k1 k2 hf fun w2 b2 x2 s2 => ?_
  refine (Te (b := l) hs x2 (hgot.bk (by omega)) (by rw [hgot.hvl, hgot.man, Br]) b2 (by omega) (WD (Z2 _)) (by rw [hgot.log]; omega) (by omega)).mono ?_
  rintro r w3 ⟨rfl, h3, -⟩
  rw [hput] at h3 ⊢
  exact hK w3 h3
 refine Bl h6 g1 (by decide) hP1 rfl (by decide) (by decide) (by decide) (by decide) (by kernel_rfl) fun w7 h7 => ?_
 refine Bl h7 g2 (by decide) hP2 rfl (by decide) (by decide) (by decide) (by decide) (by kernel_rfl) fun w8 h8 => ?_
 have hsm : ∀ {S : kD} {n : Nat}, iY S.seen = n -> n <= 1000 -> ∀ b, ∀ k, jF k S.seen = some b -> b.length <= 1000000 := fun {S n} hz hn b k hb => by
  have h1 := CK (k := k) (c := S.seen)
  rw [hb] at h1
  have h1 : b.length <= iY S.seen := h1
  omega
 refine (NN h8 (g2.bk (by decide)) (fun b hb => hsm z2 (by decide) b _ hb)).mono ?_
 rintro r w9 ⟨rfl, h9, -⟩
 rw [hC1] at h9 ⊢
 refine Bl h9 g2 (by decide) hP3 rfl (by decide) (by decide) (by decide) (by decide) (by kernel_rfl) fun w10 h10 => ?_
 refine Bl h10 g3 (by decide) hP4 rfl (by decide) (by decide) (by decide) (by decide) (by kernel_rfl) fun w11 h11 => ?_
 refine (NN h11 (g4.bk (by decide)) (fun b hb => hsm z4 (by decide) b _ hb)).mono ?_
 rintro r w12 ⟨rfl, h12, -⟩
 rw [hC2] at h12 ⊢
 have hz4 : iY S4.seen = 57 := by rw [z4] <;> rfl
 have B5 : Ec 0 S5 := ⟨⟨by rw [c5.left]; omega, by omega, by rw [un5]; simp, by rw [r5, r4, rr3]; decide⟩, by omega, by rw [un5]; simp⟩
 refine (R6 (n := sF) h12 B5 c5.up).mono ?_
 rintro r w13 ⟨hr, h13, x13⟩
 rw [gf5] at hr
 rcases hr with ⟨h, _⟩ | ⟨b, v, hb, rfl, ho⟩
 .cases h
 cases hb
 simp (disch := omega) only [eY, gN, dX, stepR_skip, fO, gI, fP, gJ, gC, gE, gR, fZ, eU, fX, fU, gD, fR, fN, fW, fS, fV, gK, gG, fQ, fC, fY, gA, fL, iP, iS, iL, iT, iR, iM, iN, iQ, iO, eP, Result.ok.injEq, Next.value.injEq, true_and, and_true, fI, fJ, gB, fM, gH, gQ, ZO, fD, fF, fG, fE, eZ, eT, fB, eX, eQ, eH, if_true, if_false, ZM, ZS, ZN, ZP, ZR, ZQ, ZL, ZK, eA, dV, aB, dE, dJ, cB, eB, eS, eD, dN, eE, fA, dG, eI, bR, dL, bC, dR, aL, aH, eK, aZ, cI, eJ, aG, eL, dQ, aR, bD, eC, bG, bF, bJ, aP, aM, cG, fH, dY, cJ, cA, dB, cH, dT, bB, eM, bX, dS, bQ, bA, bT, aC, bU, bP, cF, bY, aU, aV, aX, bV, dD, cP, bO, aY, aN, aK, bH, aD, dC, dW, aJ, aI, aT, aF, cY, aE, cL, bW, bE, aO, cM, bZ, aA, dF, cU, cV, cC, dK, cD, dM, dU, cN, eF, eN, bN, aS, dZ, bS, aQ, bM, dI, dA, cS, cO, cR, bK, bL, cX, dO, cQ, dH, cZ]
 refine (PK h13).mono ?_
 rintro r w14 ⟨rfl, hw⟩
 rw [hw]; clear hw w14
 have pe : s5.epoch = 1 := by rw [ep5, p4, p3, p2, p1]
 rw [pe]
 obtain ⟨va, vc, rfl⟩ := ho.len
 have hv := Kk (show Bs w13 (.slice va PN.length vc) PN from ho.sl)
 have k1 : (((1 : Nat) : Int) == 1) = true := rfl
 have k2 : ((13 : Int) == 13) = true := rfl
 have k3 : ((30 : Int) == 30) = true := rfl
 have k4 : ((⟨PN.toArray⟩ : ByteArray).toList == (⟨#[97, 98, 99, 100, 101]⟩ : ByteArray).toList) = true := by
  rw [show (⟨PN.toArray⟩ : ByteArray) = ⟨#[97, 98, 99, 100, 101]⟩ from rfl]
  simp
 simp (disch := omega) only [eY, gN, dX, stepR_skip, fO, gI, fP, gJ, gC, gE, gR, fZ, eU, fX, fU, gD, fR, fN, fW, fS, fV, gK, gG, fQ, fC, fY, gA, fL, iP, iS, iL, iT, iR, iM, iN, iQ, iO, eP, Result.ok.injEq, Next.value.injEq, true_and, and_true, fI, fJ, gB, fM, gH, gQ, ZO, fD, fF, fG, fE, eZ, eT, fB, eX, eQ, eH, if_true, if_false, ZM, ZS, ZN, ZP, ZR, ZQ, ZL, ZK, eA, dV, aB, dE, dJ, cB, eB, eS, eD, dN, eE, fA, dG, eI, bR, dL, bC, dR, aL, aH, eK, aZ, cI, eJ, aG, eL, dQ, aR, bD, eC, bG, bF, bJ, aP, aM, cG, fH, dY, cJ, cA, dB, cH, dT, bB, eM, bX, dS, bQ, bA, bT, aC, bU, bP, cF, bY, aU, aV, aX, bV, dD, cP, bO, aY, aN, aK, bH, aD, dC, dW, aJ, aI, aT, aF, cY, aE, cL, bW, bE, aO, cM, bZ, aA, dF, cU, cV, cC, dK, cD, dM, dU, cN, eF, eN, bN, aS, dZ, bS, aQ, bM, dI, dA, cS, cO, cR, bK, bL, cX, dO, cQ, dH, cZ, k1, n3, k2, k3, hv, Yf, k4]
 refine (Wl h13).mono ?_
 rintro r w14 ⟨rfl, hw⟩
 rw [hw]; clear hw w14
 rw [f5]
 simp (disch := omega) only [eY, gN, dX, stepR_skip, fO, gI, fP, gJ, gC, gE, gR, fZ, eU, fX, fU, gD, fR, fN, fW, fS, fV, gK, gG, fQ, fC, fY, gA, fL, iP, iS, iL, iT, iR, iM, iN, iQ, iO, eP, Result.ok.injEq, Next.value.injEq, true_and, and_true, fI, fJ, gB, fM, gH, gQ, ZO, fD, fF, fG, fE, eZ, eT, fB, eX, eQ, eH, if_true, if_false, ZM, ZS, ZN, ZP, ZR, ZQ, ZL, ZK, eA, dV, aB, dE, dJ, cB, eB, eS, eD, dN, eE, fA, dG, eI, bR, dL, bC, dR, aL, aH, eK, aZ, cI, eJ, aG, eL, dQ, aR, bD, eC, bG, bF, bJ, aP, aM, cG, fH, dY, cJ, cA, dB, cH, dT, bB, eM, bX, dS, bQ, bA, bT, aC, bU, bP, cF, bY, aU, aV, aX, bV, dD, cP, bO, aY, aN, aK, bH, aD, dC, dW, aJ, aI, aT, aF, cY, aE, cL, bW, bE, aO, cM, bZ, aA, dF, cU, cV, cC, dK, cD, dM, dU, cN, eF, eN, bN, aS, dZ, bS, aQ, bM, dI, dA, cS, cO, cR, bK, bL, cX, dO, cQ, dH, cZ]
 refine (QZ h13).mono ?_
 rintro r w14 ⟨hh, h14, x14⟩
 obtain ⟨ha, hcc, rfl⟩ := hh.len
 rw [hl5, hc]
 have k5 : (((3 : Nat) : Int) == 3) = true := rfl
 simp (disch := omega) only [eY, gN, dX, stepR_skip, fO, gI, fP, gJ, gC, gE, gR, fZ, eU, fX, fU, gD, fR, fN, fW, fS, fV, gK, gG, fQ, fC, fY, gA, fL, iP, iS, iL, iT, iR, iM, iN, iQ, iO, eP, Result.ok.injEq, Next.value.injEq, true_and, and_true, fI, fJ, gB, fM, gH, gQ, ZO, fD, fF, fG, fE, eZ, eT, fB, eX, eQ, eH, if_true, if_false, ZM, ZS, ZN, ZP, ZR, ZQ, ZL, ZK, eA, dV, aB, dE, dJ, cB, eB, eS, eD, dN, eE, fA, dG, eI, bR, dL, bC, dR, aL, aH, eK, aZ, cI, eJ, aG, eL, dQ, aR, bD, eC, bG, bF, bJ, aP, aM, cG, fH, dY, cJ, cA, dB, cH, dT, bB, eM, bX, dS, bQ, bA, bT, aC, bU, bP, cF, bY, aU, aV, aX, bV, dD, cP, bO, aY, aN, aK, bH, aD, dC, dW, aJ, aI, aT, aF, cY, aE, cL, bW, bE, aO, cM, bZ, aA, dF, cU, cV, cC, dK, cD, dM, dU, cN, eF, eN, bN, aS, dZ, bS, aQ, bM, dI, dA, cS, cO, cR, bK, bL, cX, dO, cQ, dH, cZ, k5]
 rw [hRR]
 exact ⟨rfl, h14.x⟩
theorem Ov {f : List UInt8} {k : Nat} {F0 : Option (List UInt8)} {recs : List (Nat × Nat)} {P : List UInt8} {S : kD} {s : oQ} (h : QP gZ iI f k F0 recs P S s) : recs.length <= 1 + mF f.length k := by
 have h1 := h.cnt
 have h2 := List.count_le_length (a := true) (l := s.hv)
 have h3 := h.hvl
 omega
theorem Rp {f : List UInt8} {a : Option Addr} {c k i : Nat} {w : adR} (hb : Bs w (.slice a f.length c) f) (hi : k * i < f.length) : Bs w (.slice (jR a c (k * i) 1) (k * i + Iq f.length k i - k * i) (c - k * i)) (vV f.length k i f) := by
 have hse := CI hi
 have := Sl.mid hb (i := k * i) (j := k * i + Iq f.length k i) (by omega) (by omega)
 rw [<- acE, <- acR, abF] at this
 rw [abF]
 exact this
theorem Pz {L k i : Nat} (hi : k * i < L) : (k * (i + 1) <= L -> k * i + Iq L k i = k * (i + 1)) /\ (L < k * (i + 1) -> k * i + Iq L k i = L) := by
 have : k * (i + 1) = k * i + k := by rw [acJ, abO]
 unfold Iq
 constructor
 .intro h; omega
 .intro h; omega
theorem Yc {w0 w : adR} {v : adS} {l : List adS} (h : Sl w0 v l) : ¬ wC v (fun y => w0.heap.size <= y /\ y < w.heap.size) := fun hi => h.old (zJ hi fun y hy => hy.1)
theorem Xe {w0 : adR} {N : Nat -> Prop} {w : adR} {q p i : Nat} {f : List UInt8} {k : Nat} {F0 : Option (List UInt8)} {recs : List (Nat × Nat)} {P : List UInt8} {S : kD} {s : oQ} {a : Option Addr} {c : Nat} (h : Hs w0 N w q p S s) (g : QP gZ iI f k F0 recs P S s) (hb : Bs w0 (.slice a f.length c) f) (hk : 0 < k) (hL : f.length <= 1000) (hi : i < mF f.length k) (hn : mF f.length k <= 1000) :
 gS pg jQ #[dP q, .int .i64 (i : Nat), .slice (jR a c (k * i) 1) (k * i + Iq f.length k i - k * i) (c - k * i)] w (fun r w' => r = .int .i64 (By gZ iI S s i (vV f.length k i f)).2.2 /\ Hs w0 N w' q p (By gZ iI S s i (vV f.length k i f)).1 (By gZ iI S s i (vV f.length k i f)).2.1 /\ gT w w' (Xc w0 N)) := by
 have hrb := Ov g
 have hb0 := Rp (k := k) (i := i) hb ((vQ hk).1 hi)
 exact Te h (gT.refl _ _) (g.bk (by decide)) (by rw [g.hvl, g.man, Br]) (hb0.ext h.x (jI _)) (by have := GR f.length k i f; omega) (Yc hb0) (by rw [g.log]; omega) (by omega)
theorem zC.hold {w0 : adR} {N : Nat -> Prop} {w wa : adR} {p : Nat} {S : kD} {v : adS} {b : List UInt8} (h : zC w0 N w p S) (x : gT w wa jL) (ho : zF wa w.heap.size 1 v b.length (b.map nU)) : ∃ N', zC w0 N' wa p S /\ (∀ y, N y -> N' y) /\ ∀ w', gT wa w' (Xc w0 N') -> Bs w' v b := by
 have hs : Bs wa v b := ho.sl
 rcases ho.2 with ⟨rfl, h0⟩ | ⟨bb, c, rest, rfl, g2, g3, _⟩
 .have : b = [] := aaB.1 h0
  subst this
  exact ⟨N, h.new x, fun _ h => h, fun w' _ => Sl.nil _⟩
 .refine ⟨_, h.add x g2 g3.lt, fun _ h => .inl h, fun w' x' => hs.ext x' fun hi => ?_⟩
  unfold wC at hi
  split at hi
  .rename_i e
   simp only [Value.slice.injEq, aaH] at e
   obtain ⟨rfl, _⟩ := e
   exact hi.2 (.inr rfl)
  .exact hi
theorem Hs.hold {w0 : adR} {N : Nat -> Prop} {w wa : adR} {q p : Nat} {S : kD} {s : oQ} {v : adS} {b : List UInt8} (h : Hs w0 N w q p S s) (x : gT w wa jL) (ho : zF wa w.heap.size 1 v b.length (b.map nU)) : ∃ N', Hs w0 N' wa q p S s /\ (∀ y, N y -> N' y) /\ ∀ w', gT wa w' (Xc w0 N') -> Bs w' v b := by
 have hs : Bs wa v b := ho.sl
 rcases ho.2 with ⟨rfl, h0⟩ | ⟨bb, c, rest, rfl, g2, g3, _⟩
 .have : b = [] := aaB.1 h0
  subst this
  exact ⟨N, h.new x, fun _ h => h, fun w' _ => Sl.nil _⟩
 .refine ⟨_, h.add x g2 g3.lt, fun _ h => .inl h, fun w' x' => hs.ext x' fun hi => ?_⟩
  unfold wC at hi
  split at hi
  .rename_i e
   simp only [Value.slice.injEq, aaH] at e
   obtain ⟨rfl, _⟩ := e
   exact hi.2 (.inr rfl)
  .exact hi
theorem Sh {w0 : adR} {N : Nat -> Prop} {w : adR} {p : Nat} {S : kD} {name : ByteArray} {a : Int} {bv : adS} {l : List UInt8} (h : zC w0 N w p S) (hB : Yo S) (hb : Bs w bv l) (hl : l.length <= 1000000000) (ha : 0 <= a /\ a <= 1000000000) :
 gS pg kM #[dP p, .string name, .int .i64 a, bv] w (fun r w' => r = .int .i64 (GS S name a l).2 /\ zC w0 N w' p (GS S name a l).1 /\ gT w w' (Xc w0 N)) := by
 obtain ⟨X, D, h, hX, x0, hN⟩ := h
 refine (Lo h hB hb hl (by omega) (by omega)).mono ?_
 rintro r w' ⟨rfl, hp⟩
 exact ⟨rfl, zC.post h hX x0 hN hp⟩
end Go.Proofs.YteelnmpbnaohpaaDoor
namespace Go.Proofs.YteelnmpbnaohpaaDoor
open Go Go.En Go.Pu
set_option maxRecDepth 4000
set_option maxHeartbeats 2000000
theorem VA (a b : Int) : ∃ y : UInt8, OK .u8 a b = (y.toNat : Int) := by
 unfold OK
 have h : (BitVec.ofInt IntKind.u8.bits a ^^^ BitVec.ofInt IntKind.u8.bits b).toNat < 2 ^ 8 := BitVec.isLt _
 generalize (BitVec.ofInt IntKind.u8.bits a ^^^ BitVec.ofInt IntKind.u8.bits b).toNat = z at *
 refine ⟨UInt8.ofNat z, ?_⟩
 have : ∀ k : Fin 256, IntKind.u8.wrap (k.val : Int) = ((UInt8.ofNat k.val).toNat : Int) := by decide +kernel
 exact this ⟨z, by omega⟩
theorem Ux {a b : List UInt8} (h : b.length = a.length) : over a 0 b = b := by
 unfold over
 rw [List.take_zero, Z9, abI (by simp; omega), aaT]
theorem zC.turn {w0 : adR} {N : Nat -> Prop} {w w' : adR} {p b : Nat} {S : kD} (h : zC w0 N w p S) (hb : N b) (hb0 : w0.heap.size <= b) (x : gT w w' (fun y => y = b)) : zC w0 N w' p S := by
 obtain ⟨X, D, h, hX, x0, hN⟩ := h
 exact ⟨X, D, h.ext x fun y hy => by subst hy; exact ⟨hN _ hb, fun hx => (hX _ hx).2 hb⟩, hX, x0.trans x fun y hy hm => by omega, hN⟩
theorem zC.hold2 {w0 : adR} {N : Nat -> Prop} {w wa : adR} {p : Nat} {S : kD} {v : adS} {b : List UInt8} (h : zC w0 N w p S) (x : gT w wa jL) (ho : zF wa w.heap.size 1 v b.length (b.map nU)) (hb : 0 < b.length) : ∃ bb c rest, v = .slice (some ⟨bb, 0, none⟩) b.length c /\ jH wa bb (b.map nU ++ rest) /\ b.length <= c /\ w.heap.size <= bb /\ c = (b.map nU ++ rest).length /\ zC w0 (fun y => N y ∨ y = bb) wa p S := by
 rcases ho.2 with ⟨rfl, h0⟩ | ⟨bb, c, rest, rfl, g2, g3, g4, g5⟩
 .omega
 .exact ⟨bb, c, rest, rfl, g3, g5, g2, by rw [g4, abO], h.add x g2 g3.lt⟩
structure WU (w0 : adR) (q p pb : Nat) (f : List UInt8) (k : Nat) (w : adR) (S : kD) (s : oQ) (recs : List (Nat × Nat)) (P : List UInt8) : Prop where
 ses : Hs w0 (fun y => Y7 y ∨ y = pb) w q p S s
 got : QP gZ iI f k none recs P S s
 rm : S.room = 100000
 la : kA 1 recs = 1
 own : jH w pb (s.hv.map Value.bool)
theorem Vc {l : List Bool} {i : Nat} (h : l.getD i false = true) : l.set i true = l := by
 have hi : i < l.length := by
  by_cases hi : i < l.length
  .exact hi
  .rw [ZW, aaK (by omega)] at h; cases h
 refine abW fun j => ?_
 rw [adA]
 by_cases hj : i = j
 .rw [if_pos hj, if_pos hi, <- hj, ZU hi]
  rw [ZW, ZU hi] at h
  exact congrArg some h.symm
 .rw [if_neg hj]
theorem UQ {f : List UInt8} {k : Nat} {F0 : Option (List UInt8)} {recs : List (Nat × Nat)} {P : List UInt8} {S : kD} {s : oQ} (h : QP gZ iI f k F0 recs P S s) (hk : 0 < k) (hL : f.length <= 1000000) {i : Nat} (hi : i < mF f.length k) (hr : ¬ S.room < ((iY S.seen + 13 : Nat) : Int)) :
 ∃ S' s' recs' P', By gZ iI S s i (vV f.length k i f) = (S', s', 0) /\ QP gZ iI f k F0 recs' P' S' s' /\ S'.room = S.room /\ s'.hv = s.hv.set i true /\ kA 1 recs' = kA 1 recs := by
 cases hv : s.hv.getD i false with
 | true => exact ⟨S, s, recs, P, Xl h hi hv _, h, rfl, (Vc hv).symm, rfl⟩
 | false =>
   obtain ⟨S', s', h1, h2, h3, h4, h5⟩ := (ND h hk hL hi hv).1 hr
   exact ⟨S', s', _, _, h1, h2, h3, h5, by rw [Ku, if_neg (show ¬ (2 : Nat) = 1 by decide)]⟩
theorem Rl {f : List UInt8} {k : Nat} {recs : List (Nat × Nat)} {P B : List UInt8} {S : kD} {s : oQ} (h : QP gZ iI f k none recs P S s) (hk : 0 < k) (hB : B.length = f.length) (hl : kA 1 recs < 18446744073709551615) (hr : ¬ S.room < ((iY S.seen + 13 : Nat) : Int)) :
 ∃ S1 S2 s2, GS S (iC sF) ((0 : Nat) : Int) B = (S1, 0) /\ iY S1.seen = iY S.seen /\ Du gZ iI S1 sF (kL gZ f k) = (S2, some s2, 0) /\ s2.epoch = kA 1 recs + 1 /\ s2.hv.length = mF f.length k /\
   ∀ i, i < mF f.length k -> s2.hv.getD i false = (s.hv.getD i false && gZ (vV f.length k i B) == (kL gZ f k).leaves.getD i []) := by
 have hPB : rV S (iC sF) = P := by unfold rV; rw [h.gP] <;> rfl
 have e0 := NI (k := iC sF) (a := 0) (l := B) h.calm TE (Nat.zero_le _)
 have hrm := h.rm
 rw [hPB, h.Pl, hB, show iY S.seen + (0 + f.length - f.length) = iY S.seen from by omega, if_neg (by omega), Ux (by rw [hB, h.Pl])] at e0
 obtain ⟨S1, hS1⟩ : ∃ S1 : kD, S1 = { S with under := S.under ++ [⟨0, iC sF, ⟨#[]⟩, 0, B⟩], seen := pH (iC sF) B S.seen } := ⟨_, rfl⟩
 rw [<- hS1] at e0
 have c1 : Calm S1 := by rw [hS1]; exact ⟨h.calm.up, h.calm.left⟩
 have s1 : S1.seen = pH (iC sF) B S.seen := by rw [hS1]
 have z1 : iY S1.seen = iY S.seen := by
  have := rZ (iC sF) B S.seen
  rw [h.gP, aaZ, h.Pl, hB] at this
  rw [s1]; omega
 have gF1 : jF sF S1.seen = none := by rw [s1, lR V7, h.gF]
 have gL1 : (jF (jJ sF) S1.seen).getD [] = nH iI recs := by rw [s1, lR (Ne.symm UU), h.gL] <;> rfl
 have r1 : S1.room = S.room := by rw [hS1]
 have hO := Ue (lf := gZ) (cf := iI) (f := f) (k := k) (P := B) c1 gL1 h.ok hl (by rw [z1, r1]; exact hr) (Ow gF1) (by rw [s1, yX]) hB
 refine ⟨S1, _, _, e0, z1, hO, rfl, ?_, fun i hi => ?_⟩
 .show (pJ _ _ _).length = _
  unfold pJ; simp
 .show (pJ _ _ _).getD i false = _
  unfold pJ
  rw [Lj _ _ _ hi]
  have h1 : (recs.any fun r => r.1 == 2 && r.2 == i) = s.hv.getD i false := by
   have ht := h.told i hi
   cases hv : s.hv.getD i false with
   | true =>
     rw [List.any_eq_true]
     exact ⟨_, ht.1 hv, by simp⟩
   | false =>
     rw [List.any_eq_false]
     intro r hr hh
     have : (2, i) ∈ recs := by
      obtain ⟨a, b⟩ := r
      simp at hh
      obtain ⟨rfl, rfl⟩ := hh
      exact hr
     rw [ht.2 this] at hv
     cases hv
  rw [h1]
  have h2 : (jB gZ (kL gZ f k) B).getD i false = (gZ (vV f.length k i B) == (kL gZ f k).leaves.getD i []) := by
   unfold jB
   rw [Br, Lj _ _ _ hi]
   unfold wholeAt AA
   show (decide (k * i + Iq f.length k i <= B.length) && ((vV f.length k i B).length == Iq f.length k i && gZ (vV f.length k i B) == _)) = _
   have := CI ((vQ hk).1 hi)
   rw [DD hB, decide_eq_true (by omega)]
   simp
  rw [h2]
end Go.Proofs.YteelnmpbnaohpaaDoor

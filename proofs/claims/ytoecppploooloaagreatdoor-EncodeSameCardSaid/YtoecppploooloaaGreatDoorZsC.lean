/- Parts of the proof of EncodeSame: merged and given short names by a program of ours. -/
import Derived.Test.YtoecppploooloaaGreatDoorZsB
set_option linter.unusedVariables false
set_option linter.unusedSimpArgs false
open Bool renaming false_eq_true → aA8, not_false → aBd, not_true → aBe, and_eq_true → aBn
open Int renaming toNat_natCast → aA9, fdiv_eq_ediv_of_nonneg → aBM, tdiv_eq_ediv_of_nonneg → aCI, tmod_eq_emod_of_nonneg → aCJ
open List renaming getElem?_cons_zero → aA6, getElem?_cons_succ → aA7, mem_cons → aB2, length_replicate → aB8, take_succ_cons → aBA, drop_zero → aBB, getElem?_append_right → aBD, take_zero → aBE, map_cons → aBH, map_append → aBK, set_append_right → aBR, length_singleton → aBS, append_nil → aBV, getElem?_take_of_lt → aBW, nil_append → aBZ, length_map → aBf, length_append → aBg, getElem?_eq_getElem → aBh, getD_eq_getElem?_getD → aBi, set_cons_zero → aBj, set_cons_succ → aBl, length_take → aBo, take_of_length_le → aBp, mem_cons_of_mem → aBq, length_drop → aBr, length_cons → aBu, getElem?_append_left → aBv, append_assoc → aBy, getElem?_map → aBz, map_set → aC0, map_drop → aC4, getElem?_range → aC6, getLast?_eq_getElem? → aC7, take_left' → aC8, getElem?_replicate → aCB, map_replicate → aCG, take_add_one → aCK, set_append_left → aCL, take_length → aCM, map_take → aCO, drop_eq_nil_of_le → aCU, drop_append_of_le_length → aCV, take_append_of_le_length → aCb, map_congr_left → aCh, replicate_succ → aCi, cons_append → aCm, drop_drop → aCo, length_set → aCz, drop_of_length_le → aDh, getElem_map → aDk
open Nat renaming add_mul → aB0, le_trans → aB4, mul_one → aB9, mod_eq_of_lt → aBC, mul_le_mul_right → aBL, two_pow_pos → aBQ, min_eq_left → aBU, mul_comm → aBX, zero_add → aBc, le_refl → aBk, lt_or_ge → aBt, pow_le_pow_right → aBw, zero_le → aC5, add_assoc → aCA, lt_of_lt_of_le → aCE, pow_succ → aCF, sub_zero → aCN, add_sub_cancel → aCS, zero_mul → aCY, div_lt_iff_lt_mul → aCZ, pow_add → aCf, eq_zero_or_pos → aCl, sub_self → aCr, div_div_eq_div_mul → aCs, and_two_pow_sub_one_eq_mod → aCy, add_sub_cancel_left → aDc, lt_trichotomy → aDe, mul_add → aDg, mul_assoc → aDj, div_le_self → aDq
open Option renaming map_some → aBJ, isNone_some → aBa, isNone_none → aBb
open Option.some renaming inj → aBO
open UInt8 renaming toNat_ofNat_of_lt' → aC9, toNat_lt → aCg
namespace Go.Proofs.YtoecppploooloaaGreatDoor
open Go Go.En
set_option maxRecDepth 4000
theorem fQ {ty : TypeId} (x : Option Addr) (n c : Nat) (w : aDs) : (oF .len #[22] ty [.slice x n c]).run pg w = .ok (.value (.int .i64 n)) w := Vq Tryz.underlying22 x n c
theorem fL {k : IntKind} (a : Int) (w : aDs) : (nI 5 3 (.int k a)).run pg w = .ok (.value (.int .i64 (IntKind.i64.wrap a))) w := De Tryz.underlying5 Tryz.underlying3
theorem fA {k : IntKind} (a : Int) (w : aDs) : (nI 29 3 (.int k a)).run pg w = .ok (.value (.int .i64 (IntKind.i64.wrap a))) w := De Tryz.underlying29 Tryz.underlying3
theorem JG : (pg).info? 5 = some Tryz.t5 := by kernel_rfl
theorem YX {k : IntKind} {n : Int} {w : aDs} {K : aDt -> aDs -> Prop} (h0 : 0 <= n) (hn : 1 * n <= 2 ^ 48) (hk : ∀ w', lN w' w.heap.size (List.replicate n.toNat (.int .u8 0)) -> jN w w' mC -> w'.heap.size = w.heap.size + 1 -> K (.slice (some ⟨w.heap.size, 0, none⟩) n.toNat n.toNat) w') : gI pg (sS 22 (.int k n) (.int k n)) w K := ZV (i := Tryz.t5) Tryz.underlying22 JG rfl rfl rfl h0 hn (by omega) hk
theorem fR {k : IntKind} {a : Int} (b o n c : Nat) (w : aDs) (h0 : 0 <= a) (h1 : a < n) : (jS 22 (.slice (some ⟨b, o, none⟩) n c) (.int k a)).run pg w = .ok (.value (.pointer (some ⟨b, o + a.toNat, none⟩))) w := TE rfl Tryz.underlying22 JG b o n c h0 h1
theorem Zx {b off : Nat} {cs : List aDt} {w : aDs} {v : aDt} {K : aDt -> aDs -> Prop} (ho : lN w b cs) (hv : one v = true) (h : off < cs.length) (hk : ∀ w', lN w' b (cs.set off v) -> jN w w' (fun x => x = b) -> w'.heap.size = w.heap.size -> K undef w') : gI pg (jQ 5 (.pointer (some ⟨b, off, none⟩)) v) w K := Ac JG rfl ho hv h hk
theorem zV {l : List UInt8} {v : aDt} {w : aDs} (h : Bs w v l) : (nI 22 9 v).run pg w = .ok (.value (.string ⟨l.toArray⟩)) w := aqR Tryz.underlying22 Tryz.underlying9 Tryz.underlying5 h
theorem cU {k : IntKind} (a : Int) (w : aDs) : (nI 38 32 (.int k a)).run pg w = .ok (.value (.int .u64 (IntKind.u64.wrap a))) w := De Tryz.underlying38 Tryz.underlying32
theorem eS {k : IntKind} (a : Int) (w : aDs) : (nI 3 32 (.int k a)).run pg w = .ok (.value (.int .u64 (IntKind.u64.wrap a))) w := De Tryz.underlying3 Tryz.underlying32
theorem uE {n : Nat} {ps : List (Nat × aDt)} {cells : Array aDt} {w : aDs} (h1 : ¬ n * 1 > 2 ^ 24) (h0 : ¬ n * 1 = 0) (hf : Go.Instr.fill (fun j => some (j * 1, 1)) ((Array.range (n * 1)).map ((Tryz.t5.zero.get!).cells[· % (Tryz.t5.zero.get!).cells.size]!)) ps = some cells) {K : aDt -> aDs -> Prop} (hk : ∀ w', lN w' w.heap.size cells.toList -> jN w w' mC -> w'.heap.size = w.heap.size + 1 -> K (.slice (some ⟨w.heap.size, 0, none⟩) n n) w') : gI pg (lT 22 n ps) w K := U9 (i := Tryz.t5) Tryz.underlying22 JG rfl h1 h0 hf hk
theorem eH {k : IntKind} {hi : Int} (a : Option Addr) (n c : Nat) (w : aDs) (h0 : 0 <= hi) (h1 : hi <= c) : (lP 22 (.slice a n c) none (some (.int k hi)) none).run pg w = .ok (.value (.slice (mN a c (0) 1) (hi.toNat - 0) (c - 0))) w := Vd Tryz.underlying22 JG _ n c h0 h1
theorem alY : (pg).info? 45 = some Tryz.t45 := by kernel_rfl
theorem tI {w : aDs} {K : aDt -> aDs -> Prop} (hk : ∀ w', lN w' w.heap.size [(.int .u32 0), (.int .u32 0), (.int .u32 0)] -> jN w w' mC -> w'.heap.size = w.heap.size + 1 -> K (.pointer (some ⟨w.heap.size, 0, none⟩)) w') : gI pg (oM 45) w K := CO (i := Tryz.t45) alY rfl hk
theorem qT {b off : Nat} {cs : List aDt} {w : aDs} {xs : Array aDt} {K : aDt -> aDs -> Prop} (ho : lN w b cs) (hs : xs.size = 3) (hv : ∀ x ∈ xs.toList, one x = true) (h : off + 3 <= cs.length) (hk : ∀ w', lN w' b (kV cs off xs.toList) -> jN w w' (fun x => x = b) -> w'.heap.size = w.heap.size -> K undef w') : gI pg (jQ 45 (.pointer (some ⟨b, off, none⟩)) (.agg xs)) w K := Fh (v := .agg xs) alY ho hs hv h hk
theorem CE {b off : Nat} {cs : List aDt} {w : aDs} (ho : lN w b cs) (h : off + 3 <= cs.length) : (jF 45 (.pointer (some ⟨b, off, none⟩))).run pg w = .ok (.value (.agg ((cs.drop off).take 3).toArray)) w := PD Tryz.underlying45 rfl alY ho h
theorem mU {base n m : Nat} {ty : TypeId} {w : aDs} {v x : aDt} {l news : List aDt} (h : yW w base 1 v n l) (hx : Cl w 1 x m news) (hone : ∀ y ∈ news, one y = true) (hb : base <= w.heap.size) (hbytes : (n + m) * 1 <= 140737488355328) {K : aDt -> aDs -> Prop} (hk : ∀ v' w', yW w' base 1 v' (n + m) (l ++ news) -> jN w w' (fun y => base <= y) -> K v' w') : gI pg (oF .append #[22, 22] ty [v, x]) w K := ZH (i := Tryz.t5) Tryz.underlying22 Tryz.underlying22 JG rfl rfl rfl h hx hone hb (by omega) hbytes (by decide) hk
theorem dK {k : IntKind} (a : Int) (w : aDs) : (nI 32 5 (.int k a)).run pg w = .ok (.value (.int .u8 (IntKind.u8.wrap a))) w := De Tryz.underlying32 Tryz.underlying5
theorem V3 : (pg).info? 22 = some Tryz.t22 := by kernel_rfl
theorem bN (b o : Nat) (w : aDs) : (jH 56 (.pointer (some ⟨b, o, none⟩)) 3).run pg w = .ok (.value (.pointer (some ⟨b, o + 3, none⟩))) w := mP (i := 3) Tryz.underlying56 rfl V3 (by decide) _
theorem fS (x : Addr) (w : aDs) : (jF 22 (.pointer (some x))).run pg w = ldC (w.cell? x) w (far pg 22 x w) := Yb Tryz.underlying22 rfl x w
theorem fC {k : IntKind} (a : Int) (w : aDs) : (nI 32 3 (.int k a)).run pg w = .ok (.value (.int .i64 (IntKind.i64.wrap a))) w := De Tryz.underlying32 Tryz.underlying3
theorem HS {b off : Nat} {cs : List aDt} {w : aDs} (ho : lN w b cs) (h : off + 3 <= cs.length) {K : aDt -> Prop} (hk : K (.agg ((cs.drop off).take 3).toArray)) : MO pg 45 (.pointer (some ⟨b, off, none⟩)) w K := TD Tryz.underlying45 rfl alY ho h hk
theorem aM (n0 : Int) (n1 : Int) (n2 : Int) (w : aDs) : (kY 45 [(0, (.int .u32 n0)), (1, (.int .u32 n1)), (2, (.int .u32 n2))]).run pg w = .ok (.value (.agg #[(.int .u32 n0), (.int .u32 n1), (.int .u32 n2)])) w := by kernel_rfl
theorem dF {k k' : IntKind} {lo hi : Int} (a : Option Addr) (n c : Nat) (w : aDs) (h0 : 0 <= lo) (h1 : lo <= hi) (h2 : hi <= c) : (lP 22 (.slice a n c) (some (.int k lo)) (some (.int k' hi)) none).run pg w = .ok (.value (.slice (mN a c (lo.toNat) 1) (hi.toNat - lo.toNat) (c - lo.toNat))) w := adL Tryz.underlying22 JG _ n c h0 h1 h2
theorem aX (b0 : Bool) (n1 : Int) (n2 : Int) (w : aDs) : (kY 65 [(0, (.bool b0)), (1, (.int .i64 n1)), (2, (.int .i64 n2))]).run pg w = .ok (.value (.agg #[(.bool b0), (.int .i64 n1), (.int .i64 n2)])) w := by kernel_rfl
theorem akZ : (pg).info? 65 = some Tryz.t65 := by kernel_rfl
theorem Gi {w : aDs} {K : aDt -> aDs -> Prop} (hk : ∀ w', lN w' w.heap.size [(.bool false), (.int .i64 0), (.int .i64 0)] -> jN w w' mC -> w'.heap.size = w.heap.size + 1 -> K (.pointer (some ⟨w.heap.size, 0, none⟩)) w') : gI pg (oM 65) w K := CO (i := Tryz.t65) akZ rfl hk
theorem AH {b off : Nat} {cs : List aDt} {w : aDs} {xs : Array aDt} {K : aDt -> aDs -> Prop} (ho : lN w b cs) (hs : xs.size = 3) (hv : ∀ x ∈ xs.toList, one x = true) (h : off + 3 <= cs.length) (hk : ∀ w', lN w' b (kV cs off xs.toList) -> jN w w' (fun x => x = b) -> w'.heap.size = w.heap.size -> K undef w') : gI pg (jQ 65 (.pointer (some ⟨b, off, none⟩)) (.agg xs)) w K := Fh (v := .agg xs) akZ ho hs hv h hk
theorem GO : (pg).info? 3 = some Tryz.t3 := by kernel_rfl
theorem bM (b o : Nat) (w : aDs) : (jH 65 (.pointer (some ⟨b, o, none⟩)) 1).run pg w = .ok (.value (.pointer (some ⟨b, o + 1, none⟩))) w := mP (i := 1) Tryz.underlying65 rfl GO (by decide) _
theorem LA {b off : Nat} {cs : List aDt} {w : aDs} {v : aDt} {K : aDt -> aDs -> Prop} (ho : lN w b cs) (hv : one v = true) (h : off < cs.length) (hk : ∀ w', lN w' b (cs.set off v) -> jN w w' (fun x => x = b) -> w'.heap.size = w.heap.size -> K undef w') : gI pg (jQ 3 (.pointer (some ⟨b, off, none⟩)) v) w K := Ac GO rfl ho hv h hk
theorem bP (b o : Nat) (w : aDs) : (jH 65 (.pointer (some ⟨b, o, none⟩)) 2).run pg w = .ok (.value (.pointer (some ⟨b, o + 2, none⟩))) w := mP (i := 2) Tryz.underlying65 rfl GO (by decide) _
theorem Zm {b off : Nat} {cs : List aDt} {w : aDs} (ho : lN w b cs) (h : off + 3 <= cs.length) : (jF 65 (.pointer (some ⟨b, off, none⟩))).run pg w = .ok (.value (.agg ((cs.drop off).take 3).toArray)) w := PD Tryz.underlying65 rfl akZ ho h
theorem aQ (p0 : Option Addr) (n1 : Int) (n2 : Int) (w : aDs) : (kY 56 [(0, (.pointer p0)), (1, (.int .u64 n1)), (2, (.int .i64 n2))]).run pg w = .ok (.value (.agg #[(.pointer p0), (.int .u64 n1), (.int .i64 n2), (.slice none 0 0), (.int .i64 0), (.int .i64 0)])) w := by kernel_rfl
theorem awG : (pg).info? 54 = some Tryz.t54 := by kernel_rfl
theorem cP (b o : Nat) (w : aDs) : (jH 56 (.pointer (some ⟨b, o, none⟩)) 0).run pg w = .ok (.value (.pointer (some ⟨b, o, none⟩))) w := mP (i := 0) Tryz.underlying56 rfl awG (by decide) _
theorem cG (x : Addr) (w : aDs) : (jF 54 (.pointer (some x))).run pg w = ldC (w.cell? x) w (far pg 54 x w) := Yb Tryz.underlying54 rfl x w
theorem eQ {ox oy : Operand} (x : Option Addr) (n c : Nat) (w : aDs) : (hZ .eql 22 ox oy (.slice x n c) (.slice none 0 0)).run pg w = .ok (.value (.bool x.isNone)) w := auO Tryz.underlying22 x n c
theorem aF (b o : Nat) (w : aDs) : (jH 56 (.pointer (some ⟨b, o, none⟩)) 4).run pg w = .ok (.value (.pointer (some ⟨b, o + 4, none⟩))) w := mP (i := 4) Tryz.underlying56 rfl GO (by decide) _
theorem gS (x : Addr) (w : aDs) : (jF 3 (.pointer (some x))).run pg w = ldC (w.cell? x) w (far pg 3 x w) := Yb Tryz.underlying3 rfl x w
theorem aI (b o : Nat) (w : aDs) : (jH 56 (.pointer (some ⟨b, o, none⟩)) 5).run pg w = .ok (.value (.pointer (some ⟨b, o + 5, none⟩))) w := mP (i := 5) Tryz.underlying56 rfl GO (by decide) _
theorem cK  (w : aDs) : (kY 77 []).run pg w = .ok (.value (.agg #[(.slice none 0 0)])) w := by kernel_rfl
theorem aT {ox oy : Operand} (x : Option Addr) (w : aDs) : (hZ .eql 60 ox oy (.pointer x) (.pointer none)).run pg w = .ok (.value (.bool x.isNone)) w := adU Tryz.underlying60 x
theorem bV (b o : Nat) (w : aDs) : (jH 77 (.pointer (some ⟨b, o, none⟩)) 0).run pg w = .ok (.value (.pointer (some ⟨b, o, none⟩))) w := mP (i := 0) Tryz.underlying77 rfl V3 (by decide) _
theorem fT {k : IntKind} (a : Int) (w : aDs) : (nI 3 50 (.int k a)).run pg w = .ok (.value (.int .u64 (IntKind.u64.wrap a))) w := De Tryz.underlying3 Tryz.underlying50
theorem sW {b off : Nat} {cs : List aDt} {w : aDs} {v : aDt} {K : aDt -> aDs -> Prop} (ho : lN w b cs) (hv : one v = true) (h : off < cs.length) (hk : ∀ w', lN w' b (cs.set off v) -> jN w w' (fun x => x = b) -> w'.heap.size = w.heap.size -> K undef w') : gI pg (jQ 22 (.pointer (some ⟨b, off, none⟩)) v) w K := Ac V3 rfl ho hv h hk
theorem cI {ty : TypeId} (x : Option Addr) (n c : Nat) (w : aDs) : (oF .len #[80] ty [.slice x n c]).run pg w = .ok (.value (.int .i64 n)) w := Vq Tryz.underlying80 x n c
theorem aqQ : (pg).info? 84 = some Tryz.t84 := by kernel_rfl
theorem cJ {k : IntKind} {a : Int} (b o n c : Nat) (w : aDs) (h0 : 0 <= a) (h1 : a < n) : (jS 80 (.slice (some ⟨b, o, none⟩) n c) (.int k a)).run pg w = .ok (.value (.pointer (some ⟨b, o + a.toNat * 3, none⟩))) w := XB rfl Tryz.underlying80 aqQ b o n c h0 h1
theorem Mk : (pg).info? 38 = some Tryz.t38 := by kernel_rfl
theorem aD (b o : Nat) (w : aDs) : (jH 84 (.pointer (some ⟨b, o, none⟩)) 0).run pg w = .ok (.value (.pointer (some ⟨b, o, none⟩))) w := mP (i := 0) Tryz.underlying84 rfl Mk (by decide) _
theorem gA (x : Addr) (w : aDs) : (jF 38 (.pointer (some x))).run pg w = ldC (w.cell? x) w (far pg 38 x w) := Yb Tryz.underlying38 rfl x w
theorem fB {k : IntKind} (a : Int) (w : aDs) : (nI 38 3 (.int k a)).run pg w = .ok (.value (.int .i64 (IntKind.i64.wrap a))) w := De Tryz.underlying38 Tryz.underlying3
theorem aP (b o : Nat) (w : aDs) : (jH 84 (.pointer (some ⟨b, o, none⟩)) 1).run pg w = .ok (.value (.pointer (some ⟨b, o + 1, none⟩))) w := mP (i := 1) Tryz.underlying84 rfl Mk (by decide) _
theorem aG (b o : Nat) (w : aDs) : (jH 84 (.pointer (some ⟨b, o, none⟩)) 2).run pg w = .ok (.value (.pointer (some ⟨b, o + 2, none⟩))) w := mP (i := 2) Tryz.underlying84 rfl Mk (by decide) _
theorem amC {b off : Nat} {cs : List aDt} {w : aDs} {v : aDt} {K : aDt -> aDs -> Prop} (ho : lN w b cs) (hv : one v = true) (h : off < cs.length) (hk : ∀ w', lN w' b (cs.set off v) -> jN w w' (fun x => x = b) -> w'.heap.size = w.heap.size -> K undef w') : gI pg (jQ 38 (.pointer (some ⟨b, off, none⟩)) v) w K := Ac Mk rfl ho hv h hk
theorem Tq {n : Nat} {ps : List (Nat × aDt)} {cells : Array aDt} {w : aDs} (h1 : ¬ n * 1 > 2 ^ 24) (h0 : ¬ n * 1 = 0) (hf : Go.Instr.fill (fun j => some (j * 1, 1)) ((Array.range (n * 1)).map ((Tryz.t22.zero.get!).cells[· % (Tryz.t22.zero.get!).cells.size]!)) ps = some cells) {K : aDt -> aDs -> Prop} (hk : ∀ w', lN w' w.heap.size cells.toList -> jN w w' mC -> w'.heap.size = w.heap.size + 1 -> K (.slice (some ⟨w.heap.size, 0, none⟩) n n) w') : gI pg (lT 137 n ps) w K := U9 (i := Tryz.t22) Tryz.underlying137 V3 rfl h1 h0 hf hk
theorem avI : (pg).info? 4 = some Tryz.t4 := by kernel_rfl
theorem bQ (b o : Nat) (w : aDs) : (jH 65 (.pointer (some ⟨b, o, none⟩)) 0).run pg w = .ok (.value (.pointer (some ⟨b, o, none⟩))) w := mP (i := 0) Tryz.underlying65 rfl avI (by decide) _
theorem gQ (x : Addr) (w : aDs) : (jF 4 (.pointer (some x))).run pg w = ldC (w.cell? x) w (far pg 4 x w) := Yb Tryz.underlying4 rfl x w
theorem aK (n0 : Int) (n1 : Int) (n2 : Int) (n3 : Int) (w : aDs) : (kY 90 [(0, (.int .u64 n0)), (1, (.int .u64 n1)), (2, (.int .u64 n2)), (3, (.int .u64 n3))]).run pg w = .ok (.value (.agg #[(.int .u64 n0), (.int .u64 n1), (.int .u64 n2), (.int .u64 n3)])) w := by kernel_rfl
theorem fH (aqX atK arU azW : aDt) (w : aDs) : (kY 93 [(0, (.agg #[aqX, atK, arU, azW]))]).run pg w = .ok (.value (.agg #[aqX, atK, arU, azW, (.int .u8 0), (.int .u8 0), (.int .u8 0), (.int .u8 0), (.int .u8 0), (.int .u8 0), (.int .u8 0), (.int .u8 0), (.int .u8 0), (.int .u8 0), (.int .u8 0), (.int .u8 0), (.int .u8 0), (.int .u8 0), (.int .u8 0), (.int .u8 0), (.int .u8 0), (.int .u8 0), (.int .u8 0), (.int .u8 0), (.int .u8 0), (.int .u8 0), (.int .u8 0), (.int .u8 0), (.int .u8 0), (.int .u8 0), (.int .u8 0), (.int .u8 0), (.int .u8 0), (.int .u8 0), (.int .u8 0), (.int .u8 0), (.int .i64 0), (.int .u64 0)])) w := by kernel_rfl
theorem dT {ox oy : Operand} (x : Option Addr) (w : aDs) : (hZ .eql 68 ox oy (.pointer x) (.pointer none)).run pg w = .ok (.value (.bool x.isNone)) w := adU Tryz.underlying68 x
theorem Zz : (pg).info? 32 = some Tryz.t32 := by kernel_rfl
theorem dP (b o : Nat) (w : aDs) : (jH 93 (.pointer (some ⟨b, o, none⟩)) 3).run pg w = .ok (.value (.pointer (some ⟨b, o + 37, none⟩))) w := mP (i := 3) Tryz.underlying93 rfl Zz (by decide) _
theorem gG (x : Addr) (w : aDs) : (jF 32 (.pointer (some x))).run pg w = ldC (w.cell? x) w (far pg 32 x w) := Yb Tryz.underlying32 rfl x w
theorem JT {b off : Nat} {cs : List aDt} {w : aDs} {v : aDt} {K : aDt -> aDs -> Prop} (ho : lN w b cs) (hv : one v = true) (h : off < cs.length) (hk : ∀ w', lN w' b (cs.set off v) -> jN w w' (fun x => x = b) -> w'.heap.size = w.heap.size -> K undef w') : gI pg (jQ 32 (.pointer (some ⟨b, off, none⟩)) v) w K := Ac Zz rfl ho hv h hk
theorem aAc : (pg).info? 91 = some Tryz.t91 := by kernel_rfl
theorem dA (b o : Nat) (w : aDs) : (jH 93 (.pointer (some ⟨b, o, none⟩)) 1).run pg w = .ok (.value (.pointer (some ⟨b, o + 4, none⟩))) w := mP (i := 1) Tryz.underlying93 rfl aAc (by decide) _
theorem eU (b o : Nat) (w : aDs) : (jH 93 (.pointer (some ⟨b, o, none⟩)) 2).run pg w = .ok (.value (.pointer (some ⟨b, o + 36, none⟩))) w := mP (i := 2) Tryz.underlying93 rfl GO (by decide) _
theorem dI {k : IntKind} {lo : Int} (b o : Nat) (w : aDs) (h0 : 0 <= lo) (h1 : lo <= 32) : (lP 91 (.pointer (some ⟨b, o, none⟩)) (some (.int k lo)) none none).run pg w = .ok (.value (.slice (some (uI ⟨b, o, none⟩ 32 (lo.toNat) 1)) (32 - lo.toNat) (32 - lo.toNat))) w := aeX Tryz.underlying91 JG _ h0 (by simpa using h1)
theorem Tt {ty : TypeId} {w : aDs} {b off dl c : Nat} {cs : List aDt} (ho : lN w b cs) (hl : off + dl <= cs.length) {v : aDt} {l : List aDt} (h : Sl w v l) (hv : ∀ x ∈ l, one x = true) {K : aDt -> aDs -> Prop} (hk : ∀ w', lN w' b (kV cs off (l.take (min l.length dl))) -> jN w w' (fun x => x = b) -> w'.heap.size = w.heap.size -> K (.int .i64 (min l.length dl : Nat)) w') : gI pg (oF .copy #[22, 22] ty [.slice (some ⟨b, off, none⟩) dl c, v]) w K := arX Tryz.underlying22 JG rfl ho hl h hv hk
theorem eF {k : IntKind} {lo : Int} (a : Option Addr) (n c : Nat) (w : aDs) (h0 : 0 <= lo) (h1 : lo <= n) : (lP 22 (.slice a n c) (some (.int k lo)) none none).run pg w = .ok (.value (.slice (mN a c (lo.toNat) 1) (n - lo.toNat) (c - lo.toNat))) w := aiC Tryz.underlying22 JG _ n c h0 h1
theorem awL : (pg).info? 90 = some Tryz.t90 := by kernel_rfl
theorem fG (b o : Nat) (w : aDs) : (jH 93 (.pointer (some ⟨b, o, none⟩)) 0).run pg w = .ok (.value (.pointer (some ⟨b, o, none⟩))) w := mP (i := 0) Tryz.underlying93 rfl awL (by decide) _
theorem fF {k : IntKind} {a : Int} (b o : Nat) (w : aDs) (h0 : 0 <= a) (h1 : a < 4) : (jS 90 (.pointer (some ⟨b, o, none⟩)) (.int k a)).run pg w = .ok (.value (.pointer (some ⟨b, o + a.toNat, none⟩))) w := JS rfl Tryz.underlying90 Zz b o h0 (by simpa using h1)
theorem cF {k k' : IntKind} {lo hi : Int} (b o : Nat) (w : aDs) (h0 : 0 <= lo) (h1 : lo <= hi) (h2 : hi <= 32) : (lP 91 (.pointer (some ⟨b, o, none⟩)) (some (.int k lo)) (some (.int k' hi)) none).run pg w = .ok (.value (.slice (some (uI ⟨b, o, none⟩ 32 (lo.toNat) 1)) (hi.toNat - lo.toNat) (32 - lo.toNat))) w := UG Tryz.underlying91 JG _ h0 h1 (by simpa using h2)
theorem dC {k : IntKind} {hi : Int} (b o : Nat) (w : aDs) (h0 : 0 <= hi) (h1 : hi <= 32) : (lP 91 (.pointer (some ⟨b, o, none⟩)) none (some (.int k hi)) none).run pg w = .ok (.value (.slice (some (uI ⟨b, o, none⟩ 32 (0) 1)) (hi.toNat - 0) (32 - 0))) w := Ti Tryz.underlying91 JG _ h0 (by simpa using h1)
theorem gK (x : Addr) (w : aDs) : (jF 5 (.pointer (some x))).run pg w = ldC (w.cell? x) w (far pg 5 x w) := Yb Tryz.underlying5 rfl x w
theorem dO {k : IntKind} (a : Int) (w : aDs) : (nI 5 32 (.int k a)).run pg w = .ok (.value (.int .u64 (IntKind.u64.wrap a))) w := De Tryz.underlying5 Tryz.underlying32
theorem cB (a0 : Option Addr) (l0 c0 : Nat) (w : aDs) : (kY 97 [(0, (.slice a0 l0 c0))]).run pg w = .ok (.value (.agg #[(.slice a0 l0 c0), (.int .i64 0)])) w := by kernel_rfl
theorem aS {ox oy : Operand} (x : Option Addr) (w : aDs) : (hZ .eql 54 ox oy (.pointer x) (.pointer none)).run pg w = .ok (.value (.bool x.isNone)) w := adU Tryz.underlying54 x
theorem bU (b o : Nat) (w : aDs) : (jH 97 (.pointer (some ⟨b, o, none⟩)) 0).run pg w = .ok (.value (.pointer (some ⟨b, o, none⟩))) w := mP (i := 0) Tryz.underlying97 rfl V3 (by decide) _
theorem atO : (pg).info? 24 = some Tryz.t24 := by kernel_rfl
theorem bT (b o : Nat) (w : aDs) : (jH 97 (.pointer (some ⟨b, o, none⟩)) 1).run pg w = .ok (.value (.pointer (some ⟨b, o + 1, none⟩))) w := mP (i := 1) Tryz.underlying97 rfl atO (by decide) _
theorem fN (x : Addr) (w : aDs) : (jF 24 (.pointer (some x))).run pg w = ldC (w.cell? x) w (far pg 24 x w) := Yb Tryz.underlying24 rfl x w
theorem aeL : (pg).info? 101 = some Tryz.t101 := by kernel_rfl
theorem D3 {w : aDs} {K : aDt -> aDs -> Prop} (hk : ∀ w', lN w' w.heap.size [(.int .u64 0), (.int .u64 0), (.bool false), (.bool false)] -> jN w w' mC -> w'.heap.size = w.heap.size + 1 -> K (.pointer (some ⟨w.heap.size, 0, none⟩)) w') : gI pg (oM 101) w K := CO (i := Tryz.t101) aeL rfl hk
theorem qY {b off : Nat} {cs : List aDt} {w : aDs} {xs : Array aDt} {K : aDt -> aDs -> Prop} (ho : lN w b cs) (hs : xs.size = 4) (hv : ∀ x ∈ xs.toList, one x = true) (h : off + 4 <= cs.length) (hk : ∀ w', lN w' b (kV cs off xs.toList) -> jN w w' (fun x => x = b) -> w'.heap.size = w.heap.size -> K undef w') : gI pg (jQ 101 (.pointer (some ⟨b, off, none⟩)) (.agg xs)) w K := Fh (v := .agg xs) aeL ho hs hv h hk
theorem Vk {b off : Nat} {cs : List aDt} {w : aDs} {v : aDt} {K : aDt -> aDs -> Prop} (ho : lN w b cs) (hv : one v = true) (h : off < cs.length) (hk : ∀ w', lN w' b (cs.set off v) -> jN w w' (fun x => x = b) -> w'.heap.size = w.heap.size -> K undef w') : gI pg (jQ 54 (.pointer (some ⟨b, off, none⟩)) v) w K := Ac awG rfl ho hv h hk
theorem aE (b o : Nat) (w : aDs) : (jH 101 (.pointer (some ⟨b, o, none⟩)) 0).run pg w = .ok (.value (.pointer (some ⟨b, o, none⟩))) w := mP (i := 0) Tryz.underlying101 rfl Zz (by decide) _
theorem aH (b o : Nat) (w : aDs) : (jH 56 (.pointer (some ⟨b, o, none⟩)) 1).run pg w = .ok (.value (.pointer (some ⟨b, o + 1, none⟩))) w := mP (i := 1) Tryz.underlying56 rfl Zz (by decide) _
theorem aN (b o : Nat) (w : aDs) : (jH 101 (.pointer (some ⟨b, o, none⟩)) 2).run pg w = .ok (.value (.pointer (some ⟨b, o + 2, none⟩))) w := mP (i := 2) Tryz.underlying101 rfl avI (by decide) _
theorem aY (b o : Nat) (w : aDs) : (jH 101 (.pointer (some ⟨b, o, none⟩)) 1).run pg w = .ok (.value (.pointer (some ⟨b, o + 1, none⟩))) w := mP (i := 1) Tryz.underlying101 rfl Zz (by decide) _
theorem bF (b o : Nat) (w : aDs) : (jH 56 (.pointer (some ⟨b, o, none⟩)) 2).run pg w = .ok (.value (.pointer (some ⟨b, o + 2, none⟩))) w := mP (i := 2) Tryz.underlying56 rfl GO (by decide) _
theorem cN (aqX atK arU : aDt) (w : aDs) : (kY 110 [(2, (.agg #[aqX, atK, arU]))]).run pg w = .ok (.value (.agg #[(.slice none 0 0), (.int .i64 0), (.slice none 0 0), (.int .i64 0), (.slice none 0 0), (.int .i64 0), (.slice none 0 0), aqX, atK, arU])) w := by kernel_rfl
theorem aeF : (pg).info? 110 = some Tryz.t110 := by kernel_rfl
theorem QM {w : aDs} {K : aDt -> aDs -> Prop} (hk : ∀ w', lN w' w.heap.size [(.slice none 0 0), (.int .i64 0), (.slice none 0 0), (.int .i64 0), (.slice none 0 0), (.int .i64 0), (.slice none 0 0), (.int .u32 0), (.int .u32 0), (.int .u32 0)] -> jN w w' mC -> w'.heap.size = w.heap.size + 1 -> K (.pointer (some ⟨w.heap.size, 0, none⟩)) w') : gI pg (oM 110) w K := CO (i := Tryz.t110) aeF rfl hk
theorem qD {b off : Nat} {cs : List aDt} {w : aDs} {xs : Array aDt} {K : aDt -> aDs -> Prop} (ho : lN w b cs) (hs : xs.size = 10) (hv : ∀ x ∈ xs.toList, one x = true) (h : off + 10 <= cs.length) (hk : ∀ w', lN w' b (kV cs off xs.toList) -> jN w w' (fun x => x = b) -> w'.heap.size = w.heap.size -> K undef w') : gI pg (jQ 110 (.pointer (some ⟨b, off, none⟩)) (.agg xs)) w K := Fh (v := .agg xs) aeF ho hs hv h hk
theorem Hl {b off : Nat} {cs : List aDt} {w : aDs} (ho : lN w b cs) (h : off + 10 <= cs.length) : (jF 110 (.pointer (some ⟨b, off, none⟩))).run pg w = .ok (.value (.agg ((cs.drop off).take 10).toArray)) w := PD Tryz.underlying110 rfl aeF ho h
theorem bK (b o : Nat) (w : aDs) : (jH 101 (.pointer (some ⟨b, o, none⟩)) 3).run pg w = .ok (.value (.pointer (some ⟨b, o + 3, none⟩))) w := mP (i := 3) Tryz.underlying101 rfl avI (by decide) _
theorem IB {w : aDs} {K : aDt -> aDs -> Prop} (hk : ∀ w', Mp w' w.heap.size (WS (n := 4)) ([] : List (Rj 4 × aDt)) -> jN w w' mC -> w'.heap.size = w.heap.size + 1 -> K (.map (some w.heap.size)) w') : gI pg (XK 116 none) w K := aoU _ hk
theorem XM {k : IntKind} {n : Int} {w : aDs} {K : aDt -> aDs -> Prop} (h0 : 0 <= n) (hn : 8 * n <= 2 ^ 48) (hk : ∀ w', lN w' w.heap.size (List.replicate n.toNat (.int .i64 0)) -> jN w w' mC -> w'.heap.size = w.heap.size + 1 -> K (.slice (some ⟨w.heap.size, 0, none⟩) n.toNat n.toNat) w') : gI pg (sS 117 (.int k n) (.int k n)) w K := ZV (i := Tryz.t3) Tryz.underlying117 GO rfl rfl rfl h0 hn (by omega) hk
theorem aA (a0 : Option Addr) (l0 c0 : Nat) (n1 : Int) (m2 : Option Nat) (a3 : Option Addr) (l3 c3 : Nat) (n4 : Int) (w : aDs) : (kY 119 [(0, (.slice a0 l0 c0)), (1, (.int .i64 n1)), (2, (.map m2)), (3, (.slice a3 l3 c3)), (4, (.int .i64 n4))]).run pg w = .ok (.value (.agg #[(.slice a0 l0 c0), (.int .i64 n1), (.map m2), (.slice a3 l3 c3), (.int .i64 n4)])) w := by kernel_rfl
theorem eY {k : IntKind} (a : Int) (w : aDs) : (nI 3 38 (.int k a)).run pg w = .ok (.value (.int .u32 (IntKind.u32.wrap a))) w := De Tryz.underlying3 Tryz.underlying38
theorem aL (n0 : Int) (n1 : Int) (n2 : Int) (w : aDs) : (kY 84 [(0, (.int .u32 n0)), (1, (.int .u32 n1)), (2, (.int .u32 n2))]).run pg w = .ok (.value (.agg #[(.int .u32 n0), (.int .u32 n1), (.int .u32 n2)])) w := by kernel_rfl
theorem Vn {n : Nat} {ps : List (Nat × aDt)} {cells : Array aDt} {w : aDs} (h1 : ¬ n * 3 > 2 ^ 24) (h0 : ¬ n * 3 = 0) (hf : Go.Instr.fill (fun j => some (j * 3, 3)) ((Array.range (n * 3)).map ((Tryz.t84.zero.get!).cells[· % (Tryz.t84.zero.get!).cells.size]!)) ps = some cells) {K : aDt -> aDs -> Prop} (hk : ∀ w', lN w' w.heap.size cells.toList -> jN w w' mC -> w'.heap.size = w.heap.size + 1 -> K (.slice (some ⟨w.heap.size, 0, none⟩) n n) w') : gI pg (lT 80 n ps) w K := U9 (i := Tryz.t84) Tryz.underlying80 aqQ rfl h1 h0 hf hk
theorem Ex {base n m : Nat} {ty : TypeId} {w : aDs} {v x : aDt} {l news : List aDt} (h : yW w base 3 v n l) (hx : Cl w 3 x m news) (hone : ∀ y ∈ news, one y = true) (hb : base <= w.heap.size) (hbytes : (n + m) * 12 <= 140737488355328) {K : aDt -> aDs -> Prop} (hk : ∀ v' w', yW w' base 3 v' (n + m) (l ++ news) -> jN w w' (fun y => base <= y) -> K v' w') : gI pg (oF .append #[80, 80] ty [v, x]) w K := ZH (i := Tryz.t84) Tryz.underlying80 Tryz.underlying80 aqQ rfl rfl rfl h hx hone hb (by omega) hbytes (by decide) hk
theorem cL (n0 : Int) (w : aDs) : (kY 84 [(0, (.int .u32 n0))]).run pg w = .ok (.value (.agg #[(.int .u32 n0), (.int .u32 0), (.int .u32 0)])) w := by kernel_rfl
theorem YO {w : aDs} {K : aDt -> aDs -> Prop} (hk : ∀ w', lN w' w.heap.size [(.slice none 0 0)] -> jN w w' mC -> w'.heap.size = w.heap.size + 1 -> K (.pointer (some ⟨w.heap.size, 0, none⟩)) w') : gI pg (oM 22) w K := CO (i := Tryz.t22) V3 rfl hk
theorem adT {k : IntKind} {n : Int} {w : aDs} {K : aDt -> aDs -> Prop} (h0 : 0 <= n) (hn : 4 * n <= 2 ^ 48) (hk : ∀ w', lN w' w.heap.size (List.replicate n.toNat (.int .u32 0)) -> jN w w' mC -> w'.heap.size = w.heap.size + 1 -> K (.slice (some ⟨w.heap.size, 0, none⟩) n.toNat n.toNat) w') : gI pg (sS 128 (.int k n) (.int k n)) w K := ZV (i := Tryz.t38) Tryz.underlying128 Mk rfl rfl rfl h0 hn (by omega) hk
theorem fJ {k : IntKind} {a : Int} (b o n c : Nat) (w : aDs) (h0 : 0 <= a) (h1 : a < n) : (jS 128 (.slice (some ⟨b, o, none⟩) n c) (.int k a)).run pg w = .ok (.value (.pointer (some ⟨b, o + a.toNat, none⟩))) w := TE rfl Tryz.underlying128 Mk b o n c h0 h1
theorem akE : (pg).info? 117 = some Tryz.t117 := by kernel_rfl
theorem fE {k : IntKind} {a : Int} (b o : Nat) (w : aDs) (h0 : 0 <= a) (h1 : a < 3) : (jS 131 (.pointer (some ⟨b, o, none⟩)) (.int k a)).run pg w = .ok (.value (.pointer (some ⟨b, o + a.toNat, none⟩))) w := JS rfl Tryz.underlying131 akE b o h0 (by simpa using h1)
theorem gF (x : Addr) (w : aDs) : (jF 117 (.pointer (some x))).run pg w = ldC (w.cell? x) w (far pg 117 x w) := Yb Tryz.underlying117 rfl x w
theorem axM : (pg).info? 106 = some Tryz.t106 := by kernel_rfl
theorem bJ {k : IntKind} {a : Int} (b o : Nat) (w : aDs) (h0 : 0 <= a) (h1 : a < 3) : (jS 108 (.pointer (some ⟨b, o, none⟩)) (.int k a)).run pg w = .ok (.value (.pointer (some ⟨b, o + a.toNat * 2, none⟩))) w := anM rfl Tryz.underlying108 axM b o h0 (by simpa using h1)
theorem eP {ty : TypeId} (x : Option Addr) (n c : Nat) (w : aDs) : (oF .len #[137] ty [.slice x n c]).run pg w = .ok (.value (.int .i64 n)) w := Vq Tryz.underlying137 x n c
theorem eN {k : IntKind} {a : Int} (b o n c : Nat) (w : aDs) (h0 : 0 <= a) (h1 : a < n) : (jS 137 (.slice (some ⟨b, o, none⟩) n c) (.int k a)).run pg w = .ok (.value (.pointer (some ⟨b, o + a.toNat, none⟩))) w := TE rfl Tryz.underlying137 V3 b o n c h0 h1
theorem bY (n0 : Int) (n1 : Int) (n2 : Int) (n3 : Int) (w : aDs) : (kY 139 [(0, (.int .i64 n0)), (1, (.int .i64 n1)), (2, (.int .i64 n2)), (3, (.int .i64 n3))]).run pg w = .ok (.value (.agg #[(.int .i64 n0), (.int .i64 n1), (.int .i64 n2), (.int .i64 n3)])) w := by kernel_rfl
theorem fW {k : IntKind} {a : Int} (cs : Array aDt) (w : aDs) (h0 : 0 <= a) (h1 : a < 4) : (Ry 139 (.agg cs) (.int k a)).run pg w = ldC cs[a.toNat]? w (aqH pg 139 cs k a w) := adJ Tryz.underlying139 Tryz.underlying3 rfl GO rfl cs h0 (by simpa using h1)
theorem aaT {b off : Nat} {cs : List aDt} {w : aDs} (ho : lN w b cs) (h : off + 4 <= cs.length) : (jF 90 (.pointer (some ⟨b, off, none⟩))).run pg w = .ok (.value (.agg ((cs.drop off).take 4).toArray)) w := PD Tryz.underlying90 rfl awL ho h
theorem fI {k : IntKind} {a : Int} (cs : Array aDt) (w : aDs) (h0 : 0 <= a) (h1 : a < 4) : (Ry 90 (.agg cs) (.int k a)).run pg w = ldC cs[a.toNat]? w (aqH pg 90 cs k a w) := adJ Tryz.underlying90 Tryz.underlying32 rfl Zz rfl cs h0 (by simpa using h1)
theorem JI {b off : Nat} {cs : List aDt} {w : aDs} {v : aDt} {K : aDt -> aDs -> Prop} (ho : lN w b cs) (hv : one v = true) (h : off < cs.length) (hk : ∀ w', lN w' b (cs.set off v) -> jN w w' (fun x => x = b) -> w'.heap.size = w.heap.size -> K undef w') : gI pg (jQ 24 (.pointer (some ⟨b, off, none⟩)) v) w K := Ac atO rfl ho hv h hk
theorem eJ {k k' : IntKind} {hi mx : Int} (a : Option Addr) (n c : Nat) (w : aDs) (h0 : 0 <= hi) (h1 : hi <= mx) (h2 : mx <= c) : (lP 22 (.slice a n c) none (some (.int k hi)) (some (.int k' mx))).run pg w = .ok (.value (.slice (mN a mx.toNat 0 1) (hi.toNat - 0) (mx.toNat - 0))) w := aiU Tryz.underlying22 JG a n c h0 h1 h2
theorem yN {b off : Nat} {cs : List aDt} {w : aDs} (ho : lN w b cs) (h : off + 4 <= cs.length) {K : aDt -> Prop} (hk : K (.agg ((cs.drop off).take 4).toArray)) : MO pg 101 (.pointer (some ⟨b, off, none⟩)) w K := TD Tryz.underlying101 rfl aeL ho h hk
theorem dH  (w : aDs) : (kY 101 []).run pg w = .ok (.value (.agg #[(.int .u64 0), (.int .u64 0), (.bool false), (.bool false)])) w := by kernel_rfl
theorem cO (b0 : Bool) (w : aDs) : (kY 101 [(3, (.bool b0))]).run pg w = .ok (.value (.agg #[(.int .u64 0), (.int .u64 0), (.bool false), (.bool b0)])) w := by kernel_rfl
theorem auW {b off : Nat} {cs : List aDt} {w : aDs} {v : aDt} {K : aDt -> aDs -> Prop} (ho : lN w b cs) (hv : one v = true) (h : off < cs.length) (hk : ∀ w', lN w' b (cs.set off v) -> jN w w' (fun x => x = b) -> w'.heap.size = w.heap.size -> K undef w') : gI pg (jQ 4 (.pointer (some ⟨b, off, none⟩)) v) w K := Ac avI rfl ho hv h hk
theorem Ym {b off : Nat} {cs : List aDt} {w : aDs} (ho : lN w b cs) (h : off + 4 <= cs.length) : (jF 101 (.pointer (some ⟨b, off, none⟩))).run pg w = .ok (.value (.agg ((cs.drop off).take 4).toArray)) w := PD Tryz.underlying101 rfl aeL ho h
theorem uF {b off : Nat} {cs : List aDt} {w : aDs} (ho : lN w b cs) (h : off + 10 <= cs.length) {K : aDt -> Prop} (hk : K (.agg ((cs.drop off).take 10).toArray)) : MO pg 110 (.pointer (some ⟨b, off, none⟩)) w K := TD Tryz.underlying110 rfl aeF ho h hk
theorem dB  (w : aDs) : (kY 110 []).run pg w = .ok (.value (.agg #[(.slice none 0 0), (.int .i64 0), (.slice none 0 0), (.int .i64 0), (.slice none 0 0), (.int .i64 0), (.slice none 0 0), (.int .u32 0), (.int .u32 0), (.int .u32 0)])) w := by kernel_rfl
theorem aaL : (pg).info? 146 = some Tryz.t146 := by kernel_rfl
theorem Pw {w : aDs} {K : aDt -> aDs -> Prop} (hk : ∀ w', lN w' w.heap.size [(.int .u8 0), (.int .u8 0), (.int .u8 0), (.int .u8 0)] -> jN w w' mC -> w'.heap.size = w.heap.size + 1 -> K (.pointer (some ⟨w.heap.size, 0, none⟩)) w') : gI pg (oM 146) w K := CO (i := Tryz.t146) aaL rfl hk
theorem Ie {b off : Nat} {cs : List aDt} {w : aDs} {xs : Array aDt} {K : aDt -> aDs -> Prop} (ho : lN w b cs) (hs : xs.size = 4) (hv : ∀ x ∈ xs.toList, one x = true) (h : off + 4 <= cs.length) (hk : ∀ w', lN w' b (kV cs off xs.toList) -> jN w w' (fun x => x = b) -> w'.heap.size = w.heap.size -> K undef w') : gI pg (jQ 146 (.pointer (some ⟨b, off, none⟩)) (.agg xs)) w K := Fh (v := .agg xs) aaL ho hs hv h hk
theorem ayD : (pg).info? 116 = some Tryz.t116 := by kernel_rfl
theorem bD (b o : Nat) (w : aDs) : (jH 119 (.pointer (some ⟨b, o, none⟩)) 2).run pg w = .ok (.value (.pointer (some ⟨b, o + 2, none⟩))) w := mP (i := 2) Tryz.underlying119 rfl ayD (by decide) _
theorem aZ (x : Addr) (w : aDs) : (jF 116 (.pointer (some x))).run pg w = ldC (w.cell? x) w (far pg 116 x w) := Yb Tryz.underlying116 rfl x w
theorem abI {b off : Nat} {l : List aDt} {w : aDs} (hl : l.length = 4) (h : ∀ j, j < l.length -> w.cell? ⟨b, off + j, none⟩ = l[j]?) : (jF 146 (.pointer (some ⟨b, off, none⟩))).run pg w = .ok (.value (.agg l.toArray)) w := auX Tryz.underlying146 rfl aaL hl.symm h
theorem NI {b off : Nat} {cs : List aDt} {w : aDs} (ho : lN w b cs) (h : off + 4 <= cs.length) : (jF 146 (.pointer (some ⟨b, off, none⟩))).run pg w = .ok (.value (.agg ((cs.drop off).take 4).toArray)) w := PD Tryz.underlying146 rfl aaL ho h
theorem IY {w : aDs} {m : Nat} {l : List (Rj 4 × aDt)} (hm : Mp w m (WS (n := 4)) l) (k : Rj 4) : (aeT 116 (.map (some m)) ((WS (n := 4)) k) true).run pg w = .ok (.value (.tuple #[(assoc k l).getD (.int .i64 0), .bool (assoc k l).isSome])) w := awU Tryz.underlying116 GO rfl (acL (n := 4) Tryz.underlying146 Tryz.underlying5 JG rfl) hm k
theorem aO (b o : Nat) (w : aDs) : (jH 119 (.pointer (some ⟨b, o, none⟩)) 3).run pg w = .ok (.value (.pointer (some ⟨b, o + 3, none⟩))) w := mP (i := 3) Tryz.underlying119 rfl akE (by decide) _
theorem fZ {k : IntKind} {a : Int} (b o n c : Nat) (w : aDs) (h0 : 0 <= a) (h1 : a < n) : (jS 117 (.slice (some ⟨b, o, none⟩) n c) (.int k a)).run pg w = .ok (.value (.pointer (some ⟨b, o + a.toNat, none⟩))) w := TE rfl Tryz.underlying117 GO b o n c h0 h1
theorem Tr {w : aDs} {m : Nat} {l : List (Rj 4 × aDt)} (hm : Mp w m (WS (n := 4)) l) (k : Rj 4) (v : aDt) {K : aDt -> aDs -> Prop} (hk : ∀ w', Mp w' m (WS (n := 4)) (upd k v l) -> jN w w' (fun y => y = m) -> w'.heap.size = w.heap.size -> K undef w') : gI pg (ZB 116 (.map (some m)) ((WS (n := 4)) k) v) w K := amK Tryz.underlying116 (acL (n := 4) Tryz.underlying146 Tryz.underlying5 JG rfl) hm k v hk
theorem aJ (b o : Nat) (w : aDs) : (jH 119 (.pointer (some ⟨b, o, none⟩)) 4).run pg w = .ok (.value (.pointer (some ⟨b, o + 4, none⟩))) w := mP (i := 4) Tryz.underlying119 rfl GO (by decide) _
theorem dE  (w : aDs) : (kY 45 []).run pg w = .ok (.value (.agg #[(.int .u32 0), (.int .u32 0), (.int .u32 0)])) w := by kernel_rfl
theorem dQ {k : IntKind} {a : Int} (b o : Nat) (w : aDs) (h0 : 0 <= a) (h1 : a < 3) : (jS 45 (.pointer (some ⟨b, o, none⟩)) (.int k a)).run pg w = .ok (.value (.pointer (some ⟨b, o + a.toNat, none⟩))) w := JS rfl Tryz.underlying45 Mk b o h0 (by simpa using h1)
theorem bG {k k' : IntKind} {lo hi : Int} (b o : Nat) (w : aDs) (h0 : 0 <= lo) (h1 : lo <= hi) (h2 : hi <= 3) : (lP 45 (.pointer (some ⟨b, o, none⟩)) (some (.int k lo)) (some (.int k' hi)) none).run pg w = .ok (.value (.slice (some (uI ⟨b, o, none⟩ 3 (lo.toNat) 1)) (hi.toNat - lo.toNat) (3 - lo.toNat))) w := UG Tryz.underlying45 Mk _ h0 h1 (by simpa using h2)
theorem cC {k : IntKind} {hi : Int} (b o : Nat) (w : aDs) (h0 : 0 <= hi) (h1 : hi <= 3) : (lP 45 (.pointer (some ⟨b, o, none⟩)) none (some (.int k hi)) none).run pg w = .ok (.value (.slice (some (uI ⟨b, o, none⟩ 3 (0) 1)) (hi.toNat - 0) (3 - 0))) w := Ti Tryz.underlying45 Mk _ h0 (by simpa using h1)
theorem fK {ty : TypeId} (x : Option Addr) (n c : Nat) (w : aDs) : (oF .len #[128] ty [.slice x n c]).run pg w = .ok (.value (.int .i64 n)) w := Vq Tryz.underlying128 x n c
theorem dL {k : IntKind} {hi : Int} (a : Option Addr) (n c : Nat) (w : aDs) (h0 : 0 <= hi) (h1 : hi <= c) : (lP 128 (.slice a n c) none (some (.int k hi)) none).run pg w = .ok (.value (.slice (mN a c (0) 1) (hi.toNat - 0) (c - 0))) w := Vd Tryz.underlying128 Mk _ n c h0 h1
theorem gC {ty : TypeId} (x : Option Addr) (n c : Nat) (w : aDs) : (oF .len #[117] ty [.slice x n c]).run pg w = .ok (.value (.int .i64 n)) w := Vq Tryz.underlying117 x n c
theorem fM {k : IntKind} (a : Int) (w : aDs) : (nI 3 5 (.int k a)).run pg w = .ok (.value (.int .u8 (IntKind.u8.wrap a))) w := De Tryz.underlying3 Tryz.underlying5
theorem eZ {k : IntKind} {a : Int} (cs : Array aDt) (w : aDs) (h0 : 0 <= a) (h1 : a < 3) : (Ry 44 (.agg cs) (.int k a)).run pg w = ldC cs[a.toNat]? w (aqH pg 44 cs k a w) := adJ Tryz.underlying44 Tryz.underlying38 rfl Mk rfl cs h0 (by simpa using h1)
theorem eT  (w : aDs) : (kY 106 []).run pg w = .ok (.value (.agg #[(.int .i64 0), (.slice none 0 0)])) w := by kernel_rfl
theorem dU {k : IntKind} {a : Int} (b o : Nat) (w : aDs) (h0 : 0 <= a) (h1 : a < 256) : (jS 160 (.pointer (some ⟨b, o, none⟩)) (.int k a)).run pg w = .ok (.value (.pointer (some ⟨b, o + a.toNat, none⟩))) w := JS rfl Tryz.underlying160 Mk b o h0 (by simpa using h1)
theorem aR (b o : Nat) (w : aDs) : (jH 162 (.pointer (some ⟨b, o, none⟩)) 1).run pg w = .ok (.value (.pointer (some ⟨b, o + 1, none⟩))) w := mP (i := 1) Tryz.underlying162 rfl akE (by decide) _
theorem cH {k : IntKind} {hi : Int} (b o : Nat) (w : aDs) (h0 : 0 <= hi) (h1 : hi <= 256) : (lP 160 (.pointer (some ⟨b, o, none⟩)) none (some (.int k hi)) none).run pg w = .ok (.value (.slice (some (uI ⟨b, o, none⟩ 256 (0) 1)) (hi.toNat - 0) (256 - 0))) w := Ti Tryz.underlying160 Mk _ h0 (by simpa using h1)
theorem dG (n0 : Int) (n1 : Int) (n2 : Int) (w : aDs) : (kY 172 [(0, (.int .i64 n0)), (1, (.int .i64 n1)), (2, (.int .i64 n2))]).run pg w = .ok (.value (.agg #[(.int .i64 n0), (.int .i64 n1), (.int .i64 n2)])) w := by kernel_rfl
theorem fY {k : IntKind} {a : Int} (cs : Array aDt) (w : aDs) (h0 : 0 <= a) (h1 : a < 3) : (Ry 172 (.agg cs) (.int k a)).run pg w = ldC cs[a.toNat]? w (aqH pg 172 cs k a w) := adJ Tryz.underlying172 Tryz.underlying3 rfl GO rfl cs h0 (by simpa using h1)
theorem fX {k : IntKind} {a : Int} (b o : Nat) (w : aDs) (h0 : 0 <= a) (h1 : a < 3) : (jS 172 (.pointer (some ⟨b, o, none⟩)) (.int k a)).run pg w = .ok (.value (.pointer (some ⟨b, o + a.toNat, none⟩))) w := JS rfl Tryz.underlying172 GO b o h0 (by simpa using h1)
theorem fD {k : IntKind} {a : Int} (b o : Nat) (w : aDs) (h0 : 0 <= a) (h1 : a < 3) : (jS 44 (.pointer (some ⟨b, o, none⟩)) (.int k a)).run pg w = .ok (.value (.pointer (some ⟨b, o + a.toNat, none⟩))) w := JS rfl Tryz.underlying44 Mk b o h0 (by simpa using h1)
theorem cZ (b o : Nat) (w : aDs) : (jH 106 (.pointer (some ⟨b, o, none⟩)) 0).run pg w = .ok (.value (.pointer (some ⟨b, o, none⟩))) w := mP (i := 0) Tryz.underlying106 rfl GO (by decide) _
theorem aW {ox oy : Operand} (x : Option Addr) (w : aDs) : (hZ .neq 60 ox oy (.pointer x) (.pointer none)).run pg w = .ok (.value (.bool (!x.isNone))) w := ayL Tryz.underlying60 x
theorem QS {b off : Nat} {cs : List aDt} {w : aDs} (ho : lN w b cs) (h : off + 3 <= cs.length) {K : aDt -> Prop} (hk : K (.agg ((cs.drop off).take 3).toArray)) : MO pg 65 (.pointer (some ⟨b, off, none⟩)) w K := TD Tryz.underlying65 rfl akZ ho h hk
theorem dV  (w : aDs) : (kY 65 []).run pg w = .ok (.value (.agg #[(.bool false), (.int .i64 0), (.int .i64 0)])) w := by kernel_rfl
theorem fU {k : IntKind} (a : Int) (w : aDs) : (nI 50 3 (.int k a)).run pg w = .ok (.value (.int .i64 (IntKind.i64.wrap a))) w := De Tryz.underlying50 Tryz.underlying3
theorem UY {b off : Nat} {cs : List aDt} {w : aDs} (ho : lN w b cs) (h : off + 4 <= cs.length) {K : aDt -> Prop} (hk : K (.agg ((cs.drop off).take 4).toArray)) : MO pg 146 (.pointer (some ⟨b, off, none⟩)) w K := TD Tryz.underlying146 rfl aaL ho h hk
theorem cR (b o : Nat) (w : aDs) : (jH 119 (.pointer (some ⟨b, o, none⟩)) 0).run pg w = .ok (.value (.pointer (some ⟨b, o, none⟩))) w := mP (i := 0) Tryz.underlying119 rfl V3 (by decide) _
theorem eX  (w : aDs) : (kY 146 []).run pg w = .ok (.value (.agg #[(.int .u8 0), (.int .u8 0), (.int .u8 0), (.int .u8 0)])) w := by kernel_rfl
theorem fP {w : aDs} (x : Option Addr) (n c : Nat) (h : 4 <= n) : (auK 146 (.slice x n c)).run pg w = .ok (.value (.pointer x)) w := ayZ Tryz.underlying146 x n c h
theorem cD (b o : Nat) (w : aDs) : (jH 119 (.pointer (some ⟨b, o, none⟩)) 1).run pg w = .ok (.value (.pointer (some ⟨b, o + 1, none⟩))) w := mP (i := 1) Tryz.underlying119 rfl GO (by decide) _
theorem bO (n0 : Int) (n1 : Int) (n2 : Int) (w : aDs) : (kY 44 [(0, (.int .u32 n0)), (1, (.int .u32 n1)), (2, (.int .u32 n2))]).run pg w = .ok (.value (.agg #[(.int .u32 n0), (.int .u32 n1), (.int .u32 n2)])) w := by kernel_rfl
theorem eD  (b o : Nat) (w : aDs)  : (lP 190 (.pointer (some ⟨b, o, none⟩)) none none none).run pg w = .ok (.value (.slice (some (uI ⟨b, o, none⟩ 36 (0) 1)) (36 - 0) (36 - 0))) w := Gq Tryz.underlying190 GO _
theorem bB (n0 : Int) (a1 : Option Addr) (l1 c1 : Nat) (w : aDs) : (kY 162 [(0, (.int .i64 n0)), (1, (.slice a1 l1 c1))]).run pg w = .ok (.value (.agg #[(.int .i64 n0), (.slice a1 l1 c1)])) w := by kernel_rfl
theorem dX  (b o : Nat) (w : aDs)  : (lP 191 (.pointer (some ⟨b, o, none⟩)) none none none).run pg w = .ok (.value (.slice (some (uI ⟨b, o, none⟩ 29 (0) 1)) (29 - 0) (29 - 0))) w := Gq Tryz.underlying191 GO _
theorem dW  (b o : Nat) (w : aDs)  : (lP 192 (.pointer (some ⟨b, o, none⟩)) none none none).run pg w = .ok (.value (.slice (some (uI ⟨b, o, none⟩ 53 (0) 1)) (53 - 0) (53 - 0))) w := Gq Tryz.underlying192 GO _
theorem cM  (w : aDs) : (kY 162 []).run pg w = .ok (.value (.agg #[(.int .i64 0), (.slice none 0 0)])) w := by kernel_rfl
theorem eL (n0 : Int) (w : aDs) : (kY 194 [(0, (.int .u8 n0))]).run pg w = .ok (.value (.agg #[(.int .u8 n0), (.int .i64 0), (.int .i64 0)])) w := by kernel_rfl
theorem axE : (pg).info? 194 = some Tryz.t194 := by kernel_rfl
theorem eK (a0 : Option Addr) (l0 c0 : Nat) (w : aDs) : (kY 106 [(1, (.slice a0 l0 c0))]).run pg w = .ok (.value (.agg #[(.int .i64 0), (.slice a0 l0 c0)])) w := by kernel_rfl
theorem bE (b o : Nat) (w : aDs) : (jH 162 (.pointer (some ⟨b, o, none⟩)) 0).run pg w = .ok (.value (.pointer (some ⟨b, o, none⟩))) w := mP (i := 0) Tryz.underlying162 rfl GO (by decide) _
theorem cY (n0 : Int) (a1 : Option Addr) (l1 c1 : Nat) (w : aDs) : (kY 106 [(0, (.int .i64 n0)), (1, (.slice a1 l1 c1))]).run pg w = .ok (.value (.agg #[(.int .i64 n0), (.slice a1 l1 c1)])) w := by kernel_rfl
theorem axD : (pg).info? 104 = some Tryz.t104 := by kernel_rfl
theorem bA (b o : Nat) (w : aDs) : (jH 106 (.pointer (some ⟨b, o, none⟩)) 1).run pg w = .ok (.value (.pointer (some ⟨b, o + 1, none⟩))) w := mP (i := 1) Tryz.underlying106 rfl axD (by decide) _
theorem dR (x : Addr) (w : aDs) : (jF 104 (.pointer (some x))).run pg w = ldC (w.cell? x) w (far pg 104 x w) := Yb Tryz.underlying104 rfl x w
theorem dY {ty : TypeId} (x : Option Addr) (n c : Nat) (w : aDs) : (oF .len #[104] ty [.slice x n c]).run pg w = .ok (.value (.int .i64 n)) w := Vq Tryz.underlying104 x n c
theorem eE {k : IntKind} {a : Int} (b o n c : Nat) (w : aDs) (h0 : 0 <= a) (h1 : a < n) : (jS 104 (.slice (some ⟨b, o, none⟩) n c) (.int k a)).run pg w = .ok (.value (.pointer (some ⟨b, o + a.toNat * 3, none⟩))) w := XB rfl Tryz.underlying104 axE b o n c h0 h1
theorem bL (b o : Nat) (w : aDs) : (jH 194 (.pointer (some ⟨b, o, none⟩)) 0).run pg w = .ok (.value (.pointer (some ⟨b, o, none⟩))) w := mP (i := 0) Tryz.underlying194 rfl JG (by decide) _
theorem cS (b o : Nat) (w : aDs) : (jH 194 (.pointer (some ⟨b, o, none⟩)) 1).run pg w = .ok (.value (.pointer (some ⟨b, o + 1, none⟩))) w := mP (i := 1) Tryz.underlying194 rfl GO (by decide) _
theorem cQ (b o : Nat) (w : aDs) : (jH 194 (.pointer (some ⟨b, o, none⟩)) 2).run pg w = .ok (.value (.pointer (some ⟨b, o + 2, none⟩))) w := mP (i := 2) Tryz.underlying194 rfl GO (by decide) _
theorem dN  (w : aDs) : (kY 201 []).run pg w = .ok (.value (.agg #[(.slice none 0 0), (.int .i64 0)])) w := by kernel_rfl
theorem bS {ox oy : Operand} (x : Option Addr) (w : aDs) : (hZ .eql 170 ox oy (.pointer x) (.pointer none)).run pg w = .ok (.value (.bool x.isNone)) w := adU Tryz.underlying170 x
theorem cW (b o : Nat) (w : aDs) : (jH 201 (.pointer (some ⟨b, o, none⟩)) 1).run pg w = .ok (.value (.pointer (some ⟨b, o + 1, none⟩))) w := mP (i := 1) Tryz.underlying201 rfl GO (by decide) _
theorem cV (b o : Nat) (w : aDs) : (jH 201 (.pointer (some ⟨b, o, none⟩)) 0).run pg w = .ok (.value (.pointer (some ⟨b, o, none⟩))) w := mP (i := 0) Tryz.underlying201 rfl V3 (by decide) _
theorem fO {k : IntKind} {hi : Int} (a : Option Addr) (n c : Nat) (w : aDs) (h0 : 0 <= hi) (h1 : hi <= c) : (lP 117 (.slice a n c) none (some (.int k hi)) none).run pg w = .ok (.value (.slice (mN a c (0) 1) (hi.toNat - 0) (c - 0))) w := Vd Tryz.underlying117 GO _ n c h0 h1
theorem bZ (a0 : Option Addr) (l0 c0 : Nat) (n1 : Int) (w : aDs) : (kY 201 [(0, (.slice a0 l0 c0)), (1, (.int .i64 n1))]).run pg w = .ok (.value (.agg #[(.slice a0 l0 c0), (.int .i64 n1)])) w := by kernel_rfl
theorem eI {k : IntKind} (a : Int) (w : aDs) : (nI 50 38 (.int k a)).run pg w = .ok (.value (.int .u32 (IntKind.u32.wrap a))) w := De Tryz.underlying50 Tryz.underlying38
theorem eM {k : IntKind} (a : Int) (w : aDs) : (nI 38 50 (.int k a)).run pg w = .ok (.value (.int .u64 (IntKind.u64.wrap a))) w := De Tryz.underlying38 Tryz.underlying50
theorem gE {k : IntKind} {a : Int} (x : ByteArray) (w : aDs) (h0 : 0 <= a) (h1 : a.toNat < x.size) : (Ry 9 (.string x) (.int k a)).run pg w = .ok (.value (.int .u8 (x[a.toNat]'h1).toNat)) w := ayF Tryz.underlying9 x h0 h1
theorem adG : (pg).info? 139 = some Tryz.t139 := by kernel_rfl
theorem ZQ {w : aDs} {K : aDt -> aDs -> Prop} (hk : ∀ w', lN w' w.heap.size [(.int .i64 0), (.int .i64 0), (.int .i64 0), (.int .i64 0)] -> jN w w' mC -> w'.heap.size = w.heap.size + 1 -> K (.pointer (some ⟨w.heap.size, 0, none⟩)) w') : gI pg (oM 139) w K := CO (i := Tryz.t139) adG rfl hk
theorem Y6 {b off : Nat} {cs : List aDt} {w : aDs} {xs : Array aDt} {K : aDt -> aDs -> Prop} (ho : lN w b cs) (hs : xs.size = 4) (hv : ∀ x ∈ xs.toList, one x = true) (h : off + 4 <= cs.length) (hk : ∀ w', lN w' b (kV cs off xs.toList) -> jN w w' (fun x => x = b) -> w'.heap.size = w.heap.size -> K undef w') : gI pg (jQ 139 (.pointer (some ⟨b, off, none⟩)) (.agg xs)) w K := Fh (v := .agg xs) adG ho hs hv h hk
theorem ahS {b off : Nat} {cs : List aDt} {w : aDs} (ho : lN w b cs) (h : off + 4 <= cs.length) : (jF 139 (.pointer (some ⟨b, off, none⟩))).run pg w = .ok (.value (.agg ((cs.drop off).take 4).toArray)) w := PD Tryz.underlying139 rfl adG ho h
theorem dZ  (b o : Nat) (w : aDs)  : (lP 231 (.pointer (some ⟨b, o, none⟩)) none none none).run pg w = .ok (.value (.slice (some (uI ⟨b, o, none⟩ 20 (0) 1)) (20 - 0) (20 - 0))) w := Gq Tryz.underlying231 GO _
theorem dS  (b o : Nat) (w : aDs)  : (lP 232 (.pointer (some ⟨b, o, none⟩)) none none none).run pg w = .ok (.value (.slice (some (uI ⟨b, o, none⟩ 21 (0) 1)) (21 - 0) (21 - 0))) w := Gq Tryz.underlying232 GO _
theorem dM {k : IntKind} (a : Int) (w : aDs) : (nI 38 5 (.int k a)).run pg w = .ok (.value (.int .u8 (IntKind.u8.wrap a))) w := De Tryz.underlying38 Tryz.underlying5
theorem dD {k : IntKind} (a : Int) (w : aDs) : (nI 32 38 (.int k a)).run pg w = .ok (.value (.int .u32 (IntKind.u32.wrap a))) w := De Tryz.underlying32 Tryz.underlying38
theorem ajK : (pg).info? 241 = some Tryz.t241 := by kernel_rfl
theorem UF {k : IntKind} {n : Int} {w : aDs} {K : aDt -> aDs -> Prop} (h0 : 0 <= n) (hn : 16 * n <= 2 ^ 48) (hk : ∀ w', lN w' w.heap.size (OF n.toNat [(.int .i64 0), (.int .i64 0)]) -> jN w w' mC -> w'.heap.size = w.heap.size + 1 -> K (.slice (some ⟨w.heap.size, 0, none⟩) n.toNat n.toNat) w') : gI pg (sS 225 (.int k n) (.int k n)) w K := anO (i := Tryz.t241) Tryz.underlying225 ajK rfl (by decide) rfl rfl h0 hn (by omega) hk
theorem bH (n0 : Int) (n1 : Int) (w : aDs) : (kY 241 [(0, (.int .i64 n0)), (1, (.int .i64 n1))]).run pg w = .ok (.value (.agg #[(.int .i64 n0), (.int .i64 n1)])) w := by kernel_rfl
theorem bR {k : IntKind} {a : Int} (b o n c : Nat) (w : aDs) (h0 : 0 <= a) (h1 : a < n) : (jS 225 (.slice (some ⟨b, o, none⟩) n c) (.int k a)).run pg w = .ok (.value (.pointer (some ⟨b, o + a.toNat * 2, none⟩))) w := XB rfl Tryz.underlying225 ajK b o n c h0 h1
theorem XY {b off : Nat} {cs : List aDt} {w : aDs} {xs : Array aDt} {K : aDt -> aDs -> Prop} (ho : lN w b cs) (hs : xs.size = 2) (hv : ∀ x ∈ xs.toList, one x = true) (h : off + 2 <= cs.length) (hk : ∀ w', lN w' b (kV cs off xs.toList) -> jN w w' (fun x => x = b) -> w'.heap.size = w.heap.size -> K undef w') : gI pg (jQ 241 (.pointer (some ⟨b, off, none⟩)) (.agg xs)) w K := Fh (v := .agg xs) ajK ho hs hv h hk
theorem Xo {b off : Nat} {cs : List aDt} {w : aDs} (ho : lN w b cs) {v : aDt} (h : cs[off]? = some v) {K : aDt -> Prop} (hk : K v) : MO pg 22 (.pointer (some ⟨b, off, none⟩)) w K := akR Tryz.underlying22 rfl ho h hk
theorem UH {b off : Nat} {cs : List aDt} {w : aDs} (ho : lN w b cs) {v : aDt} (h : cs[off]? = some v) {K : aDt -> Prop} (hk : K v) : MO pg 24 (.pointer (some ⟨b, off, none⟩)) w K := akR Tryz.underlying24 rfl ho h hk
theorem adF {w : aDs} {K : aDt -> aDs -> Prop} (hk : ∀ w', lN w' w.heap.size [(.int .i64 0)] -> jN w w' mC -> w'.heap.size = w.heap.size + 1 -> K (.pointer (some ⟨w.heap.size, 0, none⟩)) w') : gI pg (oM 24) w K := CO (i := Tryz.t24) atO rfl hk
theorem asO : (pg).info? 170 = some Tryz.t170 := by kernel_rfl
theorem XF {w : aDs} {K : aDt -> aDs -> Prop} (hk : ∀ w', lN w' w.heap.size [(.pointer none)] -> jN w w' mC -> w'.heap.size = w.heap.size + 1 -> K (.pointer (some ⟨w.heap.size, 0, none⟩)) w') : gI pg (oM 170) w K := CO (i := Tryz.t170) asO rfl hk
theorem Ye {b off : Nat} {cs : List aDt} {w : aDs} {v : aDt} {K : aDt -> aDs -> Prop} (ho : lN w b cs) (hv : one v = true) (h : off < cs.length) (hk : ∀ w', lN w' b (cs.set off v) -> jN w w' (fun x => x = b) -> w'.heap.size = w.heap.size -> K undef w') : gI pg (jQ 170 (.pointer (some ⟨b, off, none⟩)) v) w K := Ac asO rfl ho hv h hk
theorem bX (x : Addr) (w : aDs) : (jF 225 (.pointer (some x))).run pg w = ldC (w.cell? x) w (far pg 225 x w) := Yb Tryz.underlying225 rfl x w
theorem bW {ty : TypeId} (x : Option Addr) (n c : Nat) (w : aDs) : (oF .len #[225] ty [.slice x n c]).run pg w = .ok (.value (.int .i64 n)) w := Vq Tryz.underlying225 x n c
theorem aU (b o : Nat) (w : aDs) : (jH 241 (.pointer (some ⟨b, o, none⟩)) 0).run pg w = .ok (.value (.pointer (some ⟨b, o, none⟩))) w := mP (i := 0) Tryz.underlying241 rfl GO (by decide) _
theorem cX (x : Addr) (w : aDs) : (jF 170 (.pointer (some x))).run pg w = ldC (w.cell? x) w (far pg 170 x w) := Yb Tryz.underlying170 rfl x w
theorem aV (b o : Nat) (w : aDs) : (jH 241 (.pointer (some ⟨b, o, none⟩)) 1).run pg w = .ok (.value (.pointer (some ⟨b, o + 1, none⟩))) w := mP (i := 1) Tryz.underlying241 rfl GO (by decide) _
theorem ahN {b off : Nat} {cs : List aDt} {w : aDs} (ho : lN w b cs) (h : off + 4 <= cs.length) {K : aDt -> Prop} (hk : K (.agg ((cs.drop off).take 4).toArray)) : MO pg 139 (.pointer (some ⟨b, off, none⟩)) w K := TD Tryz.underlying139 rfl adG ho h hk
end Go.Proofs.YtoecppploooloaaGreatDoor
namespace Go.Pu
def U8 (p : Int) : Int := if p < 0 then 1 else p
def fits : Int -> List Int -> Bool
 | left, [] => left == 0
 | left, p :: r => if p < -1 ∨ left < U8 p then false else fits (left - U8 p) r
def agL (ps : List Int) : Int := (ps.map U8).sum
def awJ (log : Int) (ps : List Int) : Bool := decide (5 <= log /\ log <= 15 /\ 1 <= ps.length /\ ps.length <= 256 /\ ps.getLast? ≠ some 0)
def azR (log : Int) (ps : List Int) : Bool := awJ log ps && fits (2 ^ log.toNat) ps
theorem acF (p : Int) (ps : List Int) : agL (p :: ps) = U8 p + agL ps := by simp [agL]
theorem abD {p : Int} (h : -1 <= p) : 0 <= U8 p := by unfold U8; split <;> omega
theorem ahF {ps : List Int} (h : ∀ p ∈ ps, -1 <= p) : 0 <= agL ps := by
 induction ps with
 | nil => simp [agL]
 | cons p r ih =>
   rw [acF]
   have := abD (h p (by simp))
   have := ih fun q hq => h q (aBq _ hq)
   omega
theorem afM : ∀ {ps : List Int} {left : Int}, fits left ps = true ↔ (∀ p ∈ ps, -1 <= p) /\ agL ps = left
 | [], left => by simp [fits, agL]; constructor <;> intro h <;> omega
 | p :: r, left => by
   rw [fits, acF]
   by_cases h : p < -1 ∨ left < U8 p
   .rw [if_pos h]
    constructor
    .intro h; cases h
    .rintro ⟨h1, h2⟩
     have hp := h1 p (by simp)
     have := ahF (ps := r) fun q hq => h1 q (aBq _ hq)
     omega
   .rw [if_neg h, afM]
    constructor
    .rintro ⟨h1, h2⟩
     exact ⟨fun q hq => by rcases aB2.1 hq with rfl | hq; · omega
                           .exact h1 q hq, by omega⟩
    .rintro ⟨h1, h2⟩
     exact ⟨fun q hq => h1 q (aBq _ hq), by omega⟩
structure May (log : Nat) (ps : List Int) : Prop where
 log5 : 5 <= log
 log15 : log <= 15
 len1 : 1 <= ps.length
 len256 : ps.length <= 256
 last : ps.getLast? ≠ some 0
 low : ∀ p ∈ ps, -1 <= p
 sum : agL ps = 2 ^ log
theorem May.b {log : Nat} {ps : List Int} (h : May log ps) : azR log ps = true := by
 unfold azR awJ
 simp only [aBn, decide_eq_true_eq]
 have h1 := h.log5
 have h2 := h.log15
 refine ⟨⟨by omega, by omega, h.len1, h.len256, h.last⟩, ?_⟩
 rw [afM, aA9]
 exact ⟨h.low, h.sum⟩
def pos (n j : Nat) : Nat := (j * (n / 2 + n / 8 + 3)) % n
def bl (k : Nat) : Nat := if k = 0 then 0 else k.log2 + 1
theorem atQ (k : Nat) : k < 2 ^ bl k := by
 unfold bl
 split
 .subst_vars; simp
 .exact Nat.lt_log2_self
theorem asS {k : Nat} (h : k ≠ 0) : 2 ^ (bl k - 1) <= k := by
 unfold bl
 rw [if_neg h, aCS]
 exact Nat.log2_self_le h
theorem aqN {k : Nat} (h : k ≠ 0) : 1 <= bl k := by unfold bl; rw [if_neg h]; omega
theorem Ta {k n : Nat} (h : k < 2 ^ n) : bl k <= n := by
 by_cases h0 : k = 0
 .subst h0; simp [bl]
 .rcases aBt n (bl k) with hh | hh
  .have h1 := asS h0
   have := aBw (n := 2) (by omega) (show n <= bl k - 1 by omega)
   omega
  .exact hh
theorem azA {k n : Nat} (h1 : 2 ^ n <= k) (h2 : k < 2 ^ (n + 1)) : bl k = n + 1 := by
 have h0 : k ≠ 0 := by have := aBQ n; omega
 have a := Ta h2
 have b := atQ k
 rcases aBt (bl k) (n + 1) with h | h
 .have := aBw (n := 2) (by omega) (show bl k <= n by omega)
  omega
 .omega
end Go.Pu
namespace Go.En
open Go
section
variable {P : Program} {w : aDs} {t e : TypeId}
theorem afG {i : TypeInfo} (hu : P.underlying t = some (.slice e)) (hi : P.info? e = some i)
 {K : aDt -> aDs -> Prop} (hk : ∀ w', lN w' w.heap.size [] -> jN w w' mC -> w'.heap.size = w.heap.size + 1 -> K (.slice (some ⟨w.heap.size, 0, none⟩) 0 0) w') :
 gI P (lT t 0 []) w K := by
 have : (lT t 0 []).run P w = .ok (.value (.slice (some ⟨w.heap.size, 0, none⟩) 0 0)) (w.alloc (.cells ([] : List aDt).toArray e)) := by
  unfold lT; rw [tP]
  have h1 : ¬ (0 > 2 ^ 24) := by omega
  have e : ∀ f : Nat -> aDt, Array.map f (Array.range 0) = #[] := fun f => by simp
  simp only [Instr.buildSlice, underlying, pure_bind, Sem.run_bind, run_program, Result.andThen_ok, hu, Sem.run_pure, lH hi, aCY, h1, if_false, if_true, newRow, run_newObj, Instr.fill, e]
  rfl
 unfold gI
 rw [this]
 exact hk _ (lN.alloc _ _ _) (jN.alloc _ _ _) (by simp)
def At (v : aDt) (b : Nat) : Prop := ∀ M : Nat -> Prop, ¬ M b -> ¬ Mz v M
theorem At.nil (c b : Nat) (a : Option Addr) : At (.slice a 0 c) b := fun M h => by unfold Mz; split <;> simp_all
theorem At.at (b o n c : Nat) : At (.slice (some ⟨b, o, none⟩) n c) b := fun M h => by
 unfold Mz; split
 .rename_i x m _ e
  obtain ⟨rfl, _⟩ : (⟨b, o, none⟩ : Addr) = x /\ _ := by simpa using e
  exact h
 .simp
theorem yW.at' {w : aDs} {base sz n : Nat} {v : aDt} {l : List aDt} (h : yW w base sz v n l) (hb : base < w.heap.size) : ∃ b, base <= b /\ b < w.heap.size /\ At v b := by
 rcases h.2 with ⟨rfl, rfl⟩ | ⟨b, c, rest, rfl, h2, h3, h4, h5⟩
 .exact ⟨base, aBk _, hb, At.nil _ _ _⟩
 .exact ⟨b, h2, h3.lt, At.at _ _ _ _⟩
end
end Go.En
namespace Go.Proofs.YtoecppploooloaaGreatDoor
open Go Go.En Go.Pu
set_option maxRecDepth 4000
def ajG : ByteArray := ⟨#[0, 1, 2, 2, 3, 3, 3, 3, 4, 4, 4, 4, 4, 4, 4, 4, 5, 5, 5, 5, 5, 5, 5, 5, 5, 5, 5, 5, 5, 5, 5, 5, 6, 6, 6, 6, 6, 6, 6, 6, 6, 6, 6, 6, 6, 6, 6, 6, 6, 6, 6, 6, 6, 6, 6, 6, 6, 6, 6, 6, 6, 6, 6, 6, 7, 7, 7, 7, 7, 7, 7, 7, 7, 7, 7, 7, 7, 7, 7, 7, 7, 7, 7, 7, 7, 7, 7, 7, 7, 7, 7, 7, 7, 7, 7, 7, 7, 7, 7, 7, 7, 7, 7, 7, 7, 7, 7, 7, 7, 7, 7, 7, 7, 7, 7, 7, 7, 7, 7, 7, 7, 7, 7, 7, 7, 7, 7, 7, 8, 8, 8, 8, 8, 8, 8, 8, 8, 8, 8, 8, 8, 8, 8, 8, 8, 8, 8, 8, 8, 8, 8, 8, 8, 8, 8, 8, 8, 8, 8, 8, 8, 8, 8, 8, 8, 8, 8, 8, 8, 8, 8, 8, 8, 8, 8, 8, 8, 8, 8, 8, 8, 8, 8, 8, 8, 8, 8, 8, 8, 8, 8, 8, 8, 8, 8, 8, 8, 8, 8, 8, 8, 8, 8, 8, 8, 8, 8, 8, 8, 8, 8, 8, 8, 8, 8, 8, 8, 8, 8, 8, 8, 8, 8, 8, 8, 8, 8, 8, 8, 8, 8, 8, 8, 8, 8, 8, 8, 8, 8, 8, 8, 8, 8, 8, 8, 8, 8, 8, 8, 8, 8, 8, 8, 8, 8, 8]⟩
theorem XC : ajG.size = 256 := by decide
set_option maxRecDepth 100000 in
theorem asP (x : Nat) (h : x < 256) : (ajG[x]'(by rw [XC]; exact h)).toNat = bl x := by
 have : ∀ k : Fin 256, (ajG.data[k.val]!).toNat = bl k.val := by decide +kernel
 have h2 := this ⟨x, h⟩
 simp only at h2
 rw [<- h2]
 have hs : x < ajG.data.size := by have := XC; exact (show ajG.data.size = 256 from this) ▸ h
 rw [getElem!_pos ajG.data x hs]
 rfl
theorem Z5 {x j : Nat} (h : 2 ^ j <= x) : bl x = bl (x / 2 ^ j) + j := by
 have hp := aBQ j
 have h0 : x / 2 ^ j ≠ 0 := by
  have := Nat.div_pos h hp
  omega
 have a := asS h0
 have b := atQ (x / 2 ^ j)
 have c := aqN h0
 obtain ⟨m, hm⟩ : ∃ m, bl (x / 2 ^ j) = m + 1 := ⟨bl (x / 2 ^ j) - 1, by omega⟩
 rw [hm, aCS] at a
 rw [hm] at b ⊢
 have h1 : 2 ^ (m + j) <= x := by
  rw [aCf]
  exact aB4 (aBL _ a) (Nat.div_mul_le_self _ _)
 have h2 : x < 2 ^ (m + j + 1) := by
  rw [show m + j + 1 = (m + 1) + j from by omega, aCf]
  exact (aCZ hp).1 b
 rw [azA h1 h2]; omega
theorem agX {x n : Nat} (hx : x < 256) (hn : n <= 1000) (R : aDt -> aDs -> Prop) (w : aDs) (h : R (.int .i64 ((n + bl x : Nat) : Int)) w) :
 uN R (.int .u64 x) (.int .i64 n) w := by
 have hg := asP x hx
 have hs := XC
 have hb : bl x <= 8 := Ta (n := 8) (by omega)
 unfold uN
 change gI pg _ w fun t21 w => gI pg (Ry 9 (.string ajG) t21) w _
 simp (disch := omega) only [gI, dK, jI, dJ, gE, aA9, hg, fL, gX, hJ]
 rw [Int.natCast_add] at h
 exact h
theorem aqK (a b : Nat) : ((a : Int)).fdiv (b : Int) = ((a / b : Nat) : Int) := by rw [aBM _ (by omega)] <;> rfl
theorem TF (x j : Nat) (hj : j <= 64) : ((x : Int)).fdiv (2 ^ (min (j : Nat) IntKind.u64.bits)) = ((x / 2 ^ j : Nat) : Int) := by
 have e : min j IntKind.u64.bits = j := by simp only [IntKind.bits]; omega
 rw [e, <- aqK]; simp
theorem amA (x : Nat) (hx : x < 18446744073709551616) (w : aDs) : jE pg wD #[.int .u64 x] w (fun r w' => r = .int .i64 (bl x : Nat) /\ w' = w) := by
 refine SZ ?_
 unfold QP EF EY
 have alJ : ∀ (y n : Nat), y < 65536 -> n <= 64 -> n + bl y = bl x -> zU (fun r w' => r = .int .i64 (bl x : Nat) /\ w' = w) (.int .u64 y) (.int .i64 n) w := by
  intro y n hy hn e
  unfold zU EB
  by_cases h : 256 <= y
  .have d : decide ((256 : Int) <= (y : Int)) = true := by simp; omega
   have sh := TF y 8 (by omega)
   have hq : y / 2 ^ 8 < 256 := by omega
   have := Z5 (x := y) (j := 8) (by omega)
   have e2 : (n : Int) + 8 = ((n + 8 : Nat) : Int) := by omega
   simp (disch := omega) only [gI, iF, d, iI, hJ, e2, gX, dJ, gB]
   rw [show (8 : Int).toNat = 8 from rfl, sh]
   exact agX hq (by omega) _ _ ⟨by rw [<- e, this]; congr 2; omega, rfl⟩
  .have d : decide ((256 : Int) <= (y : Int)) = false := by simp; omega
   simp (disch := omega) only [gI, iF, d, iI, hJ, gX, dJ, fV]
   exact agX (by omega) (by omega) _ _ ⟨by rw [e], rfl⟩
 have step16 : ∀ (y n : Nat), y < 4294967296 -> n <= 32 -> n + bl y = bl x -> zZ (fun r w' => r = .int .i64 (bl x : Nat) /\ w' = w) (.int .u64 y) (.int .i64 n) w := by
  intro y n hy hn e
  unfold zZ EW
  by_cases h : 65536 <= y
  .have d : decide ((65536 : Int) <= (y : Int)) = true := by simp; omega
   have sh := TF y 16 (by omega)
   have hq : y / 2 ^ 16 < 65536 := by omega
   have := Z5 (x := y) (j := 16) (by omega)
   have e2 : (n : Int) + 16 = ((n + 16 : Nat) : Int) := by omega
   simp (disch := omega) only [gI, iF, d, iI, hJ, e2, gX, dJ, gB]
   rw [show (16 : Int).toNat = 16 from rfl, sh]
   exact alJ _ _ hq (by omega) (by rw [<- e, this]; omega)
  .have d : decide ((65536 : Int) <= (y : Int)) = false := by simp; omega
   simp (disch := omega) only [gI, iF, d, iI, hJ, gX, dJ, fV]
   exact alJ _ _ (by omega) (by omega) e
 by_cases h : 4294967296 <= x
 .have d : decide ((4294967296 : Int) <= (x : Int)) = true := by simp; omega
  have sh := TF x 32 (by omega)
  have hq : x / 2 ^ 32 < 4294967296 := by omega
  have := Z5 (x := x) (j := 32) (by omega)
  simp (disch := omega) only [gI, iF, d, iI, dJ, gB]
  rw [show (32 : Int).toNat = 32 from rfl, sh]
  exact step16 _ 32 hq (by omega) (by rw [this]; omega)
 .have d : decide ((4294967296 : Int) <= (x : Int)) = false := by simp; omega
  simp (disch := omega) only [gI, iF, d, iI, dJ, fV]
  exact step16 _ 0 (by omega) (by omega) (by omega)
theorem azM (x : Nat) (hx : x < 18446744073709551616) (w : aDs) : jE pg D7 #[.int .u64 x] w (fun r w' => r = .int .i64 (bl x : Nat) /\ w' = w) := by
 refine Vb ?_
 simp (disch := omega) only [UU, HZ, gI, eI, dJ, fV]
 exact amA x hx w
theorem anP {n : Nat} (h : n <= 20) : IntKind.i64.wrap (1 * 2 ^ (min n IntKind.i64.bits)) = ((2 ^ n : Nat) : Int) := by
 have : ∀ k : Fin 21, IntKind.i64.wrap (1 * 2 ^ (min k.val IntKind.i64.bits)) = ((2 ^ k.val : Nat) : Int) := by decide
 exact this ⟨n, by omega⟩
theorem Yg {w : aDs} {v : aDt} {l : List UInt8} (h : Bs w v l) (h0 : 0 < l.length) : ∃ b off c, v = .slice (some ⟨b, off, none⟩) l.length c /\ l.length <= c /\ ∀ i, (h : i < l.length) -> w.cell? ⟨b, off + i, none⟩ = some (.int .u8 (l[i].toNat : Nat)) := by
 obtain ⟨b, off, c, rfl, hc, hcell⟩ := h.openV (by simpa using h0)
 refine ⟨b, off, c, by rw [aBf], by simpa using hc, fun i hi => ?_⟩
 have := hcell i (by simpa using hi)
 simpa [nR] using this
theorem adD {v : aDt} {l : List UInt8} {w : aDs} (h : Bs w v l) (hl : l.length <= 1000000000) :
 jE pg rN #[v] w (fun r w' => yW w' w.heap.size 1 r l.length (l.map nR) /\ jN w w' mC) := by
 refine QG ?_
 have h1 := h
 obtain ⟨a, n, c, rfl, hn, hc, hh⟩ := h
 rw [aBf] at hn
 unfold Ms Cm
 cases a with
 | none =>
   have h0 : l = [] := by
    cases l with
    | nil => rfl
    | cons x l => obtain ⟨b, off, h, _⟩ := hh (by simp at hn; omega); cases h
   subst h0
   simp (disch := omega) only [gI, eQ, aBb, dJ, gB]
   exact ⟨yW.nil _ _ _, jN.refl _ _⟩
 | some x =>
   simp (disch := omega) only [gI, eQ, aBa, dJ, fV]
   refine afG Tryz.underlying22 JG fun w1 o1 x1 s1 => ?_
   have hcl1 := (h1.ext x1 (kL _)).cl
   rw [aBf] at hcl1
   have hos : yW w1 w.heap.size 1 (.slice (some ⟨w.heap.size, 0, none⟩) 0 0) 0 [] := ⟨rfl, .inr ⟨_, 0, [], rfl, aBk _, o1, rfl, aBk _⟩⟩
   refine mU hos hcl1 (F6 _) x1.size (by omega) fun v3 w3 o3 x3 => ?_
   rw [aBc, aBZ] at o3
   exact ⟨o3, x1.trans x3 fun b hb h => Nat.not_le_of_lt hb h⟩
def AtI (v : aDt) (lo hi : Nat) : Prop := ∀ M : Nat -> Prop, (∀ b, lo <= b -> b < hi -> ¬ M b) -> ¬ Mz v M
theorem yW.atI {w : aDs} {base sz n : Nat} {v : aDt} {l : List aDt} (h : yW w base sz v n l) : AtI v base w.heap.size := by
 intro M hM
 rcases h.2 with ⟨rfl, rfl⟩ | ⟨b, c, rest, rfl, h2, h3, h4, h5⟩
 .exact fun h => h
 .exact At.at b 0 n c M (hM b h2 h3.lt)
theorem axF {w : aDs} {a : Option Addr} {n c : Nat} {l : List aDt} (h : Sl w (.slice a n c) l) {k : Nat} (hk : k <= n) : Sl w (.slice a k c) (l.take k) := by
 obtain ⟨a', n', c', e, hn, hc, hh⟩ := h
 cases e
 refine ⟨a, k, c, rfl, by rw [aBo]; omega, by omega, fun h0 => ?_⟩
 obtain ⟨b, off, ha, hcell⟩ := hh (by omega)
 refine ⟨b, off, ha, fun i hi => ?_⟩
 rw [hcell i (by omega), aBW (by omega)]
theorem slA {w : aDs} {a : Option Addr} {n c : Nat} {l : List aDt} (h : Sl w (.slice a n c) l) (h0 : 0 < n) : ∃ b off, a = some ⟨b, off, none⟩ /\ ∀ i, i < n -> w.cell? ⟨b, off + i, none⟩ = l[i]? := by
 obtain ⟨a', n', c', e, hn, hc, hh⟩ := h
 cases e
 exact hh h0
end Go.Proofs.YtoecppploooloaaGreatDoor
namespace Go.Pu
open Go Go.En
def Q0 (c : UInt8) : List Bool := (List.range 8).map c.toNat.testBit
def vG : List UInt8 -> List Bool
 | [] => []
 | c :: l => Q0 c ++ vG l
def SE : List Bool -> Nat
 | [] => 0
 | b :: l => b.toNat + 2 * SE l
theorem CI (c : UInt8) : (Q0 c).length = 8 := by simp [Q0]
theorem W6 : ∀ a b : List UInt8, vG (a ++ b) = vG a ++ vG b
 | [], b => rfl
 | c :: a, b => by rw [aCm, vG, vG, W6 a b, aBy]
theorem anR (c : UInt8) {k : Nat} (h : k < 8) : (Q0 c)[k]? = some (c.toNat.testBit k) := by
 unfold Q0
 rw [aBz, aC6 h] <;> rfl
theorem OC : ∀ (l : List UInt8) (i : Nat) (h : i < 8 * l.length), (vG l)[i]? = some ((l[i / 8]'(by omega)).toNat.testBit (i % 8))
 | [], i, h => by simp at h
 | c :: l, i, h => by
   rw [vG]
   rcases aBt i 8 with h8 | h8
   .rw [aBv (by rw [CI]; exact h8), anR c h8]
    have e : i / 8 = 0 := by omega
    have e2 : i % 8 = i := by omega
    simp [e, e2]
   .rw [aBD (by rw [CI]; exact h8), CI, OC l (i - 8) (by simp at h; omega)]
    have e : i / 8 = (i - 8) / 8 + 1 := by omega
    have e2 : (i - 8) % 8 = i % 8 := by omega
    simp [e, e2]
theorem akY : ∀ l : List Bool, SE l < 2 ^ l.length
 | [] => by simp [SE]
 | b :: l => by
   have := akY l
   rw [SE, aBu, aCF]
   have : b.toNat <= 1 := Bool.toNat_le b
   omega
theorem YH : ∀ a b : List Bool, SE (a ++ b) = SE a + 2 ^ a.length * SE b
 | [], b => by simp [SE]
 | x :: a, b => by
   rw [aCm, SE, SE, YH a b, aBu, aCF, aDg, <- aDj, <- aCA, aBX 2 (2 ^ a.length)]
def BE (x : Nat) (n : Nat) : List Bool := (List.range n).map x.testBit
theorem F9 (x n : Nat) : (BE x n).length = n := by simp [BE]
theorem P1 (x : Nat) : BE x 0 = [] := rfl
theorem Z1 (x n : Nat) : BE x (n + 1) = BE x n ++ [x.testBit n] := by
 unfold BE; rw [List.range_succ, aBK] <;> rfl
theorem ahW (x n : Nat) : BE x (n + 1) = x.testBit 0 :: BE (x / 2) n := by
 unfold BE
 rw [List.range_succ_eq_map, aBH, List.map_map]
 congr 1
 apply aCh
 intro k _
 simp [Nat.testBit_succ]
theorem aaH : ∀ (n x : Nat), SE (BE x n) = x % 2 ^ n
 | 0, x => by simp [BE, SE, Nat.mod_one]
 | n + 1, x => by
   rw [ahW, SE, aaH n (x / 2), aCF, aBX (2 ^ n) 2, Nat.mod_mul]
   congr 1
   rw [Nat.testBit_zero]
   have : x % 2 = 0 ∨ x % 2 = 1 := by omega
   rcases this with h | h <;> simp [h]
theorem ajJ {x i : Nat} (h : x < 2 ^ i) (b : Nat) : x ||| (b * 2 ^ i) = x + 2 ^ i * b := by
 rw [Nat.or_comm, aBX b, <- Nat.two_pow_add_eq_or_of_lt h b, Nat.add_comm]
theorem alZ {a b : Nat} (ha : a < 2 ^ 64) (hb : b < 2 ^ 64) : Zt .u64 (a : Int) (b : Int) = ((a ||| b : Nat) : Int) := by
 have h := Nat.or_lt_two_pow ha hb
 unfold Zt
 have e : IntKind.u64.bits = 64 := rfl
 rw [e, BitVec.ofInt_natCast, BitVec.ofInt_natCast, BitVec.toNat_or, BitVec.toNat_ofNat, BitVec.toNat_ofNat, aBC ha, aBC hb]
 exact iB (by omega) (by have : ((a ||| b : Nat) : Int) < ((2 ^ 64 : Nat) : Int) := by exact_mod_cast h
                         omega)
theorem ZM {a b : Nat} (ha : a < 2 ^ 8) (hb : b < 2 ^ 8) : Zt .u8 (a : Int) (b : Int) = ((a ||| b : Nat) : Int) := by
 have h := Nat.or_lt_two_pow ha hb
 unfold Zt
 have e : IntKind.u8.bits = 8 := rfl
 rw [e, BitVec.ofInt_natCast, BitVec.ofInt_natCast, BitVec.toNat_or, BitVec.toNat_ofNat, BitVec.toNat_ofNat, aBC ha, aBC hb]
 exact jI (by omega) (by have : ((a ||| b : Nat) : Int) < ((2 ^ 8 : Nat) : Int) := by exact_mod_cast h
                         omega)
theorem afL {a : Nat} (h : a < 2 ^ 64) : GN .u64 (a : Int) 1 = ((a % 2 : Nat) : Int) := by
 unfold GN
 have e : IntKind.u64.bits = 64 := rfl
 rw [e, BitVec.ofInt_natCast, show (BitVec.ofInt 64 1) = BitVec.ofNat 64 1 from rfl, BitVec.toNat_and, BitVec.toNat_ofNat, BitVec.toNat_ofNat, aBC h, show 1 % 2 ^ 64 = 1 from rfl, Nat.and_one_is_mod]
 exact iB (by omega) (by omega)
theorem acR (x k : Nat) : (x.testBit k).toNat = x / 2 ^ k % 2 := by
 rw [Nat.testBit_eq_decide_div_mod_eq]
 have : x / 2 ^ k % 2 = 0 ∨ x / 2 ^ k % 2 = 1 := by omega
 rcases this with h | h <;> simp [h]
def acT (L : List Bool) (n : Nat) : Nat := SE (L.drop (L.length - min n L.length)) * 2 ^ (n - min n L.length)
theorem asG (L : List Bool) (n : Nat) : acT L n < 2 ^ n := by
 unfold acT
 have h := akY (L.drop (L.length - min n L.length))
 rw [aBr, show L.length - (L.length - min n L.length) = min n L.length from by omega] at h
 calc _ < 2 ^ min n L.length * 2 ^ (n - min n L.length) := Nat.mul_lt_mul_of_pos_right h (aBQ _)
  _ = 2 ^ n := by rw [<- aCf]; congr 1; omega
def ajL (l : List UInt8) : Option Nat := match l.getLast? with
 | none => none
 | some c => if c.toNat = 0 then none else some (8 * (l.length - 1) + bl c.toNat - 1)
theorem acA {l : List UInt8} (h : 0 < l.length) : ajL l = if (l[l.length - 1]'(by omega)).toNat = 0 then none else some (8 * (l.length - 1) + bl (l[l.length - 1]'(by omega)).toNat - 1) := by
 unfold ajL
 rw [aC7, aBh (by omega)]
theorem anN {l : List UInt8} {k : Nat} (h : ajL l = some k) : 0 < l.length /\ k < 8 * l.length /\ 8 * (l.length - 1) <= k /\ (vG l)[k]? = some true /\ ∀ j, k < j -> j < 8 * l.length -> (vG l)[j]? = some false := by
 have h0 : 0 < l.length := by
  cases l with
  | nil => simp [ajL] at h
  | cons x l => simp
 rw [acA h0] at h
 generalize hc : l[l.length - 1]'(by omega) = c at h
 split at h
 .cases h
 .rename_i hne
  have hk := aBO h
  have h1 := aqN hne
  have h2 : bl c.toNat <= 8 := Ta (by have : c.toNat < 256 := aCg c
                                      omega)
  have h3 := asS hne
  have h4 := atQ c.toNat
  refine ⟨h0, by omega, by omega, ?_, ?_⟩
  .rw [OC l k (by omega)]
   have e : k / 8 = l.length - 1 := by omega
   have e2 : k % 8 = bl c.toNat - 1 := by omega
   simp only [e, hc, e2]
   rw [Nat.testBit_eq_decide_div_mod_eq]
   obtain ⟨m, hm⟩ : ∃ m, bl c.toNat = m + 1 := ⟨bl c.toNat - 1, by omega⟩
   rw [hm, aCS] at h3 ⊢
   rw [hm, aCF] at h4
   have : c.toNat / 2 ^ m = 1 := by
    have hp := aBQ m
    have := (Nat.le_div_iff_mul_le hp).2 (show 1 * 2 ^ m <= c.toNat by omega)
    have := (aCZ hp).2 (show c.toNat < 2 * 2 ^ m by omega)
    omega
   simp [this]
  .intro j h5 h6
   rw [OC l j h6]
   have e : j / 8 = l.length - 1 := by omega
   simp only [e, hc]
   rw [Nat.testBit_lt_two_pow]
   exact aCE h4 (aBw (by omega) (by omega))
end Go.Pu
namespace Go.Proofs.YtoecppploooloaaGreatDoor
open Go Go.En Go.Pu
set_option maxRecDepth 4000
def Fwd (w : aDs) (lo hi : Nat) (l : List UInt8) (st : Nat) : Prop := ∃ v, lN w hi [v, .int .i64 st] /\ Bs w v l /\ AtI v lo hi
theorem Fwd.ext {w w' : aDs} {lo hi st : Nat} {l : List UInt8} {M : Nat -> Prop} (h : Fwd w lo hi l st) (hx : jN w w' M) (hM : ∀ b, lo <= b -> b <= hi -> ¬ M b) (hlh : lo <= hi) : Fwd w' lo hi l st := by
 obtain ⟨v, h1, h2, h3⟩ := h
 exact ⟨v, h1.ext hx (hM _ hlh (aBk _)), h2.ext hx (h3 M fun b hb hh => hM b hb (by omega)), h3⟩
theorem AtI.sub {a : Option Addr} {n c m c' k sz lo hi : Nat} (h : AtI (.slice a n c) lo hi) (hm : m <= n) : AtI (.slice (mN a c k sz) m c') lo hi := by
 intro M hM hin
 cases m with
 | zero => unfold Mz at hin; split at hin <;> simp_all
 | succ m =>
   obtain ⟨n', rfl⟩ : ∃ n', n = n' + 1 := ⟨n - 1, by omega⟩
   have h1 := h M hM
   cases a with
   | none => unfold mN at hin; split at hin <;> exact hin
   | some x =>
     unfold mN at hin
     have h2 : M x.block := by
      split at hin
      .exact hin
      .rw [aBJ] at hin
       have e : (x.add (k * sz)).block = x.block := by unfold Addr.add; split <;> rfl
       have h3 : M (x.add (k * sz)).block := hin
       rwa [e] at h3
     exact h1 h2
end Go.Proofs.YtoecppploooloaaGreatDoor
namespace Go.Pu
def sB : List UInt8 -> Nat
 | [] => 0
 | c :: l => c.toNat + 256 * sB l
theorem Mr : ∀ l : List UInt8, sB l < 256 ^ l.length
 | [] => by simp [sB]
 | c :: l => by
   have := Mr l
   have hc := c.toNat_lt
   rw [sB, aBu, aCF]; omega
theorem abQ (c : UInt8) : ∀ l : List UInt8, sB (l ++ [c]) = sB l + 256 ^ l.length * c.toNat
 | [] => by simp [sB]
 | d :: l => by
   rw [aCm, sB, abQ c l, sB, aBu, aCF, aDg, aCA, aBX (256 ^ l.length) 256, aDj]
theorem ajI (i : Nat) : 256 ^ i = 2 ^ (8 * i) := by rw [Nat.pow_mul]
theorem atX (l : List UInt8) (c : UInt8) : sB l ||| (c.toNat * 2 ^ (8 * l.length)) = sB (l ++ [c]) := by
 have := Mr l
 rw [ajI] at this
 rw [ajJ this, abQ, ajI]
def nK (x : Nat) : Nat -> List UInt8
 | 0 => []
 | n + 1 => UInt8.ofNat (x % 256) :: nK (x / 256) n
theorem kZ : ∀ (n x : Nat), (nK x n).length = n
 | 0, _ => rfl
 | n + 1, x => by rw [nK, aBu, kZ n]
theorem JR : ∀ (n x : Nat), sB (nK x n) = x % 256 ^ n
 | 0, x => by simp [nK, sB, Nat.mod_one]
 | n + 1, x => by
   rw [nK, sB, JR n, aCF, aBX (256 ^ n) 256, Nat.mod_mul]
   have : (UInt8.ofNat (x % 256)).toNat = x % 256 := by
    rw [UInt8.toNat_ofNat']; omega
   rw [this]
theorem acK : ∀ (n x : Nat), nK x (n + 1) = nK x n ++ [UInt8.ofNat (x / 256 ^ n % 256)]
 | 0, x => by simp [nK]
 | n + 1, x => by
   rw [nK, acK n (x / 256), nK, aCm, aCs, aCF, aBX (256 ^ n) 256]
end Go.Pu
namespace Go.Proofs.YtoecppploooloaaGreatDoor
open Go Go.En Go.Pu
set_option maxRecDepth 4000
def AtS (v : aDt) (S : Nat -> Prop) : Prop := ∀ M : Nat -> Prop, (∀ b, S b -> ¬ M b) -> ¬ Mz v M
theorem AtI.toS {v : aDt} {lo hi : Nat} {S : Nat -> Prop} (h : AtI v lo hi) (hS : ∀ b, lo <= b -> b < hi -> S b) : AtS v S := fun M hM => h M fun b h1 h2 => hM b (hS b h1 h2)
theorem AtS.mono {v : aDt} {S T : Nat -> Prop} (h : AtS v S) (hT : ∀ b, S b -> T b) : AtS v T := fun M hM => h M fun b hb => hM b (hT b hb)
theorem AtS.nil (S : Nat -> Prop) : AtS (.slice none 0 0) S := fun M _ h => h
theorem AtS.sub {a : Option Addr} {n c m c' k mx sz : Nat} {S : Nat -> Prop} (h : AtS (.slice a n c) S) (hm : m <= n) : AtS (.slice (mN a mx k sz) m c') S := by
 intro M hM hin
 cases m with
 | zero => unfold Mz at hin; split at hin <;> simp_all
 | succ m =>
   obtain ⟨n', rfl⟩ : ∃ n', n = n' + 1 := ⟨n - 1, by omega⟩
   have h1 := h M hM
   cases a with
   | none => unfold mN at hin; split at hin <;> exact hin
   | some x =>
     unfold mN at hin
     have h2 : M x.block := by
      split at hin
      .exact hin
      .rw [aBJ] at hin
       have e : (x.add (k * sz)).block = x.block := by unfold Addr.add; split <;> rfl
       have h3 : M (x.add (k * sz)).block := hin
       rwa [e] at h3
     exact h1 h2
theorem azF {w : aDs} {a : Option Addr} {n c : Nat} {l : List aDt} (h : Sl w (.slice a n c) l) {k : Nat} (hk : k <= n) : Sl w (.slice (mN a k 0 1) (k - 0) (k - 0)) (l.take k) := by
 obtain ⟨a', n', c', e, hn, hc, h⟩ := h
 cases e
 refine ⟨_, _, _, rfl, by rw [aBo]; omega, aBk _, fun h0 => ?_⟩
 obtain ⟨b, off, rfl, h2⟩ := h (by omega)
 have hs : mN (some ⟨b, off, none⟩) k 0 1 = some ⟨b, off + 0 * 1, none⟩ := by unfold mN; rw [if_neg (by omega)] <;> rfl
 refine ⟨b, off, by rw [hs]; simp, fun i hi => ?_⟩
 rw [aBW (by omega)]
 exact h2 i (by omega)
def Qk (w : aDs) (lo hi p : Nat) (l : List UInt8) (e : Int) : Prop := lo <= p /\ p < hi /\ ∃ v, lN w p [v, .int .i64 e] /\ Bs w v l /\ AtS v (fun b => lo <= b /\ b < hi /\ b ≠ p)
theorem Qk.ext {w w' : aDs} {lo hi p : Nat} {l : List UInt8} {e : Int} {M : Nat -> Prop} (h : Qk w lo hi p l e) (x : jN w w' M) (hM : ∀ b, lo <= b -> b < hi -> ¬ M b) : Qk w' lo hi p l e := by
 obtain ⟨h0, h0', v, h1, h2, h3⟩ := h
 exact ⟨h0, h0', v, h1.ext x (hM _ h0 h0'), h2.ext x (h3 M fun b hb => hM b hb.1 hb.2.1), h3⟩
theorem Qk.lt {w : aDs} {lo hi p : Nat} {l : List UInt8} {e : Int} (h : Qk w lo hi p l e) : p < w.heap.size := by
 obtain ⟨_, _, v, h1, _⟩ := h; exact h1.lt
theorem IH {v : aDt} {l : List UInt8} {w : aDs} (h : Bs w v l) (hl : l.length <= 1000000000) :
 jE pg pX #[v] w (fun r w' => ∃ p, r = .pointer (some ⟨p, 0, none⟩) /\ Qk w' w.heap.size w'.heap.size p l 0 /\ jN w w' mC) := by
 refine Rz ?_
 unfold O5 CY
 refine (adD h hl).mono ?_
 rintro r w1 ⟨ho, x1⟩
 have hat := yW.atI ho
 have hs := ho.sl
 obtain ⟨va, vc, rfl⟩ := ho.len
 simp (disch := omega) only [gI, cB, dJ]
 refine Az fun w2 o2 x2 s2 => ?_
 have o2 : lN w2 w1.heap.size [.slice va l.length vc, .int .i64 0] := o2
 have hz := o2.lt
 exact ⟨w1.heap.size, rfl, ⟨x1.size, hz, _, o2, hs.ext x2 (kL _), hat.toS fun b h1 h2 => ⟨h1, by omega, by omega⟩⟩, x1.seq x2⟩
def GQ (l : List UInt8) (e : Int) (n : Nat) : List UInt8 × List UInt8 × Int := if e ≠ 0 then ([], l, e) else if l.length < n then ([], l, 10) else (l.take n, l.drop n, 0)
theorem afA {lo hi p n : Nat} {l : List UInt8} {e : Int} {w : aDs} (h : Qk w lo hi p l e) (hl : l.length <= 1000000000) (hn : n <= 1000000000) :
 jE pg sR #[.pointer (some ⟨p, 0, none⟩), .int .i64 n, .bool true] w (fun r w' => Bs w' r (GQ l e n).1 /\ AtS r (fun b => lo <= b /\ b < hi /\ b ≠ p) /\ Qk w' lo hi p (GQ l e n).2.1 (GQ l e n).2.2 /\ jN w w' (fun y => y = p)) := by
 refine OM ?_
 unfold Ka Ba
 have h' := h
 obtain ⟨h0, h0', v, o, hb, hat⟩ := h'
 obtain ⟨va, vc, rfl, hvc⟩ := hb.len
 rw [aBf] at hb hat o hvc
 have c0 := o.cell (off := 0)
 have c1 := o.cell (off := 1)
 simp only [aA6, aA7] at c0 c1
 by_cases he : e = 0
 rotate_left
 .have n1 : (e != 0) = true := by simpa using he
  have ht : GQ l e n = ([], l, e) := by unfold GQ; rw [if_pos he]
  rw [ht]
  simp (disch := omega) only [gI, iE, iK, aBe, dJ, bT, aBc, bU, fS, fV, fN, c1, gD, iH, n1, gB]
  exact ⟨Sl.nil _, AtS.nil _, h, jN.refl _ _⟩
 subst he
 have n1 : ((0 : Int) != 0) = false := rfl
 by_cases hsh : l.length < n
 .have d1 : decide ((l.length : Int) < (n : Int)) = true := by simp; omega
  have ht : GQ l 0 n = ([], l, 10) := by unfold GQ; rw [if_neg (by decide), if_pos hsh]
  rw [ht]
  simp (disch := omega) only [gI, iE, iK, aBe, dJ, bT, aBc, bU, fS, fV, fN, c1, gD, iH, n1, c0, fQ, iA, d1, gB]
  refine JI o rfl (by simp) fun w1 o1 x1 s1 => ?_
  simp only [aBj, aBl] at o1
  exact ⟨Sl.nil _, AtS.nil _, ⟨h0, h0', _, o1, hb.ext x1 (hat _ fun b hb => hb.2.2), hat⟩, x1⟩
 .have d1 : decide ((l.length : Int) < (n : Int)) = false := by simp; omega
  have ht : GQ l 0 n = (l.take n, l.drop n, 0) := by unfold GQ; rw [if_neg (by decide), if_neg hsh]
  rw [ht]
  simp (disch := omega) only [gI, iE, iK, aBe, dJ, bT, aBc, bU, fS, fV, fN, c1, gD, iH, n1, c0, fQ, iA, d1, eJ, aA9, eF]
  refine sW o rfl (by simp [one]) fun w1 o1 x1 s1 => ?_
  simp only [aBj, aBl] at o1
  have hbn : Bs w (.slice (mN va n 0 1) (n - 0) (n - 0)) (l.take n) := by
   have := azF hb (k := n) (by omega)
   rwa [<- aCO] at this
  have hbd : Bs w (.slice (mN va vc n 1) (l.length - n) (vc - n)) (l.drop n) := by
   have := hb.drop' (k := n) (by omega)
   rwa [<- aC4] at this
  have hn1 := hat.sub (mx := n) (k := 0) (sz := 1) (m := n - 0) (c' := n - 0) (by omega)
  have hn2 := hat.sub (mx := vc) (k := n) (sz := 1) (m := l.length - n) (c' := vc - n) (by omega)
  exact ⟨hbn.ext x1 (hn1 _ fun b hb => hb.2.2), hn1, ⟨h0, h0', _, o1, hbd.ext x1 (hn2 _ fun b hb => hb.2.2), hn2⟩, x1⟩
theorem S0 {lo hi p : Nat} {l : List UInt8} {e : Int} {w : aDs} (h : Qk w lo hi p l e) :
 jE pg oR #[.pointer (some ⟨p, 0, none⟩)] w (fun r w' => r = .int .i64 l.length /\ w' = w) := by
 refine Pn ?_
 unfold KL Bt
 obtain ⟨h0, h0', v, o, hb, hat⟩ := h
 obtain ⟨va, vc, rfl, hvc⟩ := hb.len
 rw [aBf] at hb hat o hvc
 have c0 := o.cell (off := 0)
 simp only [aA6, aA7] at c0
 simp (disch := omega) only [gI, aS, aBa, iE, dJ, bU, fS, and_true, c0, gD, fQ, fV]
theorem MH {lo hi p : Nat} {l : List UInt8} {e : Int} {w : aDs} (h : Qk w lo hi p l e) :
 jE pg lY #[.pointer (some ⟨p, 0, none⟩)] w (fun r w' => r = .int .i64 e /\ w' = w) := by
 refine Px ?_
 unfold Mi B2
 obtain ⟨h0, h0', v, o, hb, hat⟩ := h
 have c1 := o.cell (off := 1)
 simp only [aA6, aA7] at c1
 simp (disch := omega) only [gI, aS, aBa, iE, dJ, bT, aBc, fN, and_true, c1, gD, fV]
theorem YB {lo hi p n : Nat} {l : List UInt8} {e : Int} {w : aDs} (h : Qk w lo hi p l e) (hl : l.length <= 1000000000) (hn : n <= 1000000000) :
 jE pg qK #[.pointer (some ⟨p, 0, none⟩), .int .i64 n] w (fun r w' => Bs w' r (GQ l e n).1 /\ AtS r (fun b => lo <= b /\ b < hi /\ b ≠ p) /\ Qk w' lo hi p (GQ l e n).2.1 (GQ l e n).2.2 /\ jN w w' (fun y => y = p)) := by
 refine Nb ?_
 unfold JC Aa
 have d1 : decide ((0 : Int) <= (n : Int)) = true := by simp
 simp (disch := omega) only [gI, aS, aBa, iF, d1, dJ, fV]
 refine (afA h hl hn).mono ?_
 rintro r w1 hr
 exact hr
theorem B1 {lo hi p n : Nat} {l : List UInt8} {e : Int} {w : aDs} (h : Qk w lo hi p l e) (hl : l.length <= 1000000000) (hn : 1 <= n /\ n <= 8) :
 jE pg lA #[.pointer (some ⟨p, 0, none⟩), .int .i64 n] w (fun r w' => r = .int .u64 (sB (GQ l e n).1 : Nat) /\ Qk w' lo hi p (GQ l e n).2.1 (GQ l e n).2.2 /\ jN w w' (fun y => y = p)) := by
 refine Mg ?_
 unfold IT yJ yR yK xP yV
 have d1 : decide ((1 : Int) <= (n : Int)) = true := by simp; omega
 have d2 : decide ((n : Int) <= 8) = true := by simp; omega
 simp (disch := omega) only [gI, aS, aBa, iF, d1, dJ, gV, gR, if_true, gO, iN, d2, fV]
 refine (afA h hl (by omega)).mono ?_
 rintro r w1 ⟨hb, hat, hr, x1⟩
 obtain ⟨t, ht⟩ : ∃ t, t = (GQ l e n).1 := ⟨_, rfl⟩
 have htl : t.length <= 8 := by
  rw [ht]; unfold GQ
  split
  .simp
  .split
   .simp
   .simp; omega
 rw [<- ht] at hb ⊢
 obtain ⟨va, vc, rfl, hvc⟩ := hb.len
 rw [aBf] at hb hvc hat
 simp (disch := omega) only [aBf, fQ, dJ]
 unfold xS xT
 refine kO.rule (fun m s w' => ∃ i : Nat, m = t.length - i /\ i <= t.length /\ s = (.int .u64 (sB (t.take i) : Nat), .int .i64 i) /\ w' = w1) t.length ⟨0, rfl, by omega, rfl, rfl⟩ ?_
 rintro m s w2 ⟨i, rfl, hi, rfl, hw⟩
 rw [hw]; clear hw w2
 unfold tA
 by_cases hlt : i < t.length
 .have d3 : decide ((i : Int) < (t.length : Int)) = true := by simp; omega
  obtain ⟨c, hc⟩ : ∃ c, c = t[i]'hlt := ⟨_, rfl⟩
  have htk : t.take (i + 1) = t.take i ++ [c] := by rw [aCK, aBh hlt, <- hc] <;> rfl
  have hor := atX (t.take i) c
  rw [<- htk, aBo, aBU (by omega)] at hor
  have hcl : c.toNat < 256 := aCg c
  obtain ⟨b, off, c', hv, hcc, hcell⟩ := hb.openV (by rw [aBf]; omega)
  have g1 := hcell i (by rw [aBf]; exact hlt)
  rw [aBf] at hv
  cases hv
  rw [aDk, <- hc] at g1
  simp only [nR] at g1
  generalize c.toNat = cx at *
  have hp : 2 ^ (8 * i) <= 2 ^ 56 := aBw (by omega) (by omega)
  have hm : cx * 2 ^ (8 * i) <= 255 * 2 ^ 56 := Nat.mul_le_mul (by omega) hp
  have hb0 := Mr (t.take i)
  have hb1 := Mr (t.take (i + 1))
  rw [aBo, aBU (by omega)] at hb0 hb1
  have hq : 256 ^ i <= 256 ^ 7 := aBw (by omega) (by omega)
  have e0 : ((8 : Int) * (i : Int)) = ((8 * i : Nat) : Int) := by omega
  have e5 : IntKind.u64.wrap ((cx : Int) * 2 ^ (min (8 * i) IntKind.u64.bits)) = ((cx * 2 ^ (8 * i) : Nat) : Int) := by
   rw [show min (8 * i) IntKind.u64.bits = 8 * i from aBU (by have : IntKind.u64.bits = 64 := rfl
                                                              omega)]
   have e : (cx : Int) * 2 ^ (8 * i) = ((cx * 2 ^ (8 * i) : Nat) : Int) := by simp
   rw [e]
   exact iB (by omega) (by omega)
  have e6 := alZ (a := sB (t.take i)) (b := cx * 2 ^ (8 * i)) (by omega) (by omega)
  rw [hor] at e6
  have e7 : IntKind.u64.wrap (cx : Int) = (cx : Int) := iB (by omega) (by omega)
  simp (disch := omega) only [gI, gY, d3, fR, aA9, iM, e0, gX, hJ, dJ, fT, iB, gK, g1, gD, dO, e7, iG, e5, jJ, e6, and_true, gB]
  exact ⟨t.length - (i + 1), by omega, i + 1, rfl, by omega, rfl⟩
 .have d3 : decide ((i : Int) < (t.length : Int)) = false := by simp; omega
  obtain rfl : i = t.length := by omega
  simp (disch := omega) only [gI, gY, d3, iM, gX, hJ, dJ, fT, iB, fV]
  unfold tC
  rw [aCM]
  exact ⟨rfl, hr, x1⟩
def nxS (s : List UInt8 × Int) (n : Nat) : List UInt8 × Int := ((GQ s.1 s.2 n).2.1, (GQ s.1 s.2 n).2.2)
def nvS (s : List UInt8 × Int) (n : Nat) : Nat := sB (GQ s.1 s.2 n).1
structure FH where
 window : Nat
 size : Nat
 known : Bool
 sum : Bool
def aqJ (w : Nat) : Nat := 2 ^ (10 + w / 8) + 2 ^ (10 + w / 8) / 8 * (w % 8)
def Uc (d : Nat) : Bool := d / 32 % 2 == 1
def fDn (d : Nat) : Nat := if d % 4 = 3 then 4 else d % 4
def VQ (d : Nat) : Nat := if d / 64 = 0 then (if Uc d then 1 else 0) else 2 ^ (d / 64)
def opS (s : List UInt8 × Int) (n : Nat) : List UInt8 × Int := if 0 < n then nxS s n else s
def ZY (s : List UInt8 × Int) (n : Nat) : Nat := if 0 < n then nvS s n else 0
def fS2 (s1 : List UInt8 × Int) (d : Nat) : List UInt8 × Int := if Uc d then s1 else nxS s1 1
def Ze (L : Nat) (s4 : List UInt8 × Int) (dict : Nat) (h : FH) : Except Int (FH × Nat) :=
 if s4.2 ≠ 0 then .error s4.2 else if dict ≠ 0 then .error 14 else .ok (h, L - s4.1.length)
def fSz (d x : Nat) : Nat := if VQ d = 2 then x + 256 else x
def aaC (L : Nat) (s1 : List UInt8 × Int) (d : Nat) : Except Int (FH × Nat) :=
 Ze L (opS (opS (fS2 s1 d) (fDn d)) (VQ d)) (ZY (fS2 s1 d) (fDn d))
  ⟨if Uc d then fSz d (ZY (opS (fS2 s1 d) (fDn d)) (VQ d)) else aqJ (nvS s1 1), fSz d (ZY (opS (fS2 s1 d) (fDn d)) (VQ d)), decide (0 < VQ d), d / 4 % 2 == 1⟩
def Q1 (l : List UInt8) : Except Int (FH × Nat) :=
 if (nxS (l, 0) 1).2 ≠ 0 then .error (nxS (l, 0) 1).2 else if nvS (l, 0) 1 / 8 % 2 = 1 then .error 11 else aaC l.length (nxS (l, 0) 1) (nvS (l, 0) 1)
def fhV (h : FH) : aDt := .agg #[.int .u64 (h.window : Nat), .int .u64 (h.size : Nat), .bool h.known, .bool h.sum]
def fRV : Except Int (FH × Nat) -> aDt
 | .error e => .tuple #[fhV ⟨0, 0, false, false⟩, .int .i64 0, .int .i64 e]
 | .ok (h, n) => .tuple #[fhV h, .int .i64 (n : Nat), .int .i64 0]
def Oo (h : FH) : List aDt := [.int .u64 (h.window : Nat), .int .u64 (h.size : Nat), .bool h.known, .bool h.sum]
theorem afJ {RR : aDt -> aDs -> Prop} {v : aDt} {L lo hi pr ph pt dict : Nat} {l : List UInt8} {e : Int} {h : FH} {z : FH} {w : aDs} (hr : Qk w lo hi pr l e) (hl : l.length <= 1000000) (hv : ∃ a c, v = .slice a L c) (hL : l.length <= L) (hL2 : L <= 1000000) (oh : lN w ph (Oo h)) (ot : lN w pt (Oo z)) (hne : ph ≠ pt) (hpt : ¬ (lo <= pt /\ pt < hi))
 (hk : ∀ w', jN w w' (fun y => y = pt) -> RR (fRV (Ze L (l, e) dict h)) w') :
 DN RR v (.pointer (some ⟨pt, 0, none⟩)) (.pointer (some ⟨pr, 0, none⟩)) (.pointer (some ⟨ph, 0, none⟩)) (.int .u64 (dict : Nat)) w := by
 unfold DN
 obtain ⟨a, c, rfl⟩ := hv
 refine (MH hr).mono ?_
 rintro r w1 ⟨rfl, rfl⟩
 unfold Ze at hk
 by_cases he : e = 0
 .subst he
  have n0 : ((0 : Int) != 0) = false := rfl
  simp only [ne_eq, not_true, if_false] at hk
  by_cases hd : dict = 0
  .subst hd
   have n1 : (((0 : Nat) : Int) != 0) = false := rfl
   simp only [ne_eq, not_true, if_false] at hk
   have hq := Ym (off := 0) (oC oh) (by simp [Oo])
   simp only [Oo, aBB, aBA, aBE] at hq
   simp (disch := omega) only [gI, jD, dJ, stepR_skip, hJ, iC, iM, iP, iL, iO, jJ, iW, gM, iG, iI, iJ, iH, gY, iN, iA, iF, iX, iV, iK, gR, iR, iQ, iE, jW, jV, kH, kC, kG, kF, kI, kE, kD, gD, Result.ok.injEq, Next.value.injEq, true_and, and_true, gX, iB, iU, iT, iS, jI, aA9, gV, gU, gW, gT, gO, gJ, gP, gN, gB, fV, if_true, if_false, aA8, aBc, aBa, aBb, aBe, aBd, aA7, aA6, fQ, fL, fA, fR, cU, eS, eH, dK, bN, fS, fC, aM, dF, aX, bM, bP, aQ, cP, cG, eQ, aF, gS, aI, cK, aT, bV, fT, cI, cJ, aD, gA, fB, aP, aG, bQ, gQ, aK, fH, dT, dP, gG, dA, eU, dI, eF, fG, fF, cF, dC, gK, dO, cB, aS, bU, bT, fN, aE, aH, aN, aY, bF, cN, bK, aA, eY, aL, cL, fJ, fE, gF, bJ, eP, eN, bY, fW, fI, eJ, dH, cO, dB, bD, aZ, aO, fZ, aJ, dE, dQ, bG, cC, fK, dL, gC, fM, eZ, eT, dU, aR, cH, dG, fY, fX, fD, cZ, aW, dV, fU, cR, eX, fP, cD, bO, eD, bB, dX, dW, cM, eL, eK, bE, cY, bA, dR, dY, eE, bL, cS, cQ, dN, bS, cW, cV, fO, bZ, eI, eM, gE, dZ, dS, dM, dD, bH, bR, bX, bW, aU, cX, aV, n0, n1, hq]
   refine (S0 (hr.ext (jN.dr w1 mC) (fun _ _ _ h => h))).mono ?_
   rintro r w2 ⟨rfl, rfl⟩
   have e1 : (L : Int) - (l.length : Int) = ((L - l.length : Nat) : Int) := by omega
   simp (disch := omega) only [gI, jD, dJ, stepR_skip, hJ, iC, iM, iP, iL, iO, jJ, iW, gM, iG, iI, iJ, iH, gY, iN, iA, iF, iX, iV, iK, gR, iR, iQ, iE, jW, jV, kH, kC, kG, kF, kI, kE, kD, gD, Result.ok.injEq, Next.value.injEq, true_and, and_true, gX, iB, iU, iT, iS, jI, aA9, gV, gU, gW, gT, gO, gJ, gP, gN, gB, fV, if_true, if_false, aA8, aBc, aBa, aBb, aBe, aBd, aA7, aA6, fQ, fL, fA, fR, cU, eS, eH, dK, bN, fS, fC, aM, dF, aX, bM, bP, aQ, cP, cG, eQ, aF, gS, aI, cK, aT, bV, fT, cI, cJ, aD, gA, fB, aP, aG, bQ, gQ, aK, fH, dT, dP, gG, dA, eU, dI, eF, fG, fF, cF, dC, gK, dO, cB, aS, bU, bT, fN, aE, aH, aN, aY, bF, cN, bK, aA, eY, aL, cL, fJ, fE, gF, bJ, eP, eN, bY, fW, fI, eJ, dH, cO, dB, bD, aZ, aO, fZ, aJ, dE, dQ, bG, cC, fK, dL, gC, fM, eZ, eT, dU, aR, cH, dG, fY, fX, fD, cZ, aW, dV, fU, cR, eX, fP, cD, bO, eD, bB, dX, dW, cM, eL, eK, bE, cY, bA, dR, dY, eE, bL, cS, cQ, dN, bS, cW, cV, fO, bZ, eI, eM, gE, dZ, dS, dM, dD, bH, bR, bX, bW, aU, cX, aV, hq, e1]
   refine qY (oC ot) rfl (by simp [one]) (by simp [Oo]) fun w3 o3 x3 s3 => ?_
   try simp (disch := omega) only [gI, jD, dJ, stepR_skip, hJ, iC, iM, iP, iL, iO, jJ, iW, gM, iG, iI, iJ, iH, gY, iN, iA, iF, iX, iV, iK, gR, iR, iQ, iE, jW, jV, kH, kC, kG, kF, kI, kE, kD, gD, Result.ok.injEq, Next.value.injEq, true_and, and_true, gX, iB, iU, iT, iS, jI, aA9, gV, gU, gW, gT, gO, gJ, gP, gN, gB, fV, if_true, if_false, aA8, aBc, aBa, aBb, aBe, aBd, aA7, aA6, fQ, fL, fA, fR, cU, eS, eH, dK, bN, fS, fC, aM, dF, aX, bM, bP, aQ, cP, cG, eQ, aF, gS, aI, cK, aT, bV, fT, cI, cJ, aD, gA, fB, aP, aG, bQ, gQ, aK, fH, dT, dP, gG, dA, eU, dI, eF, fG, fF, cF, dC, gK, dO, cB, aS, bU, bT, fN, aE, aH, aN, aY, bF, cN, bK, aA, eY, aL, cL, fJ, fE, gF, bJ, eP, eN, bY, fW, fI, eJ, dH, cO, dB, bD, aZ, aO, fZ, aJ, dE, dQ, bG, cC, fK, dL, gC, fM, eZ, eT, dU, aR, cH, dG, fY, fX, fD, cZ, aW, dV, fU, cR, eX, fP, cD, bO, eD, bB, dX, dW, cM, eL, eK, bE, cY, bA, dR, dY, eE, bL, cS, cQ, dN, bS, cW, cV, fO, bZ, eI, eM, gE, dZ, dS, dM, dD, bH, bR, bX, bW, aU, cX, aV, e1]
   refine yN o3 (by simp [kV, Oo]) ?_
   simp only [kV, Oo, aBj, aBl, aBB, aBA, aBE]
   exact hk w3 ((jN.dr w1 _).seq x3)
  .have n1 : ((dict : Int) != 0) = true := by simp; omega
   rw [if_pos hd] at hk
   simp (disch := omega) only [gI, jD, dJ, stepR_skip, hJ, iC, iM, iP, iL, iO, jJ, iW, gM, iG, iI, iJ, iH, gY, iN, iA, iF, iX, iV, iK, gR, iR, iQ, iE, jW, jV, kH, kC, kG, kF, kI, kE, kD, gD, Result.ok.injEq, Next.value.injEq, true_and, and_true, gX, iB, iU, iT, iS, jI, aA9, gV, gU, gW, gT, gO, gJ, gP, gN, gB, fV, if_true, if_false, aA8, aBc, aBa, aBb, aBe, aBd, aA7, aA6, fQ, fL, fA, fR, cU, eS, eH, dK, bN, fS, fC, aM, dF, aX, bM, bP, aQ, cP, cG, eQ, aF, gS, aI, cK, aT, bV, fT, cI, cJ, aD, gA, fB, aP, aG, bQ, gQ, aK, fH, dT, dP, gG, dA, eU, dI, eF, fG, fF, cF, dC, gK, dO, cB, aS, bU, bT, fN, aE, aH, aN, aY, bF, cN, bK, aA, eY, aL, cL, fJ, fE, gF, bJ, eP, eN, bY, fW, fI, eJ, dH, cO, dB, bD, aZ, aO, fZ, aJ, dE, dQ, bG, cC, fK, dL, gC, fM, eZ, eT, dU, aR, cH, dG, fY, fX, fD, cZ, aW, dV, fU, cR, eX, fP, cD, bO, eD, bB, dX, dW, cM, eL, eK, bE, cY, bA, dR, dY, eE, bL, cS, cQ, dN, bS, cW, cV, fO, bZ, eI, eM, gE, dZ, dS, dM, dD, bH, bR, bX, bW, aU, cX, aV, n0, n1]
   refine qY ot rfl (by simp [one]) (by simp [Oo]) fun w3 o3 x3 s3 => ?_
   refine yN o3 (by simp [kV, Oo]) ?_
   simp only [kV, Oo, aBj, aBl, aBB, aBA, aBE]
   exact hk w3 x3
 .have n0 : (e != 0) = true := by simp [he]
  rw [if_pos he] at hk
  simp (disch := omega) only [gI, jD, dJ, stepR_skip, hJ, iC, iM, iP, iL, iO, jJ, iW, gM, iG, iI, iJ, iH, gY, iN, iA, iF, iX, iV, iK, gR, iR, iQ, iE, jW, jV, kH, kC, kG, kF, kI, kE, kD, gD, Result.ok.injEq, Next.value.injEq, true_and, and_true, gX, iB, iU, iT, iS, jI, aA9, gV, gU, gW, gT, gO, gJ, gP, gN, gB, fV, if_true, if_false, aA8, aBc, aBa, aBb, aBe, aBd, aA7, aA6, fQ, fL, fA, fR, cU, eS, eH, dK, bN, fS, fC, aM, dF, aX, bM, bP, aQ, cP, cG, eQ, aF, gS, aI, cK, aT, bV, fT, cI, cJ, aD, gA, fB, aP, aG, bQ, gQ, aK, fH, dT, dP, gG, dA, eU, dI, eF, fG, fF, cF, dC, gK, dO, cB, aS, bU, bT, fN, aE, aH, aN, aY, bF, cN, bK, aA, eY, aL, cL, fJ, fE, gF, bJ, eP, eN, bY, fW, fI, eJ, dH, cO, dB, bD, aZ, aO, fZ, aJ, dE, dQ, bG, cC, fK, dL, gC, fM, eZ, eT, dU, aR, cH, dG, fY, fX, fD, cZ, aW, dV, fU, cR, eX, fP, cD, bO, eD, bB, dX, dW, cM, eL, eK, bE, cY, bA, dR, dY, eE, bL, cS, cQ, dN, bS, cW, cV, fO, bZ, eI, eM, gE, dZ, dS, dM, dD, bH, bR, bX, bW, aU, cX, aV, n0]
  refine (MH hr).mono ?_
  rintro r w2 ⟨rfl, rfl⟩
  refine qY ot rfl (by simp [one]) (by simp [Oo]) fun w3 o3 x3 s3 => ?_
  refine yN o3 (by simp [kV, Oo]) ?_
  simp only [kV, Oo, aBj, aBl, aBB, aBA, aBE]
  exact hk w3 x3
theorem ahP {RR : aDt -> aDs -> Prop} {v : aDt} {L lo hi pr ph pt dict : Nat} {l : List UInt8} {e : Int} {h : FH} {z : FH} {o : Bool} {w : aDs} (hr : Qk w lo hi pr l e) (hl : l.length <= 1000000) (hv : ∃ a c, v = .slice a L c) (hL : l.length <= L) (hL2 : L <= 1000000) (oh : lN w ph (Oo h)) (ot : lN w pt (Oo z)) (hne : ph ≠ pt) (hpt : ¬ (lo <= pt /\ pt < hi)) (hph : ¬ (lo <= ph /\ ph < hi))
 (hk : ∀ w', jN w w' (fun y => y = pt ∨ y = ph) -> RR (fRV (Ze L (l, e) dict ⟨if o then h.size else h.window, h.size, h.known, h.sum⟩)) w') :
 Ir RR v (.pointer (some ⟨pt, 0, none⟩)) (.pointer (some ⟨pr, 0, none⟩)) (.pointer (some ⟨ph, 0, none⟩)) (.bool o) (.int .u64 (dict : Nat)) w := by
 unfold Ir M9
 cases o with
 | false =>
   simp (disch := omega) only [gI, jD, dJ, stepR_skip, hJ, iC, iM, iP, iL, iO, jJ, iW, gM, iG, iI, iJ, iH, gY, iN, iA, iF, iX, iV, iK, gR, iR, iQ, iE, jW, jV, kH, kC, kG, kF, kI, kE, kD, gD, Result.ok.injEq, Next.value.injEq, true_and, and_true, gX, iB, iU, iT, iS, jI, aA9, gV, gU, gW, gT, gO, gJ, gP, gN, gB, fV, if_true, if_false, aA8, aBc, aBa, aBb, aBe, aBd, aA7, aA6, fQ, fL, fA, fR, cU, eS, eH, dK, bN, fS, fC, aM, dF, aX, bM, bP, aQ, cP, cG, eQ, aF, gS, aI, cK, aT, bV, fT, cI, cJ, aD, gA, fB, aP, aG, bQ, gQ, aK, fH, dT, dP, gG, dA, eU, dI, eF, fG, fF, cF, dC, gK, dO, cB, aS, bU, bT, fN, aE, aH, aN, aY, bF, cN, bK, aA, eY, aL, cL, fJ, fE, gF, bJ, eP, eN, bY, fW, fI, eJ, dH, cO, dB, bD, aZ, aO, fZ, aJ, dE, dQ, bG, cC, fK, dL, gC, fM, eZ, eT, dU, aR, cH, dG, fY, fX, fD, cZ, aW, dV, fU, cR, eX, fP, cD, bO, eD, bB, dX, dW, cM, eL, eK, bE, cY, bA, dR, dY, eE, bL, cS, cQ, dN, bS, cW, cV, fO, bZ, eI, eM, gE, dZ, dS, dM, dD, bH, bR, bX, bW, aU, cX, aV]
   exact afJ hr hl hv hL hL2 oh ot hne hpt fun w' x => hk w' (x.mono fun _ _ h => .inl h)
 | true =>
   have c1 := oh.cell (off := 1)
   simp only [Oo, aA6, aA7] at c1
   simp (disch := omega) only [gI, jD, dJ, stepR_skip, hJ, iC, iM, iP, iL, iO, jJ, iW, gM, iG, iI, iJ, iH, gY, iN, iA, iF, iX, iV, iK, gR, iR, iQ, iE, jW, jV, kH, kC, kG, kF, kI, kE, kD, gD, Result.ok.injEq, Next.value.injEq, true_and, and_true, gX, iB, iU, iT, iS, jI, aA9, gV, gU, gW, gT, gO, gJ, gP, gN, gB, fV, if_true, if_false, aA8, aBc, aBa, aBb, aBe, aBd, aA7, aA6, fQ, fL, fA, fR, cU, eS, eH, dK, bN, fS, fC, aM, dF, aX, bM, bP, aQ, cP, cG, eQ, aF, gS, aI, cK, aT, bV, fT, cI, cJ, aD, gA, fB, aP, aG, bQ, gQ, aK, fH, dT, dP, gG, dA, eU, dI, eF, fG, fF, cF, dC, gK, dO, cB, aS, bU, bT, fN, aE, aH, aN, aY, bF, cN, bK, aA, eY, aL, cL, fJ, fE, gF, bJ, eP, eN, bY, fW, fI, eJ, dH, cO, dB, bD, aZ, aO, fZ, aJ, dE, dQ, bG, cC, fK, dL, gC, fM, eZ, eT, dU, aR, cH, dG, fY, fX, fD, cZ, aW, dV, fU, cR, eX, fP, cD, bO, eD, bB, dX, dW, cM, eL, eK, bE, cY, bA, dR, dY, eE, bL, cS, cQ, dN, bS, cW, cV, fO, bZ, eI, eM, gE, dZ, dS, dM, dD, bH, bR, bX, bW, aU, cX, aV, c1]
   refine JT oh rfl (by simp [Oo]) fun w1 o1 x1 s1 => ?_
   refine afJ (h := ⟨h.size, h.size, h.known, h.sum⟩) (hr.ext x1 fun y h1 h2 h3 => hph (h3 ▸ ⟨h1, h2⟩)) hl hv hL hL2 o1 (ot.ext x1 (fun e => hne e.symm)) hne hpt fun w' x => hk w' ((x1.mono fun _ _ h => .inr h).seq (x.mono fun _ _ h => .inl h))
theorem afD {RR : aDt -> aDs -> Prop} {v : aDt} {L lo hi pr ph pt dict n : Nat} {l : List UInt8} {e : Int} {h : FH} {z : FH} {o : Bool} {w : aDs} (hn : n = 2 -> h.size < 65536) (hr : Qk w lo hi pr l e) (hl : l.length <= 1000000) (hv : ∃ a c, v = .slice a L c) (hL : l.length <= L) (hL2 : L <= 1000000) (oh : lN w ph (Oo h)) (ot : lN w pt (Oo z)) (hne : ph ≠ pt) (hpt : ¬ (lo <= pt /\ pt < hi)) (hph : ¬ (lo <= ph /\ ph < hi))
 (hk : ∀ w', jN w w' (fun y => y = pt ∨ y = ph) -> RR (fRV (Ze L (l, e) dict ⟨if o then (if n = 2 then h.size + 256 else h.size) else h.window, if n = 2 then h.size + 256 else h.size, h.known, h.sum⟩)) w') :
 It RR v (.pointer (some ⟨pt, 0, none⟩)) (.pointer (some ⟨pr, 0, none⟩)) (.pointer (some ⟨ph, 0, none⟩)) (.bool o) (.int .u64 (dict : Nat)) (.int .i64 (n : Nat)) w := by
 unfold It Ny
 by_cases h2 : n = 2
 .have n1 : ((n : Int) == 2) = true := by rw [h2] <;> rfl
  simp only [h2, if_true] at hk
  have hs := hn h2
  have c1 := oh.cell (off := 1)
  simp only [Oo, aA6, aA7] at c1
  have e1 : (h.size : Int) + 256 = ((h.size + 256 : Nat) : Int) := by omega
  simp (disch := omega) only [gI, jD, dJ, stepR_skip, hJ, iC, iM, iP, iL, iO, jJ, iW, gM, iG, iI, iJ, iH, gY, iN, iA, iF, iX, iV, iK, gR, iR, iQ, iE, jW, jV, kH, kC, kG, kF, kI, kE, kD, gD, Result.ok.injEq, Next.value.injEq, true_and, and_true, gX, iB, iU, iT, iS, jI, aA9, gV, gU, gW, gT, gO, gJ, gP, gN, gB, fV, if_true, if_false, aA8, aBc, aBa, aBb, aBe, aBd, aA7, aA6, fQ, fL, fA, fR, cU, eS, eH, dK, bN, fS, fC, aM, dF, aX, bM, bP, aQ, cP, cG, eQ, aF, gS, aI, cK, aT, bV, fT, cI, cJ, aD, gA, fB, aP, aG, bQ, gQ, aK, fH, dT, dP, gG, dA, eU, dI, eF, fG, fF, cF, dC, gK, dO, cB, aS, bU, bT, fN, aE, aH, aN, aY, bF, cN, bK, aA, eY, aL, cL, fJ, fE, gF, bJ, eP, eN, bY, fW, fI, eJ, dH, cO, dB, bD, aZ, aO, fZ, aJ, dE, dQ, bG, cC, fK, dL, gC, fM, eZ, eT, dU, aR, cH, dG, fY, fX, fD, cZ, aW, dV, fU, cR, eX, fP, cD, bO, eD, bB, dX, dW, cM, eL, eK, bE, cY, bA, dR, dY, eE, bL, cS, cQ, dN, bS, cW, cV, fO, bZ, eI, eM, gE, dZ, dS, dM, dD, bH, bR, bX, bW, aU, cX, aV, n1, c1, e1]
  refine JT oh rfl (by simp [Oo]) fun w1 o1 x1 s1 => ?_
  refine ahP (h := ⟨h.window, h.size + 256, h.known, h.sum⟩) (hr.ext x1 fun y h1 h2 h3 => hph (h3 ▸ ⟨h1, h2⟩)) hl hv hL hL2 o1 (ot.ext x1 (fun e => hne e.symm)) hne hpt hph fun w' x => hk w' ((x1.mono fun _ _ h => .inr h).seq x)
 .have n1 : ((n : Int) == 2) = false := by simp; omega
  simp only [if_neg h2] at hk
  simp (disch := omega) only [gI, jD, dJ, stepR_skip, hJ, iC, iM, iP, iL, iO, jJ, iW, gM, iG, iI, iJ, iH, gY, iN, iA, iF, iX, iV, iK, gR, iR, iQ, iE, jW, jV, kH, kC, kG, kF, kI, kE, kD, gD, Result.ok.injEq, Next.value.injEq, true_and, and_true, gX, iB, iU, iT, iS, jI, aA9, gV, gU, gW, gT, gO, gJ, gP, gN, gB, fV, if_true, if_false, aA8, aBc, aBa, aBb, aBe, aBd, aA7, aA6, fQ, fL, fA, fR, cU, eS, eH, dK, bN, fS, fC, aM, dF, aX, bM, bP, aQ, cP, cG, eQ, aF, gS, aI, cK, aT, bV, fT, cI, cJ, aD, gA, fB, aP, aG, bQ, gQ, aK, fH, dT, dP, gG, dA, eU, dI, eF, fG, fF, cF, dC, gK, dO, cB, aS, bU, bT, fN, aE, aH, aN, aY, bF, cN, bK, aA, eY, aL, cL, fJ, fE, gF, bJ, eP, eN, bY, fW, fI, eJ, dH, cO, dB, bD, aZ, aO, fZ, aJ, dE, dQ, bG, cC, fK, dL, gC, fM, eZ, eT, dU, aR, cH, dG, fY, fX, fD, cZ, aW, dV, fU, cR, eX, fP, cD, bO, eD, bB, dX, dW, cM, eL, eK, bE, cY, bA, dR, dY, eE, bL, cS, cQ, dN, bS, cW, cV, fO, bZ, eI, eM, gE, dZ, dS, dM, dD, bH, bR, bX, bW, aU, cX, aV, n1]
  exact ahP hr hl hv hL hL2 oh ot hne hpt hph hk
theorem arJ {RR : aDt -> aDs -> Prop} {v : aDt} {L lo hi pr ph pt dict n : Nat} {s : List UInt8 × Int} {h : FH} {z : FH} {o : Bool} {w : aDs} (hn8 : n <= 8) (hn : n = 2 -> h.size < 65536) (hk0 : h.known = false) (hs0 : h.size = 0) (hr : Qk w lo hi pr s.1 s.2) (hl : s.1.length <= 1000000) (hv : ∃ a c, v = .slice a L c) (hL : s.1.length <= L) (hL2 : L <= 1000000) (oh : lN w ph (Oo h)) (ot : lN w pt (Oo z)) (hne : ph ≠ pt) (hpt : ¬ (lo <= pt /\ pt < hi)) (hph : ¬ (lo <= ph /\ ph < hi)) (hpr : lo <= pr /\ pr < hi)
 (hk : ∀ w', jN w w' (fun y => y = pt ∨ y = ph ∨ y = pr) -> RR (fRV (Ze L (opS s n) dict ⟨if o then (if n = 2 then ZY s n + 256 else ZY s n) else h.window, if n = 2 then ZY s n + 256 else ZY s n, decide (0 < n), h.sum⟩)) w') :
 DU RR v (.pointer (some ⟨pt, 0, none⟩)) (.pointer (some ⟨pr, 0, none⟩)) (.pointer (some ⟨ph, 0, none⟩)) (.bool o) (.int .u64 (dict : Nat)) (.int .i64 (n : Nat)) w := by
 unfold DU NU
 by_cases h0 : 0 < n
 .have d1 : decide ((n : Int) > 0) = true := decide_eq_true (by omega)
  have d2 : decide ((0 : Int) < (n : Int)) = true := decide_eq_true (by omega)
  unfold opS ZY at hk
  simp only [if_pos h0, decide_eq_true h0] at hk
  have hlt : nvS s n < 256 ^ n := by
   unfold nvS GQ
   split
   .simp [sB]; exact Nat.pow_pos (by omega)
   .split
    .simp [sB]; exact Nat.pow_pos (by omega)
    .have := Mr (s.1.take n)
     rw [aBo, aBU (by omega)] at this
     exact this
  have hle : (nxS s n).1.length <= s.1.length := by
   unfold nxS GQ
   split
   .exact aBk _
   .split
    .exact aBk _
    .simp only [aBr]; omega
  simp (disch := omega) only [gI, jD, dJ, stepR_skip, hJ, iC, iM, iP, iL, iO, jJ, iW, gM, iG, iI, iJ, iH, gY, iN, iA, iF, iX, iV, iK, gR, iR, iQ, iE, jW, jV, kH, kC, kG, kF, kI, kE, kD, gD, Result.ok.injEq, Next.value.injEq, true_and, and_true, gX, iB, iU, iT, iS, jI, aA9, gV, gU, gW, gT, gO, gJ, gP, gN, gB, fV, if_true, if_false, aA8, aBc, aBa, aBb, aBe, aBd, aA7, aA6, fQ, fL, fA, fR, cU, eS, eH, dK, bN, fS, fC, aM, dF, aX, bM, bP, aQ, cP, cG, eQ, aF, gS, aI, cK, aT, bV, fT, cI, cJ, aD, gA, fB, aP, aG, bQ, gQ, aK, fH, dT, dP, gG, dA, eU, dI, eF, fG, fF, cF, dC, gK, dO, cB, aS, bU, bT, fN, aE, aH, aN, aY, bF, cN, bK, aA, eY, aL, cL, fJ, fE, gF, bJ, eP, eN, bY, fW, fI, eJ, dH, cO, dB, bD, aZ, aO, fZ, aJ, dE, dQ, bG, cC, fK, dL, gC, fM, eZ, eT, dU, aR, cH, dG, fY, fX, fD, cZ, aW, dV, fU, cR, eX, fP, cD, bO, eD, bB, dX, dW, cM, eL, eK, bE, cY, bA, dR, dY, eE, bL, cS, cQ, dN, bS, cW, cV, fO, bZ, eI, eM, gE, dZ, dS, dM, dD, bH, bR, bX, bW, aU, cX, aV, d1, d2]
  refine (B1 hr (by omega) ⟨h0, hn8⟩).mono ?_
  rintro r w1 ⟨rfl, hr1, x1⟩
  have oh1 := oh.ext x1 (fun e => hph (e ▸ hpr))
  have ot1 := ot.ext x1 (fun e => hpt (e ▸ hpr))
  refine JT oh1 rfl (by simp [Oo]) fun w2 o2 x2 s2 => ?_
  refine auW (off := 2) o2 rfl (by simp [Oo]) fun w3 o3 x3 s3 => ?_
  have x23 := x2.seq x3
  refine afD (h := ⟨h.window, nvS s n, true, h.sum⟩) (l := (nxS s n).1) (e := (nxS s n).2) (fun h2 => by rw [h2] at hlt; rw [h2]; simpa using hlt) (hr1.ext x23 fun y h1 h2 h3 => hph (h3 ▸ ⟨h1, h2⟩)) (by omega) hv (by omega) hL2 o3 (ot1.ext x23 (fun e => hne e.symm)) hne hpt hph fun w' x => hk w' (((x1.mono fun _ _ h => .inr (.inr h)).seq (x23.mono fun _ _ h => .inr (.inl h))).seq (x.mono fun _ _ h => h.elim .inl fun h => .inr (.inl h)))
 .have d1 : decide ((n : Int) > 0) = false := decide_eq_false (by omega)
  have d2 : decide ((0 : Int) < (n : Int)) = false := decide_eq_false (by omega)
  unfold opS ZY at hk
  simp only [if_neg h0, decide_eq_false h0] at hk
  simp (disch := omega) only [gI, jD, dJ, stepR_skip, hJ, iC, iM, iP, iL, iO, jJ, iW, gM, iG, iI, iJ, iH, gY, iN, iA, iF, iX, iV, iK, gR, iR, iQ, iE, jW, jV, kH, kC, kG, kF, kI, kE, kD, gD, Result.ok.injEq, Next.value.injEq, true_and, and_true, gX, iB, iU, iT, iS, jI, aA9, gV, gU, gW, gT, gO, gJ, gP, gN, gB, fV, if_true, if_false, aA8, aBc, aBa, aBb, aBe, aBd, aA7, aA6, fQ, fL, fA, fR, cU, eS, eH, dK, bN, fS, fC, aM, dF, aX, bM, bP, aQ, cP, cG, eQ, aF, gS, aI, cK, aT, bV, fT, cI, cJ, aD, gA, fB, aP, aG, bQ, gQ, aK, fH, dT, dP, gG, dA, eU, dI, eF, fG, fF, cF, dC, gK, dO, cB, aS, bU, bT, fN, aE, aH, aN, aY, bF, cN, bK, aA, eY, aL, cL, fJ, fE, gF, bJ, eP, eN, bY, fW, fI, eJ, dH, cO, dB, bD, aZ, aO, fZ, aJ, dE, dQ, bG, cC, fK, dL, gC, fM, eZ, eT, dU, aR, cH, dG, fY, fX, fD, cZ, aW, dV, fU, cR, eX, fP, cD, bO, eD, bB, dX, dW, cM, eL, eK, bE, cY, bA, dR, dY, eE, bL, cS, cQ, dN, bS, cW, cV, fO, bZ, eI, eM, gE, dZ, dS, dM, dD, bH, bR, bX, bW, aU, cX, aV, d1, d2]
  refine afD (h := h) (l := s.1) (e := s.2) hn hr hl hv hL hL2 oh ot hne hpt hph fun w' x => ?_
  have := hk w' (x.mono fun _ _ h => h.elim .inl fun h => .inr (.inl h))
  rw [hs0, hk0]
  exact this
theorem ahB {RR : aDt -> aDs -> Prop} {v : aDt} {L lo hi pr ph pt dict d : Nat} {s : List UInt8 × Int} {h : FH} {z : FH} {w : aDs} (hd : d < 256) (hk0 : h.known = false) (hs0 : h.size = 0) (hr : Qk w lo hi pr s.1 s.2) (hl : s.1.length <= 1000000) (hv : ∃ a c, v = .slice a L c) (hL : s.1.length <= L) (hL2 : L <= 1000000) (oh : lN w ph (Oo h)) (ot : lN w pt (Oo z)) (hne : ph ≠ pt) (hpt : ¬ (lo <= pt /\ pt < hi)) (hph : ¬ (lo <= ph /\ ph < hi)) (hpr : lo <= pr /\ pr < hi)
 (hk : ∀ w', jN w w' (fun y => y = pt ∨ y = ph ∨ y = pr) -> RR (fRV (Ze L (opS s (VQ d)) dict ⟨if Uc d then fSz d (ZY s (VQ d)) else h.window, fSz d (ZY s (VQ d)), decide (0 < VQ d), h.sum⟩)) w') :
 D1 RR v (.pointer (some ⟨pt, 0, none⟩)) (.pointer (some ⟨pr, 0, none⟩)) (.int .i64 (d : Nat)) (.pointer (some ⟨ph, 0, none⟩)) (.bool (Uc d)) (.int .u64 (dict : Nat)) w := by
 unfold D1 MT
 have main : ∀ n : Nat, n = VQ d -> DU RR v (.pointer (some ⟨pt, 0, none⟩)) (.pointer (some ⟨pr, 0, none⟩)) (.pointer (some ⟨ph, 0, none⟩)) (.bool (Uc d)) (.int .u64 (dict : Nat)) (.int .i64 (n : Nat)) w := by
  rintro n rfl
  refine arJ (h := h) (s := s) ?_ (fun _ => by omega) hk0 hs0 hr hl hv hL hL2 oh ot hne hpt hph hpr fun w' x => ?_
  .unfold VQ
   have : d / 64 = 0 ∨ d / 64 = 1 ∨ d / 64 = 2 ∨ d / 64 = 3 := by omega
   rcases this with h | h | h | h <;> rw [h] <;> simp
   split <;> omega
  .have := hk w' x
   unfold fSz at this
   exact this
 have h4 : d / 64 = 0 ∨ d / 64 = 1 ∨ d / 64 = 2 ∨ d / 64 = 3 := by omega
 have e6 : (d : Int).fdiv (2 ^ min (Int.toNat 6) IntKind.i64.bits) = ((d / 64 : Nat) : Int) := by
  have : (2 : Int) ^ min (Int.toNat 6) IntKind.i64.bits = 64 := by decide
  rw [this, aBM _ (by omega)]; omega
 rcases h4 with h4 | h4 | h4 | h4 <;> rw [h4] at e6
 .cases ho : Uc d with
  | true =>
    have e : 1 = VQ d := by unfold VQ; rw [h4, ho] <;> rfl
    have := main 1 e
    rw [ho] at this
    simp (disch := omega) only [gI, jD, dJ, stepR_skip, hJ, iC, iM, iP, iL, iO, jJ, iW, gM, iG, iI, iJ, iH, gY, iN, iA, iF, iX, iV, iK, gR, iR, iQ, iE, jW, jV, kH, kC, kG, kF, kI, kE, kD, gD, Result.ok.injEq, Next.value.injEq, true_and, and_true, gX, iB, iU, iT, iS, jI, aA9, gV, gU, gW, gT, gO, gJ, gP, gN, gB, fV, if_true, if_false, aA8, aBc, aBa, aBb, aBe, aBd, aA7, aA6, fQ, fL, fA, fR, cU, eS, eH, dK, bN, fS, fC, aM, dF, aX, bM, bP, aQ, cP, cG, eQ, aF, gS, aI, cK, aT, bV, fT, cI, cJ, aD, gA, fB, aP, aG, bQ, gQ, aK, fH, dT, dP, gG, dA, eU, dI, eF, fG, fF, cF, dC, gK, dO, cB, aS, bU, bT, fN, aE, aH, aN, aY, bF, cN, bK, aA, eY, aL, cL, fJ, fE, gF, bJ, eP, eN, bY, fW, fI, eJ, dH, cO, dB, bD, aZ, aO, fZ, aJ, dE, dQ, bG, cC, fK, dL, gC, fM, eZ, eT, dU, aR, cH, dG, fY, fX, fD, cZ, aW, dV, fU, cR, eX, fP, cD, bO, eD, bB, dX, dW, cM, eL, eK, bE, cY, bA, dR, dY, eE, bL, cS, cQ, dN, bS, cW, cV, fO, bZ, eI, eM, gE, dZ, dS, dM, dD, bH, bR, bX, bW, aU, cX, aV, e6, h4]
    exact this
  | false =>
    have e : 0 = VQ d := by unfold VQ; rw [h4, ho] <;> rfl
    have := main 0 e
    rw [ho] at this
    simp (disch := omega) only [gI, jD, dJ, stepR_skip, hJ, iC, iM, iP, iL, iO, jJ, iW, gM, iG, iI, iJ, iH, gY, iN, iA, iF, iX, iV, iK, gR, iR, iQ, iE, jW, jV, kH, kC, kG, kF, kI, kE, kD, gD, Result.ok.injEq, Next.value.injEq, true_and, and_true, gX, iB, iU, iT, iS, jI, aA9, gV, gU, gW, gT, gO, gJ, gP, gN, gB, fV, if_true, if_false, aA8, aBc, aBa, aBb, aBe, aBd, aA7, aA6, fQ, fL, fA, fR, cU, eS, eH, dK, bN, fS, fC, aM, dF, aX, bM, bP, aQ, cP, cG, eQ, aF, gS, aI, cK, aT, bV, fT, cI, cJ, aD, gA, fB, aP, aG, bQ, gQ, aK, fH, dT, dP, gG, dA, eU, dI, eF, fG, fF, cF, dC, gK, dO, cB, aS, bU, bT, fN, aE, aH, aN, aY, bF, cN, bK, aA, eY, aL, cL, fJ, fE, gF, bJ, eP, eN, bY, fW, fI, eJ, dH, cO, dB, bD, aZ, aO, fZ, aJ, dE, dQ, bG, cC, fK, dL, gC, fM, eZ, eT, dU, aR, cH, dG, fY, fX, fD, cZ, aW, dV, fU, cR, eX, fP, cD, bO, eD, bB, dX, dW, cM, eL, eK, bE, cY, bA, dR, dY, eE, bL, cS, cQ, dN, bS, cW, cV, fO, bZ, eI, eM, gE, dZ, dS, dM, dD, bH, bR, bX, bW, aU, cX, aV, e6, h4]
    exact this
 .have e : 2 = VQ d := by unfold VQ; rw [h4] <;> rfl
  simp (disch := omega) only [gI, jD, dJ, stepR_skip, hJ, iC, iM, iP, iL, iO, jJ, iW, gM, iG, iI, iJ, iH, gY, iN, iA, iF, iX, iV, iK, gR, iR, iQ, iE, jW, jV, kH, kC, kG, kF, kI, kE, kD, gD, Result.ok.injEq, Next.value.injEq, true_and, and_true, gX, iB, iU, iT, iS, jI, aA9, gV, gU, gW, gT, gO, gJ, gP, gN, gB, fV, if_true, if_false, aA8, aBc, aBa, aBb, aBe, aBd, aA7, aA6, fQ, fL, fA, fR, cU, eS, eH, dK, bN, fS, fC, aM, dF, aX, bM, bP, aQ, cP, cG, eQ, aF, gS, aI, cK, aT, bV, fT, cI, cJ, aD, gA, fB, aP, aG, bQ, gQ, aK, fH, dT, dP, gG, dA, eU, dI, eF, fG, fF, cF, dC, gK, dO, cB, aS, bU, bT, fN, aE, aH, aN, aY, bF, cN, bK, aA, eY, aL, cL, fJ, fE, gF, bJ, eP, eN, bY, fW, fI, eJ, dH, cO, dB, bD, aZ, aO, fZ, aJ, dE, dQ, bG, cC, fK, dL, gC, fM, eZ, eT, dU, aR, cH, dG, fY, fX, fD, cZ, aW, dV, fU, cR, eX, fP, cD, bO, eD, bB, dX, dW, cM, eL, eK, bE, cY, bA, dR, dY, eE, bL, cS, cQ, dN, bS, cW, cV, fO, bZ, eI, eM, gE, dZ, dS, dM, dD, bH, bR, bX, bW, aU, cX, aV, e6, h4]
  cases ho : Uc d <;> (simp (disch := omega) only [gI, jD, dJ, stepR_skip, hJ, iC, iM, iP, iL, iO, jJ, iW, gM, iG, iI, iJ, iH, gY, iN, iA, iF, iX, iV, iK, gR, iR, iQ, iE, jW, jV, kH, kC, kG, kF, kI, kE, kD, gD, Result.ok.injEq, Next.value.injEq, true_and, and_true, gX, iB, iU, iT, iS, jI, aA9, gV, gU, gW, gT, gO, gJ, gP, gN, gB, fV, if_true, if_false, aA8, aBc, aBa, aBb, aBe, aBd, aA7, aA6, fQ, fL, fA, fR, cU, eS, eH, dK, bN, fS, fC, aM, dF, aX, bM, bP, aQ, cP, cG, eQ, aF, gS, aI, cK, aT, bV, fT, cI, cJ, aD, gA, fB, aP, aG, bQ, gQ, aK, fH, dT, dP, gG, dA, eU, dI, eF, fG, fF, cF, dC, gK, dO, cB, aS, bU, bT, fN, aE, aH, aN, aY, bF, cN, bK, aA, eY, aL, cL, fJ, fE, gF, bJ, eP, eN, bY, fW, fI, eJ, dH, cO, dB, bD, aZ, aO, fZ, aJ, dE, dQ, bG, cC, fK, dL, gC, fM, eZ, eT, dU, aR, cH, dG, fY, fX, fD, cZ, aW, dV, fU, cR, eX, fP, cD, bO, eD, bB, dX, dW, cM, eL, eK, bE, cY, bA, dR, dY, eE, bL, cS, cQ, dN, bS, cW, cV, fO, bZ, eI, eM, gE, dZ, dS, dM, dD, bH, bR, bX, bW, aU, cX, aV]; rw [<- ho]; exact main 2 e)
 .have e : 4 = VQ d := by unfold VQ; rw [h4] <;> rfl
  simp (disch := omega) only [gI, jD, dJ, stepR_skip, hJ, iC, iM, iP, iL, iO, jJ, iW, gM, iG, iI, iJ, iH, gY, iN, iA, iF, iX, iV, iK, gR, iR, iQ, iE, jW, jV, kH, kC, kG, kF, kI, kE, kD, gD, Result.ok.injEq, Next.value.injEq, true_and, and_true, gX, iB, iU, iT, iS, jI, aA9, gV, gU, gW, gT, gO, gJ, gP, gN, gB, fV, if_true, if_false, aA8, aBc, aBa, aBb, aBe, aBd, aA7, aA6, fQ, fL, fA, fR, cU, eS, eH, dK, bN, fS, fC, aM, dF, aX, bM, bP, aQ, cP, cG, eQ, aF, gS, aI, cK, aT, bV, fT, cI, cJ, aD, gA, fB, aP, aG, bQ, gQ, aK, fH, dT, dP, gG, dA, eU, dI, eF, fG, fF, cF, dC, gK, dO, cB, aS, bU, bT, fN, aE, aH, aN, aY, bF, cN, bK, aA, eY, aL, cL, fJ, fE, gF, bJ, eP, eN, bY, fW, fI, eJ, dH, cO, dB, bD, aZ, aO, fZ, aJ, dE, dQ, bG, cC, fK, dL, gC, fM, eZ, eT, dU, aR, cH, dG, fY, fX, fD, cZ, aW, dV, fU, cR, eX, fP, cD, bO, eD, bB, dX, dW, cM, eL, eK, bE, cY, bA, dR, dY, eE, bL, cS, cQ, dN, bS, cW, cV, fO, bZ, eI, eM, gE, dZ, dS, dM, dD, bH, bR, bX, bW, aU, cX, aV, e6, h4]
  cases ho : Uc d <;> (simp (disch := omega) only [gI, jD, dJ, stepR_skip, hJ, iC, iM, iP, iL, iO, jJ, iW, gM, iG, iI, iJ, iH, gY, iN, iA, iF, iX, iV, iK, gR, iR, iQ, iE, jW, jV, kH, kC, kG, kF, kI, kE, kD, gD, Result.ok.injEq, Next.value.injEq, true_and, and_true, gX, iB, iU, iT, iS, jI, aA9, gV, gU, gW, gT, gO, gJ, gP, gN, gB, fV, if_true, if_false, aA8, aBc, aBa, aBb, aBe, aBd, aA7, aA6, fQ, fL, fA, fR, cU, eS, eH, dK, bN, fS, fC, aM, dF, aX, bM, bP, aQ, cP, cG, eQ, aF, gS, aI, cK, aT, bV, fT, cI, cJ, aD, gA, fB, aP, aG, bQ, gQ, aK, fH, dT, dP, gG, dA, eU, dI, eF, fG, fF, cF, dC, gK, dO, cB, aS, bU, bT, fN, aE, aH, aN, aY, bF, cN, bK, aA, eY, aL, cL, fJ, fE, gF, bJ, eP, eN, bY, fW, fI, eJ, dH, cO, dB, bD, aZ, aO, fZ, aJ, dE, dQ, bG, cC, fK, dL, gC, fM, eZ, eT, dU, aR, cH, dG, fY, fX, fD, cZ, aW, dV, fU, cR, eX, fP, cD, bO, eD, bB, dX, dW, cM, eL, eK, bE, cY, bA, dR, dY, eE, bL, cS, cQ, dN, bS, cW, cV, fO, bZ, eI, eM, gE, dZ, dS, dM, dD, bH, bR, bX, bW, aU, cX, aV]; rw [<- ho]; exact main 4 e)
 .have e : 8 = VQ d := by unfold VQ; rw [h4] <;> rfl
  simp (disch := omega) only [gI, jD, dJ, stepR_skip, hJ, iC, iM, iP, iL, iO, jJ, iW, gM, iG, iI, iJ, iH, gY, iN, iA, iF, iX, iV, iK, gR, iR, iQ, iE, jW, jV, kH, kC, kG, kF, kI, kE, kD, gD, Result.ok.injEq, Next.value.injEq, true_and, and_true, gX, iB, iU, iT, iS, jI, aA9, gV, gU, gW, gT, gO, gJ, gP, gN, gB, fV, if_true, if_false, aA8, aBc, aBa, aBb, aBe, aBd, aA7, aA6, fQ, fL, fA, fR, cU, eS, eH, dK, bN, fS, fC, aM, dF, aX, bM, bP, aQ, cP, cG, eQ, aF, gS, aI, cK, aT, bV, fT, cI, cJ, aD, gA, fB, aP, aG, bQ, gQ, aK, fH, dT, dP, gG, dA, eU, dI, eF, fG, fF, cF, dC, gK, dO, cB, aS, bU, bT, fN, aE, aH, aN, aY, bF, cN, bK, aA, eY, aL, cL, fJ, fE, gF, bJ, eP, eN, bY, fW, fI, eJ, dH, cO, dB, bD, aZ, aO, fZ, aJ, dE, dQ, bG, cC, fK, dL, gC, fM, eZ, eT, dU, aR, cH, dG, fY, fX, fD, cZ, aW, dV, fU, cR, eX, fP, cD, bO, eD, bB, dX, dW, cM, eL, eK, bE, cY, bA, dR, dY, eE, bL, cS, cQ, dN, bS, cW, cV, fO, bZ, eI, eM, gE, dZ, dS, dM, dD, bH, bR, bX, bW, aU, cX, aV, e6, h4]
  cases ho : Uc d <;> (simp (disch := omega) only [gI, jD, dJ, stepR_skip, hJ, iC, iM, iP, iL, iO, jJ, iW, gM, iG, iI, iJ, iH, gY, iN, iA, iF, iX, iV, iK, gR, iR, iQ, iE, jW, jV, kH, kC, kG, kF, kI, kE, kD, gD, Result.ok.injEq, Next.value.injEq, true_and, and_true, gX, iB, iU, iT, iS, jI, aA9, gV, gU, gW, gT, gO, gJ, gP, gN, gB, fV, if_true, if_false, aA8, aBc, aBa, aBb, aBe, aBd, aA7, aA6, fQ, fL, fA, fR, cU, eS, eH, dK, bN, fS, fC, aM, dF, aX, bM, bP, aQ, cP, cG, eQ, aF, gS, aI, cK, aT, bV, fT, cI, cJ, aD, gA, fB, aP, aG, bQ, gQ, aK, fH, dT, dP, gG, dA, eU, dI, eF, fG, fF, cF, dC, gK, dO, cB, aS, bU, bT, fN, aE, aH, aN, aY, bF, cN, bK, aA, eY, aL, cL, fJ, fE, gF, bJ, eP, eN, bY, fW, fI, eJ, dH, cO, dB, bD, aZ, aO, fZ, aJ, dE, dQ, bG, cC, fK, dL, gC, fM, eZ, eT, dU, aR, cH, dG, fY, fX, fD, cZ, aW, dV, fU, cR, eX, fP, cD, bO, eD, bB, dX, dW, cM, eL, eK, bE, cY, bA, dR, dY, eE, bL, cS, cQ, dN, bS, cW, cV, fO, bZ, eI, eM, gE, dZ, dS, dM, dD, bH, bR, bX, bW, aU, cX, aV]; rw [<- ho]; exact main 8 e)
theorem awH {d : Nat} (h : d < 256) : GN .i64 (d : Int) 3 = ((d % 4 : Nat) : Int) /\ (GN .i64 (d : Int) 4 != 0) = (d / 4 % 2 == 1) /\ (GN .i64 (d : Int) 8 != 0) = (d / 8 % 2 == 1) /\ (GN .i64 (d : Int) 32 != 0) = (d / 32 % 2 == 1) := by
 have : ∀ k : Fin 256, GN .i64 (k.val : Int) 3 = ((k.val % 4 : Nat) : Int) /\ (GN .i64 (k.val : Int) 4 != 0) = (k.val / 4 % 2 == 1) /\ (GN .i64 (k.val : Int) 8 != 0) = (k.val / 8 % 2 == 1) /\ (GN .i64 (k.val : Int) 32 != 0) = (k.val / 32 % 2 == 1) := by decide +kernel
 exact this ⟨d, h⟩
theorem aAD (x : Nat) (h : x < 256) : IntKind.u64.wrap (IntKind.u64.wrap (1 * 2 ^ min (10 + ((x / 8 : Nat) : Int)).toNat IntKind.u64.bits) + IntKind.u64.wrap (IntKind.u64.wrap ((IntKind.u64.wrap (1 * 2 ^ min (10 + ((x / 8 : Nat) : Int)).toNat IntKind.u64.bits)).tdiv 8) * GN IntKind.u64 (x : Int) 7)) = ((aqJ x : Nat) : Int) := by
 have : ∀ k : Fin 256, IntKind.u64.wrap (IntKind.u64.wrap (1 * 2 ^ min (10 + ((k.val / 8 : Nat) : Int)).toNat IntKind.u64.bits) + IntKind.u64.wrap (IntKind.u64.wrap ((IntKind.u64.wrap (1 * 2 ^ min (10 + ((k.val / 8 : Nat) : Int)).toNat IntKind.u64.bits)).tdiv 8) * GN IntKind.u64 (k.val : Int) 7)) = ((aqJ k.val : Nat) : Int) := by decide +kernel
 exact this ⟨x, h⟩
theorem apL {x : Nat} {w : aDs} (h : x < 256) : jE pg FX #[.int .u64 (x : Nat)] w (fun r w' => r = .int .u64 (aqJ x : Nat) /\ w' = w) := by
 refine W4 ?_
 unfold Xi I5
 have e0 : (x : Int).fdiv (2 ^ min (Int.toNat 3) IntKind.u64.bits) = ((x / 8 : Nat) : Int) := by
  have : (2 : Int) ^ min (Int.toNat 3) IntKind.u64.bits = 8 := by decide
  rw [this, aBM _ (by omega)]; omega
 simp (disch := omega) only [gI, jD, dJ, stepR_skip, hJ, iC, iM, iP, iL, iO, jJ, iW, gM, iG, iI, iJ, iH, gY, iN, iA, iF, iX, iV, iK, gR, iR, iQ, iE, jW, jV, kH, kC, kG, kF, kI, kE, kD, gD, Result.ok.injEq, Next.value.injEq, true_and, and_true, gX, iB, iU, iT, iS, jI, aA9, gV, gU, gW, gT, gO, gJ, gP, gN, gB, fV, if_true, if_false, aA8, aBc, aBa, aBb, aBe, aBd, aA7, aA6, fQ, fL, fA, fR, cU, eS, eH, dK, bN, fS, fC, aM, dF, aX, bM, bP, aQ, cP, cG, eQ, aF, gS, aI, cK, aT, bV, fT, cI, cJ, aD, gA, fB, aP, aG, bQ, gQ, aK, fH, dT, dP, gG, dA, eU, dI, eF, fG, fF, cF, dC, gK, dO, cB, aS, bU, bT, fN, aE, aH, aN, aY, bF, cN, bK, aA, eY, aL, cL, fJ, fE, gF, bJ, eP, eN, bY, fW, fI, eJ, dH, cO, dB, bD, aZ, aO, fZ, aJ, dE, dQ, bG, cC, fK, dL, gC, fM, eZ, eT, dU, aR, cH, dG, fY, fX, fD, cZ, aW, dV, fU, cR, eX, fP, cD, bO, eD, bB, dX, dW, cM, eL, eK, bE, cY, bA, dR, dY, eE, bL, cS, cQ, dN, bS, cW, cV, fO, bZ, eI, eM, gE, dZ, dS, dM, dD, bH, bR, bX, bW, aU, cX, aV, e0]
 rw [aAD x h]
theorem adA {RR : aDt -> aDs -> Prop} {v : aDt} {L lo hi pr ph pt d : Nat} {s : List UInt8 × Int} {h : FH} {z : FH} {w : aDs} (hd : d < 256) (hk0 : h.known = false) (hs0 : h.size = 0) (hr : Qk w lo hi pr s.1 s.2) (hl : s.1.length <= 1000000) (hv : ∃ a c, v = .slice a L c) (hL : s.1.length <= L) (hL2 : L <= 1000000) (oh : lN w ph (Oo h)) (ot : lN w pt (Oo z)) (hne : ph ≠ pt) (hpt : ¬ (lo <= pt /\ pt < hi)) (hph : ¬ (lo <= ph /\ ph < hi)) (hpr : lo <= pr /\ pr < hi)
 (hk : ∀ w', jN w w' (fun y => y = pt ∨ y = ph ∨ y = pr) -> RR (fRV (Ze L (opS (opS s (fDn d)) (VQ d)) (ZY s (fDn d)) ⟨if Uc d then fSz d (ZY (opS s (fDn d)) (VQ d)) else h.window, fSz d (ZY (opS s (fDn d)) (VQ d)), decide (0 < VQ d), h.sum⟩)) w') :
 GK RR v (.pointer (some ⟨pt, 0, none⟩)) (.pointer (some ⟨pr, 0, none⟩)) (.int .i64 (d : Nat)) (.pointer (some ⟨ph, 0, none⟩)) (.bool (Uc d)) w := by
 unfold GK Ko
 obtain ⟨b3, _⟩ := awH hd
 have main : ∀ n : Nat, n <= 8 -> 0 < n -> fDn d = n -> jE pg lA #[.pointer (some ⟨pr, 0, none⟩), .int .i64 n] w (fun t50 w1 => D1 RR v (.pointer (some ⟨pt, 0, none⟩)) (.pointer (some ⟨pr, 0, none⟩)) (.int .i64 (d : Nat)) (.pointer (some ⟨ph, 0, none⟩)) (.bool (Uc d)) t50 w1) := by
  intro n hn h0 e
  rw [e] at hk
  unfold opS at hk
  unfold ZY at hk
  rw [if_pos h0, if_pos h0] at hk
  have hle : (nxS s n).1.length <= s.1.length := by
   unfold nxS GQ
   split
   .exact aBk _
   .split
    .exact aBk _
    .simp only [aBr]; omega
  refine (B1 hr (by omega) ⟨h0, hn⟩).mono ?_
  rintro r w1 ⟨rfl, hr1, x1⟩
  exact ahB (s := nxS s n) (dict := nvS s n) hd hk0 hs0 hr1 (by omega) hv (by omega) hL2 (oh.ext x1 (fun e => hph (e ▸ hpr))) (ot.ext x1 (fun e => hpt (e ▸ hpr))) hne hpt hph hpr fun w' x => hk w' ((x1.mono fun _ _ h => .inr (.inr h)).seq x)
 have h4 : d % 4 = 0 ∨ d % 4 = 1 ∨ d % 4 = 2 ∨ d % 4 = 3 := by omega
 rcases h4 with h4 | h4 | h4 | h4 <;> rw [h4] at b3
 .have e : fDn d = 0 := by unfold fDn; rw [h4] <;> rfl
  have n1 : decide ((0 : Int) > 0) = false := rfl
  simp (disch := omega) only [gI, jD, dJ, stepR_skip, hJ, iC, iM, iP, iL, iO, jJ, iW, gM, iG, iI, iJ, iH, gY, iN, iA, iF, iX, iV, iK, gR, iR, iQ, iE, jW, jV, kH, kC, kG, kF, kI, kE, kD, gD, Result.ok.injEq, Next.value.injEq, true_and, and_true, gX, iB, iU, iT, iS, jI, aA9, gV, gU, gW, gT, gO, gJ, gP, gN, gB, fV, if_true, if_false, aA8, aBc, aBa, aBb, aBe, aBd, aA7, aA6, fQ, fL, fA, fR, cU, eS, eH, dK, bN, fS, fC, aM, dF, aX, bM, bP, aQ, cP, cG, eQ, aF, gS, aI, cK, aT, bV, fT, cI, cJ, aD, gA, fB, aP, aG, bQ, gQ, aK, fH, dT, dP, gG, dA, eU, dI, eF, fG, fF, cF, dC, gK, dO, cB, aS, bU, bT, fN, aE, aH, aN, aY, bF, cN, bK, aA, eY, aL, cL, fJ, fE, gF, bJ, eP, eN, bY, fW, fI, eJ, dH, cO, dB, bD, aZ, aO, fZ, aJ, dE, dQ, bG, cC, fK, dL, gC, fM, eZ, eT, dU, aR, cH, dG, fY, fX, fD, cZ, aW, dV, fU, cR, eX, fP, cD, bO, eD, bB, dX, dW, cM, eL, eK, bE, cY, bA, dR, dY, eE, bL, cS, cQ, dN, bS, cW, cV, fO, bZ, eI, eM, gE, dZ, dS, dM, dD, bH, bR, bX, bW, aU, cX, aV, b3, n1]
  refine ahB (s := s) (dict := 0) hd hk0 hs0 hr hl hv hL hL2 oh ot hne hpt hph hpr fun w' x => ?_
  have := hk w' x
  rw [e] at this
  exact this
 .have n1 : decide ((1 : Int) > 0) = true := rfl
  have n2 : decide ((0 : Int) < 1) = true := rfl
  simp (disch := omega) only [gI, jD, dJ, stepR_skip, hJ, iC, iM, iP, iL, iO, jJ, iW, gM, iG, iI, iJ, iH, gY, iN, iA, iF, iX, iV, iK, gR, iR, iQ, iE, jW, jV, kH, kC, kG, kF, kI, kE, kD, gD, Result.ok.injEq, Next.value.injEq, true_and, and_true, gX, iB, iU, iT, iS, jI, aA9, gV, gU, gW, gT, gO, gJ, gP, gN, gB, fV, if_true, if_false, aA8, aBc, aBa, aBb, aBe, aBd, aA7, aA6, fQ, fL, fA, fR, cU, eS, eH, dK, bN, fS, fC, aM, dF, aX, bM, bP, aQ, cP, cG, eQ, aF, gS, aI, cK, aT, bV, fT, cI, cJ, aD, gA, fB, aP, aG, bQ, gQ, aK, fH, dT, dP, gG, dA, eU, dI, eF, fG, fF, cF, dC, gK, dO, cB, aS, bU, bT, fN, aE, aH, aN, aY, bF, cN, bK, aA, eY, aL, cL, fJ, fE, gF, bJ, eP, eN, bY, fW, fI, eJ, dH, cO, dB, bD, aZ, aO, fZ, aJ, dE, dQ, bG, cC, fK, dL, gC, fM, eZ, eT, dU, aR, cH, dG, fY, fX, fD, cZ, aW, dV, fU, cR, eX, fP, cD, bO, eD, bB, dX, dW, cM, eL, eK, bE, cY, bA, dR, dY, eE, bL, cS, cQ, dN, bS, cW, cV, fO, bZ, eI, eM, gE, dZ, dS, dM, dD, bH, bR, bX, bW, aU, cX, aV, b3, n1, n2]
  exact main 1 (by omega) (by omega) (by unfold fDn; rw [h4] <;> rfl)
 .have n1 : decide ((2 : Int) > 0) = true := rfl
  have n2 : decide ((0 : Int) < 2) = true := rfl
  simp (disch := omega) only [gI, jD, dJ, stepR_skip, hJ, iC, iM, iP, iL, iO, jJ, iW, gM, iG, iI, iJ, iH, gY, iN, iA, iF, iX, iV, iK, gR, iR, iQ, iE, jW, jV, kH, kC, kG, kF, kI, kE, kD, gD, Result.ok.injEq, Next.value.injEq, true_and, and_true, gX, iB, iU, iT, iS, jI, aA9, gV, gU, gW, gT, gO, gJ, gP, gN, gB, fV, if_true, if_false, aA8, aBc, aBa, aBb, aBe, aBd, aA7, aA6, fQ, fL, fA, fR, cU, eS, eH, dK, bN, fS, fC, aM, dF, aX, bM, bP, aQ, cP, cG, eQ, aF, gS, aI, cK, aT, bV, fT, cI, cJ, aD, gA, fB, aP, aG, bQ, gQ, aK, fH, dT, dP, gG, dA, eU, dI, eF, fG, fF, cF, dC, gK, dO, cB, aS, bU, bT, fN, aE, aH, aN, aY, bF, cN, bK, aA, eY, aL, cL, fJ, fE, gF, bJ, eP, eN, bY, fW, fI, eJ, dH, cO, dB, bD, aZ, aO, fZ, aJ, dE, dQ, bG, cC, fK, dL, gC, fM, eZ, eT, dU, aR, cH, dG, fY, fX, fD, cZ, aW, dV, fU, cR, eX, fP, cD, bO, eD, bB, dX, dW, cM, eL, eK, bE, cY, bA, dR, dY, eE, bL, cS, cQ, dN, bS, cW, cV, fO, bZ, eI, eM, gE, dZ, dS, dM, dD, bH, bR, bX, bW, aU, cX, aV, b3, n1, n2]
  exact main 2 (by omega) (by omega) (by unfold fDn; rw [h4] <;> rfl)
 .have n1 : decide ((4 : Int) > 0) = true := rfl
  have n2 : decide ((0 : Int) < 4) = true := rfl
  simp (disch := omega) only [gI, jD, dJ, stepR_skip, hJ, iC, iM, iP, iL, iO, jJ, iW, gM, iG, iI, iJ, iH, gY, iN, iA, iF, iX, iV, iK, gR, iR, iQ, iE, jW, jV, kH, kC, kG, kF, kI, kE, kD, gD, Result.ok.injEq, Next.value.injEq, true_and, and_true, gX, iB, iU, iT, iS, jI, aA9, gV, gU, gW, gT, gO, gJ, gP, gN, gB, fV, if_true, if_false, aA8, aBc, aBa, aBb, aBe, aBd, aA7, aA6, fQ, fL, fA, fR, cU, eS, eH, dK, bN, fS, fC, aM, dF, aX, bM, bP, aQ, cP, cG, eQ, aF, gS, aI, cK, aT, bV, fT, cI, cJ, aD, gA, fB, aP, aG, bQ, gQ, aK, fH, dT, dP, gG, dA, eU, dI, eF, fG, fF, cF, dC, gK, dO, cB, aS, bU, bT, fN, aE, aH, aN, aY, bF, cN, bK, aA, eY, aL, cL, fJ, fE, gF, bJ, eP, eN, bY, fW, fI, eJ, dH, cO, dB, bD, aZ, aO, fZ, aJ, dE, dQ, bG, cC, fK, dL, gC, fM, eZ, eT, dU, aR, cH, dG, fY, fX, fD, cZ, aW, dV, fU, cR, eX, fP, cD, bO, eD, bB, dX, dW, cM, eL, eK, bE, cY, bA, dR, dY, eE, bL, cS, cQ, dN, bS, cW, cV, fO, bZ, eI, eM, gE, dZ, dS, dM, dD, bH, bR, bX, bW, aU, cX, aV, b3, n1, n2]
  exact main 4 (by omega) (by omega) (by unfold fDn; rw [h4] <;> rfl)
theorem apG (s : List UInt8 × Int) (n : Nat) : (nxS s n).1.length <= s.1.length := by
 unfold nxS GQ
 split
 .exact aBk _
 .split
  .exact aBk _
  .simp only [aBr]; omega
theorem aaE (s : List UInt8 × Int) (n : Nat) : nvS s n < 256 ^ n := by
 unfold nvS GQ
 split
 .simp [sB]; exact Nat.pow_pos (by omega)
 .split
  .simp [sB]; exact Nat.pow_pos (by omega)
  .have := Mr (s.1.take n)
   rw [aBo, aBU (by omega)] at this
   exact this
theorem afZ {v : aDt} {l : List UInt8} {w : aDs} (hb : Bs w v l) (hl : l.length <= 1000000) : jE pg JF #[v] w (fun r w' => r = fRV (Q1 l) /\ jN w w' mC) := by
 refine Za ?_
 unfold ZG J1 Lf
 refine D3 fun w1 o1 x1 s1 => ?_
 obtain ⟨pt, hpt⟩ : ∃ p, p = w.heap.size := ⟨_, rfl⟩
 rw [<- hpt] at o1 ⊢
 have hz1 := o1.lt
 have hb1 := hb.ext x1 (kL _)
 obtain ⟨va, vc, hv, _⟩ := hb.len
 rw [aBf] at hv
 refine (IH hb1 (by omega)).mono ?_
 rintro r w2 ⟨pr, rfl, hr, x2⟩
 have o2 := o1.ext x2 (fun h => h)
 have hpr : w1.heap.size <= pr /\ pr < w2.heap.size := ⟨hr.1, hr.2.1⟩
 refine (B1 (n := 1) hr (by omega) ⟨by omega, by omega⟩).mono ?_
 rintro r w3 ⟨rfl, hr3, x3⟩
 have e1 : (sB (GQ l 0 1).1) = nvS (l, 0) 1 := rfl
 have e2 : (GQ l 0 1).2.1 = (nxS (l, 0) 1).1 := rfl
 have e3 : (GQ l 0 1).2.2 = (nxS (l, 0) 1).2 := rfl
 rw [e2, e3] at hr3
 rw [e1]
 have o3 := o2.ext x3 (by intro h; omega)
 obtain ⟨d, hd⟩ : ∃ d, d = nvS (l, 0) 1 := ⟨_, rfl⟩
 obtain ⟨s, hs⟩ : ∃ s, s = nxS (l, 0) 1 := ⟨_, rfl⟩
 have hdl : d < 256 := by have := aaE (l, 0) 1; omega
 have hsl : s.1.length <= l.length := by have := apG (l, 0) 1; rw [hs]; exact this
 rw [<- hd]
 rw [<- hs] at hr3
 have hfr : Q1 l = if s.2 ≠ 0 then .error s.2 else if d / 8 % 2 = 1 then .error 11 else aaC l.length s d := by unfold Q1; rw [<- hd, <- hs]
 rw [hfr]
 obtain ⟨b3, b4, b8, b32⟩ := awH hdl
 have wd : IntKind.i64.wrap (d : Int) = d := gX (by omega) (by omega)
 simp (disch := omega) only [gI, jD, dJ, stepR_skip, hJ, iC, iM, iP, iL, iO, jJ, iW, gM, iG, iI, iJ, iH, gY, iN, iA, iF, iX, iV, iK, gR, iR, iQ, iE, jW, jV, kH, kC, kG, kF, kI, kE, kD, gD, Result.ok.injEq, Next.value.injEq, true_and, and_true, gX, iB, iU, iT, iS, jI, aA9, gV, gU, gW, gT, gO, gJ, gP, gN, gB, fV, if_true, if_false, aA8, aBc, aBa, aBb, aBe, aBd, aA7, aA6, fQ, fL, fA, fR, cU, eS, eH, dK, bN, fS, fC, aM, dF, aX, bM, bP, aQ, cP, cG, eQ, aF, gS, aI, cK, aT, bV, fT, cI, cJ, aD, gA, fB, aP, aG, bQ, gQ, aK, fH, dT, dP, gG, dA, eU, dI, eF, fG, fF, cF, dC, gK, dO, cB, aS, bU, bT, fN, aE, aH, aN, aY, bF, cN, bK, aA, eY, aL, cL, fJ, fE, gF, bJ, eP, eN, bY, fW, fI, eJ, dH, cO, dB, bD, aZ, aO, fZ, aJ, dE, dQ, bG, cC, fK, dL, gC, fM, eZ, eT, dU, aR, cH, dG, fY, fX, fD, cZ, aW, dV, fU, cR, eX, fP, cD, bO, eD, bB, dX, dW, cM, eL, eK, bE, cY, bA, dR, dY, eE, bL, cS, cQ, dN, bS, cW, cV, fO, bZ, eI, eM, gE, dZ, dS, dM, dD, bH, bR, bX, bW, aU, cX, aV, wd]
 refine (MH hr3).mono ?_
 rintro r w4 ⟨rfl, h4⟩
 rw [h4]; clear h4 w4
 have x03 : jN w w3 mC := x1.trans (x2.trans x3 fun y hy h => by have := x2.size; omega) fun y hy h => h
 by_cases he : s.2 = 0
 rotate_left
 .have n0 : (s.2 != 0) = true := by simp [he]
  rw [if_pos he]
  simp (disch := omega) only [gI, jD, dJ, stepR_skip, hJ, iC, iM, iP, iL, iO, jJ, iW, gM, iG, iI, iJ, iH, gY, iN, iA, iF, iX, iV, iK, gR, iR, iQ, iE, jW, jV, kH, kC, kG, kF, kI, kE, kD, gD, Result.ok.injEq, Next.value.injEq, true_and, and_true, gX, iB, iU, iT, iS, jI, aA9, gV, gU, gW, gT, gO, gJ, gP, gN, gB, fV, if_true, if_false, aA8, aBc, aBa, aBb, aBe, aBd, aA7, aA6, fQ, fL, fA, fR, cU, eS, eH, dK, bN, fS, fC, aM, dF, aX, bM, bP, aQ, cP, cG, eQ, aF, gS, aI, cK, aT, bV, fT, cI, cJ, aD, gA, fB, aP, aG, bQ, gQ, aK, fH, dT, dP, gG, dA, eU, dI, eF, fG, fF, cF, dC, gK, dO, cB, aS, bU, bT, fN, aE, aH, aN, aY, bF, cN, bK, aA, eY, aL, cL, fJ, fE, gF, bJ, eP, eN, bY, fW, fI, eJ, dH, cO, dB, bD, aZ, aO, fZ, aJ, dE, dQ, bG, cC, fK, dL, gC, fM, eZ, eT, dU, aR, cH, dG, fY, fX, fD, cZ, aW, dV, fU, cR, eX, fP, cD, bO, eD, bB, dX, dW, cM, eL, eK, bE, cY, bA, dR, dY, eE, bL, cS, cQ, dN, bS, cW, cV, fO, bZ, eI, eM, gE, dZ, dS, dM, dD, bH, bR, bX, bW, aU, cX, aV, n0]
  refine (MH hr3).mono ?_
  rintro r w4 ⟨rfl, h4⟩
  rw [h4]; clear h4 w4
  refine qY o3 rfl (by simp [one]) (by simp) fun w5 o5 x5 s5 => ?_
  refine yN o5 (by simp [kV]) ?_
  simp only [kV, aBj, aBl, aBB, aBA, aBE]
  exact ⟨rfl, x03.trans x5 fun y hy h => by omega⟩
 have n0 : (s.2 != 0) = false := by simp [he]
 rw [if_neg (by simpa using he)]
 by_cases h8 : d / 8 % 2 = 1
 .have n8 : (d / 8 % 2 == 1) = true := by simp [h8]
  rw [if_pos h8]
  rw [n8] at b8
  simp (disch := omega) only [gI, jD, dJ, stepR_skip, hJ, iC, iM, iP, iL, iO, jJ, iW, gM, iG, iI, iJ, iH, gY, iN, iA, iF, iX, iV, iK, gR, iR, iQ, iE, jW, jV, kH, kC, kG, kF, kI, kE, kD, gD, Result.ok.injEq, Next.value.injEq, true_and, and_true, gX, iB, iU, iT, iS, jI, aA9, gV, gU, gW, gT, gO, gJ, gP, gN, gB, fV, if_true, if_false, aA8, aBc, aBa, aBb, aBe, aBd, aA7, aA6, fQ, fL, fA, fR, cU, eS, eH, dK, bN, fS, fC, aM, dF, aX, bM, bP, aQ, cP, cG, eQ, aF, gS, aI, cK, aT, bV, fT, cI, cJ, aD, gA, fB, aP, aG, bQ, gQ, aK, fH, dT, dP, gG, dA, eU, dI, eF, fG, fF, cF, dC, gK, dO, cB, aS, bU, bT, fN, aE, aH, aN, aY, bF, cN, bK, aA, eY, aL, cL, fJ, fE, gF, bJ, eP, eN, bY, fW, fI, eJ, dH, cO, dB, bD, aZ, aO, fZ, aJ, dE, dQ, bG, cC, fK, dL, gC, fM, eZ, eT, dU, aR, cH, dG, fY, fX, fD, cZ, aW, dV, fU, cR, eX, fP, cD, bO, eD, bB, dX, dW, cM, eL, eK, bE, cY, bA, dR, dY, eE, bL, cS, cQ, dN, bS, cW, cV, fO, bZ, eI, eM, gE, dZ, dS, dM, dD, bH, bR, bX, bW, aU, cX, aV, n0, b8]
  refine qY o3 rfl (by simp [one]) (by simp) fun w5 o5 x5 s5 => ?_
  refine yN o5 (by simp [kV]) ?_
  simp only [kV, aBj, aBl, aBB, aBA, aBE]
  exact ⟨rfl, x03.trans x5 fun y hy h => by omega⟩
 have n8 : (d / 8 % 2 == 1) = false := by simp [h8]
 rw [if_neg h8]
 rw [n8] at b8
 obtain ⟨RR, hRR⟩ : ∃ RR : aDt -> aDs -> Prop, RR = fun r w' => r = fRV (aaC l.length s d) /\ jN w w' mC := ⟨_, rfl⟩
 rw [<- hRR]
 have e32 : (d / 32 % 2 == 1) = Uc d := rfl
 rw [e32] at b32
 simp (disch := omega) only [gI, jD, dJ, stepR_skip, hJ, iC, iM, iP, iL, iO, jJ, iW, gM, iG, iI, iJ, iH, gY, iN, iA, iF, iX, iV, iK, gR, iR, iQ, iE, jW, jV, kH, kC, kG, kF, kI, kE, kD, gD, Result.ok.injEq, Next.value.injEq, true_and, and_true, gX, iB, iU, iT, iS, jI, aA9, gV, gU, gW, gT, gO, gJ, gP, gN, gB, fV, if_true, if_false, aA8, aBc, aBa, aBb, aBe, aBd, aA7, aA6, fQ, fL, fA, fR, cU, eS, eH, dK, bN, fS, fC, aM, dF, aX, bM, bP, aQ, cP, cG, eQ, aF, gS, aI, cK, aT, bV, fT, cI, cJ, aD, gA, fB, aP, aG, bQ, gQ, aK, fH, dT, dP, gG, dA, eU, dI, eF, fG, fF, cF, dC, gK, dO, cB, aS, bU, bT, fN, aE, aH, aN, aY, bF, cN, bK, aA, eY, aL, cL, fJ, fE, gF, bJ, eP, eN, bY, fW, fI, eJ, dH, cO, dB, bD, aZ, aO, fZ, aJ, dE, dQ, bG, cC, fK, dL, gC, fM, eZ, eT, dU, aR, cH, dG, fY, fX, fD, cZ, aW, dV, fU, cR, eX, fP, cD, bO, eD, bB, dX, dW, cM, eL, eK, bE, cY, bA, dR, dY, eE, bL, cS, cQ, dN, bS, cW, cV, fO, bZ, eI, eM, gE, dZ, dS, dM, dD, bH, bR, bX, bW, aU, cX, aV, n0, b8, b4]
 refine D3 fun w5 o5 x5 s5 => ?_
 obtain ⟨ph, hph⟩ : ∃ p, p = w3.heap.size := ⟨_, rfl⟩
 rw [<- hph] at o5 ⊢
 have hz3 := x2.size
 have hz4 := x3.size
 refine qY o5 rfl (by simp [one]) (by simp) fun w6 o6 x6 s6 => ?_
 simp only [kV, aBj, aBl] at o6
 have x36 : jN w3 w6 mC := x5.new x6 (by omega)
 have x06 : jN w w6 mC := x03.trans x36 fun y hy h => h
 have hr6 := hr3.ext x36 (fun _ _ _ h => h)
 have o36 := o3.ext x36 (fun h => h)
 have oh6 : lN w6 ph (Oo ⟨0, 0, false, d / 4 % 2 == 1⟩) := o6
 have ot6 : lN w6 pt (Oo ⟨0, 0, false, false⟩) := o36
 rw [b32]
 cases ho : Uc d with
 | true =>
   simp (disch := omega) only [gI, jD, dJ, stepR_skip, hJ, iC, iM, iP, iL, iO, jJ, iW, gM, iG, iI, iJ, iH, gY, iN, iA, iF, iX, iV, iK, gR, iR, iQ, iE, jW, jV, kH, kC, kG, kF, kI, kE, kD, gD, Result.ok.injEq, Next.value.injEq, true_and, and_true, gX, iB, iU, iT, iS, jI, aA9, gV, gU, gW, gT, gO, gJ, gP, gN, gB, fV, if_true, if_false, aA8, aBc, aBa, aBb, aBe, aBd, aA7, aA6, fQ, fL, fA, fR, cU, eS, eH, dK, bN, fS, fC, aM, dF, aX, bM, bP, aQ, cP, cG, eQ, aF, gS, aI, cK, aT, bV, fT, cI, cJ, aD, gA, fB, aP, aG, bQ, gQ, aK, fH, dT, dP, gG, dA, eU, dI, eF, fG, fF, cF, dC, gK, dO, cB, aS, bU, bT, fN, aE, aH, aN, aY, bF, cN, bK, aA, eY, aL, cL, fJ, fE, gF, bJ, eP, eN, bY, fW, fI, eJ, dH, cO, dB, bD, aZ, aO, fZ, aJ, dE, dQ, bG, cC, fK, dL, gC, fM, eZ, eT, dU, aR, cH, dG, fY, fX, fD, cZ, aW, dV, fU, cR, eX, fP, cD, bO, eD, bB, dX, dW, cM, eL, eK, bE, cY, bA, dR, dY, eE, bL, cS, cQ, dN, bS, cW, cV, fO, bZ, eI, eM, gE, dZ, dS, dM, dD, bH, bR, bX, bW, aU, cX, aV]
   rw [<- ho]
   refine adA (L := l.length) (s := s) hdl rfl rfl hr6 (by omega) ⟨_, _, hv⟩ hsl (by omega) oh6 ot6 (by omega) (by omega) (by omega) hpr fun w' x => ?_
   rw [hRR]
   refine ⟨?_, x06.trans x fun y hy h => by omega⟩
   unfold aaC fS2
   rw [ho]
   rfl
 | false =>
   simp (disch := omega) only [gI, jD, dJ, stepR_skip, hJ, iC, iM, iP, iL, iO, jJ, iW, gM, iG, iI, iJ, iH, gY, iN, iA, iF, iX, iV, iK, gR, iR, iQ, iE, jW, jV, kH, kC, kG, kF, kI, kE, kD, gD, Result.ok.injEq, Next.value.injEq, true_and, and_true, gX, iB, iU, iT, iS, jI, aA9, gV, gU, gW, gT, gO, gJ, gP, gN, gB, fV, if_true, if_false, aA8, aBc, aBa, aBb, aBe, aBd, aA7, aA6, fQ, fL, fA, fR, cU, eS, eH, dK, bN, fS, fC, aM, dF, aX, bM, bP, aQ, cP, cG, eQ, aF, gS, aI, cK, aT, bV, fT, cI, cJ, aD, gA, fB, aP, aG, bQ, gQ, aK, fH, dT, dP, gG, dA, eU, dI, eF, fG, fF, cF, dC, gK, dO, cB, aS, bU, bT, fN, aE, aH, aN, aY, bF, cN, bK, aA, eY, aL, cL, fJ, fE, gF, bJ, eP, eN, bY, fW, fI, eJ, dH, cO, dB, bD, aZ, aO, fZ, aJ, dE, dQ, bG, cC, fK, dL, gC, fM, eZ, eT, dU, aR, cH, dG, fY, fX, fD, cZ, aW, dV, fU, cR, eX, fP, cD, bO, eD, bB, dX, dW, cM, eL, eK, bE, cY, bA, dR, dY, eE, bL, cS, cQ, dN, bS, cW, cV, fO, bZ, eI, eM, gE, dZ, dS, dM, dD, bH, bR, bX, bW, aU, cX, aV]
   refine (B1 (n := 1) hr6 (by omega) ⟨by omega, by omega⟩).mono ?_
   rintro r w7 ⟨rfl, hr7, x7⟩
   have e1 : (sB (GQ s.1 s.2 1).1) = nvS s 1 := rfl
   have e2 : (GQ s.1 s.2 1).2.1 = (nxS s 1).1 := rfl
   have e3 : (GQ s.1 s.2 1).2.2 = (nxS s 1).2 := rfl
   rw [e2, e3] at hr7
   rw [e1]
   refine (apL (by have := aaE s 1; omega)).mono ?_
   rintro r w8 ⟨rfl, h4⟩
   rw [h4]; clear h4 w8
   have oh7 := oh6.ext x7 (by intro h; omega)
   have ot7 := ot6.ext x7 (by intro h; omega)
   refine JT (off := 0) oh7 rfl (by simp [Oo]) fun w9 o9 x9 s9 => ?_
   simp only [Oo, aBj, aBl] at o9
   have oh9 : lN w9 ph (Oo ⟨aqJ (nvS s 1), 0, false, d / 4 % 2 == 1⟩) := o9
   have x69 : jN w6 w9 (fun y => y = pr ∨ y = ph) := (x7.mono fun _ _ h => .inl h).seq (x9.mono fun _ _ h => .inr h)
   have hle := apG s 1
   rw [<- ho]
   refine adA (L := l.length) (s := nxS s 1) hdl rfl rfl (hr7.ext x9 fun y h1 h2 h => by omega) (by omega) ⟨_, _, hv⟩ (by omega) (by omega) oh9 (ot7.ext x9 (by omega)) (by omega) (by omega) (by omega) hpr fun w' x => ?_
   rw [hRR]
   refine ⟨?_, (x06.trans x69 fun y hy h => by omega).trans x fun y hy h => by omega⟩
   unfold aaC fS2
   rw [ho]
   rfl
theorem aAh (n : Nat) : n &&& 3 = n % 4 := aCy n 2
theorem azV (n : Nat) : n &&& 1 = n % 2 := aCy n 1
theorem awV {x : Nat} (h : x < 2 ^ 62) : GN .i64 (x : Int) 3 = ((x % 4 : Nat) : Int) := by
 unfold GN
 have e1 : (BitVec.ofInt IntKind.i64.bits (x : Int) &&& BitVec.ofInt IntKind.i64.bits 3).toNat = x % 4 := by
  rw [BitVec.toNat_and]
  simp only [IntKind.bits, BitVec.toNat_ofInt]
  have h1 : ((x : Int) % ((2 ^ 64 : Nat) : Int)).toNat = x := by omega
  have h2 : ((3 : Int) % ((2 ^ 64 : Nat) : Int)).toNat = 3 := by decide
  rw [h1, h2, aAh]
 rw [e1]
 exact gX (by omega) (by omega)
theorem axU {x : Nat} (h : x < 2 ^ 62) : GN .i64 (x : Int) 1 = ((x % 2 : Nat) : Int) := by
 unfold GN
 have e1 : (BitVec.ofInt IntKind.i64.bits (x : Int) &&& BitVec.ofInt IntKind.i64.bits 1).toNat = x % 2 := by
  rw [BitVec.toNat_and]
  simp only [IntKind.bits, BitVec.toNat_ofInt]
  have h1 : ((x : Int) % ((2 ^ 64 : Nat) : Int)).toNat = x := by omega
  have h2 : ((1 : Int) % ((2 ^ 64 : Nat) : Int)).toNat = 1 := by decide
  rw [h1, h2, azV]
 rw [e1]
 exact gX (by omega) (by omega)
def rbA (x : Nat) : aDt := .agg #[.bool (x % 2 == 1), .int .i64 (x / 2 % 4 : Nat), .int .i64 (x / 8 : Nat)]
def rbV (l : List UInt8) : aDt := if sB l / 2 % 4 = 3 then .tuple #[.agg #[.bool false, .int .i64 0, .int .i64 0], .int .i64 11] else .tuple #[rbA (sB l), .int .i64 0]
theorem afW {v : aDt} {l : List UInt8} {w : aDs} (hb : Bs w v l) (hl : l.length = 3) : jE pg BH #[v] w (fun r w' => r = rbV l /\ jN w w' mC) := by
 refine Tc ?_
 unfold QJ ET
 refine Gi fun w1 o1 x1 s1 => ?_
 obtain ⟨pt, hpt⟩ : ∃ p, p = w.heap.size := ⟨_, rfl⟩
 rw [<- hpt] at o1 ⊢
 have hz1 := o1.lt
 have hb1 := hb.ext x1 (kL _)
 refine (IH hb1 (by omega)).mono ?_
 rintro r w2 ⟨pr, rfl, hr, x2⟩
 have o2 := o1.ext x2 (fun h => h)
 have hpr : w1.heap.size <= pr /\ pr < w2.heap.size := ⟨hr.1, hr.2.1⟩
 refine (B1 (n := 3) hr (by omega) ⟨by omega, by omega⟩).mono ?_
 rintro r w3 ⟨rfl, hr3, x3⟩
 have o3 := o2.ext x3 (by intro h; omega)
 have e1 : GQ l 0 3 = (l, [], 0) := by
  unfold GQ
  rw [if_neg (by decide), if_neg (by omega), aBp (by omega), aDh (by omega)]
 rw [e1] at hr3 ⊢
 have hlt : sB l < 2 ^ 24 := by have := Mr l; rw [hl] at this; omega
 unfold rbV
 obtain ⟨x, hx⟩ : ∃ x, x = sB l := ⟨_, rfl⟩
 rw [<- hx] at hlt ⊢
 have wd : IntKind.i64.wrap (x : Int) = x := gX (by omega) (by omega)
 have s1 : (x : Int).fdiv (2 ^ min (Int.toNat 1) IntKind.i64.bits) = ((x / 2 : Nat) : Int) := by
  have : (2 : Int) ^ min (Int.toNat 1) IntKind.i64.bits = 2 := by decide
  rw [this, aBM _ (by omega)]; omega
 have s3 : (x : Int).fdiv (2 ^ min (Int.toNat 3) IntKind.i64.bits) = ((x / 8 : Nat) : Int) := by
  have : (2 : Int) ^ min (Int.toNat 3) IntKind.i64.bits = 8 := by decide
  rw [this, aBM _ (by omega)]; omega
 have a3 := awV (x := x / 2) (by omega)
 have a1 := axU (x := x) (by omega)
 have n0 : ((0 : Int) != 0) = false := rfl
 have x03 : jN w w3 mC := x1.trans (x2.trans x3 fun y hy h => by have := x2.size; omega) fun y hy h => h
 simp (disch := omega) only [gI, jD, dJ, stepR_skip, hJ, iC, iM, iP, iL, iO, jJ, iW, gM, iG, iI, iJ, iH, gY, iN, iA, iF, iX, iV, iK, gR, iR, iQ, iE, jW, jV, kH, kC, kG, kF, kI, kE, kD, gD, Result.ok.injEq, Next.value.injEq, true_and, and_true, gX, iB, iU, iT, iS, jI, aA9, gV, gU, gW, gT, gO, gJ, gP, gN, gB, fV, if_true, if_false, aA8, aBc, aBa, aBb, aBe, aBd, aA7, aA6, fQ, fL, fA, fR, cU, eS, eH, dK, bN, fS, fC, aM, dF, aX, bM, bP, aQ, cP, cG, eQ, aF, gS, aI, cK, aT, bV, fT, cI, cJ, aD, gA, fB, aP, aG, bQ, gQ, aK, fH, dT, dP, gG, dA, eU, dI, eF, fG, fF, cF, dC, gK, dO, cB, aS, bU, bT, fN, aE, aH, aN, aY, bF, cN, bK, aA, eY, aL, cL, fJ, fE, gF, bJ, eP, eN, bY, fW, fI, eJ, dH, cO, dB, bD, aZ, aO, fZ, aJ, dE, dQ, bG, cC, fK, dL, gC, fM, eZ, eT, dU, aR, cH, dG, fY, fX, fD, cZ, aW, dV, fU, cR, eX, fP, cD, bO, eD, bB, dX, dW, cM, eL, eK, bE, cY, bA, dR, dY, eE, bL, cS, cQ, dN, bS, cW, cV, fO, bZ, eI, eM, gE, dZ, dS, dM, dD, bH, bR, bX, bW, aU, cX, aV, wd]
 refine (MH hr3).mono ?_
 rintro r w4 ⟨rfl, h4⟩
 rw [h4]; clear h4 w4
 by_cases h3 : x / 2 % 4 = 3
 .have d1 : decide (((x / 2 % 4 : Nat) : Int) > 2) = true := decide_eq_true (by omega)
  have d2 : decide ((2 : Int) < ((x / 2 % 4 : Nat) : Int)) = true := decide_eq_true (by omega)
  rw [if_pos h3]
  simp (disch := omega) only [gI, jD, dJ, stepR_skip, hJ, iC, iM, iP, iL, iO, jJ, iW, gM, iG, iI, iJ, iH, gY, iN, iA, iF, iX, iV, iK, gR, iR, iQ, iE, jW, jV, kH, kC, kG, kF, kI, kE, kD, gD, Result.ok.injEq, Next.value.injEq, true_and, and_true, gX, iB, iU, iT, iS, jI, aA9, gV, gU, gW, gT, gO, gJ, gP, gN, gB, fV, if_true, if_false, aA8, aBc, aBa, aBb, aBe, aBd, aA7, aA6, fQ, fL, fA, fR, cU, eS, eH, dK, bN, fS, fC, aM, dF, aX, bM, bP, aQ, cP, cG, eQ, aF, gS, aI, cK, aT, bV, fT, cI, cJ, aD, gA, fB, aP, aG, bQ, gQ, aK, fH, dT, dP, gG, dA, eU, dI, eF, fG, fF, cF, dC, gK, dO, cB, aS, bU, bT, fN, aE, aH, aN, aY, bF, cN, bK, aA, eY, aL, cL, fJ, fE, gF, bJ, eP, eN, bY, fW, fI, eJ, dH, cO, dB, bD, aZ, aO, fZ, aJ, dE, dQ, bG, cC, fK, dL, gC, fM, eZ, eT, dU, aR, cH, dG, fY, fX, fD, cZ, aW, dV, fU, cR, eX, fP, cD, bO, eD, bB, dX, dW, cM, eL, eK, bE, cY, bA, dR, dY, eE, bL, cS, cQ, dN, bS, cW, cV, fO, bZ, eI, eM, gE, dZ, dS, dM, dD, bH, bR, bX, bW, aU, cX, aV, n0, s1, a3, d1, d2]
  refine AH o3 rfl (by simp [one]) (by simp) fun w5 o5 x5 s5 => ?_
  refine QS o5 (by simp [kV]) ?_
  simp only [kV, aBj, aBl, aBB, aBA, aBE]
  exact ⟨trivial, x03.trans x5 fun y hy h => by omega⟩
 .have d1 : decide (((x / 2 % 4 : Nat) : Int) > 2) = false := decide_eq_false (by omega)
  have d2 : decide ((2 : Int) < ((x / 2 % 4 : Nat) : Int)) = false := decide_eq_false (by omega)
  have e5 : (((x % 2 : Nat) : Int) == 1) = (x % 2 == 1) := by
   have : x % 2 = 0 ∨ x % 2 = 1 := by omega
   rcases this with h | h <;> rw [h] <;> rfl
  rw [if_neg h3]
  simp (disch := omega) only [gI, jD, dJ, stepR_skip, hJ, iC, iM, iP, iL, iO, jJ, iW, gM, iG, iI, iJ, iH, gY, iN, iA, iF, iX, iV, iK, gR, iR, iQ, iE, jW, jV, kH, kC, kG, kF, kI, kE, kD, gD, Result.ok.injEq, Next.value.injEq, true_and, and_true, gX, iB, iU, iT, iS, jI, aA9, gV, gU, gW, gT, gO, gJ, gP, gN, gB, fV, if_true, if_false, aA8, aBc, aBa, aBb, aBe, aBd, aA7, aA6, fQ, fL, fA, fR, cU, eS, eH, dK, bN, fS, fC, aM, dF, aX, bM, bP, aQ, cP, cG, eQ, aF, gS, aI, cK, aT, bV, fT, cI, cJ, aD, gA, fB, aP, aG, bQ, gQ, aK, fH, dT, dP, gG, dA, eU, dI, eF, fG, fF, cF, dC, gK, dO, cB, aS, bU, bT, fN, aE, aH, aN, aY, bF, cN, bK, aA, eY, aL, cL, fJ, fE, gF, bJ, eP, eN, bY, fW, fI, eJ, dH, cO, dB, bD, aZ, aO, fZ, aJ, dE, dQ, bG, cC, fK, dL, gC, fM, eZ, eT, dU, aR, cH, dG, fY, fX, fD, cZ, aW, dV, fU, cR, eX, fP, cD, bO, eD, bB, dX, dW, cM, eL, eK, bE, cY, bA, dR, dY, eE, bL, cS, cQ, dN, bS, cW, cV, fO, bZ, eI, eM, gE, dZ, dS, dM, dD, bH, bR, bX, bW, aU, cX, aV, n0, s1, a3, d1, d2, a1, s3, e5]
  refine AH o3 rfl (by simp [one]) (by simp) fun w5 o5 x5 s5 => ?_
  refine QS o5 (by simp [kV]) ?_
  simp only [kV, aBj, aBl, aBB, aBA, aBE]
  exact ⟨rfl, x03.trans x5 fun y hy h => by omega⟩
end Go.Proofs.YtoecppploooloaaGreatDoor
namespace Go.Proofs.YtoecppploooloaaGreatDoor
open Go Go.En Go.Pu
theorem asT {x n m : Nat} (h : m = n) : (x : Int).fdiv (2 ^ m) = ((x / 2 ^ n : Nat) : Int) := by
 subst h
 rw [aBM _ (by exact_mod_cast aC5 _)]
 push_cast
 rfl
theorem axQ {x n : Nat} (h : n <= 64) : (x : Int).fdiv (2 ^ min n IntKind.u64.bits) = ((x / 2 ^ n : Nat) : Int) := asT (by have : IntKind.u64.bits = 64 := rfl; omega)
theorem aiM {x n : Nat} (hx : x < 2 ^ 63) (hn : n <= 62) : GN .u64 (x : Int) ((2 ^ n - 1 : Nat) : Int) = ((x % 2 ^ n : Nat) : Int) := by
 have hp : 2 ^ n <= 2 ^ 62 := aBw (by omega) hn
 unfold GN
 have e : IntKind.u64.bits = 64 := rfl
 rw [e, BitVec.ofInt_natCast, BitVec.ofInt_natCast, BitVec.toNat_and, BitVec.toNat_ofNat, BitVec.toNat_ofNat, aBC (by omega), aBC (by omega), aCy]
 have := Nat.mod_le x (2 ^ n)
 exact iB (by omega) (by omega)
end Go.Proofs.YtoecppploooloaaGreatDoor
namespace Go.Proofs.YtoecppploooloaaGreatDoor
open Go Go.En Go.Pu
set_option maxRecDepth 4000
theorem auD {n : Nat} {w : aDs} (hn : n <= 131072) :
 jE pg BN #[.int .u64 1, .int .u64 n] w (fun r w' => r = .tuple #[.int .u64 0, .int .u64 n] /\ jN w w' mC) := by
 refine Tj ?_
 unfold Q3 Ep
 have a1 : GN .u64 1 4294967295 = 1 := by decide
 have a2 : GN .u64 (n : Int) 4294967295 = n := by
  have := aiM (x := n) (n := 32) (by omega) (by omega)
  rw [aBC (by omega)] at this
  exact this
 have a0 : GN .u64 0 4294967295 = 0 := by decide
 have s1 : (1 : Int).fdiv (2 ^ min 32 IntKind.u64.bits) = 0 := by decide
 have s0 : (0 : Int).fdiv (2 ^ min 32 IntKind.u64.bits) = 0 := by decide
 have s2 : (n : Int).fdiv (2 ^ min 32 IntKind.u64.bits) = 0 := by
  rw [axQ (by omega), Nat.div_eq_of_lt (by omega)] <;> rfl
 have t32 : (32 : Int).toNat = 32 := rfl
 have w0 : IntKind.u64.wrap 0 = 0 := rfl
 have w1 : IntKind.u64.wrap (n : Int) = n := iB (by omega) (by omega)
 simp (disch := omega) only [gI, iO, a1, iI, t32, s1, a2, s2, iM, Int.one_mul, w1, dJ, Int.zero_mul, w0, Int.mul_zero, hJ, Int.add_zero, a0, s0, true_and]
 exact jN.refl _ _
theorem azB {n : Nat} {w : aDs} (hn : n <= 131072) :
 jE pg Ee #[.int .u64 1, .int .u64 n] w (fun r w' => r = .tuple #[.int .u64 0, .int .u64 n] /\ jN w w' mC) := by
 refine VJ ?_
 unfold UQ Hv
 simp (disch := omega) only [gI, eI, iT, dJ, fV]
 refine (auD hn).mono ?_
 rintro r w1 ⟨rfl, x1⟩
 simp (disch := omega) only [jW, jV, dJ, true_and]
 exact x1
theorem ayR {z v : aDt} {i n : Nat} (hi : i <= n) : kV (List.replicate i v ++ List.replicate (n - i) z) i ((List.replicate i v).take (min i (n - i))) = List.replicate (i + min i (n - i)) v ++ List.replicate (n - (i + min i (n - i))) z := by
 have e : (List.replicate i v).take (min i (n - i)) = List.replicate (min i (n - i)) v := by
  rw [List.take_replicate]; congr 1; omega
 rw [e]
 generalize hm : min i (n - i) = m
 have hm2 : i + m <= n := by omega
 clear hm e
 induction m generalizing i with
 | zero => simp [kV]
 | succ m ih =>
   rw [aCi]
   simp only [kV]
   rw [show (List.replicate i v ++ List.replicate (n - i) z).set i v = List.replicate (i + 1) v ++ List.replicate (n - (i + 1)) z from ?_]
   .rw [ih (i := i + 1) (by omega) (by omega), show i + 1 + m = i + (m + 1) from by omega]
   .rw [aBR _ _ (by simp), aB8, aCr, show n - i = (n - (i + 1)) + 1 from by omega, aCi, aBj, List.replicate_succ', aBy]
    rfl
theorem amJ {c : UInt8} {n p : Nat} {w3 : aDs} {RR : aDt -> aDs -> Prop} (hn : n <= 131072) (o3 : lN w3 p (List.replicate (min 1 n) (nR c) ++ List.replicate (n - min 1 n) (.int .u8 0)))
 (hk : ∀ w4, lN w4 p (List.replicate n (nR c)) -> jN w3 w4 (fun y => y = p) -> RR (.slice (some ⟨p, 0, none⟩) n n) w4) :
 uZ RR (.slice (some ⟨p, 0, none⟩) n n) (.int .i64 (min 1 n : Nat)) w3 := by
 unfold uZ A7 Br
 refine kO.rule (fun m (t : aDt) w' => ∃ i : Nat, m = n - i /\ t = .int .i64 i /\ i <= n /\ (1 <= i ∨ n = 0) /\ lN w' p (List.replicate i (nR c) ++ List.replicate (n - i) (.int .u8 0)) /\ jN w3 w' (fun y => y = p)) (n - min 1 n)
  ⟨min 1 n, rfl, rfl, by omega, by omega, o3, jN.refl _ _⟩ ?_
 rintro m t w4 ⟨i, rfl, rfl, hi, h0, o4, x4⟩
 unfold uU
 by_cases hlt : i < n
 .have d5 : decide ((i : Int) < (n : Int)) = true := by simp; omega
  have q1 : (i : Int).toNat = i := aA9 _
  have s1 : mN (some (⟨p, 0, none⟩ : Addr)) n i 1 = some ⟨p, 0 + i, none⟩ := Qu (by omega)
  have s2 : mN (some (⟨p, 0, none⟩ : Addr)) n 0 1 = some ⟨p, 0 + 0, none⟩ := Qu (by omega)
  simp (disch := omega) only [gI, fQ, eF, q1, s1, aBc, eH, s2, aCN, true_and, dJ, gY, d5, gB]
  have hs : Bs (dr w4) (.slice (some ⟨p, 0, none⟩) i n) (List.replicate i c) := by
   have := (oC o4).bs (off := 0) (c := n) (l := List.replicate i c) (by simp; omega) (fun j hj => by
    rw [aB8] at hj
    rw [aBc, aBv (by simp; omega)]
    simp [aCB, hj])
   rw [aB8] at this
   exact this
  refine Tt (off := i) (dl := n - i) (oC o4) (by simp) hs (by simp [one, nR]) fun w5 o5 x5 s5 => ?_
  have hm5 : (List.map nR (List.replicate i c)).length = i := by simp
  rw [hm5, aCG, ayR hi] at o5
  rw [hm5]
  have e5 : (i : Int) + ((min i (n - i) : Nat) : Int) = ((i + min i (n - i) : Nat) : Int) := by omega
  have wi5 : IntKind.i64.wrap ((i + min i (n - i) : Nat) : Int) = ((i + min i (n - i) : Nat) : Int) := gX (by omega) (by omega)
  simp (disch := omega) only [hJ, e5, wi5, dJ, true_and]
  exact ⟨n - (i + min i (n - i)), by omega, i + min i (n - i), rfl, rfl, by omega, by omega, o5, x4.seq ((jN.dr w4 _).seq x5)⟩
 .have d5 : decide ((i : Int) < (n : Int)) = false := by simp; omega
  have hin : i = n := by omega
  rw [hin, aCr, List.replicate_zero, aBV] at o4
  simp (disch := omega) only [gI, fQ, eF, aA9, eH, true_and, dJ, gY, d5, fV]
  unfold vB
  exact hk w4 o4 x4
theorem arY {v : aDt} {c : UInt8} {n : Nat} {w : aDs} (h : Bs w v [c]) (hn : n <= 131072) :
 jE pg vP #[v, .int .i64 n] w (fun r w' => yW w' w.heap.size 1 r n (List.replicate n (nR c)) /\ jN w w' mC) := by
 refine Pq ?_
 obtain ⟨RR, hRR⟩ : ∃ RR : aDt -> aDs -> Prop, RR = fun r w' => yW w' w.heap.size 1 r n (List.replicate n (nR c)) /\ jN w w' mC := ⟨_, rfl⟩
 rw [<- hRR]
 obtain ⟨b, off, cap, rfl, hc, hcell⟩ := Yg h (by simp)
 have hl1 : ([c] : List UInt8).length = 1 := rfl
 rw [hl1] at *
 have d0 : decide ((n : Int) < 0) = false := decide_eq_false (by omega)
 have e1 : ((1 : Nat) : Int) = 1 := rfl
 have wn : IntKind.u64.wrap (n : Int) = n := iB (by omega) (by omega)
 have w1 : IntKind.u64.wrap 1 = 1 := rfl
 unfold JX Ad AA
 simp (disch := omega) only [gI, gY, d0, dJ, fV]
 unfold A0 Bd
 simp (disch := omega) only [gI, fQ, e1, fT, wn, dJ, w1]
 refine (azB hn).mono ?_
 rintro r w1 ⟨rfl, x1⟩
 have d1 : decide ((0 : Int) > 0) = false := rfl
 have d2 : decide ((n : Int) > 9223372036854775807) = false := decide_eq_false (by omega)
 have d3 : decide ((9223372036854775807 : Int) < (n : Int)) = false := decide_eq_false (by omega)
 have d4 : decide ((0 : Int) < 0) = false := rfl
 simp (disch := omega) only [jW, jV, dJ, iA, d1, gT, gR, aA8, if_false, gO, d2, fV]
 unfold A5 Bn
 have wi : IntKind.i64.wrap (n : Int) = n := gX (by omega) (by omega)
 simp (disch := omega) only [gI, fU, wi, dJ]
 refine YX (by omega) (by omega) fun w2 o2 x2 s2 => ?_
 simp only [aA9] at o2 ⊢
 have z1 := x1.size
 have z2 := x2.size
 have x02 := x1.seq x2
 have h2 := h.ext x02 (kL _)
 obtain ⟨p, hp⟩ : ∃ p, p = w1.heap.size := ⟨_, rfl⟩
 rw [<- hp] at o2 ⊢
 refine Tt (off := 0) o2 (by simp) h2 (by simp [one, nR]) fun w3 o3 x3 s3 => ?_
 have hmn : min (List.map nR [c]).length n = min 1 n := rfl
 rw [hmn] at o3 ⊢
 have hs3 : kV (List.replicate n (Value.int .u8 0)) 0 ((List.map nR [c]).take (min 1 n)) = List.replicate (min 1 n) (nR c) ++ List.replicate (n - min 1 n) (.int .u8 0) := by
  rcases aCl n with rfl | hp
  .rfl
  .rw [show min 1 n = 1 from by omega]
   obtain ⟨m, rfl⟩ : ∃ m, n = m + 1 := ⟨n - 1, by omega⟩
   rfl
 rw [hs3] at o3
 have x13 : jN w1 w3 mC := x2.new x3 (by omega)
 have x03 := x1.seq x13
 refine amJ hn o3 fun w4 o4 x4 => ?_
 have z4 := x4.size
 have x04 : jN w w4 mC := x03.trans x4 fun y hy h => by omega
 rw [hRR]
 exact ⟨⟨by rw [aB8, aB9], .inr ⟨p, n, [], rfl, by omega, by rw [aBV]; exact o4, by rw [aBV, aB8, aB9], aBk _⟩⟩, x04⟩
end Go.Proofs.YtoecppploooloaaGreatDoor
namespace Go.Pu
open Go Go.En
structure Zj (B : List Bool) (l : List UInt8) : Prop where
 len : l.length = (B.length + 7) / 8
 bits : vG l = B ++ List.replicate (8 * l.length - B.length) false
theorem asI : Zj [] [] := ⟨rfl, rfl⟩
theorem aiW : Q0 0 = List.replicate 8 false := by decide
theorem abT {B : List Bool} {l : List UInt8} (h : Zj B l) (h8 : B.length % 8 = 0) : vG (l ++ [0]) = B ++ List.replicate (8 * (l.length + 1) - B.length) false /\ (l ++ [(0 : UInt8)]).length = (B.length + 1 + 7) / 8 := by
 have hl := h.len
 refine ⟨?_, by rw [aBg, aBS]; omega⟩
 rw [W6, h.bits, vG, vG, aiW, aBV, aBy]
 congr 1
 rw [show 8 * l.length - B.length = 0 from by omega, show 8 * (l.length + 1) - B.length = 8 from by omega]
 rfl
theorem apP (c : UInt8) (r : Nat) (hr : r < 8) (y : Bool) (h : c.toNat.testBit r = false) : Q0 (UInt8.ofNat (c.toNat + 2 ^ r * y.toNat)) = (Q0 c).set r y /\ c.toNat + 2 ^ r * y.toNat < 256 /\ c.toNat ||| (y.toNat * 2 ^ r) = c.toNat + 2 ^ r * y.toNat := by
 have key : ∀ (c : Fin 256) (r : Fin 8) (y : Bool), c.val.testBit r.val = false -> Q0 (UInt8.ofNat (c.val + 2 ^ r.val * y.toNat)) = (Q0 (UInt8.ofNat c.val)).set r.val y /\ c.val + 2 ^ r.val * y.toNat < 256 /\ c.val ||| (y.toNat * 2 ^ r.val) = c.val + 2 ^ r.val * y.toNat := by decide +kernel
 have := key ⟨c.toNat, aCg c⟩ ⟨r, hr⟩ y h
 simpa using this
theorem acC : ∀ (l : List UInt8) (i r : Nat) (c : UInt8) (y : Bool) (hi : i < l.length), r < 8 -> Q0 c = (Q0 l[i]).set r y -> vG (l.set i c) = (vG l).set (8 * i + r) y
 | [], i, r, c, y, hi, hr, h => by simp at hi
 | x :: l, 0, r, c, y, hi, hr, h => by
   rw [aBj, vG, vG, h, aCL _ _ (by rw [CI]; omega)]
   simp
 | x :: l, i + 1, r, c, y, hi, hr, h => by
   rw [aBl, vG, vG, aBR _ _ (by rw [CI]; omega), CI, acC l i r c y (by simpa using hi) hr (by simpa using h)]
   congr 2
   omega
theorem ahK {B : List Bool} {l : List UInt8} {y : Bool} (hb : vG l = B ++ List.replicate (8 * l.length - B.length) false) (hl : l.length = (B.length + 1 + 7) / 8) :
 ∃ hi : B.length / 8 < l.length, Zj (B ++ [y]) (l.set (B.length / 8) (UInt8.ofNat ((l[B.length / 8]'hi).toNat + 2 ^ (B.length % 8) * y.toNat))) /\
   (l[B.length / 8]'hi).toNat + 2 ^ (B.length % 8) * y.toNat < 256 /\ (l[B.length / 8]'hi).toNat ||| (y.toNat * 2 ^ (B.length % 8)) = (l[B.length / 8]'hi).toNat + 2 ^ (B.length % 8) * y.toNat := by
 have hi : B.length / 8 < l.length := by omega
 have hbit := OC l B.length (by omega)
 rw [hb, aBD (aBk _), aCr, aCB, if_pos (by omega)] at hbit
 have hbit := (aBO hbit).symm
 obtain ⟨h1, h2, h3⟩ := apP _ (B.length % 8) (by omega) y hbit
 refine ⟨hi, ⟨?_, ?_⟩, h2, h3⟩
 .rw [aCz, aBg, aBS]; exact hl
 .rw [acC l _ (B.length % 8) _ y hi (by omega) h1, hb, show 8 * (B.length / 8) + B.length % 8 = B.length from by omega, aBR _ _ (aBk _), aCr, aCz, aBg, aBS, aBy]
  congr 1
  rw [show 8 * l.length - B.length = (8 * l.length - (B.length + 1)) + 1 from by omega, aCi, aBj]
  rfl
theorem arH {B : List Bool} {l : List UInt8} (h : Zj (B ++ [true]) l) : ajL l = some B.length /\ (vG l).take B.length = B := by
 have hl := h.len
 have hb := h.bits
 rw [aBg, aBS] at hl hb
 have h0 : 0 < l.length := by omega
 have htop : (vG l)[B.length]? = some true := by
  rw [hb, aBy, aBD (aBk _), aCr] <;> rfl
 have hoff : ∀ j, B.length < j -> j < 8 * l.length -> (vG l)[j]? = some false := by
  intro j h1 h2
  rw [hb, aBy, aBD (by omega), List.singleton_append, List.getElem?_cons, if_neg (by omega), aCB, if_pos (by omega)]
 refine ⟨?_, by rw [hb, aBy, aC8] <;> rfl⟩
 cases he : ajL l with
 | none =>
   rw [acA h0] at he
   split at he
   .rename_i hz
    rw [OC l _ (by omega)] at htop
    have e : B.length / 8 = l.length - 1 := by omega
    simp only [e, hz] at htop
    simp at htop
   .cases he
 | some k =>
   obtain ⟨_, h1, _, h2, h3⟩ := anN he
   rcases aDe k B.length with h | h | h
   .rw [h3 _ h (by omega)] at htop; simp at htop
   .rw [h]
   .rw [hoff _ h h1] at h2; simp at h2
theorem arC {x n : Nat} (h : x < 2 ^ n) : SE (BE x n) = x := by rw [aaH, aBC h]
theorem ajD {B : List Bool} {x n : Nat} (h : x < 2 ^ n) : acT (B ++ BE x n) n = x := by
 unfold acT
 rw [aBg, F9, show min n (B.length + n) = n from by omega, aCr, aCS, List.drop_left, arC h]; simp
end Go.Pu
namespace Go.Proofs.YtoecppploooloaaGreatDoor
open Go Go.En Go.Pu
set_option maxRecDepth 4000
theorem Je {w w' : aDs} {S M : Nat -> Prop} {sz n : Nat} {v : aDt} {l : List aDt} (h : GM w S sz v n l) (hx : jN w w' M) (hM : ∀ b, S b -> ¬ M b) : GM w' S sz v n l := by
 refine ⟨h.1, ?_⟩
 rcases h.2 with h2 | ⟨b, c, rest, h1, h2, h3, h4, h5⟩
 .exact .inl h2
 .exact .inr ⟨b, c, rest, h1, h2, h3.ext hx (hM b h2), h4, h5⟩
def Wr (w : aDs) (lo p : Nat) (B : List Bool) : Prop := lo <= p /\ ∃ v bytes, lN w p [v, .int .i64 B.length] /\ GM w (fun b => lo <= b /\ b ≠ p) 1 v bytes.length (bytes.map nR) /\ Zj B bytes
def Rm (w : aDs) (lo p : Nat) (B : List Bool) : Prop := lo <= p /\ ∃ v bytes, lN w p [v, .int .i64 B.length] /\ GM w (fun b => lo <= b /\ b ≠ p) 1 v bytes.length (bytes.map nR) /\
 vG bytes = B ++ List.replicate (8 * bytes.length - B.length) false /\ bytes.length = (B.length + 1 + 7) / 8
theorem Wr.ext {w w' : aDs} {lo p : Nat} {B : List Bool} {M : Nat -> Prop} (h : Wr w lo p B) (hx : jN w w' M) (hM : ∀ b, lo <= b -> ¬ M b) : Wr w' lo p B := by
 obtain ⟨h0, v, bytes, h1, h2, h3⟩ := h
 exact ⟨h0, v, bytes, h1.ext hx (hM _ h0), Je h2 hx fun b hb => hM b hb.1, h3⟩
theorem awD {lo p x i : Nat} {B : List Bool} {t17 : aDt} {w : aDs} (h : Rm w lo p B) (hx : x < 2 ^ 64) (hi : i <= 60) (hB : B.length <= 1000000000)
 {kn : aDt -> aDt -> aDt -> aDt -> aDs -> Prop} (hR : ∀ w', Wr w' lo p (B ++ [x.testBit i]) -> jN w w' (fun y => lo <= y) -> kn (.pointer (some ⟨p, 0, none⟩)) (.int .u64 x) t17 (.int .i64 i) w') :
 pR kn (.pointer (some ⟨p, 0, none⟩)) (.int .u64 x) (.int .i64 i) t17 (.int .i64 i) w := by
 obtain ⟨h0, v, bytes, o, os, hbits, hlen⟩ := h
 obtain ⟨hlt, hheld, hval, hor⟩ := ahK (y := x.testBit i) hbits hlen
 rcases os.2 with ⟨rfl, hz⟩ | ⟨b, c, rest, rfl, hS, ob, hc, hn⟩
 .rw [hlen] at hz; omega
 generalize hq : B.length = q at *
 have hcell : (bytes.map nR ++ rest)[q / 8]? = some (.int .u8 ((bytes[q / 8]'hlt).toNat : Nat)) := by
  rw [aBv (by rw [aBf]; exact hlt), aBz, aBh hlt] <;> rfl
 have hcl : (bytes[q / 8]'hlt).toNat < 2 ^ 8 := aCg _
 have hset : (bytes.map nR ++ rest).set (q / 8) (.int .u8 (((bytes[q / 8]'hlt).toNat + 2 ^ (q % 8) * (x.testBit i).toNat : Nat))) = (bytes.set (q / 8) (UInt8.ofNat ((bytes[q / 8]'hlt).toNat + 2 ^ (q % 8) * (x.testBit i).toNat))).map nR ++ rest := by
  rw [aCL _ _ (by rw [aBf]; exact hlt), aC0, nR, aC9 (by simpa using hval)]
 have hbl : (bytes.set (q / 8) (UInt8.ofNat ((bytes[q / 8]'hlt).toNat + 2 ^ (q % 8) * (x.testBit i).toNat))).length = bytes.length := aCz
 generalize bytes.set (q / 8) (UInt8.ofNat ((bytes[q / 8]'hlt).toNat + 2 ^ (q % 8) * (x.testBit i).toNat)) = bytes' at *
 generalize (bytes[q / 8]'hlt).toNat = y at *
 have e1 : (q : Int).tdiv 8 = ((q / 8 : Nat) : Int) := by rw [aCI (by omega)]; omega
 have e2 : (q : Int).tmod 8 = ((q % 8 : Nat) : Int) := by rw [aCJ (by omega)]; omega
 have e3 := TF x i (by omega)
 have hxl : x / 2 ^ i < 2 ^ 64 := by have := aDq x (2 ^ i); omega
 have e4 := afL hxl
 rw [<- acR] at e4
 have hbt : (x.testBit i).toNat <= 1 := Bool.toNat_le _
 have hp8 : 2 ^ (q % 8) <= 2 ^ 7 := aBw (by omega) (by omega)
 have hm : (x.testBit i).toNat * 2 ^ (q % 8) <= 2 ^ (q % 8) := by
  have := aBL (2 ^ (q % 8)) hbt
  omega
 have e5 : IntKind.u8.wrap (((x.testBit i).toNat : Int) * 2 ^ (min (q % 8) IntKind.u8.bits)) = (((x.testBit i).toNat * 2 ^ (q % 8) : Nat) : Int) := by
  rw [show min (q % 8) IntKind.u8.bits = q % 8 from aBU (by have h8 : IntKind.u8.bits = 8 := rfl; omega)]
  have e : ((x.testBit i).toNat : Int) * 2 ^ (q % 8) = (((x.testBit i).toNat * 2 ^ (q % 8) : Nat) : Int) := by simp
  rw [e]
  exact jI (by omega) (by omega)
 have e6 := ZM (a := y) (b := (x.testBit i).toNat * 2 ^ (q % 8)) hcl (by omega)
 rw [hor] at e6
 have e7 : (q : Int) + 1 = ((q + 1 : Nat) : Int) := by omega
 have od := oC o
 have obd := oC ob
 have c0 := od.cell (off := 0)
 have c1 := od.cell (off := 1)
 have g := obd.cell (off := q / 8)
 rw [hcell] at g
 simp only [aA6, aA7] at c0 c1
 unfold pR
 simp (disch := omega) only [gI, iE, fT, iB, dJ, cW, aBc, gS, c1, gD, iL, e2, true_and, iI, aA9, e3, iO, e4, dK, jI, iG, e5, iP, e1, gX, cV, fS, c0, fR, gK, g, jJ, e6]
 refine Zx obd rfl (by rw [aBg, aBf]; omega) fun w2 o2 x2 s2 => ?_
 rw [hset] at o2
 have op2 := od.ext x2 (fun h => hS.2 h.symm)
 have c12 := op2.cell (off := 1)
 simp only [aA6, aA7] at c12
 simp (disch := omega) only [c12, gD, dJ, hJ, e7, gX]
 refine LA op2 rfl (by simp) fun w3 o3 x3 s3 => ?_
 simp only [aBj, aBl] at o3
 have hBl : (B ++ [x.testBit i]).length = q + 1 := by rw [aBg, hq] <;> rfl
 refine hR _ ⟨h0, _, bytes', by rw [hBl]; exact o3, ⟨by simp, .inr ⟨b, c, rest, by rw [hbl], hS, o2.ext x3 hS.2, ?_, by rw [hbl]; exact hn⟩⟩, hheld⟩ ?_
 .rw [aBg, aBf] at hc ⊢; rw [hbl]; exact hc
 .exact ((jN.dr _ _).seq (x2.mono fun z _ h => by omega)).seq (x3.mono fun z _ h => by omega)
theorem aAi {lo p x i n : Nat} {B : List Bool} {w : aDs} (hw : Wr w lo p B) (hx : x < 2 ^ 64) (hi : i <= 60) (hB : B.length <= 1000000000)
 {kn : aDt -> aDt -> aDt -> aDt -> aDs -> Prop} (hR : ∀ w', Wr w' lo p (B ++ [x.testBit i]) -> jN w w' (fun y => lo <= y) -> kn (.pointer (some ⟨p, 0, none⟩)) (.int .u64 x) (.int .i64 n) (.int .i64 i) w') :
 sM kn (.pointer (some ⟨p, 0, none⟩)) (.int .u64 x) (.int .i64 n) (.int .i64 i) w := by
 unfold sM wF
 obtain ⟨h0, v, bytes, o, os, hh⟩ := hw
 have c1 := o.cell (off := 1)
 have c0 := o.cell (off := 0)
 simp only [aA6, aA7] at c0 c1
 have e2 : (B.length : Int).tmod 8 = ((B.length % 8 : Nat) : Int) := by rw [aCJ (by omega)]; omega
 by_cases h8 : B.length % 8 = 0
 .have d4 : (((B.length % 8 : Nat) : Int) == 0) = true := by rw [h8] <;> rfl
  obtain ⟨hr1, hr2⟩ := abT hh h8
  have hl2 := hh.len
  have lp := o.lt
  simp (disch := omega) only [gI, iE, dJ, cV, fS, cW, aBc, gS, c1, gD, iL, e2, iJ, d4, c0, gB]
  refine uE (cells := #[.int .u8 0]) (by decide) (by decide) (by kernel_rfl) fun w2 o2 x2 s2 => ?_
  refine Cb (m := 1) (news := [nR 0]) (i := Tryz.t5) Tryz.underlying22 Tryz.underlying22 JG rfl rfl rfl (Je os x2 (fun _ _ h => h)) (o2.cl (off := 0) (l := [nR 0]) (n := 1) rfl (fun i hi => by rw [aBc] <;> rfl)) (by simp [one, nR]) (fun b hb => ⟨by omega, by omega⟩) (by omega) (by rw [show Tryz.t5.bytes = 1 from rfl]; omega) (by decide) fun v3 w3 o3 x3 => ?_
  have x13 : jN w w3 (fun y => lo <= y /\ y ≠ p) := (x2.mono fun _ _ h => h.elim).seq x3
  have op3 := o.ext x13 (fun h => h.2 rfl)
  have hv3 : ∃ a n c, v3 = .slice a n c := by
   rcases o3.2 with ⟨rfl, _⟩ | ⟨b, c, rest, rfl, _⟩
   .exact ⟨_, _, _, rfl⟩
   .exact ⟨_, _, _, rfl⟩
  obtain ⟨a3, n3, c3, rfl⟩ := hv3
  refine sW op3 rfl (by simp) fun w4 o4 x4 s4 => ?_
  simp only [aBj, aBl] at o4
  have x14 : jN w w4 (fun y => lo <= y) := (x13.mono fun y _ h => h.1).seq (x4.mono fun y _ h => by omega)
  refine awD (w := w4) ⟨h0, _, bytes ++ [0], o4, ?_, ?_, hr2⟩ hx hi hB fun w5 h5 x5 => hR w5 h5 (x14.seq x5)
  .have := Je o3 x4 (fun b hb h => hb.2 h)
   rw [aBg, aBK]
   exact this
  .rw [aBg]; exact hr1
 .have d4 : (((B.length % 8 : Nat) : Int) == 0) = false := by simp; omega
  simp (disch := omega) only [gI, iE, dJ, cV, fS, cW, aBc, gS, c1, gD, iL, e2, iJ, d4, fV]
  refine awD (w := w) ⟨h0, v, bytes, o, os, hh.bits, ?_⟩ hx hi hB fun w5 h5 x5 => hR w5 h5 x5
  rw [hh.len]; omega
theorem auC {lo p x n : Nat} {B : List Bool} {w : aDs} (h : Wr w lo p B) (hx : x < 2 ^ 64) (hn : n <= 56) (hB : B.length <= 100000000) :
 jE pg rP #[.pointer (some ⟨p, 0, none⟩), .int .u64 x, .int .i64 n] w (fun r w' => r = .tuple #[] /\ Wr w' lo p (B ++ BE x n) /\ jN w w' (fun y => lo <= y)) := by
 refine F8 ?_
 unfold Gn vE uY
 by_cases hn0 : n = 0
 .subst hn0
  have d1 : decide (((0 : Nat) : Int) < 1) = true := rfl
  simp (disch := omega) only [gI, bS, aBa, true_and, dJ, gT, gR, aA8, if_false, gO, gY, d1, gU, if_true, gB, gJ]
  exact ⟨by rw [P1, aBV]; exact h, jN.refl _ _⟩
 have d1 : decide ((n : Int) < 1) = false := by simp; omega
 have d2 : decide ((56 : Int) < (n : Int)) = false := by simp; omega
 simp (disch := omega) only [gI, bS, aBa, true_and, dJ, gT, gR, aA8, if_false, gO, gY, d1, iA, d2, fV]
 unfold uW vM
 refine kO.rule (fun m (t : aDt) w' => ∃ i : Nat, m = n - i /\ t = .int .i64 i /\ i <= n /\ Wr w' lo p (B ++ BE x i) /\ jN w w' (fun y => lo <= y)) n
  ⟨0, rfl, rfl, by omega, by rw [P1, aBV]; exact h, jN.refl _ _⟩ ?_
 rintro m t w1 ⟨i, rfl, rfl, hi, hw, x1⟩
 unfold sO vS
 by_cases hlt : i < n
 .have d3 : decide ((i : Int) < (n : Int)) = true := by simp; omega
  simp (disch := omega) only [gI, gY, d3, dJ, gB]
  unfold vT vX
  refine aAi hw hx (by omega) (by rw [aBg, F9]; omega) fun w3 hw3 x3 => ?_
  unfold sN
  simp (disch := omega) only [gI, hJ, gX, dJ]
  refine ⟨n - (i + 1), by omega, i + 1, rfl, rfl, by omega, ?_, x1.seq x3⟩
  rw [Z1, <- aBy]
  exact hw3
 .have d3 : decide ((i : Int) < (n : Int)) = false := by simp; omega
  obtain rfl : i = n := by omega
  simp (disch := omega) only [gI, gY, d3, dJ, fV]
  exact ⟨hw, x1⟩
def Cw (w : aDs) (p : Nat) (S : Nat -> Prop) (l : List UInt8) : Prop := ¬ S p /\ ∃ v, lN w p [v] /\ GM w S 1 v l.length (l.map nR)
theorem Cw.ext {w w' : aDs} {p : Nat} {S M : Nat -> Prop} {l : List UInt8} (h : Cw w p S l) (x : jN w w' M) (hp : ¬ M p) (hM : ∀ b, S b -> ¬ M b) : Cw w' p S l := by
 obtain ⟨h0, v, h1, h2⟩ := h
 exact ⟨h0, v, h1.ext x hp, Je h2 x hM⟩
theorem Cw.lt {w : aDs} {p : Nat} {S : Nat -> Prop} {l : List UInt8} (h : Cw w p S l) : p < w.heap.size := by
 obtain ⟨_, v, h1, _⟩ := h; exact h1.lt
theorem Cw.turn {w : aDs} {p : Nat} {S T : Nat -> Prop} {l : List UInt8} (h : Cw w p S l) (hT : ∀ b, S b -> b < w.heap.size -> T b) (hp : ¬ T p) : Cw w p T l := by
 obtain ⟨h0, v, h1, h2, h3⟩ := h
 refine ⟨hp, v, h1, h2, ?_⟩
 rcases h3 with h3 | ⟨b, c, rest, g1, g2, g3, g4, g5⟩
 .exact .inl h3
 .exact .inr ⟨b, c, rest, g1, hT b g2 g3.lt, g3, g4, g5⟩
theorem On {w : aDs} {S : Nat -> Prop} {sz n : Nat} {v : aDt} {l : List aDt} (o3 : GM w S sz v n l) : ∃ a c, v = .slice a n c := by
 rcases o3.2 with ⟨rfl, rfl⟩ | ⟨b, c, rest, rfl, _⟩
 .exact ⟨_, _, rfl⟩
 .exact ⟨_, _, rfl⟩
theorem adC {w : aDs} {S : Nat -> Prop} {n : Nat} {v : aDt} {l : List aDt} (o3 : GM w S 1 v n l) : Sl w v l := by
 have : yW w 0 1 v n l := ⟨o3.1, by
  rcases o3.2 with h | ⟨b, c, rest, g1, g2, g3⟩
  .exact .inl h
  .exact .inr ⟨b, c, rest, g1, by omega, g3⟩⟩
 exact this.sl
theorem HC (w : aDs) : jE pg oY #[] w (fun r w' => r = .pointer (some ⟨w.heap.size, 0, none⟩) /\ w.heap.size < w'.heap.size /\ Cw w' w.heap.size (fun b => w.heap.size < b) [] /\ jN w w' mC) := by
 refine Rn ?_
 unfold OU Ds
 simp (disch := omega) only [gI, cK, dJ]
 refine Az fun w1 o1 x1 s1 => ?_
 simp only [Value.cells] at o1
 exact ⟨rfl, by omega, ⟨by omega, _, o1, ⟨rfl, .inl ⟨rfl, rfl⟩⟩⟩, x1⟩
theorem ZO {p : Nat} {S : Nat -> Prop} {l m : List UInt8} {v : aDt} {w : aDs} (h : Cw w p S l) (hS : ∀ b, w.heap.size <= b -> S b) (hv : Bs w v m) (hl : l.length + m.length <= 1000000000) :
 jE pg pK #[.pointer (some ⟨p, 0, none⟩), v] w (fun r w' => r = .tuple #[] /\ Cw w' p S (l ++ m) /\ jN w w' (fun y => y = p ∨ S y)) := by
 refine NM ?_
 unfold Jz AD
 obtain ⟨h0, v0, o, os⟩ := h
 obtain ⟨va, vc, rfl⟩ := On os
 have c0 := o.cell (off := 0)
 simp only [aA6, aA7] at c0
 have lp := o.lt
 simp (disch := omega) only [gI, aW, aBa, aBd, iE, true_and, dJ, bV, fS, c0, gD, gB]
 have hcl := hv.cl
 rw [aBf] at hcl
 refine Cb (m := m.length) (news := m.map nR) (i := Tryz.t5) Tryz.underlying22 Tryz.underlying22 JG rfl rfl rfl os hcl (F6 _) (fun b hb => hS b hb) (by omega) (by rw [show Tryz.t5.bytes = 1 from rfl]; omega) (by decide) fun v3 w3 o3 x3 => ?_
 have op3 := o.ext x3 h0
 obtain ⟨a3, c3, rfl⟩ := On o3
 refine sW op3 rfl (by simp) fun w4 o4 x4 s4 => ?_
 simp only [aBj, aBl] at o4
 refine ⟨⟨h0, _, o4, ?_⟩, (x3.mono fun y _ h => .inr h).seq (x4.mono fun y _ h => .inl h)⟩
 have := Je o3 x4 (fun b hb h => h0 (h ▸ hb))
 rw [aBg, aBK]
 exact this
theorem Co {p x n : Nat} {S : Nat -> Prop} {l : List UInt8} {w : aDs} (h : Cw w p S l) (hS : ∀ b, w.heap.size <= b -> S b) (hx : x < 2 ^ 64) (hn : 1 <= n /\ n <= 8) (hl : l.length <= 100000000) :
 jE pg jR #[.pointer (some ⟨p, 0, none⟩), .int .u64 x, .int .i64 n] w (fun r w' => r = .tuple #[] /\ Cw w' p S (l ++ nK x n) /\ jN w w' (fun y => y = p ∨ S y)) := by
 refine L7 ?_
 unfold IP xN yS
 have d1 : decide ((n : Int) < 1) = false := by simp; omega
 have d2 : decide ((8 : Int) < (n : Int)) = false := by simp; omega
 simp (disch := omega) only [gI, aT, aBa, true_and, dJ, gT, gR, aA8, if_false, gO, gY, d1, iA, d2, fV]
 unfold xU yL
 refine kO.rule (fun m (t : aDt) w' => ∃ i : Nat, m = n - i /\ t = .int .i64 i /\ i <= n /\ Cw w' p S (l ++ nK x i) /\ jN w w' (fun y => y = p ∨ S y)) n
  ⟨0, rfl, rfl, by omega, by rw [nK, aBV]; exact h, jN.refl _ _⟩ ?_
 rintro m t w1 ⟨i, rfl, rfl, hi, hw, x1⟩
 unfold tE
 by_cases hlt : i < n
 .have d3 : decide ((i : Int) < (n : Int)) = true := by simp; omega
  have e0 : ((8 : Int) * (i : Int)) = ((8 * i : Nat) : Int) := by omega
  have e1 : (x : Int).fdiv (2 ^ (min (8 * i) IntKind.u64.bits)) = ((x / 256 ^ i : Nat) : Int) := by
   rw [ajI]; exact TF x (8 * i) (by omega)
  have e2 : IntKind.u8.wrap ((x / 256 ^ i : Nat) : Int) = (((UInt8.ofNat (x / 256 ^ i % 256)).toNat : Nat) : Int) := by
   rw [UInt8.toNat_ofNat']
   generalize x / 256 ^ i = y
   rw [show IntKind.u8.wrap (y : Int) = (y : Int) % 256 from rfl]
   omega
  obtain ⟨c, hc⟩ : ∃ c, c = UInt8.ofNat (x / 256 ^ i % 256) := ⟨_, rfl⟩
  rw [<- hc] at e2
  obtain ⟨h0, v0, o, os⟩ := hw
  obtain ⟨va, vc, rfl⟩ := On os
  have c0 := o.cell (off := 0)
  simp only [aA6, aA7] at c0
  have lp := o.lt
  have hsz := x1.size
  have hpl := kZ i x
  rw [aBg, hpl] at os
  rw [aBg, hpl] at c0
  simp (disch := omega) only [gI, gY, d3, iE, iM, e0, gX, hJ, dJ, bV, fT, iB, iI, aA9, e1, dK, e2, fS, c0, gD, gB]
  refine uE (cells := #[.int .u8 c.toNat]) (by decide) (by decide) (by kernel_rfl) fun w2 o2 x2 s2 => ?_
  refine Cb (m := 1) (news := [nR c]) (i := Tryz.t5) Tryz.underlying22 Tryz.underlying22 JG rfl rfl rfl (Je os x2 (fun _ _ h => h)) (o2.cl (off := 0) (l := [nR c]) (n := 1) rfl (fun i hi => by rw [aBc] <;> rfl)) (by simp [one, nR]) (fun b hb => hS b (by omega)) (by omega) (by rw [show Tryz.t5.bytes = 1 from rfl]; omega) (by decide) fun v3 w3 o3 x3 => ?_
  have x13 : jN w1 w3 S := (x2.mono fun _ _ h => h.elim).seq x3
  have op3 := o.ext x13 h0
  obtain ⟨a3, c3, rfl⟩ := On o3
  refine sW op3 rfl (by simp) fun w4 o4 x4 s4 => ?_
  simp only [aBj, aBl] at o4
  have x14 : jN w1 w4 (fun y => y = p ∨ S y) := (x13.mono fun y _ h => .inr h).seq (x4.mono fun y _ h => .inl h)
  refine ⟨n - (i + 1), by omega, i + 1, rfl, rfl, by omega, ⟨h0, _, o4, ?_⟩, x1.seq x14⟩
  have := Je o3 x4 (fun b hb h => h0 (h ▸ hb))
  rw [acK, <- hc, <- aBy, aBK, aBg, aBg, kZ]
  exact this
 .have d3 : decide ((i : Int) < (n : Int)) = false := by simp; omega
  obtain rfl : i = n := by omega
  simp (disch := omega) only [gI, gY, d3, iE, iM, gX, hJ, dJ, bV, fT, iB, iI, dK, fS, fV]
  exact ⟨hw, x1⟩
theorem SS {p : Nat} {S : Nat -> Prop} {l : List UInt8} {w : aDs} (h : Cw w p S l) (hl : l.length <= 1000000000) :
 jE pg oA #[.pointer (some ⟨p, 0, none⟩)] w (fun r w' => yW w' w.heap.size 1 r l.length (l.map nR) /\ jN w w' mC) := by
 refine PX ?_
 unfold Mt Ca
 obtain ⟨h0, v0, o, os⟩ := h
 obtain ⟨va, vc, rfl⟩ := On os
 have c0 := o.cell (off := 0)
 simp only [aA6, aA7] at c0
 simp (disch := omega) only [gI, aT, aBa, iE, dJ, bV, fS, c0, gD, fV]
 exact adD (adC os) hl
end Go.Proofs.YtoecppploooloaaGreatDoor
namespace Go.En
open Go
theorem GM.ext {w w' : aDs} {S M : Nat -> Prop} {sz n : Nat} {v : aDt} {l : List aDt} (h : GM w S sz v n l) (hx : jN w w' M) (hM : ∀ b, S b -> ¬ M b) : GM w' S sz v n l := by
 refine ⟨h.1, ?_⟩
 rcases h.2 with h2 | ⟨b, c, rest, h1, h2, h3, h4, h5⟩
 .exact .inl h2
 .exact .inr ⟨b, c, rest, h1, h2, h3.ext hx (hM b h2), h4, h5⟩
theorem yW.ne {w : aDs} {base p sz n : Nat} {v : aDt} {l : List aDt} (h : yW w base sz v n l) (hp : w.heap.size <= p) : GM w (fun b => base <= b /\ b ≠ p) sz v n l := by
 refine ⟨h.1, ?_⟩
 rcases h.2 with h2 | ⟨b, c, rest, h1, h2, h3, h4, h5⟩
 .exact .inl h2
 .have := h3.lt
  exact .inr ⟨b, c, rest, h1, ⟨h2, by omega⟩, h3, h4, h5⟩
theorem GM.len {w : aDs} {S : Nat -> Prop} {sz n : Nat} {v : aDt} {l : List aDt} (h : GM w S sz v n l) : ∃ a c, v = .slice a n c := by
 rcases h.2 with ⟨h1, rfl⟩ | ⟨b, c, rest, h1, _⟩
 .exact ⟨_, _, h1⟩
 .exact ⟨_, _, h1⟩
end Go.En
namespace Go.Proofs.YtoecppploooloaaGreatDoor
open Go Go.En Go.Pu
set_option maxRecDepth 4000
theorem WH {w : aDs} {S T : Nat -> Prop} {sz n : Nat} {v : aDt} {l : List aDt} (h : GM w S sz v n l) (hT : ∀ b, S b -> b < w.heap.size -> T b) : GM w T sz v n l := by
 refine ⟨h.1, ?_⟩
 rcases h.2 with h2 | ⟨b, c, rest, h1, h2, h3, h4, h5⟩
 .exact .inl h2
 .exact .inr ⟨b, c, rest, h1, hT b h2 h3.lt, h3, h4, h5⟩
def Nx : aDt := .slice none 0 0
theorem aaQ {p pr lo hi n : Nat} {cs : List aDt} {l : List UInt8} {w : aDs} (o : lN w p cs) (c0 : cs[0]? = some (.pointer (some ⟨pr, 0, none⟩))) (hr : Qk w lo hi pr l 0) (hl : l.length <= 1000000) (hn : n <= 1000000) :
 jE pg qZ #[.pointer (some ⟨p, 0, none⟩), .int .i64 (n : Nat)] w (fun r w' => (l.length < n /\ r = .tuple #[Nx, .int .i64 10] /\ w' = w) ∨ (n <= l.length /\ ∃ v, r = .tuple #[v, .int .i64 0] /\ Bs w' v (l.take n) /\ AtS v (fun b => lo <= b /\ b < hi /\ b ≠ pr) /\ Qk w' lo hi pr (l.drop n) 0 /\ jN w w' (fun y => y = pr))) := by
 refine OA ?_
 unfold Ky Bc
 have c := o.cell (off := 0)
 rw [c0] at c
 simp (disch := omega) only [gI, jD, dJ, stepR_skip, hJ, iC, iM, iP, iL, iO, jJ, iW, gM, iG, iI, iJ, iH, gY, iN, iA, iF, iX, iV, iK, gR, iR, iQ, iE, jW, jV, kH, kC, kG, kF, kI, kE, kD, gD, Result.ok.injEq, Next.value.injEq, true_and, and_true, gX, iB, iU, iT, iS, jI, aA9, gV, gU, gW, gT, gO, gJ, gP, gN, gB, fV, if_true, if_false, aA8, aBc, aBa, aBb, aBe, aBd, aA7, aA6, fQ, fL, fA, fR, cU, eS, eH, dK, bN, fS, fC, aM, dF, aX, bM, bP, aQ, cP, cG, eQ, aF, gS, aI, cK, aT, bV, fT, cI, cJ, aD, gA, fB, aP, aG, bQ, gQ, aK, fH, dT, dP, gG, dA, eU, dI, eF, fG, fF, cF, dC, gK, dO, cB, aS, bU, bT, fN, aE, aH, aN, aY, bF, cN, bK, aA, eY, aL, cL, fJ, fE, gF, bJ, eP, eN, bY, fW, fI, eJ, dH, cO, dB, bD, aZ, aO, fZ, aJ, dE, dQ, bG, cC, fK, dL, gC, fM, eZ, eT, dU, aR, cH, dG, fY, fX, fD, cZ, aW, dV, fU, cR, eX, fP, cD, bO, eD, bB, dX, dW, cM, eL, eK, bE, cY, bA, dR, dY, eE, bL, cS, cQ, dN, bS, cW, cV, fO, bZ, eI, eM, gE, dZ, dS, dM, dD, bH, bR, bX, bW, aU, cX, aV, c]
 refine (S0 hr).mono ?_
 rintro r w1 ⟨rfl, h1⟩
 rw [h1]; clear h1 w1
 by_cases h : l.length < n
 .have d1 : decide ((n : Int) > (l.length : Int)) = true := decide_eq_true (by omega)
  have d2 : decide ((l.length : Int) < (n : Int)) = true := decide_eq_true (by omega)
  simp (disch := omega) only [gI, jD, dJ, stepR_skip, hJ, iC, iM, iP, iL, iO, jJ, iW, gM, iG, iI, iJ, iH, gY, iN, iA, iF, iX, iV, iK, gR, iR, iQ, iE, jW, jV, kH, kC, kG, kF, kI, kE, kD, gD, Result.ok.injEq, Next.value.injEq, true_and, and_true, gX, iB, iU, iT, iS, jI, aA9, gV, gU, gW, gT, gO, gJ, gP, gN, gB, fV, if_true, if_false, aA8, aBc, aBa, aBb, aBe, aBd, aA7, aA6, fQ, fL, fA, fR, cU, eS, eH, dK, bN, fS, fC, aM, dF, aX, bM, bP, aQ, cP, cG, eQ, aF, gS, aI, cK, aT, bV, fT, cI, cJ, aD, gA, fB, aP, aG, bQ, gQ, aK, fH, dT, dP, gG, dA, eU, dI, eF, fG, fF, cF, dC, gK, dO, cB, aS, bU, bT, fN, aE, aH, aN, aY, bF, cN, bK, aA, eY, aL, cL, fJ, fE, gF, bJ, eP, eN, bY, fW, fI, eJ, dH, cO, dB, bD, aZ, aO, fZ, aJ, dE, dQ, bG, cC, fK, dL, gC, fM, eZ, eT, dU, aR, cH, dG, fY, fX, fD, cZ, aW, dV, fU, cR, eX, fP, cD, bO, eD, bB, dX, dW, cM, eL, eK, bE, cY, bA, dR, dY, eE, bL, cS, cQ, dN, bS, cW, cV, fO, bZ, eI, eM, gE, dZ, dS, dM, dD, bH, bR, bX, bW, aU, cX, aV, d1, d2]
  exact .inl ⟨h, rfl⟩
 .have d1 : decide ((n : Int) > (l.length : Int)) = false := decide_eq_false (by omega)
  have d2 : decide ((l.length : Int) < (n : Int)) = false := decide_eq_false (by omega)
  simp (disch := omega) only [gI, jD, dJ, stepR_skip, hJ, iC, iM, iP, iL, iO, jJ, iW, gM, iG, iI, iJ, iH, gY, iN, iA, iF, iX, iV, iK, gR, iR, iQ, iE, jW, jV, kH, kC, kG, kF, kI, kE, kD, gD, Result.ok.injEq, Next.value.injEq, true_and, and_true, gX, iB, iU, iT, iS, jI, aA9, gV, gU, gW, gT, gO, gJ, gP, gN, gB, fV, if_true, if_false, aA8, aBc, aBa, aBb, aBe, aBd, aA7, aA6, fQ, fL, fA, fR, cU, eS, eH, dK, bN, fS, fC, aM, dF, aX, bM, bP, aQ, cP, cG, eQ, aF, gS, aI, cK, aT, bV, fT, cI, cJ, aD, gA, fB, aP, aG, bQ, gQ, aK, fH, dT, dP, gG, dA, eU, dI, eF, fG, fF, cF, dC, gK, dO, cB, aS, bU, bT, fN, aE, aH, aN, aY, bF, cN, bK, aA, eY, aL, cL, fJ, fE, gF, bJ, eP, eN, bY, fW, fI, eJ, dH, cO, dB, bD, aZ, aO, fZ, aJ, dE, dQ, bG, cC, fK, dL, gC, fM, eZ, eT, dU, aR, cH, dG, fY, fX, fD, cZ, aW, dV, fU, cR, eX, fP, cD, bO, eD, bB, dX, dW, cM, eL, eK, bE, cY, bA, dR, dY, eE, bL, cS, cQ, dN, bS, cW, cV, fO, bZ, eI, eM, gE, dZ, dS, dM, dD, bH, bR, bX, bW, aU, cX, aV, d1, d2, c]
  refine (YB hr (by omega) (by omega)).mono ?_
  have ht : GQ l 0 n = (l.take n, l.drop n, 0) := by unfold GQ; rw [if_neg (by decide), if_neg h]
  rw [ht]
  rintro r w1 ⟨h1, h2, h3, h4⟩
  exact .inr ⟨by omega, r, rfl, h1, h2, h3, h4⟩
def gZ : List aDt := [Nx, .int .i64 0, Nx, .int .i64 0, Nx, .int .i64 0, Nx, .int .u32 0, .int .u32 0, .int .u32 0]
def gL : List aDt := [Nx, .int .i64 0, Nx, .int .i64 0, Nx, .int .i64 0, Nx, .int .u32 1, .int .u32 4, .int .u32 8]
def gZv : aDt := .agg #[.slice none 0 0, .int .i64 0, .slice none 0 0, .int .i64 0, .slice none 0 0, .int .i64 0, .slice none 0 0, .int .u32 0, .int .u32 0, .int .u32 0]
def gLv : aDt := .agg #[.slice none 0 0, .int .i64 0, .slice none 0 0, .int .i64 0, .slice none 0 0, .int .i64 0, .slice none 0 0, .int .u32 1, .int .u32 4, .int .u32 8]
def bx (l : List UInt8) : Nat := sB (l.take 3)
def Jp (l : List UInt8) : Nat := bx l / 2 % 4
def J7 (l : List UInt8) : Nat := bx l / 8
def SR (l : List UInt8) : Nat := if Jp l = 1 then 1 else J7 l
def ZA (l : List UInt8) : List UInt8 := if Jp l = 1 then List.replicate (J7 l) ((l.drop 3).headD 0) else (l.drop 3).take (J7 l)
def T5 (l all : List UInt8) (win room : Nat) : Option (Except Int (List UInt8 × List UInt8 × Bool)) :=
 if l.length < 3 then some (.error 10) else if Jp l = 3 then some (.error 11) else if min win 131072 < J7 l then some (.error 12)
 else if Jp l = 2 then none else if l.length - 3 < SR l then some (.error 10)
 else if room < all.length + (ZA l).length then some (.error 12) else some (.ok (all ++ ZA l, l.drop (3 + SR l), bx l % 2 == 1))
theorem anK {RR : aDt -> aDs -> Prop} {p pg6 pt9 px most n : Nat} {L : Bool} {vo va x1 x2 : aDt} {N : Nat} {cs : List aDt} {w : aDs}
 (o : lN w p cs) (k2 : cs[2]? = some (.int .i64 (most : Nat))) (k3 : cs[3]? = some vo) (hvo : ∃ a c, vo = .slice a n c) (hva : ∃ a c, va = .slice a N c) (og : lN w pg6 gL) (ot : lN w pt9 gZ) (hne : pg6 ≠ pt9) (hpx : px ≠ pt9)
 (ox : lN w px [.bool L, x1, x2]) (hn : n <= 2000000) (hN : N <= 4000000) (hmost : most <= 2000000)
 (hk : ∀ w', jN w w' (fun y => y = pt9) -> RR (if most < n + N then .tuple #[Nx, gZv, .bool false, .int .i64 12] else .tuple #[va, gLv, .bool L, .int .i64 0]) w') :
 qI RR (.pointer (some ⟨p, 0, none⟩)) va (.pointer (some ⟨pg6, 0, none⟩)) (.pointer (some ⟨pt9, 0, none⟩)) (.pointer (some ⟨px, 0, none⟩)) w := by
 unfold qI
 obtain ⟨a, c, rfl⟩ := hvo
 obtain ⟨a', c', rfl⟩ := hva
 have e2 := (oC o).cell (off := 2)
 have e3 := (oC o).cell (off := 3)
 have f2 := o.cell (off := 2)
 have f3 := o.cell (off := 3)
 have g2 := (oC (oC o)).cell (off := 2)
 have g3 := (oC (oC o)).cell (off := 3)
 rw [k2] at e2 f2 g2
 rw [k3] at e3 f3 g3
 by_cases h : most < n + N
 .have d1 : decide ((n : Int) + (N : Int) > (most : Int)) = true := decide_eq_true (by omega)
  have d2 : decide ((most : Int) < (n : Int) + (N : Int)) = true := decide_eq_true (by omega)
  rw [if_pos h] at hk
  simp (disch := omega) only [gI, jD, dJ, stepR_skip, hJ, iC, iM, iP, iL, iO, jJ, iW, gM, iG, iI, iJ, iH, gY, iN, iA, iF, iX, iV, iK, gR, iR, iQ, iE, jW, jV, kH, kC, kG, kF, kI, kE, kD, gD, Result.ok.injEq, Next.value.injEq, true_and, and_true, gX, iB, iU, iT, iS, jI, aA9, gV, gU, gW, gT, gO, gJ, gP, gN, gB, fV, if_true, if_false, aA8, aBc, aBa, aBb, aBe, aBd, aA7, aA6, fQ, fL, fA, fR, cU, eS, eH, dK, bN, fS, fC, aM, dF, aX, bM, bP, aQ, cP, cG, eQ, aF, gS, aI, cK, aT, bV, fT, cI, cJ, aD, gA, fB, aP, aG, bQ, gQ, aK, fH, dT, dP, gG, dA, eU, dI, eF, fG, fF, cF, dC, gK, dO, cB, aS, bU, bT, fN, aE, aH, aN, aY, bF, cN, bK, aA, eY, aL, cL, fJ, fE, gF, bJ, eP, eN, bY, fW, fI, eJ, dH, cO, dB, bD, aZ, aO, fZ, aJ, dE, dQ, bG, cC, fK, dL, gC, fM, eZ, eT, dU, aR, cH, dG, fY, fX, fD, cZ, aW, dV, fU, cR, eX, fP, cD, bO, eD, bB, dX, dW, cM, eL, eK, bE, cY, bA, dR, dY, eE, bL, cS, cQ, dN, bS, cW, cV, fO, bZ, eI, eM, gE, dZ, dS, dM, dD, bH, bR, bX, bW, aU, cX, aV, e2, e3, f2, f3, g2, g3, d1, d2]
  refine qD (oC ot) rfl (by simp [one]) (by simp [gZ]) fun w1 o1 x1 s1 => ?_
  refine uF o1 (by simp [kV, gZ]) ?_
  simp only [kV, gZ, aBj, aBl, aBB, aBA, aBE]
  exact hk w1 ((jN.dr w _).seq x1)
 .have d1 : decide ((n : Int) + (N : Int) > (most : Int)) = false := decide_eq_false (by omega)
  have d2 : decide ((most : Int) < (n : Int) + (N : Int)) = false := decide_eq_false (by omega)
  rw [if_neg h] at hk
  have hg := Hl (off := 0) (oC og) (by simp [gL])
  have hg2 := Hl (off := 0) (oC (oC og)) (by simp [gL])
  simp only [gL, aBB, aBA, aBE] at hg hg2
  have b0 := (oC ox).cell (off := 0)
  have b1 := (oC (oC ox)).cell (off := 0)
  simp only [aA6] at b0 b1
  simp (disch := omega) only [gI, jD, dJ, stepR_skip, hJ, iC, iM, iP, iL, iO, jJ, iW, gM, iG, iI, iJ, iH, gY, iN, iA, iF, iX, iV, iK, gR, iR, iQ, iE, jW, jV, kH, kC, kG, kF, kI, kE, kD, gD, Result.ok.injEq, Next.value.injEq, true_and, and_true, gX, iB, iU, iT, iS, jI, aA9, gV, gU, gW, gT, gO, gJ, gP, gN, gB, fV, if_true, if_false, aA8, aBc, aBa, aBb, aBe, aBd, aA7, aA6, fQ, fL, fA, fR, cU, eS, eH, dK, bN, fS, fC, aM, dF, aX, bM, bP, aQ, cP, cG, eQ, aF, gS, aI, cK, aT, bV, fT, cI, cJ, aD, gA, fB, aP, aG, bQ, gQ, aK, fH, dT, dP, gG, dA, eU, dI, eF, fG, fF, cF, dC, gK, dO, cB, aS, bU, bT, fN, aE, aH, aN, aY, bF, cN, bK, aA, eY, aL, cL, fJ, fE, gF, bJ, eP, eN, bY, fW, fI, eJ, dH, cO, dB, bD, aZ, aO, fZ, aJ, dE, dQ, bG, cC, fK, dL, gC, fM, eZ, eT, dU, aR, cH, dG, fY, fX, fD, cZ, aW, dV, fU, cR, eX, fP, cD, bO, eD, bB, dX, dW, cM, eL, eK, bE, cY, bA, dR, dY, eE, bL, cS, cQ, dN, bS, cW, cV, fO, bZ, eI, eM, gE, dZ, dS, dM, dD, bH, bR, bX, bW, aU, cX, aV, e2, e3, f2, f3, g2, g3, d1, d2, hg, hg2, b0, b1]
  refine qD (oC (oC ot)) rfl (by simp [one, Nx]) (by simp [gZ]) fun w1 o1 x1 s1 => ?_
  have ox1 := (oC (oC ox)).ext x1 hpx
  have b2 := ox1.cell (off := 0)
  simp only [aA6] at b2
  try simp (disch := omega) only [gI, jD, dJ, stepR_skip, hJ, iC, iM, iP, iL, iO, jJ, iW, gM, iG, iI, iJ, iH, gY, iN, iA, iF, iX, iV, iK, gR, iR, iQ, iE, jW, jV, kH, kC, kG, kF, kI, kE, kD, gD, Result.ok.injEq, Next.value.injEq, true_and, and_true, gX, iB, iU, iT, iS, jI, aA9, gV, gU, gW, gT, gO, gJ, gP, gN, gB, fV, if_true, if_false, aA8, aBc, aBa, aBb, aBe, aBd, aA7, aA6, fQ, fL, fA, fR, cU, eS, eH, dK, bN, fS, fC, aM, dF, aX, bM, bP, aQ, cP, cG, eQ, aF, gS, aI, cK, aT, bV, fT, cI, cJ, aD, gA, fB, aP, aG, bQ, gQ, aK, fH, dT, dP, gG, dA, eU, dI, eF, fG, fF, cF, dC, gK, dO, cB, aS, bU, bT, fN, aE, aH, aN, aY, bF, cN, bK, aA, eY, aL, cL, fJ, fE, gF, bJ, eP, eN, bY, fW, fI, eJ, dH, cO, dB, bD, aZ, aO, fZ, aJ, dE, dQ, bG, cC, fK, dL, gC, fM, eZ, eT, dU, aR, cH, dG, fY, fX, fD, cZ, aW, dV, fU, cR, eX, fP, cD, bO, eD, bB, dX, dW, cM, eL, eK, bE, cY, bA, dR, dY, eE, bL, cS, cQ, dN, bS, cW, cV, fO, bZ, eI, eM, gE, dZ, dS, dM, dD, bH, bR, bX, bW, aU, cX, aV, b2]
  refine uF o1 (by simp [kV, gZ]) ?_
  simp only [kV, gZ, aBj, aBl, aBB, aBA, aBE]
  exact hk w1 (((jN.dr w _).seq (jN.dr _ _)).seq x1)
theorem apB {S : Nat -> Prop} {v x : aDt} {l m : List UInt8} {w : aDs} (h : GM w S 1 v l.length (l.map nR)) (hx : Bs w x m) (hb : ∀ b, w.heap.size <= b -> S b) (hn : l.length + m.length <= 100000000) {K : aDt -> aDs -> Prop}
 (hk : ∀ v' w', GM w' S 1 v' (l ++ m).length ((l ++ m).map nR) -> jN w w' S -> K v' w') : gI pg (oF .append #[22, 22] 22 [v, x]) w K := by
 have hcl : Cl w 1 x m.length (m.map nR) := by have := hx.cl; rwa [aBf] at this
 refine Cb (m := m.length) (news := m.map nR) (i := Tryz.t5) Tryz.underlying22 Tryz.underlying22 JG rfl rfl rfl h hcl (F6 _) hb (by omega) (by rw [show Tryz.t5.bytes = 1 from rfl]; omega) (by decide) fun v3 w3 o3 x3 => ?_
 refine hk v3 w3 ?_ x3
 rw [aBg, aBK]
 exact o3
theorem amQ {RR : aDt -> aDs -> Prop} {p pr pg6 pt9 px lo hi most n k sz need wv bv : Nat} {L : Bool} {A : Nat -> Prop} {vo va : aDt} {all l made : List UInt8} {cs : List aDt} {w : aDs}
 (o : lN w p cs) (k0 : cs[0]? = some (.pointer (some ⟨pr, 0, none⟩))) (k2 : cs[2]? = some (.int .i64 (most : Nat))) (k3 : cs[3]? = some vo) (hvo : ∃ a c, vo = .slice a n c) (og : lN w pg6 gL) (ot : lN w pt9 gZ) (ox : lN w px [.bool L, .int .i64 (k : Nat), .int .i64 (sz : Nat)])
 (hr : Qk w lo hi pr l 0) (ha : GM w A 1 va all.length (all.map nR)) (hA : ∀ b, A b -> b ≠ p /\ ¬ (lo <= b /\ b < hi) /\ b ≠ pg6 /\ b ≠ pt9 /\ b ≠ px) (hAn : ∀ b, w.heap.size <= b -> A b)
 (hne : pg6 ≠ pt9) (hpx : px ≠ pt9) (q1 : ¬ (lo <= p /\ p < hi)) (q2 : ¬ (lo <= pg6 /\ pg6 < hi)) (q3 : ¬ (lo <= pt9 /\ pt9 < hi)) (q4 : ¬ (lo <= px /\ px < hi)) (hk01 : k = 0 ∨ k = 1) (hsz : sz <= 131072) (hn : n <= 2000000) (hl : l.length <= 1000000) (hall : all.length <= 2000000) (hmost : most <= 2000000)
 (hneed : need = if k = 1 then 1 else sz) (hmade : made = if k = 1 then List.replicate sz (l.headD 0) else l.take sz)
 (hk1 : l.length < need -> ∀ w', jN w w' (fun y => y = pt9) -> RR (.tuple #[Nx, gZv, .bool false, .int .i64 10]) w')
 (hk2 : need <= l.length -> most < n + (all.length + made.length) -> ∀ w', jN w w' (fun y => A y ∨ y = pr ∨ y = pt9) -> RR (.tuple #[Nx, gZv, .bool false, .int .i64 12]) w')
 (hk3 : need <= l.length -> ¬ most < n + (all.length + made.length) -> ∀ w' va', GM w' A 1 va' (all ++ made).length ((all ++ made).map nR) -> Qk w' lo hi pr (l.drop need) 0 -> jN w w' (fun y => A y ∨ y = pr ∨ y = pt9) -> RR (.tuple #[va', gLv, .bool L, .int .i64 0]) w') :
 rZ RR (.pointer (some ⟨p, 0, none⟩)) va (.int .u64 (wv : Nat)) (.pointer (some ⟨pg6, 0, none⟩)) (.pointer (some ⟨pt9, 0, none⟩)) (.int .i64 (bv : Nat)) (.pointer (some ⟨px, 0, none⟩)) (.int .i64 (need : Nat)) w := by
 have hneed2 : need <= 131072 := by rw [hneed]; split <;> omega
 unfold rZ AX
 refine (aaQ o k0 hr hl (by omega)).mono ?_
 rintro r w1 (⟨h1, rfl, h2⟩ | ⟨h1, v, rfl, hb1, hat, hr1, x1⟩)
 .rw [h2]; clear h2 w1
  have n1 : ((10 : Int) != 0) = true := rfl
  unfold Nx
  simp (disch := omega) only [gI, jD, dJ, stepR_skip, hJ, iC, iM, iP, iL, iO, jJ, iW, gM, iG, iI, iJ, iH, gY, iN, iA, iF, iX, iV, iK, gR, iR, iQ, iE, jW, jV, kH, kC, kG, kF, kI, kE, kD, gD, Result.ok.injEq, Next.value.injEq, true_and, and_true, gX, iB, iU, iT, iS, jI, aA9, gV, gU, gW, gT, gO, gJ, gP, gN, gB, fV, if_true, if_false, aA8, aBc, aBa, aBb, aBe, aBd, aA7, aA6, fQ, fL, fA, fR, cU, eS, eH, dK, bN, fS, fC, aM, dF, aX, bM, bP, aQ, cP, cG, eQ, aF, gS, aI, cK, aT, bV, fT, cI, cJ, aD, gA, fB, aP, aG, bQ, gQ, aK, fH, dT, dP, gG, dA, eU, dI, eF, fG, fF, cF, dC, gK, dO, cB, aS, bU, bT, fN, aE, aH, aN, aY, bF, cN, bK, aA, eY, aL, cL, fJ, fE, gF, bJ, eP, eN, bY, fW, fI, eJ, dH, cO, dB, bD, aZ, aO, fZ, aJ, dE, dQ, bG, cC, fK, dL, gC, fM, eZ, eT, dU, aR, cH, dG, fY, fX, fD, cZ, aW, dV, fU, cR, eX, fP, cD, bO, eD, bB, dX, dW, cM, eL, eK, bE, cY, bA, dR, dY, eE, bL, cS, cQ, dN, bS, cW, cV, fO, bZ, eI, eM, gE, dZ, dS, dM, dD, bH, bR, bX, bW, aU, cX, aV, n1]
  refine qD ot rfl (by simp [one]) (by simp [gZ]) fun w1 o1 x1 s1 => ?_
  refine uF o1 (by simp [kV, gZ]) ?_
  simp only [kV, gZ, aBj, aBl, aBB, aBA, aBE]
  exact hk1 h1 w1 x1
 have n1 : ((0 : Int) != 0) = false := rfl
 have hpr : lo <= pr /\ pr < hi := ⟨hr.1, hr.2.1⟩
 have ox1 := ox.ext x1 (fun e => q4 (e ▸ hpr))
 have og1 := og.ext x1 (fun e => q2 (e ▸ hpr))
 have ot1 := ot.ext x1 (fun e => q3 (e ▸ hpr))
 have o1 := o.ext x1 (fun e => q1 (e ▸ hpr))
 have ha1 := ha.ext x1 (fun b hb e => (hA b hb).2.1 (e ▸ hpr))
 have z1 := x1.size
 have c1 := ox1.cell (off := 1)
 have c2 := ox1.cell (off := 2)
 simp only [aA6, aA7] at c1 c2
 have fin : ∀ (m' : List UInt8) (v' : aDt) (w2 : aDs), m' = made -> GM w2 A 1 v' (all ++ m').length ((all ++ m').map nR) -> jN w1 w2 A -> qI RR (.pointer (some ⟨p, 0, none⟩)) v' (.pointer (some ⟨pg6, 0, none⟩)) (.pointer (some ⟨pt9, 0, none⟩)) (.pointer (some ⟨px, 0, none⟩)) w2 := by
  rintro m' v' w2 rfl o2 x2
  have hlen := o2.len
  refine anK (n := n) (N := (all ++ m').length) (L := L) (o1.ext x2 fun h => (hA p h).1 rfl) k2 k3 hvo hlen (og1.ext x2 fun h => (hA _ h).2.2.1 rfl) (ot1.ext x2 fun h => (hA _ h).2.2.2.1 rfl) hne hpx (ox1.ext x2 fun h => (hA _ h).2.2.2.2 rfl) (by omega) ?_ hmost fun w' x => ?_
  .have : m'.length <= 131072 := by
    rw [hmade]; split
    .rw [aB8]; exact hsz
    .rw [aBo]; omega
   rw [aBg]; omega
  .rw [aBg]
   have xx : jN w w' (fun y => A y ∨ y = pr ∨ y = pt9) := (((x1.mono fun _ _ h => .inr (.inl h)).seq (x2.mono fun _ _ h => .inl h))).seq (x.mono fun _ _ h => .inr (.inr h))
   by_cases hm : most < n + (all.length + m'.length)
   .rw [if_pos hm]; exact hk2 h1 hm w' xx
   .rw [if_neg hm]
    refine hk3 h1 hm w' v' (o2.ext x fun b hb e => (hA b hb).2.2.2.1 e) ((hr1.ext x2 fun b h1 h2 h3 => (hA b h3).2.1 ⟨h1, h2⟩).ext x fun b h1 h2 h3 => q3 (h3 ▸ ⟨h1, h2⟩)) xx
 rcases hk01 with rfl | rfl
 .have e0 : (((0 : Nat) : Int) == 0) = true := rfl
  simp only [show ¬ ((0 : Nat) = 1) from by decide, if_false] at hneed hmade
  simp (disch := omega) only [gI, jD, dJ, stepR_skip, hJ, iC, iM, iP, iL, iO, jJ, iW, gM, iG, iI, iJ, iH, gY, iN, iA, iF, iX, iV, iK, gR, iR, iQ, iE, jW, jV, kH, kC, kG, kF, kI, kE, kD, gD, Result.ok.injEq, Next.value.injEq, true_and, and_true, gX, iB, iU, iT, iS, jI, aA9, gV, gU, gW, gT, gO, gJ, gP, gN, gB, fV, if_true, if_false, aA8, aBc, aBa, aBb, aBe, aBd, aA7, aA6, fQ, fL, fA, fR, cU, eS, eH, dK, bN, fS, fC, aM, dF, aX, bM, bP, aQ, cP, cG, eQ, aF, gS, aI, cK, aT, bV, fT, cI, cJ, aD, gA, fB, aP, aG, bQ, gQ, aK, fH, dT, dP, gG, dA, eU, dI, eF, fG, fF, cF, dC, gK, dO, cB, aS, bU, bT, fN, aE, aH, aN, aY, bF, cN, bK, aA, eY, aL, cL, fJ, fE, gF, bJ, eP, eN, bY, fW, fI, eJ, dH, cO, dB, bD, aZ, aO, fZ, aJ, dE, dQ, bG, cC, fK, dL, gC, fM, eZ, eT, dU, aR, cH, dG, fY, fX, fD, cZ, aW, dV, fU, cR, eX, fP, cD, bO, eD, bB, dX, dW, cM, eL, eK, bE, cY, bA, dR, dY, eE, bL, cS, cQ, dN, bS, cW, cV, fO, bZ, eI, eM, gE, dZ, dS, dM, dD, bH, bR, bX, bW, aU, cX, aV, n1, c1, e0]
  refine apB ha1 hb1 (fun b hb => hAn b (by omega)) (by rw [aBo]; omega) fun v' w2 o2 x2 => ?_
  exact fin _ v' w2 (by rw [hmade, hneed]) o2 x2
 .have e0 : (((1 : Nat) : Int) == 0) = false := rfl
  have e1 : (((1 : Nat) : Int) == 1) = true := rfl
  simp only [if_true] at hneed hmade
  subst hneed
  simp (disch := omega) only [gI, jD, dJ, stepR_skip, hJ, iC, iM, iP, iL, iO, jJ, iW, gM, iG, iI, iJ, iH, gY, iN, iA, iF, iX, iV, iK, gR, iR, iQ, iE, jW, jV, kH, kC, kG, kF, kI, kE, kD, gD, Result.ok.injEq, Next.value.injEq, true_and, and_true, gX, iB, iU, iT, iS, jI, aA9, gV, gU, gW, gT, gO, gJ, gP, gN, gB, fV, if_true, if_false, aA8, aBc, aBa, aBb, aBe, aBd, aA7, aA6, fQ, fL, fA, fR, cU, eS, eH, dK, bN, fS, fC, aM, dF, aX, bM, bP, aQ, cP, cG, eQ, aF, gS, aI, cK, aT, bV, fT, cI, cJ, aD, gA, fB, aP, aG, bQ, gQ, aK, fH, dT, dP, gG, dA, eU, dI, eF, fG, fF, cF, dC, gK, dO, cB, aS, bU, bT, fN, aE, aH, aN, aY, bF, cN, bK, aA, eY, aL, cL, fJ, fE, gF, bJ, eP, eN, bY, fW, fI, eJ, dH, cO, dB, bD, aZ, aO, fZ, aJ, dE, dQ, bG, cC, fK, dL, gC, fM, eZ, eT, dU, aR, cH, dG, fY, fX, fD, cZ, aW, dV, fU, cR, eX, fP, cD, bO, eD, bB, dX, dW, cM, eL, eK, bE, cY, bA, dR, dY, eE, bL, cS, cQ, dN, bS, cW, cV, fO, bZ, eI, eM, gE, dZ, dS, dM, dD, bH, bR, bX, bW, aU, cX, aV, n1, c1, e0, e1, c2]
  obtain ⟨c, t, hct⟩ : ∃ c t, l = c :: t := by
   cases l with
   | nil => simp at h1
   | cons c t => exact ⟨c, t, rfl⟩
  have e4 : l.take 1 = [c] := by rw [hct] <;> rfl
  rw [e4] at hb1
  refine (arY hb1 hsz).mono ?_
  rintro r w2 ⟨o2, x2⟩
  have z2 := x2.size
  have hbr : Bs w2 r (List.replicate sz c) := by
   unfold Bs
   rw [aCG]
   exact o2.sl
  refine apB (ha1.ext x2 fun _ _ h => h) hbr (fun b hb => hAn b (by omega)) (by rw [aB8]; omega) fun v' w3 o3 x3 => ?_
  exact fin _ v' w3 (by rw [hmade, hct] <;> rfl) o3 ((x2.mono fun _ _ h => h.elim).seq x3)
def awN (lo hi pr : Nat) (A : Nat -> Prop) (w : aDs) (r : aDt) (w' : aDs) : Except Int (List UInt8 × List UInt8 × Bool) -> Prop
 | .error e => r = .tuple #[Nx, gZv, .bool false, .int .i64 e] /\ jN w w' (fun y => A y ∨ y = pr)
 | .ok (a, l, b) => ∃ v, r = .tuple #[v, gLv, .bool b, .int .i64 0] /\ GM w' A 1 v a.length (a.map nR) /\ Qk w' lo hi pr l 0 /\ jN w w' (fun y => A y ∨ y = pr)
theorem asR {p pr lo hi most n win : Nat} {A : Nat -> Prop} {vo va : aDt} {all l : List UInt8} {cs : List aDt} {w : aDs} {m : Except Int (List UInt8 × List UInt8 × Bool)}
 (o : lN w p cs) (k0 : cs[0]? = some (.pointer (some ⟨pr, 0, none⟩))) (k2 : cs[2]? = some (.int .i64 (most : Nat))) (k3 : cs[3]? = some vo) (hvo : ∃ a c, vo = .slice a n c)
 (hr : Qk w lo hi pr l 0) (ha : GM w A 1 va all.length (all.map nR)) (hA : ∀ b, A b -> b ≠ p /\ ¬ (lo <= b /\ b < hi)) (hAn : ∀ b, w.heap.size <= b -> A b) (hhi : hi <= w.heap.size)
 (q1 : ¬ (lo <= p /\ p < hi)) (hn : n <= most) (hl : l.length <= 1000000) (hall : all.length <= 2000000) (hmost : most <= 2000000)
 (hm : T5 l all win (most - n) = some m) :
 jE pg vR #[.pointer (some ⟨p, 0, none⟩), va, gLv, .int .u64 (win : Nat)] w (fun r w' => awN lo hi pr A w r w' m) := by
 refine Pj ?_
 obtain ⟨RR, hRR⟩ : ∃ RR : aDt -> aDs -> Prop, RR = fun r w' => awN lo hi pr A w r w' m := ⟨_, rfl⟩
 rw [<- hRR]
 unfold Kr A6 AS
 refine Az fun w1 o1 x1 s1 => ?_
 have o1 : lN w1 w.heap.size gL := o1
 obtain ⟨p6, hp6⟩ : ∃ p, p = w.heap.size := ⟨_, rfl⟩
 rw [<- hp6] at o1 ⊢
 refine QM fun w2 o2 x2 s2 => ?_
 have o2 : lN w2 w1.heap.size gZ := o2
 obtain ⟨p9, hp9⟩ : ∃ p, p = w1.heap.size := ⟨_, rfl⟩
 rw [<- hp9] at o2 ⊢
 have z1 := o1.lt
 have z2 := o2.lt
 have x12 := x1.seq x2
 have og2 := o1.ext x2 (fun h => h)
 have hmn : (if (131072 : Int) < (win : Int) then (131072 : Int) else (win : Int)) = ((min win 131072 : Nat) : Int) := by
  split <;> omega
 have hw : IntKind.i64.wrap ((min win 131072 : Nat) : Int) = ((min win 131072 : Nat) : Int) := gX (by omega) (by omega)
 simp (disch := omega) only [gI, jD, dJ, stepR_skip, hJ, iC, iM, iP, iL, iO, jJ, iW, gM, iG, iI, iJ, iH, gY, iN, iA, iF, iX, iV, iK, gR, iR, iQ, iE, jW, jV, kH, kC, kG, kF, kI, kE, kD, gD, Result.ok.injEq, Next.value.injEq, true_and, and_true, gX, iB, iU, iT, iS, jI, aA9, gV, gU, gW, gT, gO, gJ, gP, gN, gB, fV, if_true, if_false, aA8, aBc, aBa, aBb, aBe, aBd, aA7, aA6, fQ, fL, fA, fR, cU, eS, eH, dK, bN, fS, fC, aM, dF, aX, bM, bP, aQ, cP, cG, eQ, aF, gS, aI, cK, aT, bV, fT, cI, cJ, aD, gA, fB, aP, aG, bQ, gQ, aK, fH, dT, dP, gG, dA, eU, dI, eF, fG, fF, cF, dC, gK, dO, cB, aS, bU, bT, fN, aE, aH, aN, aY, bF, cN, bK, aA, eY, aL, cL, fJ, fE, gF, bJ, eP, eN, bY, fW, fI, eJ, dH, cO, dB, bD, aZ, aO, fZ, aJ, dE, dQ, bG, cC, fK, dL, gC, fM, eZ, eT, dU, aR, cH, dG, fY, fX, fD, cZ, aW, dV, fU, cR, eX, fP, cD, bO, eD, bB, dX, dW, cM, eL, eK, bE, cY, bA, dR, dY, eE, bL, cS, cQ, dN, bS, cW, cV, fO, bZ, eI, eM, gE, dZ, dS, dM, dD, bH, bR, bX, bW, aU, cX, aV, hmn, hw]
 refine (aaQ (n := 3) (o.ext x12 (fun h => h)) k0 (hr.ext x12 (fun _ _ _ h => h)) hl (by omega)).mono ?_
 unfold T5 at hm
 rintro r w3 (⟨h1, rfl, h2⟩ | ⟨h1, v, rfl, hb1, hat, hr1, x3⟩)
 .rw [h2]; clear h2 w3
  rw [if_pos h1] at hm
  cases hm
  have n1 : ((10 : Int) != 0) = true := rfl
  unfold Nx
  simp (disch := omega) only [gI, jD, dJ, stepR_skip, hJ, iC, iM, iP, iL, iO, jJ, iW, gM, iG, iI, iJ, iH, gY, iN, iA, iF, iX, iV, iK, gR, iR, iQ, iE, jW, jV, kH, kC, kG, kF, kI, kE, kD, gD, Result.ok.injEq, Next.value.injEq, true_and, and_true, gX, iB, iU, iT, iS, jI, aA9, gV, gU, gW, gT, gO, gJ, gP, gN, gB, fV, if_true, if_false, aA8, aBc, aBa, aBb, aBe, aBd, aA7, aA6, fQ, fL, fA, fR, cU, eS, eH, dK, bN, fS, fC, aM, dF, aX, bM, bP, aQ, cP, cG, eQ, aF, gS, aI, cK, aT, bV, fT, cI, cJ, aD, gA, fB, aP, aG, bQ, gQ, aK, fH, dT, dP, gG, dA, eU, dI, eF, fG, fF, cF, dC, gK, dO, cB, aS, bU, bT, fN, aE, aH, aN, aY, bF, cN, bK, aA, eY, aL, cL, fJ, fE, gF, bJ, eP, eN, bY, fW, fI, eJ, dH, cO, dB, bD, aZ, aO, fZ, aJ, dE, dQ, bG, cC, fK, dL, gC, fM, eZ, eT, dU, aR, cH, dG, fY, fX, fD, cZ, aW, dV, fU, cR, eX, fP, cD, bO, eD, bB, dX, dW, cM, eL, eK, bE, cY, bA, dR, dY, eE, bL, cS, cQ, dN, bS, cW, cV, fO, bZ, eI, eM, gE, dZ, dS, dM, dD, bH, bR, bX, bW, aU, cX, aV, n1]
  refine qD o2 rfl (by simp [one]) (by simp [gZ]) fun w3 o3 x3 s3 => ?_
  refine uF o3 (by simp [kV, gZ]) ?_
  simp only [kV, gZ, aBj, aBl, aBB, aBA, aBE]
  rw [hRR]
  exact ⟨rfl, (x12.mono fun _ _ h => h.elim).trans x3 fun y hy h => by omega⟩
 rw [if_neg (by omega)] at hm
 have n0 : ((0 : Int) != 0) = false := rfl
 have hpr : lo <= pr /\ pr < hi := ⟨hr.1, hr.2.1⟩
 have og3 := og2.ext x3 (by intro h; omega)
 have ot3 := o2.ext x3 (by intro h; omega)
 have o3 := (o.ext x12 (fun h => h)).ext x3 (fun e => q1 (e ▸ hpr))
 have ha3 := (ha.ext x12 (fun _ _ h => h)).ext x3 (fun b hb e => (hA b hb).2 (e ▸ hpr))
 simp (disch := omega) only [gI, jD, dJ, stepR_skip, hJ, iC, iM, iP, iL, iO, jJ, iW, gM, iG, iI, iJ, iH, gY, iN, iA, iF, iX, iV, iK, gR, iR, iQ, iE, jW, jV, kH, kC, kG, kF, kI, kE, kD, gD, Result.ok.injEq, Next.value.injEq, true_and, and_true, gX, iB, iU, iT, iS, jI, aA9, gV, gU, gW, gT, gO, gJ, gP, gN, gB, fV, if_true, if_false, aA8, aBc, aBa, aBb, aBe, aBd, aA7, aA6, fQ, fL, fA, fR, cU, eS, eH, dK, bN, fS, fC, aM, dF, aX, bM, bP, aQ, cP, cG, eQ, aF, gS, aI, cK, aT, bV, fT, cI, cJ, aD, gA, fB, aP, aG, bQ, gQ, aK, fH, dT, dP, gG, dA, eU, dI, eF, fG, fF, cF, dC, gK, dO, cB, aS, bU, bT, fN, aE, aH, aN, aY, bF, cN, bK, aA, eY, aL, cL, fJ, fE, gF, bJ, eP, eN, bY, fW, fI, eJ, dH, cO, dB, bD, aZ, aO, fZ, aJ, dE, dQ, bG, cC, fK, dL, gC, fM, eZ, eT, dU, aR, cH, dG, fY, fX, fD, cZ, aW, dV, fU, cR, eX, fP, cD, bO, eD, bB, dX, dW, cM, eL, eK, bE, cY, bA, dR, dY, eE, bL, cS, cQ, dN, bS, cW, cV, fO, bZ, eI, eM, gE, dZ, dS, dM, dD, bH, bR, bX, bW, aU, cX, aV, n0]
 refine (afW hb1 (by rw [aBo]; omega)).mono ?_
 rintro r w4 ⟨rfl, x4⟩
 have e0 : sB (l.take 3) = bx l := rfl
 unfold rbV
 rw [e0]
 have ek : bx l / 2 % 4 = Jp l := rfl
 rw [ek]
 have og4 := og3.ext x4 (fun h => h)
 have ot4 := ot3.ext x4 (fun h => h)
 have zz3 := x3.size
 have zz4 := x4.size
 by_cases h3 : Jp l = 3
 .rw [if_pos h3]
  rw [if_pos h3] at hm
  cases hm
  have n1 : ((11 : Int) != 0) = true := rfl
  simp (disch := omega) only [gI, jD, dJ, stepR_skip, hJ, iC, iM, iP, iL, iO, jJ, iW, gM, iG, iI, iJ, iH, gY, iN, iA, iF, iX, iV, iK, gR, iR, iQ, iE, jW, jV, kH, kC, kG, kF, kI, kE, kD, gD, Result.ok.injEq, Next.value.injEq, true_and, and_true, gX, iB, iU, iT, iS, jI, aA9, gV, gU, gW, gT, gO, gJ, gP, gN, gB, fV, if_true, if_false, aA8, aBc, aBa, aBb, aBe, aBd, aA7, aA6, fQ, fL, fA, fR, cU, eS, eH, dK, bN, fS, fC, aM, dF, aX, bM, bP, aQ, cP, cG, eQ, aF, gS, aI, cK, aT, bV, fT, cI, cJ, aD, gA, fB, aP, aG, bQ, gQ, aK, fH, dT, dP, gG, dA, eU, dI, eF, fG, fF, cF, dC, gK, dO, cB, aS, bU, bT, fN, aE, aH, aN, aY, bF, cN, bK, aA, eY, aL, cL, fJ, fE, gF, bJ, eP, eN, bY, fW, fI, eJ, dH, cO, dB, bD, aZ, aO, fZ, aJ, dE, dQ, bG, cC, fK, dL, gC, fM, eZ, eT, dU, aR, cH, dG, fY, fX, fD, cZ, aW, dV, fU, cR, eX, fP, cD, bO, eD, bB, dX, dW, cM, eL, eK, bE, cY, bA, dR, dY, eE, bL, cS, cQ, dN, bS, cW, cV, fO, bZ, eI, eM, gE, dZ, dS, dM, dD, bH, bR, bX, bW, aU, cX, aV, n1]
  refine Gi fun w5 o5 x5 s5 => ?_
  refine AH o5 rfl (by simp [one]) (by simp) fun w6 o6 x6 s6 => ?_
  have x46 : jN w4 w6 mC := x5.new x6 (by omega)
  have ot6 := ot4.ext x46 (fun h => h)
  try simp (disch := omega) only [gI, jD, dJ, stepR_skip, hJ, iC, iM, iP, iL, iO, jJ, iW, gM, iG, iI, iJ, iH, gY, iN, iA, iF, iX, iV, iK, gR, iR, iQ, iE, jW, jV, kH, kC, kG, kF, kI, kE, kD, gD, Result.ok.injEq, Next.value.injEq, true_and, and_true, gX, iB, iU, iT, iS, jI, aA9, gV, gU, gW, gT, gO, gJ, gP, gN, gB, fV, if_true, if_false, aA8, aBc, aBa, aBb, aBe, aBd, aA7, aA6, fQ, fL, fA, fR, cU, eS, eH, dK, bN, fS, fC, aM, dF, aX, bM, bP, aQ, cP, cG, eQ, aF, gS, aI, cK, aT, bV, fT, cI, cJ, aD, gA, fB, aP, aG, bQ, gQ, aK, fH, dT, dP, gG, dA, eU, dI, eF, fG, fF, cF, dC, gK, dO, cB, aS, bU, bT, fN, aE, aH, aN, aY, bF, cN, bK, aA, eY, aL, cL, fJ, fE, gF, bJ, eP, eN, bY, fW, fI, eJ, dH, cO, dB, bD, aZ, aO, fZ, aJ, dE, dQ, bG, cC, fK, dL, gC, fM, eZ, eT, dU, aR, cH, dG, fY, fX, fD, cZ, aW, dV, fU, cR, eX, fP, cD, bO, eD, bB, dX, dW, cM, eL, eK, bE, cY, bA, dR, dY, eE, bL, cS, cQ, dN, bS, cW, cV, fO, bZ, eI, eM, gE, dZ, dS, dM, dD, bH, bR, bX, bW, aU, cX, aV, n1]
  refine qD ot6 rfl (by simp [one]) (by simp [gZ]) fun w7 o7 x7 s7 => ?_
  refine uF o7 (by simp [kV, gZ]) ?_
  simp only [kV, gZ, aBj, aBl, aBB, aBA, aBE]
  rw [hRR]
  exact ⟨rfl, ((x12.mono fun _ _ h => h.elim).seq ((x3.mono fun _ _ h => .inr h).seq ((x4.seq x46).mono fun _ _ h => h.elim))).trans x7 fun y hy h => by omega⟩
 rw [if_neg h3]
 rw [if_neg h3] at hm
 unfold rbA
 rw [ek]
 have es : bx l / 8 = J7 l := rfl
 rw [es]
 simp (disch := omega) only [gI, jD, dJ, stepR_skip, hJ, iC, iM, iP, iL, iO, jJ, iW, gM, iG, iI, iJ, iH, gY, iN, iA, iF, iX, iV, iK, gR, iR, iQ, iE, jW, jV, kH, kC, kG, kF, kI, kE, kD, gD, Result.ok.injEq, Next.value.injEq, true_and, and_true, gX, iB, iU, iT, iS, jI, aA9, gV, gU, gW, gT, gO, gJ, gP, gN, gB, fV, if_true, if_false, aA8, aBc, aBa, aBb, aBe, aBd, aA7, aA6, fQ, fL, fA, fR, cU, eS, eH, dK, bN, fS, fC, aM, dF, aX, bM, bP, aQ, cP, cG, eQ, aF, gS, aI, cK, aT, bV, fT, cI, cJ, aD, gA, fB, aP, aG, bQ, gQ, aK, fH, dT, dP, gG, dA, eU, dI, eF, fG, fF, cF, dC, gK, dO, cB, aS, bU, bT, fN, aE, aH, aN, aY, bF, cN, bK, aA, eY, aL, cL, fJ, fE, gF, bJ, eP, eN, bY, fW, fI, eJ, dH, cO, dB, bD, aZ, aO, fZ, aJ, dE, dQ, bG, cC, fK, dL, gC, fM, eZ, eT, dU, aR, cH, dG, fY, fX, fD, cZ, aW, dV, fU, cR, eX, fP, cD, bO, eD, bB, dX, dW, cM, eL, eK, bE, cY, bA, dR, dY, eE, bL, cS, cQ, dN, bS, cW, cV, fO, bZ, eI, eM, gE, dZ, dS, dM, dD, bH, bR, bX, bW, aU, cX, aV, n0]
 refine Gi fun w5 o5 x5 s5 => ?_
 obtain ⟨px, hpx⟩ : ∃ p, p = w4.heap.size := ⟨_, rfl⟩
 rw [<- hpx] at o5 ⊢
 refine AH o5 rfl (by simp [one]) (by simp) fun w6 o6 x6 s6 => ?_
 simp only [kV, aBj, aBl] at o6
 have x46 : jN w4 w6 mC := x5.new x6 (by omega)
 have c1 := o6.cell (off := 1)
 have c2 := o6.cell (off := 2)
 simp only [aA6, aA7] at c1 c2
 have og6 := og4.ext x46 (fun h => h)
 have ot6 := ot4.ext x46 (fun h => h)
 have z5 := o5.lt
 by_cases hb : min win 131072 < J7 l
 .rw [if_pos hb] at hm
  cases hm
  have d1 : decide (((J7 l : Nat) : Int) > ((min win 131072 : Nat) : Int)) = true := decide_eq_true (by omega)
  have d2 : decide (((min win 131072 : Nat) : Int) < ((J7 l : Nat) : Int)) = true := decide_eq_true (by omega)
  simp (disch := omega) only [gI, jD, dJ, stepR_skip, hJ, iC, iM, iP, iL, iO, jJ, iW, gM, iG, iI, iJ, iH, gY, iN, iA, iF, iX, iV, iK, gR, iR, iQ, iE, jW, jV, kH, kC, kG, kF, kI, kE, kD, gD, Result.ok.injEq, Next.value.injEq, true_and, and_true, gX, iB, iU, iT, iS, jI, aA9, gV, gU, gW, gT, gO, gJ, gP, gN, gB, fV, if_true, if_false, aA8, aBc, aBa, aBb, aBe, aBd, aA7, aA6, fQ, fL, fA, fR, cU, eS, eH, dK, bN, fS, fC, aM, dF, aX, bM, bP, aQ, cP, cG, eQ, aF, gS, aI, cK, aT, bV, fT, cI, cJ, aD, gA, fB, aP, aG, bQ, gQ, aK, fH, dT, dP, gG, dA, eU, dI, eF, fG, fF, cF, dC, gK, dO, cB, aS, bU, bT, fN, aE, aH, aN, aY, bF, cN, bK, aA, eY, aL, cL, fJ, fE, gF, bJ, eP, eN, bY, fW, fI, eJ, dH, cO, dB, bD, aZ, aO, fZ, aJ, dE, dQ, bG, cC, fK, dL, gC, fM, eZ, eT, dU, aR, cH, dG, fY, fX, fD, cZ, aW, dV, fU, cR, eX, fP, cD, bO, eD, bB, dX, dW, cM, eL, eK, bE, cY, bA, dR, dY, eE, bL, cS, cQ, dN, bS, cW, cV, fO, bZ, eI, eM, gE, dZ, dS, dM, dD, bH, bR, bX, bW, aU, cX, aV, n0, c1, c2, d1, d2]
  refine qD ot6 rfl (by simp [one]) (by simp [gZ]) fun w7 o7 x7 s7 => ?_
  refine uF o7 (by simp [kV, gZ]) ?_
  simp only [kV, gZ, aBj, aBl, aBB, aBA, aBE]
  rw [hRR]
  exact ⟨rfl, ((x12.mono fun _ _ h => h.elim).seq ((x3.mono fun _ _ h => .inr h).seq ((x4.seq x46).mono fun _ _ h => h.elim))).trans x7 fun y hy h => by omega⟩
 rw [if_neg hb] at hm
 have d1 : decide (((J7 l : Nat) : Int) > ((min win 131072 : Nat) : Int)) = false := decide_eq_false (by omega)
 have d2 : decide (((min win 131072 : Nat) : Int) < ((J7 l : Nat) : Int)) = false := decide_eq_false (by omega)
 have hk2' : Jp l ≠ 2 := by
  intro h
  rw [if_pos h] at hm
  cases hm
 rw [if_neg hk2'] at hm
 have hk01 : Jp l = 0 ∨ Jp l = 1 := by
  have : Jp l < 4 := Nat.mod_lt _ (by omega)
  omega
 have x02 : jN w w2 mC := x12
 have x06 : jN w w6 (fun y => y = pr) := ((x02.mono fun _ _ h => h.elim).seq x3).seq ((x4.seq x46).mono fun _ _ h => h.elim)
 have ha' : GM w (fun b => A b /\ b ≠ p6 /\ b ≠ p9 /\ b ≠ px) 1 va all.length (all.map nR) := WH ha fun b hb h1 => by
  have := x1.size
  have := x2.size
  exact ⟨hb, by omega, by omega, by omega⟩
 have ha6 := ha'.ext x06 fun b hb e => (hA b hb.1).2 (e ▸ hpr)
 have hr6 := (hr1.ext x4 fun _ _ _ h => h).ext x46 fun _ _ _ h => h
 have o6' := (o3.ext x4 fun h => h).ext x46 fun h => h
 have e8 : (l.drop 3).headD 0 = (l.drop 3).headD 0 := rfl
 have hld : (l.drop 3).length = l.length - 3 := aBr
 have main : rZ RR (.pointer (some ⟨p, 0, none⟩)) va (.int .u64 (win : Nat)) (.pointer (some ⟨p6, 0, none⟩)) (.pointer (some ⟨p9, 0, none⟩)) (.int .i64 (min win 131072 : Nat)) (.pointer (some ⟨px, 0, none⟩)) (.int .i64 (SR l : Nat)) w6 := by
  have hz0 := o.lt
  refine amQ (made := ZA l) (L := bx l % 2 == 1) (A := fun b => A b /\ b ≠ p6 /\ b ≠ p9 /\ b ≠ px) o6' k0 k2 k3 hvo og6 ot6 o6 hr6 ha6 ?_ ?_ (by omega) (by omega) q1 (by omega) (by omega) (by omega) hk01 (by omega) (by omega) (by omega) hall hmost rfl rfl ?_ ?_ ?_
  .intro b hb
   exact ⟨(hA b hb.1).1, (hA b hb.1).2, hb.2.1, hb.2.2.1, hb.2.2.2⟩
  .intro b hb
   exact ⟨hAn b (by omega), by omega, by omega, by omega⟩
  .intro h w' x
   rw [if_pos (by omega)] at hm
   cases hm
   rw [hRR]
   exact ⟨rfl, (x06.mono fun _ _ h => .inr h).trans x fun y hy h => by omega⟩
  .intro h h2 w' h5
   rw [if_neg (by omega), if_pos (by omega)] at hm
   cases hm
   rw [hRR]
   refine ⟨rfl, (x06.mono fun _ _ h => .inr h).trans h5 fun y hy h => ?_⟩
   rcases h with h | h | h
   .exact .inl h.1
   .exact .inr h
   .omega
  .intro h h2 w' va' h3 h4 h5
   rw [if_neg (by omega), if_neg (by omega)] at hm
   cases hm
   rw [hRR]
   rw [aCo] at h4
   refine ⟨va', rfl, WH h3 fun b hb _ => hb.1, h4, (x06.mono fun _ _ h => .inr h).trans h5 fun y hy h => ?_⟩
   rcases h with h | h | h
   .exact .inl h.1
   .exact .inr h
   .omega
 rcases hk01 with h | h
 .have e1 : SR l = J7 l := by unfold SR; rw [if_neg (by omega)]
  have e2 : (((Jp l : Nat) : Int) == 1) = false := by rw [h] <;> rfl
  rw [e1] at main
  simp (disch := omega) only [gI, jD, dJ, stepR_skip, hJ, iC, iM, iP, iL, iO, jJ, iW, gM, iG, iI, iJ, iH, gY, iN, iA, iF, iX, iV, iK, gR, iR, iQ, iE, jW, jV, kH, kC, kG, kF, kI, kE, kD, gD, Result.ok.injEq, Next.value.injEq, true_and, and_true, gX, iB, iU, iT, iS, jI, aA9, gV, gU, gW, gT, gO, gJ, gP, gN, gB, fV, if_true, if_false, aA8, aBc, aBa, aBb, aBe, aBd, aA7, aA6, fQ, fL, fA, fR, cU, eS, eH, dK, bN, fS, fC, aM, dF, aX, bM, bP, aQ, cP, cG, eQ, aF, gS, aI, cK, aT, bV, fT, cI, cJ, aD, gA, fB, aP, aG, bQ, gQ, aK, fH, dT, dP, gG, dA, eU, dI, eF, fG, fF, cF, dC, gK, dO, cB, aS, bU, bT, fN, aE, aH, aN, aY, bF, cN, bK, aA, eY, aL, cL, fJ, fE, gF, bJ, eP, eN, bY, fW, fI, eJ, dH, cO, dB, bD, aZ, aO, fZ, aJ, dE, dQ, bG, cC, fK, dL, gC, fM, eZ, eT, dU, aR, cH, dG, fY, fX, fD, cZ, aW, dV, fU, cR, eX, fP, cD, bO, eD, bB, dX, dW, cM, eL, eK, bE, cY, bA, dR, dY, eE, bL, cS, cQ, dN, bS, cW, cV, fO, bZ, eI, eM, gE, dZ, dS, dM, dD, bH, bR, bX, bW, aU, cX, aV, n0, c1, c2, d1, d2, e2]
  exact main
 .have e1 : SR l = 1 := by unfold SR; rw [if_pos (by omega)]
  have e2 : (((Jp l : Nat) : Int) == 1) = true := by rw [h] <;> rfl
  rw [e1] at main
  simp (disch := omega) only [gI, jD, dJ, stepR_skip, hJ, iC, iM, iP, iL, iO, jJ, iW, gM, iG, iI, iJ, iH, gY, iN, iA, iF, iX, iV, iK, gR, iR, iQ, iE, jW, jV, kH, kC, kG, kF, kI, kE, kD, gD, Result.ok.injEq, Next.value.injEq, true_and, and_true, gX, iB, iU, iT, iS, jI, aA9, gV, gU, gW, gT, gO, gJ, gP, gN, gB, fV, if_true, if_false, aA8, aBc, aBa, aBb, aBe, aBd, aA7, aA6, fQ, fL, fA, fR, cU, eS, eH, dK, bN, fS, fC, aM, dF, aX, bM, bP, aQ, cP, cG, eQ, aF, gS, aI, cK, aT, bV, fT, cI, cJ, aD, gA, fB, aP, aG, bQ, gQ, aK, fH, dT, dP, gG, dA, eU, dI, eF, fG, fF, cF, dC, gK, dO, cB, aS, bU, bT, fN, aE, aH, aN, aY, bF, cN, bK, aA, eY, aL, cL, fJ, fE, gF, bJ, eP, eN, bY, fW, fI, eJ, dH, cO, dB, bD, aZ, aO, fZ, aJ, dE, dQ, bG, cC, fK, dL, gC, fM, eZ, eT, dU, aR, cH, dG, fY, fX, fD, cZ, aW, dV, fU, cR, eX, fP, cD, bO, eD, bB, dX, dW, cM, eL, eK, bE, cY, bA, dR, dY, eE, bL, cS, cQ, dN, bS, cW, cV, fO, bZ, eI, eM, gE, dZ, dS, dM, dD, bH, bR, bX, bW, aU, cX, aV, n0, c1, c2, d1, d2, e2]
  exact main
end Go.Proofs.YtoecppploooloaaGreatDoor
namespace Go.Proofs.YtoecppploooloaaGreatDoor
open Go Go.En
set_option maxRecDepth 4000
def akD (x : Int) (k : Nat) : Int := Zt .u64 (IntKind.u64.wrap (x * 2 ^ k)) (x.fdiv (2 ^ (64 - k)))
def amD (v x : Int) : Int := IntKind.u64.wrap (akD (IntKind.u64.wrap (v + IntKind.u64.wrap (x * 14029467366897019727))) 31 * 11400714785074694791)
theorem ayW : ∀ k : Fin 64, GN .u64 (k.val : Int) 63 = (k.val : Int) := by decide
theorem azN : ∀ k : Fin 64, IntKind.u64.wrap (64 - (k.val : Int)) = 64 - (k.val : Int) := by decide
theorem V4 (x : Int) (k : Nat) (hk : k < 64) (w : aDs) :
 jE pg mS #[.int .u64 x, .int .i64 (k : Int)] w (fun v w' => v = .int .u64 (akD x k) /\ w' = w) := by
 refine JL ?_
 have h1 := ayW ⟨k, hk⟩
 have h2 := azN ⟨k, hk⟩
 simp only at h1 h2
 have e1 : min k IntKind.u64.bits = k := by simp only [IntKind.bits]; omega
 have e2 : min (64 - (k : Int)).toNat IntKind.u64.bits = 64 - k := by simp only [IntKind.bits]; omega
 simp (disch := omega) only [FM, vI, gI, jD, dJ, stepR_skip, hJ, iC, iM, iP, iL, iO, jJ, iW, gM, iG, iI, iJ, iH, gY, iN, iA, iF, iX, iV, iK, gR, iR, iQ, iE, jW, jV, kH, kC, kG, kF, kI, kE, kD, gD, Result.ok.injEq, Next.value.injEq, true_and, and_true, gX, iB, iU, iT, iS, jI, aA9, gV, gU, gW, gT, gO, gJ, gP, gN, gB, fV, if_true, if_false, aA8, aBc, aBa, aBb, aBe, aBd, aA7, aA6, fQ, fL, fA, fR, cU, eS, eH, dK, bN, fS, fC, aM, dF, aX, bM, bP, aQ, cP, cG, eQ, aF, gS, aI, cK, aT, bV, fT, cI, cJ, aD, gA, fB, aP, aG, bQ, gQ, aK, fH, dT, dP, gG, dA, eU, dI, eF, fG, fF, cF, dC, gK, dO, cB, aS, bU, bT, fN, aE, aH, aN, aY, bF, cN, bK, aA, eY, aL, cL, fJ, fE, gF, bJ, eP, eN, bY, fW, fI, eJ, dH, cO, dB, bD, aZ, aO, fZ, aJ, dE, dQ, bG, cC, fK, dL, gC, fM, eZ, eT, dU, aR, cH, dG, fY, fX, fD, cZ, aW, dV, fU, cR, eX, fP, cD, bO, eD, bB, dX, dW, cM, eL, eK, bE, cY, bA, dR, dY, eE, bL, cS, cQ, dN, bS, cW, cV, fO, bZ, eI, eM, gE, dZ, dS, dM, dD, bH, bR, bX, bW, aU, cX, aV, h1, h2, e1, e2, akD]
theorem Yh (v x : Int) (w : aDs) :
 jE pg Ff #[.int .u64 v, .int .u64 x] w (fun r w' => r = .int .u64 (amD v x) /\ w' = w) := by
 refine Z2 ?_
 simp (disch := omega) only [acQ, QH, gI, jD, dJ, stepR_skip, hJ, iC, iM, iP, iL, iO, jJ, iW, gM, iG, iI, iJ, iH, gY, iN, iA, iF, iX, iV, iK, gR, iR, iQ, iE, jW, jV, kH, kC, kG, kF, kI, kE, kD, gD, Result.ok.injEq, Next.value.injEq, true_and, and_true, gX, iB, iU, iT, iS, jI, aA9, gV, gU, gW, gT, gO, gJ, gP, gN, gB, fV, if_true, if_false, aA8, aBc, aBa, aBb, aBe, aBd, aA7, aA6, fQ, fL, fA, fR, cU, eS, eH, dK, bN, fS, fC, aM, dF, aX, bM, bP, aQ, cP, cG, eQ, aF, gS, aI, cK, aT, bV, fT, cI, cJ, aD, gA, fB, aP, aG, bQ, gQ, aK, fH, dT, dP, gG, dA, eU, dI, eF, fG, fF, cF, dC, gK, dO, cB, aS, bU, bT, fN, aE, aH, aN, aY, bF, cN, bK, aA, eY, aL, cL, fJ, fE, gF, bJ, eP, eN, bY, fW, fI, eJ, dH, cO, dB, bD, aZ, aO, fZ, aJ, dE, dQ, bG, cC, fK, dL, gC, fM, eZ, eT, dU, aR, cH, dG, fY, fX, fD, cZ, aW, dV, fU, cR, eX, fP, cD, bO, eD, bB, dX, dW, cM, eL, eK, bE, cY, bA, dR, dY, eE, bL, cS, cQ, dN, bS, cW, cV, fO, bZ, eI, eM, gE, dZ, dS, dM, dD, bH, bR, bX, bW, aU, cX, aV]
 refine (V4 _ 31 (by omega) w).mono ?_
 rintro r w' ⟨rfl, rfl⟩
 simp (disch := omega) only [gI, jD, dJ, stepR_skip, hJ, iC, iM, iP, iL, iO, jJ, iW, gM, iG, iI, iJ, iH, gY, iN, iA, iF, iX, iV, iK, gR, iR, iQ, iE, jW, jV, kH, kC, kG, kF, kI, kE, kD, gD, Result.ok.injEq, Next.value.injEq, true_and, and_true, gX, iB, iU, iT, iS, jI, aA9, gV, gU, gW, gT, gO, gJ, gP, gN, gB, fV, if_true, if_false, aA8, aBc, aBa, aBb, aBe, aBd, aA7, aA6, fQ, fL, fA, fR, cU, eS, eH, dK, bN, fS, fC, aM, dF, aX, bM, bP, aQ, cP, cG, eQ, aF, gS, aI, cK, aT, bV, fT, cI, cJ, aD, gA, fB, aP, aG, bQ, gQ, aK, fH, dT, dP, gG, dA, eU, dI, eF, fG, fF, cF, dC, gK, dO, cB, aS, bU, bT, fN, aE, aH, aN, aY, bF, cN, bK, aA, eY, aL, cL, fJ, fE, gF, bJ, eP, eN, bY, fW, fI, eJ, dH, cO, dB, bD, aZ, aO, fZ, aJ, dE, dQ, bG, cC, fK, dL, gC, fM, eZ, eT, dU, aR, cH, dG, fY, fX, fD, cZ, aW, dV, fU, cR, eX, fP, cD, bO, eD, bB, dX, dW, cM, eL, eK, bE, cY, bA, dR, dY, eE, bL, cS, cQ, dN, bS, cW, cV, fO, bZ, eI, eM, gE, dZ, dS, dM, dD, bH, bR, bX, bW, aU, cX, aV, amD]
def GZ : List UInt8 -> Int
 | [] => 0
 | c :: l => (c.toNat : Int) + 256 * GZ l
theorem WI : ∀ l, 0 <= GZ l
 | [] => by simp [GZ]
 | c :: l => by have := WI l; simp only [GZ]; omega
theorem akB (l : List UInt8) (c : UInt8) : GZ (l ++ [c]) = GZ l + (c.toNat : Int) * 256 ^ l.length := by
 induction l with
 | nil => simp [GZ]
 | cons a l ih => simp only [aCm, GZ, ih, aBu, Int.pow_succ, Int.mul_add]; rw [Int.mul_comm (256 : Int) (_ * _), Int.mul_assoc]; omega
theorem agP : ∀ l : List UInt8, GZ l < 256 ^ l.length
 | [] => by simp [GZ]
 | c :: l => by
   have := agP l
   have hc : c.toNat < 256 := c.toNat_lt
   simp only [GZ, aBu, Int.pow_succ]; omega
theorem Zc {α : Type} {l : List α} {k : Nat} (h : k < l.length) : l.take (k + 1) = l.take k ++ [l[k]] := by
 rw [List.take_succ_eq_append_getElem h]
theorem arI {x : Int} {c k : Nat} (hk : k < 8) (hx0 : 0 <= x) (hx : x < 256 ^ k) (hc : c < 256) :
 Zt .u64 x (IntKind.u64.wrap ((c : Int) * 2 ^ (8 * k))) = x + (c : Int) * 256 ^ k := by
 obtain ⟨m, rfl⟩ := Int.eq_ofNat_of_zero_le hx0
 have e256 : (256 : Nat) ^ k = 2 ^ (8 * k) := by rw [show (256 : Nat) = 2 ^ 8 from rfl, <- Nat.pow_mul]
 have hm : m < 2 ^ (8 * k) := by rw [<- e256]; exact_mod_cast hx
 have hle : c * 2 ^ (8 * k) + 2 ^ (8 * k) <= 2 ^ 64 := by
  have h1 : (c + 1) * 2 ^ (8 * k) <= 256 * 2 ^ (8 * k) := aBL _ (by omega)
  have h2 : (256 : Nat) * 2 ^ (8 * k) = 2 ^ (8 * k + 8) := by rw [aCf, aBX]
  have h3 : (2 : Nat) ^ (8 * k + 8) <= 2 ^ 64 := aBw (by omega) (by omega)
  rw [aB0] at h1; omega
 have hpos : 0 < 2 ^ (8 * k) := Nat.pow_pos (by omega)
 have w : IntKind.u64.wrap ((c : Int) * 2 ^ (8 * k)) = ((c * 2 ^ (8 * k) : Nat) : Int) := by
  have : ((c : Int) * 2 ^ (8 * k)) = ((c * 2 ^ (8 * k) : Nat) : Int) := by push_cast; rfl
  rw [this]; exact iB (by omega) (by omega)
 rw [w]
 have b1 : (BitVec.ofInt 64 (m : Int) ||| BitVec.ofInt 64 ((c * 2 ^ (8 * k) : Nat) : Int)).toNat = m + c * 2 ^ (8 * k) := by
  rw [BitVec.toNat_or]
  simp only [BitVec.toNat_ofInt]
  have e1 : (((m : Int) % ((2 ^ 64 : Nat) : Int)).toNat) = m := by omega
  have e2 : ((((c * 2 ^ (8 * k) : Nat) : Int) % ((2 ^ 64 : Nat) : Int)).toNat) = c * 2 ^ (8 * k) := by omega
  rw [e1, e2, Nat.or_comm, aBX c, <- Nat.two_pow_add_eq_or_of_lt hm]
  omega
 show IntKind.u64.wrap ((BitVec.ofInt 64 (m : Int) ||| BitVec.ofInt 64 ((c * 2 ^ (8 * k) : Nat) : Int)).toNat : Int) = _
 rw [b1]
 have : ((m + c * 2 ^ (8 * k) : Nat) : Int) = (m : Int) + (c : Int) * 256 ^ k := by
  rw [<- e256]; push_cast; rfl
 rw [<- this]
 exact iB (by omega) (by omega)
theorem Vr (v : aDt) (l : List UInt8) (w : aDs) (h : Bs w v l) (hl : l.length <= 8) :
 jE pg CB #[v] w (fun r w' => r = .int .u64 (GZ l) /\ w' = w) := by
 obtain ⟨a, n, c, rfl, hn, hc, hcell⟩ := h
 rw [aBf] at hn
 subst hn
 refine Zd ?_
 simp (disch := omega) only [ZP, Ig, NZ, Ni, Na, Nu, M6, Np, NN, gI, jD, dJ, stepR_skip, hJ, iC, iM, iP, iL, iO, jJ, iW, gM, iG, iI, iJ, iH, gY, iN, iA, iF, iX, iV, iK, gR, iR, iQ, iE, jW, jV, kH, kC, kG, kF, kI, kE, kD, gD, Result.ok.injEq, Next.value.injEq, true_and, and_true, gX, iB, iU, iT, iS, jI, aA9, gV, gU, gW, gT, gO, gJ, gP, gN, gB, fV, if_true, if_false, aA8, aBc, aBa, aBb, aBe, aBd, aA7, aA6, fQ, fL, fA, fR, cU, eS, eH, dK, bN, fS, fC, aM, dF, aX, bM, bP, aQ, cP, cG, eQ, aF, gS, aI, cK, aT, bV, fT, cI, cJ, aD, gA, fB, aP, aG, bQ, gQ, aK, fH, dT, dP, gG, dA, eU, dI, eF, fG, fF, cF, dC, gK, dO, cB, aS, bU, bT, fN, aE, aH, aN, aY, bF, cN, bK, aA, eY, aL, cL, fJ, fE, gF, bJ, eP, eN, bY, fW, fI, eJ, dH, cO, dB, bD, aZ, aO, fZ, aJ, dE, dQ, bG, cC, fK, dL, gC, fM, eZ, eT, dU, aR, cH, dG, fY, fX, fD, cZ, aW, dV, fU, cR, eX, fP, cD, bO, eD, bB, dX, dW, cM, eL, eK, bE, cY, bA, dR, dY, eE, bL, cS, cQ, dN, bS, cW, cV, fO, bZ, eI, eM, gE, dZ, dS, dM, dD, bH, bR, bX, bW, aU, cX, aV]
 refine kO.rule (fun n t w' => ∃ k : Nat, n = l.length - k /\ k <= l.length /\ t = (.int .u64 (GZ (l.take k)), .int .i64 (k : Int)) /\ w' = w) l.length ⟨0, rfl, aC5 _, rfl, rfl⟩ ?_
 rintro n t w' ⟨k, rfl, hk, rfl, rfl⟩
 by_cases hlt : k < l.length
 .obtain ⟨b, off, rfl, hcell'⟩ := hcell (by omega)
  have hcl := hcell' k hlt
  rw [aBz, aBh hlt, aBJ] at hcl
  have hb : (l[k].toNat) < 256 := l[k].toNat_lt
  have hd : decide ((k : Int) < (l.length : Int)) = true := by simpa using hlt
  have e1 : min (8 * (k : Int)).toNat IntKind.u64.bits = 8 * k := by simp only [IntKind.bits]; omega
  simp (disch := omega) only [DT, gI, jD, dJ, stepR_skip, hJ, iC, iM, iP, iL, iO, jJ, iW, gM, iG, iI, iJ, iH, gY, iN, iA, iF, iX, iV, iK, gR, iR, iQ, iE, jW, jV, kH, kC, kG, kF, kI, kE, kD, gD, Result.ok.injEq, Next.value.injEq, true_and, and_true, gX, iB, iU, iT, iS, jI, aA9, gV, gU, gW, gT, gO, gJ, gP, gN, gB, fV, if_true, if_false, aA8, aBc, aBa, aBb, aBe, aBd, aA7, aA6, fQ, fL, fA, fR, cU, eS, eH, dK, bN, fS, fC, aM, dF, aX, bM, bP, aQ, cP, cG, eQ, aF, gS, aI, cK, aT, bV, fT, cI, cJ, aD, gA, fB, aP, aG, bQ, gQ, aK, fH, dT, dP, gG, dA, eU, dI, eF, fG, fF, cF, dC, gK, dO, cB, aS, bU, bT, fN, aE, aH, aN, aY, bF, cN, bK, aA, eY, aL, cL, fJ, fE, gF, bJ, eP, eN, bY, fW, fI, eJ, dH, cO, dB, bD, aZ, aO, fZ, aJ, dE, dQ, bG, cC, fK, dL, gC, fM, eZ, eT, dU, aR, cH, dG, fY, fX, fD, cZ, aW, dV, fU, cR, eX, fP, cD, bO, eD, bB, dX, dW, cM, eL, eK, bE, cY, bA, dR, dY, eE, bL, cS, cQ, dN, bS, cW, cV, fO, bZ, eI, eM, gE, dZ, dS, dM, dD, bH, bR, bX, bW, aU, cX, aV, hd, gB, hcl, nR, e1]
  have hlen : (l.take k).length = k := by simp; omega
  have hx := agP (l.take k)
  rw [hlen] at hx
  refine ⟨l.length - (k + 1), by omega, k + 1, rfl, by omega, ?_⟩
  rw [arI (by omega) (WI _) hx hb, Zc hlt, akB, hlen]
  rfl
 .have hd : decide ((k : Int) < (l.length : Int)) = false := by simpa using hlt
  simp (disch := omega) only [DT, gI, jD, dJ, stepR_skip, hJ, iC, iM, iP, iL, iO, jJ, iW, gM, iG, iI, iJ, iH, gY, iN, iA, iF, iX, iV, iK, gR, iR, iQ, iE, jW, jV, kH, kC, kG, kF, kI, kE, kD, gD, Result.ok.injEq, Next.value.injEq, true_and, and_true, gX, iB, iU, iT, iS, jI, aA9, gV, gU, gW, gT, gO, gJ, gP, gN, gB, fV, if_true, if_false, aA8, aBc, aBa, aBb, aBe, aBd, aA7, aA6, fQ, fL, fA, fR, cU, eS, eH, dK, bN, fS, fC, aM, dF, aX, bM, bP, aQ, cP, cG, eQ, aF, gS, aI, cK, aT, bV, fT, cI, cJ, aD, gA, fB, aP, aG, bQ, gQ, aK, fH, dT, dP, gG, dA, eU, dI, eF, fG, fF, cF, dC, gK, dO, cB, aS, bU, bT, fN, aE, aH, aN, aY, bF, cN, bK, aA, eY, aL, cL, fJ, fE, gF, bJ, eP, eN, bY, fW, fI, eJ, dH, cO, dB, bD, aZ, aO, fZ, aJ, dE, dQ, bG, cC, fK, dL, gC, fM, eZ, eT, dU, aR, cH, dG, fY, fX, fD, cZ, aW, dV, fU, cR, eX, fP, cD, bO, eD, bB, dX, dW, cM, eL, eK, bE, cY, bA, dR, dY, eE, bL, cS, cQ, dN, bS, cW, cV, fO, bZ, eI, eM, gE, dZ, dS, dM, dD, bH, bR, bX, bW, aU, cX, aV, hd, fV]
  rw [aBp (by omega)]
def aAg : List Int := [IntKind.u64.wrap (11400714785074694791 + 14029467366897019727), 14029467366897019727, 0, IntKind.u64.wrap (0 - 11400714785074694791)]
def Tn (vs : List Int) (s : List UInt8) (i : Nat) : List Int := vs.mapIdx fun j v => if j < i then amD v (GZ ((s.drop (8 * j)).take 8)) else v
def T0 : Nat -> List UInt8 -> List Int
 | 0, _ => aAg
 | k + 1, L => Tn (T0 k L) ((L.drop (32 * k)).take 32) 4
theorem zA (vs : List Int) (s : List UInt8) (i : Nat) : (Tn vs s i).length = vs.length := by simp [Tn]
theorem B5 : ∀ k L, (T0 k L).length = 4
 | 0, _ => rfl
 | k + 1, L => by rw [T0, zA, B5 k L]
theorem amF (vs : List Int) (s : List UInt8) : Tn vs s 0 = vs := by
 apply List.ext_getElem
 .simp [Tn]
 .intro i h1 h2; simp [Tn]
theorem atM (vs : List Int) (s : List UInt8) (i : Nat) (h : i < vs.length) : (Tn vs s i)[i]? = some vs[i] := by
 rw [aBh (by rw [zA]; exact h)]; simp [Tn]
theorem arD (vs : List Int) (s : List UInt8) (i : Nat) (h : i < vs.length) : (Tn vs s i).set i (amD vs[i] (GZ ((s.drop (8 * i)).take 8))) = Tn vs s (i + 1) := by
 apply List.ext_getElem
 .simp [Tn]
 .intro j h1 h2
  rw [List.getElem_set]
  simp only [Tn, List.getElem_mapIdx]
  by_cases hij : i = j
  .subst hij; simp
  .simp only [hij, if_false]
   by_cases hj : j < i
   .rw [if_pos hj, if_pos (by omega)]
   .rw [if_neg hj, if_neg (by omega)]
theorem Y3 : ∀ k (L M : List UInt8), 32 * k <= L.length -> T0 k (L ++ M) = T0 k L
 | 0, _, _, _ => rfl
 | k + 1, L, M, h => by
   rw [T0, T0, Y3 k L M (by omega)]
   congr 1
   rw [aCV (by omega), aCb (by rw [aBr]; omega)]
def lS (vs : List Int) (kept : List UInt8) (n all : Nat) : List aDt := vs.map (Value.int .u64) ++ (kept.map nR ++ [.int .i64 (n : Int), .int .u64 (all : Int)])
theorem uG {vs : List Int} {kept : List UInt8} {n all : Nat} (h1 : vs.length = 4) (h2 : kept.length = 32) : (lS vs kept n all).length = 38 := by
 simp [lS, h1, h2]
theorem YP {vs : List Int} {kept : List UInt8} {n all : Nat} (i : Nat) (h : i < vs.length) : (lS vs kept n all)[i]? = some (.int .u64 vs[i]) := by
 unfold lS; rw [aBv (by simpa using h)]; simp [h]
theorem SD {vs : List Int} {kept : List UInt8} {n all : Nat} (h1 : vs.length = 4) (i : Nat) (h : i < kept.length) : (lS vs kept n all)[4 + i]? = some (nR kept[i]) := by
 unfold lS
 rw [aBD (by simp [h1]), aBf, h1, aDc, aBv (by simpa using h)]; simp [h]
theorem Mj {vs : List Int} {kept : List UInt8} {n all : Nat} (h1 : vs.length = 4) (h2 : kept.length = 32) : (lS vs kept n all)[36]? = some (.int .i64 (n : Int)) := by
 unfold lS
 rw [aBD (by simp [h1]), aBf, h1, aBD (by simp [h2]), aBf, h2] <;> rfl
theorem Ii {vs : List Int} {kept : List UInt8} {n all : Nat} (h1 : vs.length = 4) (h2 : kept.length = 32) : (lS vs kept n all)[37]? = some (.int .u64 (all : Int)) := by
 unfold lS
 rw [aBD (by simp [h1]), aBf, h1, aBD (by simp [h2]), aBf, h2] <;> rfl
theorem Zf {vs : List Int} {kept : List UInt8} {n all : Nat} (i : Nat) (x : Int) (h : i < vs.length) : (lS vs kept n all).set i (.int .u64 x) = lS (vs.set i x) kept n all := by
 unfold lS; rw [aCL _ _ (by simpa using h), aC0]
theorem QU {vs : List Int} {kept : List UInt8} {n all : Nat} (h1 : vs.length = 4) (h2 : kept.length = 32) (m : Nat) : (lS vs kept n all).set 36 (.int .i64 (m : Int)) = lS vs kept m all := by
 unfold lS
 rw [aBR _ _ (by simp [h1]), aBf, h1, aBR _ _ (by simp [h2]), aBf, h2] <;> rfl
theorem Wq {vs : List Int} {kept : List UInt8} {n all : Nat} (h1 : vs.length = 4) (h2 : kept.length = 32) (m : Nat) : (lS vs kept n all).set 37 (.int .u64 (m : Int)) = lS vs kept n m := by
 unfold lS
 rw [aBR _ _ (by simp [h1]), aBf, h1, aBR _ _ (by simp [h2]), aBf, h2] <;> rfl
def PB (l : List UInt8) (o : Nat) (x : List UInt8) : List UInt8 := l.take o ++ x ++ l.drop (o + x.length)
theorem aaX {l : List UInt8} {o : Nat} {x : List UInt8} (h : o + x.length <= l.length) : (PB l o x).length = l.length := by
 simp [PB]; omega
theorem anL {l : List UInt8} {o : Nat} {c : UInt8} {x : List UInt8} (h : o + (x.length + 1) <= l.length) : PB (l.set o c) (o + 1) x = PB l o (c :: x) := by
 unfold PB
 rw [List.take_set, List.drop_set_of_lt (by omega)]
 have e : (l.take (o + 1)).set o c = l.take o ++ [c] := by
  rw [List.take_succ_eq_append_getElem (by omega), aBR _ _ (by simp; omega)]
  simp only [aBo]
  rw [show o - min o l.length = 0 from by omega] <;> rfl
 rw [e]
 simp only [aBy, List.singleton_append, aBu, aCm, aBZ]
 rw [show o + 1 + x.length = o + (x.length + 1) from by omega]
theorem ZI {vs : List Int} {n all : Nat} (h1 : vs.length = 4) : ∀ (x kept : List UInt8) (o : Nat), o + x.length <= kept.length →
 kV (lS vs kept n all) (4 + o) (x.map nR) = lS vs (PB kept o x) n all := by
 intro x
 induction x with
 | nil => intro kept o _; simp [kV, PB]
 | cons c x ih =>
   intro kept o h
   rw [aBu] at h
   have e : (lS vs kept n all).set (4 + o) (nR c) = lS vs (kept.set o c) n all := by
    unfold lS
    rw [aBR _ _ (by simp [h1]), aBf, h1, aDc, aCL _ _ (by simp; omega), aC0]
   rw [aBH, kV, e, aCA, ih _ _ (by simp; omega), anL (by omega)]
def alU (w : aDs) (b : Nat) (L : List UInt8) (all : Nat) : Prop :=
 ∃ kept, kept.length = 32 /\ kept.take (L.length % 32) = L.drop (32 * (L.length / 32)) /\ lN w b (lS (T0 (L.length / 32) L) kept (L.length % 32) all)
abbrev XJ (w : aDs) (b : Nat) (L : List UInt8) : Prop := alU w b L L.length
theorem avU (w : aDs) : jE pg TB #[] w (fun v w' => v = .pointer (some ⟨w.heap.size, 0, none⟩) /\ XJ w' w.heap.size [] /\ jN w w' mC) := by
 refine adK ?_
 simp (disch := omega) only [alS, VI, gI, jD, dJ, stepR_skip, hJ, iC, iM, iP, iL, iO, jJ, iW, gM, iG, iI, iJ, iH, gY, iN, iA, iF, iX, iV, iK, gR, iR, iQ, iE, jW, jV, kH, kC, kG, kF, kI, kE, kD, gD, Result.ok.injEq, Next.value.injEq, true_and, and_true, gX, iB, iU, iT, iS, jI, aA9, gV, gU, gW, gT, gO, gJ, gP, gN, gB, fV, if_true, if_false, aA8, aBc, aBa, aBb, aBe, aBd, aA7, aA6, fQ, fL, fA, fR, cU, eS, eH, dK, bN, fS, fC, aM, dF, aX, bM, bP, aQ, cP, cG, eQ, aF, gS, aI, cK, aT, bV, fT, cI, cJ, aD, gA, fB, aP, aG, bQ, gQ, aK, fH, dT, dP, gG, dA, eU, dI, eF, fG, fF, cF, dC, gK, dO, cB, aS, bU, bT, fN, aE, aH, aN, aY, bF, cN, bK, aA, eY, aL, cL, fJ, fE, gF, bJ, eP, eN, bY, fW, fI, eJ, dH, cO, dB, bD, aZ, aO, fZ, aJ, dE, dQ, bG, cC, fK, dL, gC, fM, eZ, eT, dU, aR, cH, dG, fY, fX, fD, cZ, aW, dV, fU, cR, eX, fP, cD, bO, eD, bB, dX, dW, cM, eL, eK, bE, cY, bA, dR, dY, eE, bL, cS, cQ, dN, bS, cW, cV, fO, bZ, eI, eM, gE, dZ, dS, dM, dD, bH, bR, bX, bW, aU, cX, aV]
 refine Az fun w1 o1 x1 s1 => ⟨rfl, ⟨List.replicate 32 0, rfl, rfl, ?_⟩, x1⟩
 exact o1
theorem VW {w : aDs} {b : Nat} {cs : List aDt} (h : lN w b cs) : lN (dr w) b cs := h.ext (jN.dr w mC) (fun h => h)
theorem aeI (w0 : aDs) (b : Nat) (vs : List Int) (kept : List UInt8) (all : Nat) (h1 : vs.length = 4) (h2 : kept.length = 32) (v : aDt) (R : aDt -> aDt -> aDs -> Prop)
 (hR : ∀ w', lN w' b (lS (Tn vs kept 4) kept 32 all) -> jN w0 w' (fun x => x = b) -> R (.pointer (some ⟨b, 0, none⟩)) v w') (w : aDs) (ho : lN w b (lS vs kept 32 all)) (hx : jN w0 w (fun x => x = b)) :
 BL R (.pointer (some ⟨b, 0, none⟩)) v w := by
 simp (disch := omega) only [BL, FG, Gz, FZ]
 refine kO.rule (fun n t w' => ∃ i : Nat, i <= 4 /\ n = 4 - i /\ t = .int .i64 (i : Int) /\ lN w' b (lS (Tn vs kept i) kept 32 all) /\ jN w0 w' (fun x => x = b)) 4
  ⟨0, by omega, rfl, rfl, by rw [amF]; exact ho, hx⟩ ?_
 rintro n t w' ⟨i, hi, rfl, rfl, ho, hx⟩
 by_cases hlt : i < 4
 .have hd : decide ((i : Int) < 4) = true := by simp; omega
  have hod := VW ho
  have hv := atM vs kept i (by omega)
  have hc : (lS (Tn vs kept i) kept 32 all)[i]? = some (.int .u64 vs[i]) := by
   rw [YP i (by rw [zA]; omega)]
   rw [aBh (by rw [zA]; omega)] at hv
   rw [aBO hv]
  have t1 : (8 * (i : Int)).toNat = 8 * i := by omega
  have t2 : (8 * (i : Int) + 8).toNat = 8 * i + 8 := by omega
  simp (disch := omega) only [wE, gI, jD, dJ, stepR_skip, hJ, iC, iM, iP, iL, iO, jJ, iW, gM, iG, iI, iJ, iH, gY, iN, iA, iF, iX, iV, iK, gR, iR, iQ, iE, jW, jV, kH, kC, kG, kF, kI, kE, kD, gD, Result.ok.injEq, Next.value.injEq, true_and, and_true, gX, iB, iU, iT, iS, jI, aA9, gV, gU, gW, gT, gO, gJ, gP, gN, gB, fV, if_true, if_false, aA8, aBc, aBa, aBb, aBe, aBd, aA7, aA6, fQ, fL, fA, fR, cU, eS, eH, dK, bN, fS, fC, aM, dF, aX, bM, bP, aQ, cP, cG, eQ, aF, gS, aI, cK, aT, bV, fT, cI, cJ, aD, gA, fB, aP, aG, bQ, gQ, aK, fH, dT, dP, gG, dA, eU, dI, eF, fG, fF, cF, dC, gK, dO, cB, aS, bU, bT, fN, aE, aH, aN, aY, bF, cN, bK, aA, eY, aL, cL, fJ, fE, gF, bJ, eP, eN, bY, fW, fI, eJ, dH, cO, dB, bD, aZ, aO, fZ, aJ, dE, dQ, bG, cC, fK, dL, gC, fM, eZ, eT, dU, aR, cH, dG, fY, fX, fD, cZ, aW, dV, fU, cR, eX, fP, cD, bO, eD, bB, dX, dW, cM, eL, eK, bE, cY, bA, dR, dY, eE, bL, cS, cQ, dN, bS, cW, cV, fO, bZ, eI, eM, gE, dZ, dS, dM, dD, bH, bR, bX, bW, aU, cX, aV, hd, hod.cell, hc, t1, t2, Va (show 8 * i ≠ 32 by omega)]
  have hs : ((kept.drop (8 * i)).take 8).length = 8 := by rw [aBo, aBr]; omega
  have hbs : Bs (dr w') (.slice (some ⟨b, 4 + 8 * i, none⟩) (8 * i + 8 - 8 * i) (32 - 8 * i)) ((kept.drop (8 * i)).take 8) := by
   rw [show 8 * i + 8 - 8 * i = ((kept.drop (8 * i)).take 8).length from by omega]
   refine hod.bs (by omega) fun j hj => ?_
   rw [aCA, SD (by rw [zA]; exact h1) (8 * i + j) (by omega)]
   simp
  refine (Vr _ _ _ hbs (by omega)).mono ?_
  rintro r w1 ⟨rfl, rfl⟩
  simp (disch := omega) only [gI, jD, dJ, stepR_skip, hJ, iC, iM, iP, iL, iO, jJ, iW, gM, iG, iI, iJ, iH, gY, iN, iA, iF, iX, iV, iK, gR, iR, iQ, iE, jW, jV, kH, kC, kG, kF, kI, kE, kD, gD, Result.ok.injEq, Next.value.injEq, true_and, and_true, gX, iB, iU, iT, iS, jI, aA9, gV, gU, gW, gT, gO, gJ, gP, gN, gB, fV, if_true, if_false, aA8, aBc, aBa, aBb, aBe, aBd, aA7, aA6, fQ, fL, fA, fR, cU, eS, eH, dK, bN, fS, fC, aM, dF, aX, bM, bP, aQ, cP, cG, eQ, aF, gS, aI, cK, aT, bV, fT, cI, cJ, aD, gA, fB, aP, aG, bQ, gQ, aK, fH, dT, dP, gG, dA, eU, dI, eF, fG, fF, cF, dC, gK, dO, cB, aS, bU, bT, fN, aE, aH, aN, aY, bF, cN, bK, aA, eY, aL, cL, fJ, fE, gF, bJ, eP, eN, bY, fW, fI, eJ, dH, cO, dB, bD, aZ, aO, fZ, aJ, dE, dQ, bG, cC, fK, dL, gC, fM, eZ, eT, dU, aR, cH, dG, fY, fX, fD, cZ, aW, dV, fU, cR, eX, fP, cD, bO, eD, bB, dX, dW, cM, eL, eK, bE, cY, bA, dR, dY, eE, bL, cS, cQ, dN, bS, cW, cV, fO, bZ, eI, eM, gE, dZ, dS, dM, dD, bH, bR, bX, bW, aU, cX, aV, hod.cell, hc]
  refine (Yh _ _ _).mono ?_
  rintro r w1 ⟨rfl, rfl⟩
  refine JT hod rfl (by rw [uG (by rw [zA]; exact h1) h2]; omega) fun w2 o2 x2 s2 => ?_
  rw [Zf i _ (by rw [zA]; omega), arD vs kept i (by omega)] at o2
  exact ⟨4 - (i + 1), by omega, i + 1, by omega, rfl, rfl, o2, (hx.seq (jN.dr _ _)).seq x2⟩
 .have : i = 4 := by omega
  subst this
  have hd : decide (((4 : Nat) : Int) < 4) = false := by simp
  simp (disch := omega) only [wE, gI, jD, dJ, stepR_skip, hJ, iC, iM, iP, iL, iO, jJ, iW, gM, iG, iI, iJ, iH, gY, iN, iA, iF, iX, iV, iK, gR, iR, iQ, iE, jW, jV, kH, kC, kG, kF, kI, kE, kD, gD, Result.ok.injEq, Next.value.injEq, true_and, and_true, gX, iB, iU, iT, iS, jI, aA9, gV, gU, gW, gT, gO, gJ, gP, gN, gB, fV, if_true, if_false, aA8, aBc, aBa, aBb, aBe, aBd, aA7, aA6, fQ, fL, fA, fR, cU, eS, eH, dK, bN, fS, fC, aM, dF, aX, bM, bP, aQ, cP, cG, eQ, aF, gS, aI, cK, aT, bV, fT, cI, cJ, aD, gA, fB, aP, aG, bQ, gQ, aK, fH, dT, dP, gG, dA, eU, dI, eF, fG, fF, cF, dC, gK, dO, cB, aS, bU, bT, fN, aE, aH, aN, aY, bF, cN, bK, aA, eY, aL, cL, fJ, fE, gF, bJ, eP, eN, bY, fW, fI, eJ, dH, cO, dB, bD, aZ, aO, fZ, aJ, dE, dQ, bG, cC, fK, dL, gC, fM, eZ, eT, dU, aR, cH, dG, fY, fX, fD, cZ, aW, dV, fU, cR, eX, fP, cD, bO, eD, bB, dX, dW, cM, eL, eK, bE, cY, bA, dR, dY, eE, bL, cS, cQ, dN, bS, cW, cV, fO, bZ, eI, eM, gE, dZ, dS, dM, dD, bH, bR, bX, bW, aU, cX, aV, hd]
  exact hR _ ho hx
theorem adN (w0 : aDs) (b : Nat) (L l : List UInt8) (_hlen : L.length + l.length <= 1099511627776) (R : aDs -> Prop)
 (hR : ∀ w', alU w' b (L ++ l) (L.length + l.length) -> jN w0 w' (fun x => x = b) -> R w') (v : aDt) (w : aDs)
 (h : alU w b L (L.length + l.length)) (hv : Bs w v l) (hb : ¬ Mz v (fun x => x = b)) (hx : jN w0 w (fun x => x = b)) :
 Ax R (.pointer (some ⟨b, 0, none⟩)) v w := by
 unfold Ax
 refine kO.rule (fun n t w' => ∃ m : Nat, m <= l.length /\ n = l.length - m /\ Bs w' t (l.drop m) /\ ¬ Mz t (fun x => x = b) /\ alU w' b (L ++ l.take m) (L.length + l.length) /\ jN w0 w' (fun x => x = b)) l.length
  ⟨0, by omega, rfl, hv, hb, by simpa using h, hx⟩ ?_
 rintro n t w' ⟨m, hm, rfl, hv, hb, ⟨kept, h2, hk, ho⟩, hx⟩
 have hv' := hv
 obtain ⟨a, n, c, rfl, hn, hc, hcell⟩ := hv'
 rw [aBf, aBr] at hn
 by_cases hlt : m < l.length
 .obtain ⟨b', o', rfl, hcell'⟩ := hcell (by omega)
  have hd : decide ((0 : Int) < (n : Int)) = true := by simp; omega
  have hM : (L ++ l.take m).length = L.length + m := by simp; omega
  rw [hM] at hk ho
  obtain ⟨q, hq⟩ : ∃ q, q = (L.length + m) / 32 := ⟨_, rfl⟩
  obtain ⟨r, hr⟩ : ∃ r, r = (L.length + m) % 32 := ⟨_, rfl⟩
  rw [<- hq, <- hr] at hk ho
  have hqr : L.length + m = 32 * q + r /\ r < 32 := by omega
  have h1 : (T0 q (L ++ l.take m)).length = 4 := B5 _ _
  have hod := VW ho
  have t1 : (r : Int).toNat = r := by omega
  simp (disch := omega) only [sD, uM, uK, Ap, uJ, wG, vW, BB, tD, gI, jD, dJ, stepR_skip, hJ, iC, iM, iP, iL, iO, jJ, iW, gM, iG, iI, iJ, iH, gY, iN, iA, iF, iX, iV, iK, gR, iR, iQ, iE, jW, jV, kH, kC, kG, kF, kI, kE, kD, gD, Result.ok.injEq, Next.value.injEq, true_and, and_true, gX, iB, iU, iT, iS, jI, aA9, gV, gU, gW, gT, gO, gJ, gP, gN, gB, fV, if_true, if_false, aA8, aBc, aBa, aBb, aBe, aBd, aA7, aA6, fQ, fL, fA, fR, cU, eS, eH, dK, bN, fS, fC, aM, dF, aX, bM, bP, aQ, cP, cG, eQ, aF, gS, aI, cK, aT, bV, fT, cI, cJ, aD, gA, fB, aP, aG, bQ, gQ, aK, fH, dT, dP, gG, dA, eU, dI, eF, fG, fF, cF, dC, gK, dO, cB, aS, bU, bT, fN, aE, aH, aN, aY, bF, cN, bK, aA, eY, aL, cL, fJ, fE, gF, bJ, eP, eN, bY, fW, fI, eJ, dH, cO, dB, bD, aZ, aO, fZ, aJ, dE, dQ, bG, cC, fK, dL, gC, fM, eZ, eT, dU, aR, cH, dG, fY, fX, fD, cZ, aW, dV, fU, cR, eX, fP, cD, bO, eD, bB, dX, dW, cM, eL, eK, bE, cY, bA, dR, dY, eE, bL, cS, cQ, dN, bS, cW, cV, fO, bZ, eI, eM, gE, dZ, dS, dM, dD, bH, bR, bX, bW, aU, cX, aV, hd, hod.cell, Mj h1 h2, Va (show r ≠ 32 by omega)]
  have hvd : Bs (dr w') (.slice (some ⟨b', o', none⟩) n c) (l.drop m) := hv.ext (jN.dr w' mC) (by unfold Mz mC; split <;> simp)
  refine Tt hod (by rw [uG h1 h2]; omega) hvd (F6 _) fun w1 o1 x1 s1 => ?_
  obtain ⟨u, hu⟩ : ∃ u, u = min n (32 - r) := ⟨_, rfl⟩
  have hlm : (List.map nR (l.drop m)).length = n := by rw [aBf, aBr, hn]
  rw [hlm] at o1 ⊢
  rw [<- hu] at o1 ⊢
  have hu1 : u <= n /\ u <= 32 - r /\ (u = n ∨ u = 32 - r) := by omega
  have hul : ((l.drop m).take u).length = u := by rw [aBo, aBr]; omega
  rw [<- aCO, ZI h1 _ _ _ (by omega)] at o1
  obtain ⟨kept1, hk1⟩ : ∃ x, x = PB kept r ((l.drop m).take u) := ⟨_, rfl⟩
  rw [<- hk1] at o1
  have h21 : kept1.length = 32 := by rw [hk1, aaX (by omega)]; exact h2
  simp (disch := omega) only [gI, jD, dJ, stepR_skip, hJ, iC, iM, iP, iL, iO, jJ, iW, gM, iG, iI, iJ, iH, gY, iN, iA, iF, iX, iV, iK, gR, iR, iQ, iE, jW, jV, kH, kC, kG, kF, kI, kE, kD, gD, Result.ok.injEq, Next.value.injEq, true_and, and_true, gX, iB, iU, iT, iS, jI, aA9, gV, gU, gW, gT, gO, gJ, gP, gN, gB, fV, if_true, if_false, aA8, aBc, aBa, aBb, aBe, aBd, aA7, aA6, fQ, fL, fA, fR, cU, eS, eH, dK, bN, fS, fC, aM, dF, aX, bM, bP, aQ, cP, cG, eQ, aF, gS, aI, cK, aT, bV, fT, cI, cJ, aD, gA, fB, aP, aG, bQ, gQ, aK, fH, dT, dP, gG, dA, eU, dI, eF, fG, fF, cF, dC, gK, dO, cB, aS, bU, bT, fN, aE, aH, aN, aY, bF, cN, bK, aA, eY, aL, cL, fJ, fE, gF, bJ, eP, eN, bY, fW, fI, eJ, dH, cO, dB, bD, aZ, aO, fZ, aJ, dE, dQ, bG, cC, fK, dL, gC, fM, eZ, eT, dU, aR, cH, dG, fY, fX, fD, cZ, aW, dV, fU, cR, eX, fP, cD, bO, eD, bB, dX, dW, cM, eL, eK, bE, cY, bA, dR, dY, eE, bL, cS, cQ, dN, bS, cW, cV, fO, bZ, eI, eM, gE, dZ, dS, dM, dD, bH, bR, bX, bW, aU, cX, aV, o1.cell, Mj h1 h21]
  refine LA o1 rfl (by rw [uG h1 h21]; omega) fun w2 o2 x2 s2 => ?_
  rw [<- Int.natCast_add, QU h1 h21] at o2
  have hx2 : jN w' w2 (fun x => x = b) := ((jN.dr w' _).seq x1).seq x2
  have hv2 := hv.ext hx2 hb
  have hv3 := hv2.drop hu1.1
  have hb3 := amV (k := u) hb (by omega) (n - u)
  rw [<- aC4, aCo] at hv3
  have hM2 : L ++ l.take (m + u) = (L ++ l.take m) ++ (l.drop m).take u := by rw [aBy, List.take_add]
  have hacc : T0 q (L ++ l.take (m + u)) = T0 q (L ++ l.take m) := by rw [hM2]; exact Y3 _ _ _ (by omega)
  have hlen2 : (L ++ l.take (m + u)).length = L.length + (m + u) := by simp; omega
  have hkeep : kept1.take (r + u) = (L ++ l.take (m + u)).drop (32 * q) := by
   rw [hk1, hM2, aCV (by omega), <- hk]
   unfold PB
   rw [aCb (by simp; omega), aBp (by simp; omega)]
  rw [<- hacc] at o2
  simp (disch := omega) only [gI, jD, dJ, stepR_skip, hJ, iC, iM, iP, iL, iO, jJ, iW, gM, iG, iI, iJ, iH, gY, iN, iA, iF, iX, iV, iK, gR, iR, iQ, iE, jW, jV, kH, kC, kG, kF, kI, kE, kD, gD, Result.ok.injEq, Next.value.injEq, true_and, and_true, gX, iB, iU, iT, iS, jI, aA9, gV, gU, gW, gT, gO, gJ, gP, gN, gB, fV, if_true, if_false, aA8, aBc, aBa, aBb, aBe, aBd, aA7, aA6, fQ, fL, fA, fR, cU, eS, eH, dK, bN, fS, fC, aM, dF, aX, bM, bP, aQ, cP, cG, eQ, aF, gS, aI, cK, aT, bV, fT, cI, cJ, aD, gA, fB, aP, aG, bQ, gQ, aK, fH, dT, dP, gG, dA, eU, dI, eF, fG, fF, cF, dC, gK, dO, cB, aS, bU, bT, fN, aE, aH, aN, aY, bF, cN, bK, aA, eY, aL, cL, fJ, fE, gF, bJ, eP, eN, bY, fW, fI, eJ, dH, cO, dB, bD, aZ, aO, fZ, aJ, dE, dQ, bG, cC, fK, dL, gC, fM, eZ, eT, dU, aR, cH, dG, fY, fX, fD, cZ, aW, dV, fU, cR, eX, fP, cD, bO, eD, bB, dX, dW, cM, eL, eK, bE, cY, bA, dR, dY, eE, bL, cS, cQ, dN, bS, cW, cV, fO, bZ, eI, eM, gE, dZ, dS, dM, dD, bH, bR, bX, bW, aU, cX, aV, o2.cell, Mj (B5 _ _) h21]
  by_cases hfull : r + u = 32
  .have he : (((r + u : Nat) : Int) == 32) = true := by rw [hfull] <;> rfl
   rw [he]
   simp (disch := omega) only [gI, jD, dJ, stepR_skip, hJ, iC, iM, iP, iL, iO, jJ, iW, gM, iG, iI, iJ, iH, gY, iN, iA, iF, iX, iV, iK, gR, iR, iQ, iE, jW, jV, kH, kC, kG, kF, kI, kE, kD, gD, Result.ok.injEq, Next.value.injEq, true_and, and_true, gX, iB, iU, iT, iS, jI, aA9, gV, gU, gW, gT, gO, gJ, gP, gN, gB, fV, if_true, if_false, aA8, aBc, aBa, aBb, aBe, aBd, aA7, aA6, fQ, fL, fA, fR, cU, eS, eH, dK, bN, fS, fC, aM, dF, aX, bM, bP, aQ, cP, cG, eQ, aF, gS, aI, cK, aT, bV, fT, cI, cJ, aD, gA, fB, aP, aG, bQ, gQ, aK, fH, dT, dP, gG, dA, eU, dI, eF, fG, fF, cF, dC, gK, dO, cB, aS, bU, bT, fN, aE, aH, aN, aY, bF, cN, bK, aA, eY, aL, cL, fJ, fE, gF, bJ, eP, eN, bY, fW, fI, eJ, dH, cO, dB, bD, aZ, aO, fZ, aJ, dE, dQ, bG, cC, fK, dL, gC, fM, eZ, eT, dU, aR, cH, dG, fY, fX, fD, cZ, aW, dV, fU, cR, eX, fP, cD, bO, eD, bB, dX, dW, cM, eL, eK, bE, cY, bA, dR, dY, eE, bL, cS, cQ, dN, bS, cW, cV, fO, bZ, eI, eM, gE, dZ, dS, dM, dD, bH, bR, bX, bW, aU, cX, aV]
   rw [hfull] at o2 hkeep
   have h11 := B5 q (L ++ l.take (m + u))
   refine aeI w2 b _ kept1 _ h11 h21 _ _ (fun w3 o3 x3 => ?_) w2 o2 (jN.refl _ _)
   have h13 : (Tn (T0 q (L ++ l.take (m + u))) kept1 4).length = 4 := by rw [zA]; exact h11
   simp (disch := omega) only [sD, uM, uK, Ap, uJ, wG, vW, BB, tD, gI, jD, dJ, stepR_skip, hJ, iC, iM, iP, iL, iO, jJ, iW, gM, iG, iI, iJ, iH, gY, iN, iA, iF, iX, iV, iK, gR, iR, iQ, iE, jW, jV, kH, kC, kG, kF, kI, kE, kD, gD, Result.ok.injEq, Next.value.injEq, true_and, and_true, gX, iB, iU, iT, iS, jI, aA9, gV, gU, gW, gT, gO, gJ, gP, gN, gB, fV, if_true, if_false, aA8, aBc, aBa, aBb, aBe, aBd, aA7, aA6, fQ, fL, fA, fR, cU, eS, eH, dK, bN, fS, fC, aM, dF, aX, bM, bP, aQ, cP, cG, eQ, aF, gS, aI, cK, aT, bV, fT, cI, cJ, aD, gA, fB, aP, aG, bQ, gQ, aK, fH, dT, dP, gG, dA, eU, dI, eF, fG, fF, cF, dC, gK, dO, cB, aS, bU, bT, fN, aE, aH, aN, aY, bF, cN, bK, aA, eY, aL, cL, fJ, fE, gF, bJ, eP, eN, bY, fW, fI, eJ, dH, cO, dB, bD, aZ, aO, fZ, aJ, dE, dQ, bG, cC, fK, dL, gC, fM, eZ, eT, dU, aR, cH, dG, fY, fX, fD, cZ, aW, dV, fU, cR, eX, fP, cD, bO, eD, bB, dX, dW, cM, eL, eK, bE, cY, bA, dR, dY, eE, bL, cS, cQ, dN, bS, cW, cV, fO, bZ, eI, eM, gE, dZ, dS, dM, dD, bH, bR, bX, bW, aU, cX, aV]
   refine LA o3 rfl (by rw [uG h13 h21]; omega) fun w4 o4 x4 s4 => ?_
   have o4 : lN w4 b ((lS (Tn (T0 q (L ++ l.take (m + u))) kept1 4) kept1 32 (L.length + l.length)).set 36 (.int .i64 ((0 : Nat) : Int))) := o4
   rw [QU h13 h21] at o4
   have hx4 := x3.seq x4
   have hkk : kept1 = (L ++ l.take (m + u)).drop (32 * q) := by rw [<- hkeep, aBp (by omega)]
   refine ⟨l.length - (m + u), by omega, m + u, by omega, rfl, hv3.ext hx4 hb3, hb3, ⟨kept1, h21, ?_, ?_⟩, (hx.seq hx2).seq hx4⟩
   .have z : (L ++ l.take (m + u)).drop (32 * ((L.length + (m + u)) / 32)) = [] := aCU (by rw [hlen2]; omega)
    have z1 : (L.length + (m + u)) % 32 = 0 := by omega
    rw [hlen2, z, z1] <;> rfl
   .have z1 : (L.length + (m + u)) % 32 = 0 := by omega
    have z2 : (L.length + (m + u)) / 32 = q + 1 := by omega
    have z3 : kept1.take 32 = kept1 := aBp (by omega)
    rw [hlen2, z1, z2, T0, <- hkk, z3]
    exact o4
  .have he : (((r + u : Nat) : Int) == 32) = false := by rw [beq_eq_false_iff_ne]; omega
   rw [he]
   simp (disch := omega) only [gI, jD, dJ, stepR_skip, hJ, iC, iM, iP, iL, iO, jJ, iW, gM, iG, iI, iJ, iH, gY, iN, iA, iF, iX, iV, iK, gR, iR, iQ, iE, jW, jV, kH, kC, kG, kF, kI, kE, kD, gD, Result.ok.injEq, Next.value.injEq, true_and, and_true, gX, iB, iU, iT, iS, jI, aA9, gV, gU, gW, gT, gO, gJ, gP, gN, gB, fV, if_true, if_false, aA8, aBc, aBa, aBb, aBe, aBd, aA7, aA6, fQ, fL, fA, fR, cU, eS, eH, dK, bN, fS, fC, aM, dF, aX, bM, bP, aQ, cP, cG, eQ, aF, gS, aI, cK, aT, bV, fT, cI, cJ, aD, gA, fB, aP, aG, bQ, gQ, aK, fH, dT, dP, gG, dA, eU, dI, eF, fG, fF, cF, dC, gK, dO, cB, aS, bU, bT, fN, aE, aH, aN, aY, bF, cN, bK, aA, eY, aL, cL, fJ, fE, gF, bJ, eP, eN, bY, fW, fI, eJ, dH, cO, dB, bD, aZ, aO, fZ, aJ, dE, dQ, bG, cC, fK, dL, gC, fM, eZ, eT, dU, aR, cH, dG, fY, fX, fD, cZ, aW, dV, fU, cR, eX, fP, cD, bO, eD, bB, dX, dW, cM, eL, eK, bE, cY, bA, dR, dY, eE, bL, cS, cQ, dN, bS, cW, cV, fO, bZ, eI, eM, gE, dZ, dS, dM, dD, bH, bR, bX, bW, aU, cX, aV]
   refine ⟨l.length - (m + u), by omega, m + u, by omega, rfl, hv3, hb3, ⟨kept1, h21, ?_, ?_⟩, hx.seq hx2⟩
   .rw [hlen2, show (L.length + (m + u)) % 32 = r + u from by omega, show (L.length + (m + u)) / 32 = q from by omega]; exact hkeep
   .rw [hlen2, show (L.length + (m + u)) % 32 = r + u from by omega, show (L.length + (m + u)) / 32 = q from by omega]; exact o2
 .have hd : decide ((0 : Int) < (n : Int)) = false := by simp; omega
  simp (disch := omega) only [sD, uM, uK, Ap, uJ, wG, vW, BB, tD, gI, jD, dJ, stepR_skip, hJ, iC, iM, iP, iL, iO, jJ, iW, gM, iG, iI, iJ, iH, gY, iN, iA, iF, iX, iV, iK, gR, iR, iQ, iE, jW, jV, kH, kC, kG, kF, kI, kE, kD, gD, Result.ok.injEq, Next.value.injEq, true_and, and_true, gX, iB, iU, iT, iS, jI, aA9, gV, gU, gW, gT, gO, gJ, gP, gN, gB, fV, if_true, if_false, aA8, aBc, aBa, aBb, aBe, aBd, aA7, aA6, fQ, fL, fA, fR, cU, eS, eH, dK, bN, fS, fC, aM, dF, aX, bM, bP, aQ, cP, cG, eQ, aF, gS, aI, cK, aT, bV, fT, cI, cJ, aD, gA, fB, aP, aG, bQ, gQ, aK, fH, dT, dP, gG, dA, eU, dI, eF, fG, fF, cF, dC, gK, dO, cB, aS, bU, bT, fN, aE, aH, aN, aY, bF, cN, bK, aA, eY, aL, cL, fJ, fE, gF, bJ, eP, eN, bY, fW, fI, eJ, dH, cO, dB, bD, aZ, aO, fZ, aJ, dE, dQ, bG, cC, fK, dL, gC, fM, eZ, eT, dU, aR, cH, dG, fY, fX, fD, cZ, aW, dV, fU, cR, eX, fP, cD, bO, eD, bB, dX, dW, cM, eL, eK, bE, cY, bA, dR, dY, eE, bL, cS, cQ, dN, bS, cW, cV, fO, bZ, eI, eM, gE, dZ, dS, dM, dD, bH, bR, bX, bW, aU, cX, aV, hd]
  refine hR _ ⟨kept, h2, ?_, ?_⟩ hx
  .have e : l.take m = l := aBp (by omega)
   rw [e] at hk; exact hk
  .have e : l.take m = l := aBp (by omega)
   rw [e] at ho; exact ho
theorem aoE (b : Nat) (L l : List UInt8) (hlen : L.length + l.length <= 1099511627776) (v : aDt) (w : aDs) (h : XJ w b L) (hv : Bs w v l) (hb : ¬ Mz v (fun x => x = b)) :
 jE pg Ct #[.pointer (some ⟨b, 0, none⟩), v] w (fun r w' => r = .tuple #[] /\ XJ w' b (L ++ l) /\ jN w w' (fun x => x = b)) := by
 refine Un ?_
 obtain ⟨kept, h2, hk, ho⟩ := h
 have h1 := B5 (L.length / 32) L
 have hv' := hv
 obtain ⟨a, n, c, rfl, hn, hc, hcell⟩ := hv'
 rw [aBf] at hn
 simp (disch := omega) only [Sp, Ew, Ey, ER, gI, jD, dJ, stepR_skip, hJ, iC, iM, iP, iL, iO, jJ, iW, gM, iG, iI, iJ, iH, gY, iN, iA, iF, iX, iV, iK, gR, iR, iQ, iE, jW, jV, kH, kC, kG, kF, kI, kE, kD, gD, Result.ok.injEq, Next.value.injEq, true_and, and_true, gX, iB, iU, iT, iS, jI, aA9, gV, gU, gW, gT, gO, gJ, gP, gN, gB, fV, if_true, if_false, aA8, aBc, aBa, aBb, aBe, aBd, aA7, aA6, fQ, fL, fA, fR, cU, eS, eH, dK, bN, fS, fC, aM, dF, aX, bM, bP, aQ, cP, cG, eQ, aF, gS, aI, cK, aT, bV, fT, cI, cJ, aD, gA, fB, aP, aG, bQ, gQ, aK, fH, dT, dP, gG, dA, eU, dI, eF, fG, fF, cF, dC, gK, dO, cB, aS, bU, bT, fN, aE, aH, aN, aY, bF, cN, bK, aA, eY, aL, cL, fJ, fE, gF, bJ, eP, eN, bY, fW, fI, eJ, dH, cO, dB, bD, aZ, aO, fZ, aJ, dE, dQ, bG, cC, fK, dL, gC, fM, eZ, eT, dU, aR, cH, dG, fY, fX, fD, cZ, aW, dV, fU, cR, eX, fP, cD, bO, eD, bB, dX, dW, cM, eL, eK, bE, cY, bA, dR, dY, eE, bL, cS, cQ, dN, bS, cW, cV, fO, bZ, eI, eM, gE, dZ, dS, dM, dD, bH, bR, bX, bW, aU, cX, aV, ho.cell, Ii h1 h2]
 refine JT ho rfl (by rw [uG h1 h2]; omega) fun w1 o1 x1 s1 => ?_
 rw [<- Int.natCast_add, hn, Wq h1 h2] at o1
 refine adN w b L l hlen _ (fun w' hh hx => ⟨?_, hx⟩) _ w1 ⟨kept, h2, hk, o1⟩ (hv.ext x1 hb) hb x1
 unfold XJ; rw [aBg]; exact hh
def jA (vs : List Int) : Nat -> Int
 | 0 => 0
 | i + 1 => IntKind.u64.wrap (jA vs i + akD (vs.getD i 0) ([1, 7, 12, 18].getD i 0))
def jB (vs : List Int) : Nat -> Int
 | 0 => jA vs 4
 | i + 1 => IntKind.u64.wrap (IntKind.u64.wrap (Vt .u64 (jB vs i) (amD 0 (vs.getD i 0)) * 11400714785074694791) + 9650029242287828579)
def aeW (L : List UInt8) : Int := if L.length < 32 then 2870177450012600261 else jB (T0 (L.length / 32) L) 4
def aqE (x : Int) : Int :=
 let y1 := IntKind.u64.wrap (Vt .u64 x (x.fdiv (2 ^ min (33 : Int).toNat IntKind.u64.bits)) * 14029467366897019727)
 let y2 := IntKind.u64.wrap (Vt .u64 y1 (y1.fdiv (2 ^ min (29 : Int).toNat IntKind.u64.bits)) * 1609587929392839161)
 Vt .u64 y2 (y2.fdiv (2 ^ min (32 : Int).toNat IntKind.u64.bits))
def alJ (x m : Int) : Int := IntKind.u64.wrap (IntKind.u64.wrap (akD (Vt .u64 x (amD 0 m)) 27 * 11400714785074694791) + 9650029242287828579)
def awE (x m : Int) : Int := IntKind.u64.wrap (IntKind.u64.wrap (akD (Vt .u64 x (IntKind.u64.wrap (m * 11400714785074694791))) 23 * 14029467366897019727) + 1609587929392839161)
def azX (x : Int) (c : UInt8) : Int := IntKind.u64.wrap (akD (Vt .u64 x (IntKind.u64.wrap ((c.toNat : Int) * 2870177450012600261))) 11 * 11400714785074694791)
def e8 (x : Int) (B : List UInt8) : Nat -> Int
 | 0 => x
 | j + 1 => alJ (e8 x B j) (GZ ((B.drop (8 * j)).take 8))
def e1 (x : Int) (B : List UInt8) : Nat -> Int
 | 0 => x
 | j + 1 => azX (e1 x B j) (B.getD j 0)
def XE (x : Int) (C : List UInt8) : Int × List UInt8 := if 4 <= C.length then (awE x (GZ (C.take 4)), C.drop 4) else (x, C)
def asX (x : Int) (B : List UInt8) : Int :=
 let r := XE (e8 x B (B.length / 8)) (B.drop (8 * (B.length / 8)))
 e1 r.1 r.2 r.2.length
def XXH (L : List UInt8) : Int := aqE (asX (IntKind.u64.wrap (aeW L + (L.length : Int))) (L.drop (32 * (L.length / 32))))
theorem aiN (b : Nat) (L : List UInt8) (hlen : L.length <= 1099511627776) (w : aDs) (h : XJ w b L) :
 jE pg BD #[.pointer (some ⟨b, 0, none⟩)] w (fun r w' => r = .int .u64 (aeW L) /\ w' = w) := by
 refine Tb ?_
 obtain ⟨kept, h2, hk, ho⟩ := h
 have h1 := B5 (L.length / 32) L
 by_cases hs : L.length < 32
 .have hd : decide ((L.length : Int) < 32) = true := by simp; omega
  simp (disch := omega) only [Ji, wU, wY, gI, jD, dJ, stepR_skip, hJ, iC, iM, iP, iL, iO, jJ, iW, gM, iG, iI, iJ, iH, gY, iN, iA, iF, iX, iV, iK, gR, iR, iQ, iE, jW, jV, kH, kC, kG, kF, kI, kE, kD, gD, Result.ok.injEq, Next.value.injEq, true_and, and_true, gX, iB, iU, iT, iS, jI, aA9, gV, gU, gW, gT, gO, gJ, gP, gN, gB, fV, if_true, if_false, aA8, aBc, aBa, aBb, aBe, aBd, aA7, aA6, fQ, fL, fA, fR, cU, eS, eH, dK, bN, fS, fC, aM, dF, aX, bM, bP, aQ, cP, cG, eQ, aF, gS, aI, cK, aT, bV, fT, cI, cJ, aD, gA, fB, aP, aG, bQ, gQ, aK, fH, dT, dP, gG, dA, eU, dI, eF, fG, fF, cF, dC, gK, dO, cB, aS, bU, bT, fN, aE, aH, aN, aY, bF, cN, bK, aA, eY, aL, cL, fJ, fE, gF, bJ, eP, eN, bY, fW, fI, eJ, dH, cO, dB, bD, aZ, aO, fZ, aJ, dE, dQ, bG, cC, fK, dL, gC, fM, eZ, eT, dU, aR, cH, dG, fY, fX, fD, cZ, aW, dV, fU, cR, eX, fP, cD, bO, eD, bB, dX, dW, cM, eL, eK, bE, cY, bA, dR, dY, eE, bL, cS, cQ, dN, bS, cW, cV, fO, bZ, eI, eM, gE, dZ, dS, dM, dD, bH, bR, bX, bW, aU, cX, aV, ho.cell, Ii h1 h2, hd, aeW, hs]
 .have hd : decide ((L.length : Int) < 32) = false := by simp; omega
  obtain ⟨vs, hvs⟩ : ∃ vs, vs = T0 (L.length / 32) L := ⟨_, rfl⟩
  have hH : aeW L = jB vs 4 := by rw [hvs]; unfold aeW; rw [if_neg hs]
  rw [hH]
  rw [<- hvs] at ho h1
  clear hvs hH
  simp (disch := omega) only [Ji, Ay, EU, El, EN, Eo, Et, EH, DA, Dw, C5, Dx, wY, wU, gI, jD, dJ, stepR_skip, hJ, iC, iM, iP, iL, iO, jJ, iW, gM, iG, iI, iJ, iH, gY, iN, iA, iF, iX, iV, iK, gR, iR, iQ, iE, jW, jV, kH, kC, kG, kF, kI, kE, kD, gD, Result.ok.injEq, Next.value.injEq, true_and, and_true, gX, iB, iU, iT, iS, jI, aA9, gV, gU, gW, gT, gO, gJ, gP, gN, gB, fV, if_true, if_false, aA8, aBc, aBa, aBb, aBe, aBd, aA7, aA6, fQ, fL, fA, fR, cU, eS, eH, dK, bN, fS, fC, aM, dF, aX, bM, bP, aQ, cP, cG, eQ, aF, gS, aI, cK, aT, bV, fT, cI, cJ, aD, gA, fB, aP, aG, bQ, gQ, aK, fH, dT, dP, gG, dA, eU, dI, eF, fG, fF, cF, dC, gK, dO, cB, aS, bU, bT, fN, aE, aH, aN, aY, bF, cN, bK, aA, eY, aL, cL, fJ, fE, gF, bJ, eP, eN, bY, fW, fI, eJ, dH, cO, dB, bD, aZ, aO, fZ, aJ, dE, dQ, bG, cC, fK, dL, gC, fM, eZ, eT, dU, aR, cH, dG, fY, fX, fD, cZ, aW, dV, fU, cR, eX, fP, cD, bO, eD, bB, dX, dW, cM, eL, eK, bE, cY, bA, dR, dY, eE, bL, cS, cQ, dN, bS, cW, cV, fO, bZ, eI, eM, gE, dZ, dS, dM, dD, bH, bR, bX, bW, aU, cX, aV, ho.cell, Ii h1 h2, hd]
  refine kO.rule (fun n t w' => ∃ i : Nat, i <= 4 /\ n = 4 - i /\ t = (.int .u64 (jA vs i), .int .i64 (i : Int)) /\ w' = w) 4 ⟨0, by omega, rfl, rfl, rfl⟩ ?_
  rintro n t w' ⟨i, hi, rfl, rfl, rfl⟩
  by_cases hlt : i < 4
  .have hd : decide ((i : Int) < 4) = true := by simp; omega
   have hv := YP (vs := vs) (kept := kept) (n := L.length % 32) (all := L.length) i (by omega)
   have hg : (#[Value.int .i64 1, .int .i64 7, .int .i64 12, .int .i64 18] : Array aDt)[i]? = some (.int .i64 (([1, 7, 12, 18].getD i 0 : Nat) : Int)) := by
    have : i = 0 ∨ i = 1 ∨ i = 2 ∨ i = 3 := by omega
    rcases this with rfl | rfl | rfl | rfl <;> rfl
   have ht : [1, 7, 12, 18].getD i 0 < 64 := by
    have : i = 0 ∨ i = 1 ∨ i = 2 ∨ i = 3 := by omega
    rcases this with rfl | rfl | rfl | rfl <;> decide
   simp (disch := omega) only [uL, gI, jD, dJ, stepR_skip, hJ, iC, iM, iP, iL, iO, jJ, iW, gM, iG, iI, iJ, iH, gY, iN, iA, iF, iX, iV, iK, gR, iR, iQ, iE, jW, jV, kH, kC, kG, kF, kI, kE, kD, gD, Result.ok.injEq, Next.value.injEq, true_and, and_true, gX, iB, iU, iT, iS, jI, aA9, gV, gU, gW, gT, gO, gJ, gP, gN, gB, fV, if_true, if_false, aA8, aBc, aBa, aBb, aBe, aBd, aA7, aA6, fQ, fL, fA, fR, cU, eS, eH, dK, bN, fS, fC, aM, dF, aX, bM, bP, aQ, cP, cG, eQ, aF, gS, aI, cK, aT, bV, fT, cI, cJ, aD, gA, fB, aP, aG, bQ, gQ, aK, fH, dT, dP, gG, dA, eU, dI, eF, fG, fF, cF, dC, gK, dO, cB, aS, bU, bT, fN, aE, aH, aN, aY, bF, cN, bK, aA, eY, aL, cL, fJ, fE, gF, bJ, eP, eN, bY, fW, fI, eJ, dH, cO, dB, bD, aZ, aO, fZ, aJ, dE, dQ, bG, cC, fK, dL, gC, fM, eZ, eT, dU, aR, cH, dG, fY, fX, fD, cZ, aW, dV, fU, cR, eX, fP, cD, bO, eD, bB, dX, dW, cM, eL, eK, bE, cY, bA, dR, dY, eE, bL, cS, cQ, dN, bS, cW, cV, fO, bZ, eI, eM, gE, dZ, dS, dM, dD, bH, bR, bX, bW, aU, cX, aV, hd, hg, ho.cell, hv]
   refine (V4 _ _ ht _).mono ?_
   rintro r w1 ⟨rfl, rfl⟩
   simp (disch := omega) only [gI, jD, dJ, stepR_skip, hJ, iC, iM, iP, iL, iO, jJ, iW, gM, iG, iI, iJ, iH, gY, iN, iA, iF, iX, iV, iK, gR, iR, iQ, iE, jW, jV, kH, kC, kG, kF, kI, kE, kD, gD, Result.ok.injEq, Next.value.injEq, true_and, and_true, gX, iB, iU, iT, iS, jI, aA9, gV, gU, gW, gT, gO, gJ, gP, gN, gB, fV, if_true, if_false, aA8, aBc, aBa, aBb, aBe, aBd, aA7, aA6, fQ, fL, fA, fR, cU, eS, eH, dK, bN, fS, fC, aM, dF, aX, bM, bP, aQ, cP, cG, eQ, aF, gS, aI, cK, aT, bV, fT, cI, cJ, aD, gA, fB, aP, aG, bQ, gQ, aK, fH, dT, dP, gG, dA, eU, dI, eF, fG, fF, cF, dC, gK, dO, cB, aS, bU, bT, fN, aE, aH, aN, aY, bF, cN, bK, aA, eY, aL, cL, fJ, fE, gF, bJ, eP, eN, bY, fW, fI, eJ, dH, cO, dB, bD, aZ, aO, fZ, aJ, dE, dQ, bG, cC, fK, dL, gC, fM, eZ, eT, dU, aR, cH, dG, fY, fX, fD, cZ, aW, dV, fU, cR, eX, fP, cD, bO, eD, bB, dX, dW, cM, eL, eK, bE, cY, bA, dR, dY, eE, bL, cS, cQ, dN, bS, cW, cV, fO, bZ, eI, eM, gE, dZ, dS, dM, dD, bH, bR, bX, bW, aU, cX, aV]
   refine ⟨4 - (i + 1), by omega, i + 1, by omega, rfl, ?_⟩
   have hvd : vs.getD i 0 = vs[i]'(by omega) := by rw [aBi, aBh (by omega)] <;> rfl
   rw [jA, hvd]
   rfl
  .have : i = 4 := by omega
   subst this
   have hd : decide (((4 : Nat) : Int) < 4) = false := by simp
   have ha := aaT (off := 0) ho (by rw [uG h1 h2]; omega)
   have hb : ((lS vs kept (L.length % 32) L.length).drop 0).take 4 = vs.map (Value.int .u64) := by
    rw [aBB]; unfold lS; rw [aCb (by simp; omega), aBp (by simp; omega)]
   rw [hb] at ha
   simp (disch := omega) only [uL, gI, jD, dJ, stepR_skip, hJ, iC, iM, iP, iL, iO, jJ, iW, gM, iG, iI, iJ, iH, gY, iN, iA, iF, iX, iV, iK, gR, iR, iQ, iE, jW, jV, kH, kC, kG, kF, kI, kE, kD, gD, Result.ok.injEq, Next.value.injEq, true_and, and_true, gX, iB, iU, iT, iS, jI, aA9, gV, gU, gW, gT, gO, gJ, gP, gN, gB, fV, if_true, if_false, aA8, aBc, aBa, aBb, aBe, aBd, aA7, aA6, fQ, fL, fA, fR, cU, eS, eH, dK, bN, fS, fC, aM, dF, aX, bM, bP, aQ, cP, cG, eQ, aF, gS, aI, cK, aT, bV, fT, cI, cJ, aD, gA, fB, aP, aG, bQ, gQ, aK, fH, dT, dP, gG, dA, eU, dI, eF, fG, fF, cF, dC, gK, dO, cB, aS, bU, bT, fN, aE, aH, aN, aY, bF, cN, bK, aA, eY, aL, cL, fJ, fE, gF, bJ, eP, eN, bY, fW, fI, eJ, dH, cO, dB, bD, aZ, aO, fZ, aJ, dE, dQ, bG, cC, fK, dL, gC, fM, eZ, eT, dU, aR, cH, dG, fY, fX, fD, cZ, aW, dV, fU, cR, eX, fP, cD, bO, eD, bB, dX, dW, cM, eL, eK, bE, cY, bA, dR, dY, eE, bL, cS, cQ, dN, bS, cW, cV, fO, bZ, eI, eM, gE, dZ, dS, dM, dD, bH, bR, bX, bW, aU, cX, aV, hd, ha]
   refine kO.rule (fun n t w2 => ∃ i : Nat, i <= 4 /\ n = 4 - i /\ t = (.int .u64 (jB vs i), .int .i64 (i : Int)) /\ w2 = w') 4 ⟨0, by omega, rfl, rfl, rfl⟩ ?_
   rintro n t w2 ⟨i, hi, rfl, rfl, rfl⟩
   by_cases hlt : i < 4
   .have hd : decide ((i : Int) < 4) = true := by simp; omega
    have hg : ((vs.map (Value.int .u64)).toArray)[i]? = some (.int .u64 (vs[i]'(by omega))) := by simp [show i < vs.length by omega]
    simp (disch := omega) only [uP, gI, jD, dJ, stepR_skip, hJ, iC, iM, iP, iL, iO, jJ, iW, gM, iG, iI, iJ, iH, gY, iN, iA, iF, iX, iV, iK, gR, iR, iQ, iE, jW, jV, kH, kC, kG, kF, kI, kE, kD, gD, Result.ok.injEq, Next.value.injEq, true_and, and_true, gX, iB, iU, iT, iS, jI, aA9, gV, gU, gW, gT, gO, gJ, gP, gN, gB, fV, if_true, if_false, aA8, aBc, aBa, aBb, aBe, aBd, aA7, aA6, fQ, fL, fA, fR, cU, eS, eH, dK, bN, fS, fC, aM, dF, aX, bM, bP, aQ, cP, cG, eQ, aF, gS, aI, cK, aT, bV, fT, cI, cJ, aD, gA, fB, aP, aG, bQ, gQ, aK, fH, dT, dP, gG, dA, eU, dI, eF, fG, fF, cF, dC, gK, dO, cB, aS, bU, bT, fN, aE, aH, aN, aY, bF, cN, bK, aA, eY, aL, cL, fJ, fE, gF, bJ, eP, eN, bY, fW, fI, eJ, dH, cO, dB, bD, aZ, aO, fZ, aJ, dE, dQ, bG, cC, fK, dL, gC, fM, eZ, eT, dU, aR, cH, dG, fY, fX, fD, cZ, aW, dV, fU, cR, eX, fP, cD, bO, eD, bB, dX, dW, cM, eL, eK, bE, cY, bA, dR, dY, eE, bL, cS, cQ, dN, bS, cW, cV, fO, bZ, eI, eM, gE, dZ, dS, dM, dD, bH, bR, bX, bW, aU, cX, aV, hd, hg]
    refine (Yh _ _ _).mono ?_
    rintro r w1 ⟨rfl, rfl⟩
    simp (disch := omega) only [gI, jD, dJ, stepR_skip, hJ, iC, iM, iP, iL, iO, jJ, iW, gM, iG, iI, iJ, iH, gY, iN, iA, iF, iX, iV, iK, gR, iR, iQ, iE, jW, jV, kH, kC, kG, kF, kI, kE, kD, gD, Result.ok.injEq, Next.value.injEq, true_and, and_true, gX, iB, iU, iT, iS, jI, aA9, gV, gU, gW, gT, gO, gJ, gP, gN, gB, fV, if_true, if_false, aA8, aBc, aBa, aBb, aBe, aBd, aA7, aA6, fQ, fL, fA, fR, cU, eS, eH, dK, bN, fS, fC, aM, dF, aX, bM, bP, aQ, cP, cG, eQ, aF, gS, aI, cK, aT, bV, fT, cI, cJ, aD, gA, fB, aP, aG, bQ, gQ, aK, fH, dT, dP, gG, dA, eU, dI, eF, fG, fF, cF, dC, gK, dO, cB, aS, bU, bT, fN, aE, aH, aN, aY, bF, cN, bK, aA, eY, aL, cL, fJ, fE, gF, bJ, eP, eN, bY, fW, fI, eJ, dH, cO, dB, bD, aZ, aO, fZ, aJ, dE, dQ, bG, cC, fK, dL, gC, fM, eZ, eT, dU, aR, cH, dG, fY, fX, fD, cZ, aW, dV, fU, cR, eX, fP, cD, bO, eD, bB, dX, dW, cM, eL, eK, bE, cY, bA, dR, dY, eE, bL, cS, cQ, dN, bS, cW, cV, fO, bZ, eI, eM, gE, dZ, dS, dM, dD, bH, bR, bX, bW, aU, cX, aV]
    refine ⟨4 - (i + 1), by omega, i + 1, by omega, rfl, ?_⟩
    have hvd : vs.getD i 0 = vs[i]'(by omega) := by rw [aBi, aBh (by omega)] <;> rfl
    rw [jB, hvd]
    rfl
   .have : i = 4 := by omega
    subst this
    have hd : decide (((4 : Nat) : Int) < 4) = false := by simp
    simp (disch := omega) only [uP, gI, jD, dJ, stepR_skip, hJ, iC, iM, iP, iL, iO, jJ, iW, gM, iG, iI, iJ, iH, gY, iN, iA, iF, iX, iV, iK, gR, iR, iQ, iE, jW, jV, kH, kC, kG, kF, kI, kE, kD, gD, Result.ok.injEq, Next.value.injEq, true_and, and_true, gX, iB, iU, iT, iS, jI, aA9, gV, gU, gW, gT, gO, gJ, gP, gN, gB, fV, if_true, if_false, aA8, aBc, aBa, aBb, aBe, aBd, aA7, aA6, fQ, fL, fA, fR, cU, eS, eH, dK, bN, fS, fC, aM, dF, aX, bM, bP, aQ, cP, cG, eQ, aF, gS, aI, cK, aT, bV, fT, cI, cJ, aD, gA, fB, aP, aG, bQ, gQ, aK, fH, dT, dP, gG, dA, eU, dI, eF, fG, fF, cF, dC, gK, dO, cB, aS, bU, bT, fN, aE, aH, aN, aY, bF, cN, bK, aA, eY, aL, cL, fJ, fE, gF, bJ, eP, eN, bY, fW, fI, eJ, dH, cO, dB, bD, aZ, aO, fZ, aJ, dE, dQ, bG, cC, fK, dL, gC, fM, eZ, eT, dU, aR, cH, dG, fY, fX, fD, cZ, aW, dV, fU, cR, eX, fP, cD, bO, eD, bB, dX, dW, cM, eL, eK, bE, cY, bA, dR, dY, eE, bL, cS, cQ, dN, bS, cW, cV, fO, bZ, eI, eM, gE, dZ, dS, dM, dD, bH, bR, bX, bW, aU, cX, aV, hd]
theorem ahL (w : aDs) (R : aDt -> aDs -> Prop) (y : Int) (D : List UInt8) (v : aDt) (hv : Bs w v D) (hD : D.length < 32) (hR : R (.int .u64 (aqE (e1 y D D.length))) w) :
 D9 R (.int .u64 y) v w := by
 have hv' := hv
 obtain ⟨a, n, c, rfl, hn, hc, hcell⟩ := hv'
 rw [aBf] at hn
 simp (disch := omega) only [D9, Jf, Jk, I6, I9, gI, jD, dJ, stepR_skip, hJ, iC, iM, iP, iL, iO, jJ, iW, gM, iG, iI, iJ, iH, gY, iN, iA, iF, iX, iV, iK, gR, iR, iQ, iE, jW, jV, kH, kC, kG, kF, kI, kE, kD, gD, Result.ok.injEq, Next.value.injEq, true_and, and_true, gX, iB, iU, iT, iS, jI, aA9, gV, gU, gW, gT, gO, gJ, gP, gN, gB, fV, if_true, if_false, aA8, aBc, aBa, aBb, aBe, aBd, aA7, aA6, fQ, fL, fA, fR, cU, eS, eH, dK, bN, fS, fC, aM, dF, aX, bM, bP, aQ, cP, cG, eQ, aF, gS, aI, cK, aT, bV, fT, cI, cJ, aD, gA, fB, aP, aG, bQ, gQ, aK, fH, dT, dP, gG, dA, eU, dI, eF, fG, fF, cF, dC, gK, dO, cB, aS, bU, bT, fN, aE, aH, aN, aY, bF, cN, bK, aA, eY, aL, cL, fJ, fE, gF, bJ, eP, eN, bY, fW, fI, eJ, dH, cO, dB, bD, aZ, aO, fZ, aJ, dE, dQ, bG, cC, fK, dL, gC, fM, eZ, eT, dU, aR, cH, dG, fY, fX, fD, cZ, aW, dV, fU, cR, eX, fP, cD, bO, eD, bB, dX, dW, cM, eL, eK, bE, cY, bA, dR, dY, eE, bL, cS, cQ, dN, bS, cW, cV, fO, bZ, eI, eM, gE, dZ, dS, dM, dD, bH, bR, bX, bW, aU, cX, aV]
 refine kO.rule (fun m t w' => ∃ j : Nat, j <= n /\ m = n - j /\ t = (.int .u64 (e1 y D j), .int .i64 (j : Int)) /\ w' = w) n ⟨0, by omega, rfl, rfl, rfl⟩ ?_
 rintro m t w' ⟨j, hj, rfl, rfl, rfl⟩
 by_cases hlt : j < n
 .obtain ⟨b, off, rfl, hcell'⟩ := hcell (by omega)
  have hcl := hcell' j hlt
  rw [aBz, aBh (by omega), aBJ] at hcl
  have hb : (D[j]'(by omega)).toNat < 256 := aCg _
  have hd : decide ((j : Int) < (n : Int)) = true := by simpa using hlt
  simp (disch := omega) only [AJ, gI, jD, dJ, stepR_skip, hJ, iC, iM, iP, iL, iO, jJ, iW, gM, iG, iI, iJ, iH, gY, iN, iA, iF, iX, iV, iK, gR, iR, iQ, iE, jW, jV, kH, kC, kG, kF, kI, kE, kD, gD, Result.ok.injEq, Next.value.injEq, true_and, and_true, gX, iB, iU, iT, iS, jI, aA9, gV, gU, gW, gT, gO, gJ, gP, gN, gB, fV, if_true, if_false, aA8, aBc, aBa, aBb, aBe, aBd, aA7, aA6, fQ, fL, fA, fR, cU, eS, eH, dK, bN, fS, fC, aM, dF, aX, bM, bP, aQ, cP, cG, eQ, aF, gS, aI, cK, aT, bV, fT, cI, cJ, aD, gA, fB, aP, aG, bQ, gQ, aK, fH, dT, dP, gG, dA, eU, dI, eF, fG, fF, cF, dC, gK, dO, cB, aS, bU, bT, fN, aE, aH, aN, aY, bF, cN, bK, aA, eY, aL, cL, fJ, fE, gF, bJ, eP, eN, bY, fW, fI, eJ, dH, cO, dB, bD, aZ, aO, fZ, aJ, dE, dQ, bG, cC, fK, dL, gC, fM, eZ, eT, dU, aR, cH, dG, fY, fX, fD, cZ, aW, dV, fU, cR, eX, fP, cD, bO, eD, bB, dX, dW, cM, eL, eK, bE, cY, bA, dR, dY, eE, bL, cS, cQ, dN, bS, cW, cV, fO, bZ, eI, eM, gE, dZ, dS, dM, dD, bH, bR, bX, bW, aU, cX, aV, hd, hcl, nR]
  refine (V4 _ 11 (by omega) _).mono ?_
  rintro r w1 ⟨rfl, rfl⟩
  simp (disch := omega) only [gI, jD, dJ, stepR_skip, hJ, iC, iM, iP, iL, iO, jJ, iW, gM, iG, iI, iJ, iH, gY, iN, iA, iF, iX, iV, iK, gR, iR, iQ, iE, jW, jV, kH, kC, kG, kF, kI, kE, kD, gD, Result.ok.injEq, Next.value.injEq, true_and, and_true, gX, iB, iU, iT, iS, jI, aA9, gV, gU, gW, gT, gO, gJ, gP, gN, gB, fV, if_true, if_false, aA8, aBc, aBa, aBb, aBe, aBd, aA7, aA6, fQ, fL, fA, fR, cU, eS, eH, dK, bN, fS, fC, aM, dF, aX, bM, bP, aQ, cP, cG, eQ, aF, gS, aI, cK, aT, bV, fT, cI, cJ, aD, gA, fB, aP, aG, bQ, gQ, aK, fH, dT, dP, gG, dA, eU, dI, eF, fG, fF, cF, dC, gK, dO, cB, aS, bU, bT, fN, aE, aH, aN, aY, bF, cN, bK, aA, eY, aL, cL, fJ, fE, gF, bJ, eP, eN, bY, fW, fI, eJ, dH, cO, dB, bD, aZ, aO, fZ, aJ, dE, dQ, bG, cC, fK, dL, gC, fM, eZ, eT, dU, aR, cH, dG, fY, fX, fD, cZ, aW, dV, fU, cR, eX, fP, cD, bO, eD, bB, dX, dW, cM, eL, eK, bE, cY, bA, dR, dY, eE, bL, cS, cQ, dN, bS, cW, cV, fO, bZ, eI, eM, gE, dZ, dS, dM, dD, bH, bR, bX, bW, aU, cX, aV]
  refine ⟨n - (j + 1), by omega, j + 1, by omega, rfl, ?_⟩
  have hg : D.getD j 0 = D[j]'(by omega) := by rw [aBi, aBh (by omega)] <;> rfl
  rw [e1, hg]
  rfl
 .have hd : decide ((j : Int) < (n : Int)) = false := by simpa using hlt
  have : j = D.length := by omega
  subst this
  simp (disch := omega) only [AJ, D5, gI, jD, dJ, stepR_skip, hJ, iC, iM, iP, iL, iO, jJ, iW, gM, iG, iI, iJ, iH, gY, iN, iA, iF, iX, iV, iK, gR, iR, iQ, iE, jW, jV, kH, kC, kG, kF, kI, kE, kD, gD, Result.ok.injEq, Next.value.injEq, true_and, and_true, gX, iB, iU, iT, iS, jI, aA9, gV, gU, gW, gT, gO, gJ, gP, gN, gB, fV, if_true, if_false, aA8, aBc, aBa, aBb, aBe, aBd, aA7, aA6, fQ, fL, fA, fR, cU, eS, eH, dK, bN, fS, fC, aM, dF, aX, bM, bP, aQ, cP, cG, eQ, aF, gS, aI, cK, aT, bV, fT, cI, cJ, aD, gA, fB, aP, aG, bQ, gQ, aK, fH, dT, dP, gG, dA, eU, dI, eF, fG, fF, cF, dC, gK, dO, cB, aS, bU, bT, fN, aE, aH, aN, aY, bF, cN, bK, aA, eY, aL, cL, fJ, fE, gF, bJ, eP, eN, bY, fW, fI, eJ, dH, cO, dB, bD, aZ, aO, fZ, aJ, dE, dQ, bG, cC, fK, dL, gC, fM, eZ, eT, dU, aR, cH, dG, fY, fX, fD, cZ, aW, dV, fU, cR, eX, fP, cD, bO, eD, bB, dX, dW, cM, eL, eK, bE, cY, bA, dR, dY, eE, bL, cS, cQ, dN, bS, cW, cV, fO, bZ, eI, eM, gE, dZ, dS, dM, dD, bH, bR, bX, bW, aU, cX, aV, hd]
  exact hR
theorem atS (w : aDs) (R : aDt -> aDs -> Prop) (x : Int) (B : List UInt8) (v : aDt) (hv : Bs w v B) (hB : B.length < 32) (hR : R (.int .u64 (aqE (asX x B))) w) :
 Cx R (.int .u64 x) v w := by
 unfold Cx H0 HD
 refine kO.rule (fun n t w' => ∃ (j : Nat) (u : aDt), 8 * j <= B.length /\ n = B.length - j /\ t = (.int .u64 (e8 x B j), u) /\ Bs w u (B.drop (8 * j)) /\ w' = w) B.length ⟨0, v, by omega, rfl, rfl, hv, rfl⟩ ?_
 rintro n t w' ⟨j, u, hj, rfl, rfl, hu, rfl⟩
 have hu' := hu
 obtain ⟨a, n, c, rfl, hn, hc, hcell⟩ := hu'
 rw [aBf, aBr] at hn
 by_cases h8 : 8 <= n
 .obtain ⟨b', o', rfl, _⟩ := hcell (by omega)
  have hd : decide ((8 : Int) <= (n : Int)) = true := by simp; omega
  have t8 : (8 : Int).toNat = 8 := rfl
  simp (disch := omega) only [yU, gI, jD, dJ, stepR_skip, hJ, iC, iM, iP, iL, iO, jJ, iW, gM, iG, iI, iJ, iH, gY, iN, iA, iF, iX, iV, iK, gR, iR, iQ, iE, jW, jV, kH, kC, kG, kF, kI, kE, kD, gD, Result.ok.injEq, Next.value.injEq, true_and, and_true, gX, iB, iU, iT, iS, jI, aA9, gV, gU, gW, gT, gO, gJ, gP, gN, gB, fV, if_true, if_false, aA8, aBc, aBa, aBb, aBe, aBd, aA7, aA6, fQ, fL, fA, fR, cU, eS, eH, dK, bN, fS, fC, aM, dF, aX, bM, bP, aQ, cP, cG, eQ, aF, gS, aI, cK, aT, bV, fT, cI, cJ, aD, gA, fB, aP, aG, bQ, gQ, aK, fH, dT, dP, gG, dA, eU, dI, eF, fG, fF, cF, dC, gK, dO, cB, aS, bU, bT, fN, aE, aH, aN, aY, bF, cN, bK, aA, eY, aL, cL, fJ, fE, gF, bJ, eP, eN, bY, fW, fI, eJ, dH, cO, dB, bD, aZ, aO, fZ, aJ, dE, dQ, bG, cC, fK, dL, gC, fM, eZ, eT, dU, aR, cH, dG, fY, fX, fD, cZ, aW, dV, fU, cR, eX, fP, cD, bO, eD, bB, dX, dW, cM, eL, eK, bE, cY, bA, dR, dY, eE, bL, cS, cQ, dN, bS, cW, cV, fO, bZ, eI, eM, gE, dZ, dS, dM, dD, bH, bR, bX, bW, aU, cX, aV, hd, t8]
  have hs := hu.take h8
  rw [<- aCO] at hs
  refine (Vr _ _ _ hs (by rw [aBo]; omega)).mono ?_
  rintro r w1 ⟨rfl, rfl⟩
  refine (Yh _ _ _).mono ?_
  rintro r w1 ⟨rfl, rfl⟩
  simp (disch := omega) only [gI, jD, dJ, stepR_skip, hJ, iC, iM, iP, iL, iO, jJ, iW, gM, iG, iI, iJ, iH, gY, iN, iA, iF, iX, iV, iK, gR, iR, iQ, iE, jW, jV, kH, kC, kG, kF, kI, kE, kD, gD, Result.ok.injEq, Next.value.injEq, true_and, and_true, gX, iB, iU, iT, iS, jI, aA9, gV, gU, gW, gT, gO, gJ, gP, gN, gB, fV, if_true, if_false, aA8, aBc, aBa, aBb, aBe, aBd, aA7, aA6, fQ, fL, fA, fR, cU, eS, eH, dK, bN, fS, fC, aM, dF, aX, bM, bP, aQ, cP, cG, eQ, aF, gS, aI, cK, aT, bV, fT, cI, cJ, aD, gA, fB, aP, aG, bQ, gQ, aK, fH, dT, dP, gG, dA, eU, dI, eF, fG, fF, cF, dC, gK, dO, cB, aS, bU, bT, fN, aE, aH, aN, aY, bF, cN, bK, aA, eY, aL, cL, fJ, fE, gF, bJ, eP, eN, bY, fW, fI, eJ, dH, cO, dB, bD, aZ, aO, fZ, aJ, dE, dQ, bG, cC, fK, dL, gC, fM, eZ, eT, dU, aR, cH, dG, fY, fX, fD, cZ, aW, dV, fU, cR, eX, fP, cD, bO, eD, bB, dX, dW, cM, eL, eK, bE, cY, bA, dR, dY, eE, bL, cS, cQ, dN, bS, cW, cV, fO, bZ, eI, eM, gE, dZ, dS, dM, dD, bH, bR, bX, bW, aU, cX, aV]
  refine (V4 _ 27 (by omega) _).mono ?_
  rintro r w1 ⟨rfl, rfl⟩
  simp (disch := omega) only [gI, jD, dJ, stepR_skip, hJ, iC, iM, iP, iL, iO, jJ, iW, gM, iG, iI, iJ, iH, gY, iN, iA, iF, iX, iV, iK, gR, iR, iQ, iE, jW, jV, kH, kC, kG, kF, kI, kE, kD, gD, Result.ok.injEq, Next.value.injEq, true_and, and_true, gX, iB, iU, iT, iS, jI, aA9, gV, gU, gW, gT, gO, gJ, gP, gN, gB, fV, if_true, if_false, aA8, aBc, aBa, aBb, aBe, aBd, aA7, aA6, fQ, fL, fA, fR, cU, eS, eH, dK, bN, fS, fC, aM, dF, aX, bM, bP, aQ, cP, cG, eQ, aF, gS, aI, cK, aT, bV, fT, cI, cJ, aD, gA, fB, aP, aG, bQ, gQ, aK, fH, dT, dP, gG, dA, eU, dI, eF, fG, fF, cF, dC, gK, dO, cB, aS, bU, bT, fN, aE, aH, aN, aY, bF, cN, bK, aA, eY, aL, cL, fJ, fE, gF, bJ, eP, eN, bY, fW, fI, eJ, dH, cO, dB, bD, aZ, aO, fZ, aJ, dE, dQ, bG, cC, fK, dL, gC, fM, eZ, eT, dU, aR, cH, dG, fY, fX, fD, cZ, aW, dV, fU, cR, eX, fP, cD, bO, eD, bB, dX, dW, cM, eL, eK, bE, cY, bA, dR, dY, eE, bL, cS, cQ, dN, bS, cW, cV, fO, bZ, eI, eM, gE, dZ, dS, dM, dD, bH, bR, bX, bW, aU, cX, aV, t8]
  have hs2 := hu.drop h8
  rw [<- aC4, aCo] at hs2
  exact ⟨B.length - (j + 1), by omega, j + 1, _, by omega, rfl, rfl, by rw [aDg]; exact hs2⟩
 .have hd : decide ((8 : Int) <= (n : Int)) = false := by simp; omega
  have hj8 : j = B.length / 8 := by omega
  obtain ⟨C, hC⟩ : ∃ C, C = B.drop (8 * j) := ⟨_, rfl⟩
  have hCl : C.length = n := by rw [hC, aBr, hn]
  have htail : asX x B = (let r := XE (e8 x B j) C; e1 r.1 r.2 r.2.length) := by rw [hC, hj8] <;> rfl
  rw [htail] at hR
  rw [<- hC] at hu
  simp (disch := omega) only [yU, gI, jD, dJ, stepR_skip, hJ, iC, iM, iP, iL, iO, jJ, iW, gM, iG, iI, iJ, iH, gY, iN, iA, iF, iX, iV, iK, gR, iR, iQ, iE, jW, jV, kH, kC, kG, kF, kI, kE, kD, gD, Result.ok.injEq, Next.value.injEq, true_and, and_true, gX, iB, iU, iT, iS, jI, aA9, gV, gU, gW, gT, gO, gJ, gP, gN, gB, fV, if_true, if_false, aA8, aBc, aBa, aBb, aBe, aBd, aA7, aA6, fQ, fL, fA, fR, cU, eS, eH, dK, bN, fS, fC, aM, dF, aX, bM, bP, aQ, cP, cG, eQ, aF, gS, aI, cK, aT, bV, fT, cI, cJ, aD, gA, fB, aP, aG, bQ, gQ, aK, fH, dT, dP, gG, dA, eU, dI, eF, fG, fF, cF, dC, gK, dO, cB, aS, bU, bT, fN, aE, aH, aN, aY, bF, cN, bK, aA, eY, aL, cL, fJ, fE, gF, bJ, eP, eN, bY, fW, fI, eJ, dH, cO, dB, bD, aZ, aO, fZ, aJ, dE, dQ, bG, cC, fK, dL, gC, fM, eZ, eT, dU, aR, cH, dG, fY, fX, fD, cZ, aW, dV, fU, cR, eX, fP, cD, bO, eD, bB, dX, dW, cM, eL, eK, bE, cY, bA, dR, dY, eE, bL, cS, cQ, dN, bS, cW, cV, fO, bZ, eI, eM, gE, dZ, dS, dM, dD, bH, bR, bX, bW, aU, cX, aV, hd]
  by_cases h4 : 4 <= n
  .obtain ⟨b', o', rfl, _⟩ := hcell (by omega)
   have hd : decide ((4 : Int) <= (n : Int)) = true := by simp; omega
   have t4 : (4 : Int).toNat = 4 := rfl
   have ha : XE (e8 x B j) C = (awE (e8 x B j) (GZ (C.take 4)), C.drop 4) := by unfold XE; rw [if_pos (by omega)]
   rw [ha] at hR
   simp (disch := omega) only [D6, D8, gI, jD, dJ, stepR_skip, hJ, iC, iM, iP, iL, iO, jJ, iW, gM, iG, iI, iJ, iH, gY, iN, iA, iF, iX, iV, iK, gR, iR, iQ, iE, jW, jV, kH, kC, kG, kF, kI, kE, kD, gD, Result.ok.injEq, Next.value.injEq, true_and, and_true, gX, iB, iU, iT, iS, jI, aA9, gV, gU, gW, gT, gO, gJ, gP, gN, gB, fV, if_true, if_false, aA8, aBc, aBa, aBb, aBe, aBd, aA7, aA6, fQ, fL, fA, fR, cU, eS, eH, dK, bN, fS, fC, aM, dF, aX, bM, bP, aQ, cP, cG, eQ, aF, gS, aI, cK, aT, bV, fT, cI, cJ, aD, gA, fB, aP, aG, bQ, gQ, aK, fH, dT, dP, gG, dA, eU, dI, eF, fG, fF, cF, dC, gK, dO, cB, aS, bU, bT, fN, aE, aH, aN, aY, bF, cN, bK, aA, eY, aL, cL, fJ, fE, gF, bJ, eP, eN, bY, fW, fI, eJ, dH, cO, dB, bD, aZ, aO, fZ, aJ, dE, dQ, bG, cC, fK, dL, gC, fM, eZ, eT, dU, aR, cH, dG, fY, fX, fD, cZ, aW, dV, fU, cR, eX, fP, cD, bO, eD, bB, dX, dW, cM, eL, eK, bE, cY, bA, dR, dY, eE, bL, cS, cQ, dN, bS, cW, cV, fO, bZ, eI, eM, gE, dZ, dS, dM, dD, bH, bR, bX, bW, aU, cX, aV, hd, t4]
   have hs := hu.take h4
   rw [<- aCO] at hs
   refine (Vr _ _ _ hs (by rw [aBo]; omega)).mono ?_
   rintro r w1 ⟨rfl, rfl⟩
   simp (disch := omega) only [gI, jD, dJ, stepR_skip, hJ, iC, iM, iP, iL, iO, jJ, iW, gM, iG, iI, iJ, iH, gY, iN, iA, iF, iX, iV, iK, gR, iR, iQ, iE, jW, jV, kH, kC, kG, kF, kI, kE, kD, gD, Result.ok.injEq, Next.value.injEq, true_and, and_true, gX, iB, iU, iT, iS, jI, aA9, gV, gU, gW, gT, gO, gJ, gP, gN, gB, fV, if_true, if_false, aA8, aBc, aBa, aBb, aBe, aBd, aA7, aA6, fQ, fL, fA, fR, cU, eS, eH, dK, bN, fS, fC, aM, dF, aX, bM, bP, aQ, cP, cG, eQ, aF, gS, aI, cK, aT, bV, fT, cI, cJ, aD, gA, fB, aP, aG, bQ, gQ, aK, fH, dT, dP, gG, dA, eU, dI, eF, fG, fF, cF, dC, gK, dO, cB, aS, bU, bT, fN, aE, aH, aN, aY, bF, cN, bK, aA, eY, aL, cL, fJ, fE, gF, bJ, eP, eN, bY, fW, fI, eJ, dH, cO, dB, bD, aZ, aO, fZ, aJ, dE, dQ, bG, cC, fK, dL, gC, fM, eZ, eT, dU, aR, cH, dG, fY, fX, fD, cZ, aW, dV, fU, cR, eX, fP, cD, bO, eD, bB, dX, dW, cM, eL, eK, bE, cY, bA, dR, dY, eE, bL, cS, cQ, dN, bS, cW, cV, fO, bZ, eI, eM, gE, dZ, dS, dM, dD, bH, bR, bX, bW, aU, cX, aV]
   refine (V4 _ 23 (by omega) _).mono ?_
   rintro r w1 ⟨rfl, rfl⟩
   simp (disch := omega) only [gI, jD, dJ, stepR_skip, hJ, iC, iM, iP, iL, iO, jJ, iW, gM, iG, iI, iJ, iH, gY, iN, iA, iF, iX, iV, iK, gR, iR, iQ, iE, jW, jV, kH, kC, kG, kF, kI, kE, kD, gD, Result.ok.injEq, Next.value.injEq, true_and, and_true, gX, iB, iU, iT, iS, jI, aA9, gV, gU, gW, gT, gO, gJ, gP, gN, gB, fV, if_true, if_false, aA8, aBc, aBa, aBb, aBe, aBd, aA7, aA6, fQ, fL, fA, fR, cU, eS, eH, dK, bN, fS, fC, aM, dF, aX, bM, bP, aQ, cP, cG, eQ, aF, gS, aI, cK, aT, bV, fT, cI, cJ, aD, gA, fB, aP, aG, bQ, gQ, aK, fH, dT, dP, gG, dA, eU, dI, eF, fG, fF, cF, dC, gK, dO, cB, aS, bU, bT, fN, aE, aH, aN, aY, bF, cN, bK, aA, eY, aL, cL, fJ, fE, gF, bJ, eP, eN, bY, fW, fI, eJ, dH, cO, dB, bD, aZ, aO, fZ, aJ, dE, dQ, bG, cC, fK, dL, gC, fM, eZ, eT, dU, aR, cH, dG, fY, fX, fD, cZ, aW, dV, fU, cR, eX, fP, cD, bO, eD, bB, dX, dW, cM, eL, eK, bE, cY, bA, dR, dY, eE, bL, cS, cQ, dN, bS, cW, cV, fO, bZ, eI, eM, gE, dZ, dS, dM, dD, bH, bR, bX, bW, aU, cX, aV, t4]
   have hs2 := hu.drop h4
   rw [<- aC4] at hs2
   exact ahL _ _ _ _ _ hs2 (by rw [aBr]; omega) hR
  .have hd : decide ((4 : Int) <= (n : Int)) = false := by simp; omega
   have ha : XE (e8 x B j) C = (e8 x B j, C) := by unfold XE; rw [if_neg (by omega)]
   rw [ha] at hR
   simp (disch := omega) only [D6, D8, gI, jD, dJ, stepR_skip, hJ, iC, iM, iP, iL, iO, jJ, iW, gM, iG, iI, iJ, iH, gY, iN, iA, iF, iX, iV, iK, gR, iR, iQ, iE, jW, jV, kH, kC, kG, kF, kI, kE, kD, gD, Result.ok.injEq, Next.value.injEq, true_and, and_true, gX, iB, iU, iT, iS, jI, aA9, gV, gU, gW, gT, gO, gJ, gP, gN, gB, fV, if_true, if_false, aA8, aBc, aBa, aBb, aBe, aBd, aA7, aA6, fQ, fL, fA, fR, cU, eS, eH, dK, bN, fS, fC, aM, dF, aX, bM, bP, aQ, cP, cG, eQ, aF, gS, aI, cK, aT, bV, fT, cI, cJ, aD, gA, fB, aP, aG, bQ, gQ, aK, fH, dT, dP, gG, dA, eU, dI, eF, fG, fF, cF, dC, gK, dO, cB, aS, bU, bT, fN, aE, aH, aN, aY, bF, cN, bK, aA, eY, aL, cL, fJ, fE, gF, bJ, eP, eN, bY, fW, fI, eJ, dH, cO, dB, bD, aZ, aO, fZ, aJ, dE, dQ, bG, cC, fK, dL, gC, fM, eZ, eT, dU, aR, cH, dG, fY, fX, fD, cZ, aW, dV, fU, cR, eX, fP, cD, bO, eD, bB, dX, dW, cM, eL, eK, bE, cY, bA, dR, dY, eE, bL, cS, cQ, dN, bS, cW, cV, fO, bZ, eI, eM, gE, dZ, dS, dM, dD, bH, bR, bX, bW, aU, cX, aV, hd]
   exact ahL _ _ _ _ _ hu (by omega) hR
theorem auY (b : Nat) (L : List UInt8) (hlen : L.length <= 1099511627776) (w : aDs) (h : XJ w b L) :
 jE pg Gt #[.pointer (some ⟨b, 0, none⟩)] w (fun r w' => r = .int .u64 (XXH L) /\ jN w w' mC) := by
 refine VY ?_
 have h' := h
 obtain ⟨kept, h2, hk, ho⟩ := h'
 have h1 := B5 (L.length / 32) L
 have hod := VW ho
 simp (disch := omega) only [Xr, HU, Hs, gI, jD, dJ, stepR_skip, hJ, iC, iM, iP, iL, iO, jJ, iW, gM, iG, iI, iJ, iH, gY, iN, iA, iF, iX, iV, iK, gR, iR, iQ, iE, jW, jV, kH, kC, kG, kF, kI, kE, kD, gD, Result.ok.injEq, Next.value.injEq, true_and, and_true, gX, iB, iU, iT, iS, jI, aA9, gV, gU, gW, gT, gO, gJ, gP, gN, gB, fV, if_true, if_false, aA8, aBc, aBa, aBb, aBe, aBd, aA7, aA6, fQ, fL, fA, fR, cU, eS, eH, dK, bN, fS, fC, aM, dF, aX, bM, bP, aQ, cP, cG, eQ, aF, gS, aI, cK, aT, bV, fT, cI, cJ, aD, gA, fB, aP, aG, bQ, gQ, aK, fH, dT, dP, gG, dA, eU, dI, eF, fG, fF, cF, dC, gK, dO, cB, aS, bU, bT, fN, aE, aH, aN, aY, bF, cN, bK, aA, eY, aL, cL, fJ, fE, gF, bJ, eP, eN, bY, fW, fI, eJ, dH, cO, dB, bD, aZ, aO, fZ, aJ, dE, dQ, bG, cC, fK, dL, gC, fM, eZ, eT, dU, aR, cH, dG, fY, fX, fD, cZ, aW, dV, fU, cR, eX, fP, cD, bO, eD, bB, dX, dW, cM, eL, eK, bE, cY, bA, dR, dY, eE, bL, cS, cQ, dN, bS, cW, cV, fO, bZ, eI, eM, gE, dZ, dS, dM, dD, bH, bR, bX, bW, aU, cX, aV]
 refine (aiN b L hlen (dr w) ⟨kept, h2, hk, hod⟩).mono ?_
 rintro r w1 ⟨rfl, rfl⟩
 have hod2 := VW hod
 have hr : L.length % 32 < 32 := by omega
 have hbs : Bs (dr (dr w)) (.slice (some ⟨b, 4, none⟩) (L.length % 32 - 0) (32 - 0)) (L.drop (32 * (L.length / 32))) := by
  rw [<- hk]
  have e : (kept.take (L.length % 32)).length = L.length % 32 := by rw [aBo]; omega
  rw [show L.length % 32 - 0 = (kept.take (L.length % 32)).length from by omega]
  refine hod2.bs (by omega) fun j hj => ?_
  rw [SD h1 j (by omega)]
  simp
 have t0 : uI ⟨b, 4, none⟩ 32 0 1 = ⟨b, 4, none⟩ := by rw [Va (by omega)]
 simp (disch := omega) only [gI, jD, dJ, stepR_skip, hJ, iC, iM, iP, iL, iO, jJ, iW, gM, iG, iI, iJ, iH, gY, iN, iA, iF, iX, iV, iK, gR, iR, iQ, iE, jW, jV, kH, kC, kG, kF, kI, kE, kD, gD, Result.ok.injEq, Next.value.injEq, true_and, and_true, gX, iB, iU, iT, iS, jI, aA9, gV, gU, gW, gT, gO, gJ, gP, gN, gB, fV, if_true, if_false, aA8, aBc, aBa, aBb, aBe, aBd, aA7, aA6, fQ, fL, fA, fR, cU, eS, eH, dK, bN, fS, fC, aM, dF, aX, bM, bP, aQ, cP, cG, eQ, aF, gS, aI, cK, aT, bV, fT, cI, cJ, aD, gA, fB, aP, aG, bQ, gQ, aK, fH, dT, dP, gG, dA, eU, dI, eF, fG, fF, cF, dC, gK, dO, cB, aS, bU, bT, fN, aE, aH, aN, aY, bF, cN, bK, aA, eY, aL, cL, fJ, fE, gF, bJ, eP, eN, bY, fW, fI, eJ, dH, cO, dB, bD, aZ, aO, fZ, aJ, dE, dQ, bG, cC, fK, dL, gC, fM, eZ, eT, dU, aR, cH, dG, fY, fX, fD, cZ, aW, dV, fU, cR, eX, fP, cD, bO, eD, bB, dX, dW, cM, eL, eK, bE, cY, bA, dR, dY, eE, bL, cS, cQ, dN, bS, cW, cV, fO, bZ, eI, eM, gE, dZ, dS, dM, dD, bH, bR, bX, bW, aU, cX, aV, hod.cell, hod2.cell, Ii h1 h2, Mj h1 h2, t0]
 refine atS _ _ _ _ _ hbs (by rw [aBr]; omega) ⟨rfl, (jN.dr w _).seq (jN.dr _ _)⟩
theorem arM (L : List UInt8) (hlen : L.length <= 1099511627776) (v : aDt) (w : aDs) (hv : Bs w v L) :
 jE pg Om #[v] w (fun r w' => r = .int .u64 (XXH L) /\ jN w w' mC) := by
 refine agU ?_
 simp (disch := omega) only [arL, Yk, gI, jD, dJ, stepR_skip, hJ, iC, iM, iP, iL, iO, jJ, iW, gM, iG, iI, iJ, iH, gY, iN, iA, iF, iX, iV, iK, gR, iR, iQ, iE, jW, jV, kH, kC, kG, kF, kI, kE, kD, gD, Result.ok.injEq, Next.value.injEq, true_and, and_true, gX, iB, iU, iT, iS, jI, aA9, gV, gU, gW, gT, gO, gJ, gP, gN, gB, fV, if_true, if_false, aA8, aBc, aBa, aBb, aBe, aBd, aA7, aA6, fQ, fL, fA, fR, cU, eS, eH, dK, bN, fS, fC, aM, dF, aX, bM, bP, aQ, cP, cG, eQ, aF, gS, aI, cK, aT, bV, fT, cI, cJ, aD, gA, fB, aP, aG, bQ, gQ, aK, fH, dT, dP, gG, dA, eU, dI, eF, fG, fF, cF, dC, gK, dO, cB, aS, bU, bT, fN, aE, aH, aN, aY, bF, cN, bK, aA, eY, aL, cL, fJ, fE, gF, bJ, eP, eN, bY, fW, fI, eJ, dH, cO, dB, bD, aZ, aO, fZ, aJ, dE, dQ, bG, cC, fK, dL, gC, fM, eZ, eT, dU, aR, cH, dG, fY, fX, fD, cZ, aW, dV, fU, cR, eX, fP, cD, bO, eD, bB, dX, dW, cM, eL, eK, bE, cY, bA, dR, dY, eE, bL, cS, cQ, dN, bS, cW, cV, fO, bZ, eI, eM, gE, dZ, dS, dM, dD, bH, bR, bX, bW, aU, cX, aV]
 refine (avU w).mono ?_
 rintro r w1 ⟨rfl, h1, x1⟩
 have hnb : ¬ Mz v (fun x => x = w.heap.size) := by
  intro hb
  refine hv.old ?_
  unfold Mz at *
  split at hb
  .omega
  .exact hb
 have hv1 := hv.ext x1 (by unfold Mz mC; split <;> simp)
 refine (aoE _ [] L (by simpa using hlen) v w1 h1 hv1 hnb).mono ?_
 rintro r w2 ⟨rfl, h2, x2⟩
 refine (auY _ L hlen w2 h2).mono ?_
 rintro r w3 ⟨rfl, x3⟩
 exact ⟨rfl, (x1.new x2 (aBk _)).seq x3⟩
end Go.Proofs.YtoecppploooloaaGreatDoor
namespace Go.Proofs.YtoecppploooloaaGreatDoor
open Go Go.En Go.Pu
set_option maxRecDepth 4000
def XN (L : List UInt8) : Nat := (XXH L).toNat
theorem X5 (a b : Int) : 0 <= Vt .u64 a b /\ Vt .u64 a b < 2 ^ 64 := by
 unfold Vt
 have h : (BitVec.ofInt IntKind.u64.bits a ^^^ BitVec.ofInt IntKind.u64.bits b).toNat < 2 ^ 64 := BitVec.isLt _
 rw [iB (by omega) (by omega)]
 omega
theorem avY (L : List UInt8) : XN L < 2 ^ 64 := by
 have := X5
 unfold XN XXH aqE
 simp only []
 generalize IntKind.u64.wrap (Vt .u64 (IntKind.u64.wrap _) _ * 1609587929392839161) = y
 have := X5 y (y.fdiv (2 ^ min (32 : Int).toNat IntKind.u64.bits))
 omega
theorem awI (L : List UInt8) : XXH L = (XN L : Int) := by
 have : 0 <= XXH L := by
  unfold XXH aqE
  exact (X5 _ _).1
 unfold XN
 omega
theorem azQ {x : Nat} (h : x < 2 ^ 64) : GN .u64 (x : Int) 4294967295 = ((x % 2 ^ 32 : Nat) : Int) := by
 unfold GN
 have e : IntKind.u64.bits = 64 := rfl
 have e2 : (4294967295 : Int) = ((2 ^ 32 - 1 : Nat) : Int) := by decide
 rw [e2, e, BitVec.ofInt_natCast, BitVec.ofInt_natCast, BitVec.toNat_and, BitVec.toNat_ofNat, BitVec.toNat_ofNat, aBC h, aBC (by omega), aCy]
 exact iB (by omega) (by omega)
def aeB (l all : List UInt8) : Except Int (List UInt8) := if l.length < 4 then .error 10 else if sB (l.take 4) ≠ XN all % 2 ^ 32 then .error 13 else .ok (l.drop 4)
def azS (lo hi pr : Nat) (w : aDs) (r : aDt) (w' : aDs) : Except Int (List UInt8) -> Prop
 | .error e => e ≠ 0 /\ r = .int .i64 e /\ jN w w' (fun y => y = pr)
 | .ok l => r = .int .i64 0 /\ Qk w' lo hi pr l 0 /\ jN w w' (fun y => y = pr)
theorem amO {p pr lo hi : Nat} {va : aDt} {all l : List UInt8} {cs : List aDt} {w : aDs} (o : lN w p cs) (k0 : cs[0]? = some (.pointer (some ⟨pr, 0, none⟩))) (hr : Qk w lo hi pr l 0) (ha : Bs w va all) (hv : ¬ Mz va (fun y => y = pr)) (hl : l.length <= 1000000) (hall : all.length <= 2000000) :
 jE pg rV #[.pointer (some ⟨p, 0, none⟩), va] w (fun r w' => azS lo hi pr w r w' (aeB l all)) := by
 refine NF ?_
 unfold Js zJ
 refine (aaQ (n := 4) o k0 hr hl (by omega)).mono ?_
 unfold aeB
 rintro r w1 (⟨h1, rfl, h2⟩ | ⟨h1, v, rfl, hb1, hat, hr1, x1⟩)
 .rw [h2]; clear h2 w1
  have n1 : ((10 : Int) != 0) = true := rfl
  rw [if_pos h1]
  simp (disch := omega) only [gI, jD, dJ, stepR_skip, hJ, iC, iM, iP, iL, iO, jJ, iW, gM, iG, iI, iJ, iH, gY, iN, iA, iF, iX, iV, iK, gR, iR, iQ, iE, jW, jV, kH, kC, kG, kF, kI, kE, kD, gD, Result.ok.injEq, Next.value.injEq, true_and, and_true, gX, iB, iU, iT, iS, jI, aA9, gV, gU, gW, gT, gO, gJ, gP, gN, gB, fV, if_true, if_false, aA8, aBc, aBa, aBb, aBe, aBd, aA7, aA6, fQ, fL, fA, fR, cU, eS, eH, dK, bN, fS, fC, aM, dF, aX, bM, bP, aQ, cP, cG, eQ, aF, gS, aI, cK, aT, bV, fT, cI, cJ, aD, gA, fB, aP, aG, bQ, gQ, aK, fH, dT, dP, gG, dA, eU, dI, eF, fG, fF, cF, dC, gK, dO, cB, aS, bU, bT, fN, aE, aH, aN, aY, bF, cN, bK, aA, eY, aL, cL, fJ, fE, gF, bJ, eP, eN, bY, fW, fI, eJ, dH, cO, dB, bD, aZ, aO, fZ, aJ, dE, dQ, bG, cC, fK, dL, gC, fM, eZ, eT, dU, aR, cH, dG, fY, fX, fD, cZ, aW, dV, fU, cR, eX, fP, cD, bO, eD, bB, dX, dW, cM, eL, eK, bE, cY, bA, dR, dY, eE, bL, cS, cQ, dN, bS, cW, cV, fO, bZ, eI, eM, gE, dZ, dS, dM, dD, bH, bR, bX, bW, aU, cX, aV, n1]
  exact ⟨by decide, rfl, jN.refl _ _⟩
 rw [if_neg (by omega)]
 have n1 : ((0 : Int) != 0) = false := rfl
 simp (disch := omega) only [gI, jD, dJ, stepR_skip, hJ, iC, iM, iP, iL, iO, jJ, iW, gM, iG, iI, iJ, iH, gY, iN, iA, iF, iX, iV, iK, gR, iR, iQ, iE, jW, jV, kH, kC, kG, kF, kI, kE, kD, gD, Result.ok.injEq, Next.value.injEq, true_and, and_true, gX, iB, iU, iT, iS, jI, aA9, gV, gU, gW, gT, gO, gJ, gP, gN, gB, fV, if_true, if_false, aA8, aBc, aBa, aBb, aBe, aBd, aA7, aA6, fQ, fL, fA, fR, cU, eS, eH, dK, bN, fS, fC, aM, dF, aX, bM, bP, aQ, cP, cG, eQ, aF, gS, aI, cK, aT, bV, fT, cI, cJ, aD, gA, fB, aP, aG, bQ, gQ, aK, fH, dT, dP, gG, dA, eU, dI, eF, fG, fF, cF, dC, gK, dO, cB, aS, bU, bT, fN, aE, aH, aN, aY, bF, cN, bK, aA, eY, aL, cL, fJ, fE, gF, bJ, eP, eN, bY, fW, fI, eJ, dH, cO, dB, bD, aZ, aO, fZ, aJ, dE, dQ, bG, cC, fK, dL, gC, fM, eZ, eT, dU, aR, cH, dG, fY, fX, fD, cZ, aW, dV, fU, cR, eX, fP, cD, bO, eD, bB, dX, dW, cM, eL, eK, bE, cY, bA, dR, dY, eE, bL, cS, cQ, dN, bS, cW, cV, fO, bZ, eI, eM, gE, dZ, dS, dM, dD, bH, bR, bX, bW, aU, cX, aV, n1]
 refine (IH hb1 (by rw [aBo]; omega)).mono ?_
 rintro r w2 ⟨p2, rfl, hr2, x2⟩
 have z1 := x1.size
 have hz := hr.lt
 refine (B1 (n := 4) hr2 (by rw [aBo]; omega) ⟨by omega, by omega⟩).mono ?_
 rintro r w3 ⟨rfl, hr3, x3⟩
 have ht : GQ (l.take 4) 0 4 = (l.take 4, [], 0) := by
  unfold GQ
  rw [if_neg (by decide), if_neg (by rw [aBo]; omega), aBp (by rw [aBo]; omega), aDh (by rw [aBo]; omega)]
 rw [ht]
 have h2 : w1.heap.size <= p2 := hr2.1
 have x13 : jN w1 w3 mC := x2.trans x3 fun y hy h => by omega
 refine (arM all (by omega) va w3 ((ha.ext x1 hv).ext x13 (kL _))).mono ?_
 rintro r w4 ⟨rfl, x4⟩
 rw [awI]
 have a32 := azQ (avY all)
 obtain ⟨q, hq⟩ : ∃ q, q = sB (l.take 4) := ⟨_, rfl⟩
 rw [<- hq]
 obtain ⟨q2, hq2⟩ : ∃ q, q = XN all % 2 ^ 32 := ⟨_, rfl⟩
 rw [<- hq2] at a32 ⊢
 by_cases he : q = q2
 .have n2 : ((q : Int) != (q2 : Int)) = false := by rw [he]; simp
  rw [if_neg (by simpa using he)]
  simp (disch := omega) only [gI, jD, dJ, stepR_skip, hJ, iC, iM, iP, iL, iO, jJ, iW, gM, iG, iI, iJ, iH, gY, iN, iA, iF, iX, iV, iK, gR, iR, iQ, iE, jW, jV, kH, kC, kG, kF, kI, kE, kD, gD, Result.ok.injEq, Next.value.injEq, true_and, and_true, gX, iB, iU, iT, iS, jI, aA9, gV, gU, gW, gT, gO, gJ, gP, gN, gB, fV, if_true, if_false, aA8, aBc, aBa, aBb, aBe, aBd, aA7, aA6, fQ, fL, fA, fR, cU, eS, eH, dK, bN, fS, fC, aM, dF, aX, bM, bP, aQ, cP, cG, eQ, aF, gS, aI, cK, aT, bV, fT, cI, cJ, aD, gA, fB, aP, aG, bQ, gQ, aK, fH, dT, dP, gG, dA, eU, dI, eF, fG, fF, cF, dC, gK, dO, cB, aS, bU, bT, fN, aE, aH, aN, aY, bF, cN, bK, aA, eY, aL, cL, fJ, fE, gF, bJ, eP, eN, bY, fW, fI, eJ, dH, cO, dB, bD, aZ, aO, fZ, aJ, dE, dQ, bG, cC, fK, dL, gC, fM, eZ, eT, dU, aR, cH, dG, fY, fX, fD, cZ, aW, dV, fU, cR, eX, fP, cD, bO, eD, bB, dX, dW, cM, eL, eK, bE, cY, bA, dR, dY, eE, bL, cS, cQ, dN, bS, cW, cV, fO, bZ, eI, eM, gE, dZ, dS, dM, dD, bH, bR, bX, bW, aU, cX, aV, a32, n2]
  exact ⟨rfl, (hr1.ext x13 fun _ _ _ h => h).ext x4 fun _ _ _ h => h, (x1.trans x13 fun _ _ h => h.elim).trans x4 fun _ _ h => h.elim⟩
 .have n2 : ((q : Int) != (q2 : Int)) = true := by simp; omega
  rw [if_pos he]
  simp (disch := omega) only [gI, jD, dJ, stepR_skip, hJ, iC, iM, iP, iL, iO, jJ, iW, gM, iG, iI, iJ, iH, gY, iN, iA, iF, iX, iV, iK, gR, iR, iQ, iE, jW, jV, kH, kC, kG, kF, kI, kE, kD, gD, Result.ok.injEq, Next.value.injEq, true_and, and_true, gX, iB, iU, iT, iS, jI, aA9, gV, gU, gW, gT, gO, gJ, gP, gN, gB, fV, if_true, if_false, aA8, aBc, aBa, aBb, aBe, aBd, aA7, aA6, fQ, fL, fA, fR, cU, eS, eH, dK, bN, fS, fC, aM, dF, aX, bM, bP, aQ, cP, cG, eQ, aF, gS, aI, cK, aT, bV, fT, cI, cJ, aD, gA, fB, aP, aG, bQ, gQ, aK, fH, dT, dP, gG, dA, eU, dI, eF, fG, fF, cF, dC, gK, dO, cB, aS, bU, bT, fN, aE, aH, aN, aY, bF, cN, bK, aA, eY, aL, cL, fJ, fE, gF, bJ, eP, eN, bY, fW, fI, eJ, dH, cO, dB, bD, aZ, aO, fZ, aJ, dE, dQ, bG, cC, fK, dL, gC, fM, eZ, eT, dU, aR, cH, dG, fY, fX, fD, cZ, aW, dV, fU, cR, eX, fP, cD, bO, eD, bB, dX, dW, cM, eL, eK, bE, cY, bA, dR, dY, eE, bL, cS, cQ, dN, bS, cW, cV, fO, bZ, eI, eM, gE, dZ, dS, dM, dD, bH, bR, bX, bW, aU, cX, aV, a32, n2]
  exact ⟨by decide, rfl, (x1.trans x13 fun _ _ h => h.elim).trans x4 fun _ _ h => h.elim⟩
def Oy (h : FH) (l all : List UInt8) : Except Int (List UInt8 × List UInt8) :=
 if h.known = true /\ all.length ≠ h.size then .error 11 else if h.sum = true then (match aeB l all with | .error e => .error e | .ok l' => .ok (all, l')) else .ok (all, l)
structure DM where
 l : List UInt8
 win : Nat
 most : Nat
 out : List UInt8
 fr : Nat
 sk : Nat
def Au (pr : Nat) (vo : aDt) (m : DM) : List aDt := [.pointer (some ⟨pr, 0, none⟩), .int .u64 (m.win : Nat), .int .i64 (m.most : Nat), vo, .int .i64 (m.fr : Nat), .int .i64 (m.sk : Nat)]
def DSt (w : aDs) (base p : Nat) (m : DM) : Prop :=
 ∃ pr vo lo hi, ∃ O : Nat -> Prop, lN w p (Au pr vo m) /\ Qk w lo hi pr m.l 0 /\ GM w O 1 vo m.out.length (m.out.map nR) /\ base <= p /\ base <= lo /\ (∀ b, O b -> base <= b /\ b ≠ p /\ ¬ (lo <= b /\ b < hi)) /\ ¬ (lo <= p /\ p < hi) /\ hi <= w.heap.size
end Go.Proofs.YtoecppploooloaaGreatDoor

/- Parts of the proof of ChunkSame: merged and given short names by a program of ours. -/
import Derived.Test.YtoecppploooloaaGreatDoorZuB
set_option linter.unusedVariables false
set_option linter.unusedSimpArgs false
open Bool renaming not_false → aB3, not_true → aB5, false_eq_true → aBZ, and_eq_true → aCe
open Int renaming toNat_natCast → aB0, fdiv_eq_ediv_of_nonneg → aCD, tmod_eq_emod_of_nonneg → aDA, tdiv_eq_ediv_of_nonneg → aDz
open List renaming length_map → aB6, length_append → aB7, getElem?_eq_getElem → aB8, getD_eq_getElem?_getD → aB9, getElem?_cons_zero → aBX, getElem?_cons_succ → aBY, take_append_of_le_length → aC2, map_congr_left → aC8, replicate_succ → aC9, map_append → aCC, set_append_right → aCI, length_singleton → aCJ, append_nil → aCM, getElem?_take_of_lt → aCN, mem_cons → aCS, nil_append → aCT, length_replicate → aCZ, set_cons_zero → aCa, set_cons_succ → aCc, length_take → aCf, take_of_length_le → aCg, mem_cons_of_mem → aCh, length_drop → aCi, length_cons → aCl, getElem?_append_left → aCm, getElem?_map → aCp, take_succ_cons → aCq, append_assoc → aCr, drop_zero → aCs, getElem?_append_right → aCu, take_zero → aCw, map_cons → aCz, getLast?_eq_getElem? → aD0, take_left' → aD1, take_add_one → aDB, set_append_left → aDC, take_length → aDD, map_take → aDF, drop_eq_nil_of_le → aDM, drop_append_of_le_length → aDN, map_set → aDS, map_drop → aDW, getElem?_range → aDY, cons_append → aDd, drop_drop → aDm, length_set → aDq, getElem?_replicate → aDs, map_replicate → aDx, drop_of_length_le → aEb, getElem_map → aEe
open Nat renaming zero_add → aB4, mul_one → aC0, pow_add → aC6, two_pow_pos → aCH, min_eq_left → aCL, mul_comm → aCO, add_mul → aCQ, le_trans → aCV, le_refl → aCb, lt_or_ge → aCk, pow_le_pow_right → aCn, mod_eq_of_lt → aCt, mul_le_mul_right → aCv, div_le_self → aD2, mod_lt → aD6, add_sub_cancel_left → aD7, lt_trichotomy → aD9, sub_zero → aDE, add_sub_cancel → aDJ, mul_add → aDL, zero_mul → aDQ, div_lt_iff_lt_mul → aDR, zero_le → aDX, eq_zero_or_pos → aDc, sub_self → aDh, div_div_eq_div_mul → aDi, and_two_pow_sub_one_eq_mod → aDp, add_assoc → aDr, lt_of_lt_of_le → aDv, pow_succ → aDw, mul_assoc → aEd
open Option renaming isNone_some → aB1, isNone_none → aB2, map_some → aCB
open Option.some renaming inj → aCF
open UInt8 renaming toNat_lt → aC7, toNat_ofNat_of_lt' → aD3
namespace Go.Proofs.YtoecppploooloaaGreatDoor
open Go Go.En
set_option maxRecDepth 4000
theorem fQ {ty : TypeId} (x : Option Addr) (n c : Nat) (w : aEl) : (nX .len #[22] ty [.slice x n c]).run pg w = .ok (.value (.int .i64 n)) w := VO Tryz.underlying22 x n c
theorem fL {k : IntKind} (a : Int) (w : aEl) : (nE 5 3 (.int k a)).run pg w = .ok (.value (.int .i64 (IntKind.i64.wrap a))) w := Dm Tryz.underlying5 Tryz.underlying3
theorem fE {k : IntKind} (a : Int) (w : aEl) : (nE 29 3 (.int k a)).run pg w = .ok (.value (.int .i64 (IntKind.i64.wrap a))) w := Dm Tryz.underlying29 Tryz.underlying3
theorem JX : (pg).info? 5 = some Tryz.t5 := by kernel_rfl
theorem Zr {k : IntKind} {n : Int} {w : aEl} {K : aEm -> aEl -> Prop} (h0 : 0 <= n) (hn : 1 * n <= 2 ^ 48) (hk : ∀ w', lN w' w.heap.size (List.replicate n.toNat (.int .u8 0)) -> jN w w' mC -> w'.heap.size = w.heap.size + 1 -> K (.slice (some ⟨w.heap.size, 0, none⟩) n.toNat n.toNat) w') : gI pg (sP 22 (.int k n) (.int k n)) w K := aaH (i := Tryz.t5) Tryz.underlying22 JX rfl rfl rfl h0 hn (by omega) hk
theorem fR {k : IntKind} {a : Int} (b o n c : Nat) (w : aEl) (h0 : 0 <= a) (h1 : a < n) : (jT 22 (.slice (some ⟨b, o, none⟩) n c) (.int k a)).run pg w = .ok (.value (.pointer (some ⟨b, o + a.toNat, none⟩))) w := T2 rfl Tryz.underlying22 JX b o n c h0 h1
theorem acC {b off : Nat} {cs : List aEm} {w : aEl} {v : aEm} {K : aEm -> aEl -> Prop} (ho : lN w b cs) (hv : one v = true) (h : off < cs.length) (hk : ∀ w', lN w' b (cs.set off v) -> jN w w' (fun x => x = b) -> w'.heap.size = w.heap.size -> K undef w') : gI pg (jQ 5 (.pointer (some ⟨b, off, none⟩)) v) w K := Am JX rfl ho hv h hk
theorem Ez {l : List UInt8} {v : aEm} {w : aEl} (h : Bs w v l) : (nE 22 9 v).run pg w = .ok (.value (.string ⟨l.toArray⟩)) w := asM Tryz.underlying22 Tryz.underlying9 Tryz.underlying5 h
theorem cU {k : IntKind} (a : Int) (w : aEl) : (nE 38 32 (.int k a)).run pg w = .ok (.value (.int .u64 (IntKind.u64.wrap a))) w := Dm Tryz.underlying38 Tryz.underlying32
theorem eS {k : IntKind} (a : Int) (w : aEl) : (nE 3 32 (.int k a)).run pg w = .ok (.value (.int .u64 (IntKind.u64.wrap a))) w := Dm Tryz.underlying3 Tryz.underlying32
theorem uD {n : Nat} {ps : List (Nat × aEm)} {cells : Array aEm} {w : aEl} (h1 : ¬ n * 1 > 2 ^ 24) (h0 : ¬ n * 1 = 0) (hf : Go.Instr.fill (fun j => some (j * 1, 1)) ((Array.range (n * 1)).map ((Tryz.t5.zero.get!).cells[· % (Tryz.t5.zero.get!).cells.size]!)) ps = some cells) {K : aEm -> aEl -> Prop} (hk : ∀ w', lN w' w.heap.size cells.toList -> jN w w' mC -> w'.heap.size = w.heap.size + 1 -> K (.slice (some ⟨w.heap.size, 0, none⟩) n n) w') : gI pg (lT 22 n ps) w K := VH (i := Tryz.t5) Tryz.underlying22 JX rfl h1 h0 hf hk
theorem eF {k : IntKind} {hi : Int} (a : Option Addr) (n c : Nat) (w : aEl) (h0 : 0 <= hi) (h1 : hi <= c) : (lR 22 (.slice a n c) none (some (.int k hi)) none).run pg w = .ok (.value (.slice (mY a c (0) 1) (hi.toNat - 0) (c - 0))) w := VA Tryz.underlying22 JX _ n c h0 h1
theorem amC : (pg).info? 45 = some Tryz.t45 := by kernel_rfl
theorem tH {w : aEl} {K : aEm -> aEl -> Prop} (hk : ∀ w', lN w' w.heap.size [(.int .u32 0), (.int .u32 0), (.int .u32 0)] -> jN w w' mC -> w'.heap.size = w.heap.size + 1 -> K (.pointer (some ⟨w.heap.size, 0, none⟩)) w') : gI pg (oK 45) w K := Cx (i := Tryz.t45) amC rfl hk
theorem qW {b off : Nat} {cs : List aEm} {w : aEl} {xs : Array aEm} {K : aEm -> aEl -> Prop} (ho : lN w b cs) (hs : xs.size = 3) (hv : ∀ x ∈ xs.toList, one x = true) (h : off + 3 <= cs.length) (hk : ∀ w', lN w' b (kW cs off xs.toList) -> jN w w' (fun x => x = b) -> w'.heap.size = w.heap.size -> K undef w') : gI pg (jQ 45 (.pointer (some ⟨b, off, none⟩)) (.agg xs)) w K := Fg (v := .agg xs) amC ho hs hv h hk
theorem CB {b off : Nat} {cs : List aEm} {w : aEl} (ho : lN w b cs) (h : off + 3 <= cs.length) : (jG 45 (.pointer (some ⟨b, off, none⟩))).run pg w = .ok (.value (.agg ((cs.drop off).take 3).toArray)) w := Ql Tryz.underlying45 rfl amC ho h
theorem mU {base n m : Nat} {ty : TypeId} {w : aEl} {v x : aEm} {l news : List aEm} (h : yW w base 1 v n l) (hx : Cl w 1 x m news) (hone : ∀ y ∈ news, one y = true) (hb : base <= w.heap.size) (hbytes : (n + m) * 1 <= 140737488355328) {K : aEm -> aEl -> Prop} (hk : ∀ v' w', yW w' base 1 v' (n + m) (l ++ news) -> jN w w' (fun y => base <= y) -> K v' w') : gI pg (nX .append #[22, 22] ty [v, x]) w K := aaK (i := Tryz.t5) Tryz.underlying22 Tryz.underlying22 JX rfl rfl rfl h hx hone hb (by omega) hbytes (by decide) hk
theorem dK {k : IntKind} (a : Int) (w : aEl) : (nE 32 5 (.int k a)).run pg w = .ok (.value (.int .u8 (IntKind.u8.wrap a))) w := Dm Tryz.underlying32 Tryz.underlying5
theorem Xt : (pg).info? 22 = some Tryz.t22 := by kernel_rfl
theorem bP (b o : Nat) (w : aEl) : (jI 56 (.pointer (some ⟨b, o, none⟩)) 3).run pg w = .ok (.value (.pointer (some ⟨b, o + 3, none⟩))) w := mQ (i := 3) Tryz.underlying56 rfl Xt (by decide) _
theorem fS (x : Addr) (w : aEl) : (jG 22 (.pointer (some x))).run pg w = ldC (w.cell? x) w (far pg 22 x w) := YO Tryz.underlying22 rfl x w
theorem eY {k : IntKind} (a : Int) (w : aEl) : (nE 32 3 (.int k a)).run pg w = .ok (.value (.int .i64 (IntKind.i64.wrap a))) w := Dm Tryz.underlying32 Tryz.underlying3
theorem HA {b off : Nat} {cs : List aEm} {w : aEl} (ho : lN w b cs) (h : off + 3 <= cs.length) {K : aEm -> Prop} (hk : K (.agg ((cs.drop off).take 3).toArray)) : Nq pg 45 (.pointer (some ⟨b, off, none⟩)) w K := T0 Tryz.underlying45 rfl amC ho h hk
theorem aP (n0 : Int) (n1 : Int) (n2 : Int) (w : aEl) : (kV 45 [(0, (.int .u32 n0)), (1, (.int .u32 n1)), (2, (.int .u32 n2))]).run pg w = .ok (.value (.agg #[(.int .u32 n0), (.int .u32 n1), (.int .u32 n2)])) w := by kernel_rfl
theorem dB {k k' : IntKind} {lo hi : Int} (a : Option Addr) (n c : Nat) (w : aEl) (h0 : 0 <= lo) (h1 : lo <= hi) (h2 : hi <= c) : (lR 22 (.slice a n c) (some (.int k lo)) (some (.int k' hi)) none).run pg w = .ok (.value (.slice (mY a c (lo.toNat) 1) (hi.toNat - lo.toNat) (c - lo.toNat))) w := aeY Tryz.underlying22 JX _ n c h0 h1 h2
theorem aX (b0 : Bool) (n1 : Int) (n2 : Int) (w : aEl) : (kV 65 [(0, (.bool b0)), (1, (.int .i64 n1)), (2, (.int .i64 n2))]).run pg w = .ok (.value (.agg #[(.bool b0), (.int .i64 n1), (.int .i64 n2)])) w := by kernel_rfl
theorem anE : (pg).info? 65 = some Tryz.t65 := by kernel_rfl
theorem F9 {w : aEl} {K : aEm -> aEl -> Prop} (hk : ∀ w', lN w' w.heap.size [(.bool false), (.int .i64 0), (.int .i64 0)] -> jN w w' mC -> w'.heap.size = w.heap.size + 1 -> K (.pointer (some ⟨w.heap.size, 0, none⟩)) w') : gI pg (oK 65) w K := Cx (i := Tryz.t65) anE rfl hk
theorem AH {b off : Nat} {cs : List aEm} {w : aEl} {xs : Array aEm} {K : aEm -> aEl -> Prop} (ho : lN w b cs) (hs : xs.size = 3) (hv : ∀ x ∈ xs.toList, one x = true) (h : off + 3 <= cs.length) (hk : ∀ w', lN w' b (kW cs off xs.toList) -> jN w w' (fun x => x = b) -> w'.heap.size = w.heap.size -> K undef w') : gI pg (jQ 65 (.pointer (some ⟨b, off, none⟩)) (.agg xs)) w K := Fg (v := .agg xs) anE ho hs hv h hk
theorem GZ : (pg).info? 3 = some Tryz.t3 := by kernel_rfl
theorem bQ (b o : Nat) (w : aEl) : (jI 65 (.pointer (some ⟨b, o, none⟩)) 1).run pg w = .ok (.value (.pointer (some ⟨b, o + 1, none⟩))) w := mQ (i := 1) Tryz.underlying65 rfl GZ (by decide) _
theorem LC {b off : Nat} {cs : List aEm} {w : aEl} {v : aEm} {K : aEm -> aEl -> Prop} (ho : lN w b cs) (hv : one v = true) (h : off < cs.length) (hk : ∀ w', lN w' b (cs.set off v) -> jN w w' (fun x => x = b) -> w'.heap.size = w.heap.size -> K undef w') : gI pg (jQ 3 (.pointer (some ⟨b, off, none⟩)) v) w K := Am GZ rfl ho hv h hk
theorem bM (b o : Nat) (w : aEl) : (jI 65 (.pointer (some ⟨b, o, none⟩)) 2).run pg w = .ok (.value (.pointer (some ⟨b, o + 2, none⟩))) w := mQ (i := 2) Tryz.underlying65 rfl GZ (by decide) _
theorem ZL {b off : Nat} {cs : List aEm} {w : aEl} (ho : lN w b cs) (h : off + 3 <= cs.length) : (jG 65 (.pointer (some ⟨b, off, none⟩))).run pg w = .ok (.value (.agg ((cs.drop off).take 3).toArray)) w := Ql Tryz.underlying65 rfl anE ho h
theorem aO (p0 : Option Addr) (n1 : Int) (n2 : Int) (w : aEl) : (kV 56 [(0, (.pointer p0)), (1, (.int .u64 n1)), (2, (.int .i64 n2))]).run pg w = .ok (.value (.agg #[(.pointer p0), (.int .u64 n1), (.int .i64 n2), (.slice none 0 0), (.int .i64 0), (.int .i64 0)])) w := by kernel_rfl
theorem axY : (pg).info? 54 = some Tryz.t54 := by kernel_rfl
theorem cO (b o : Nat) (w : aEl) : (jI 56 (.pointer (some ⟨b, o, none⟩)) 0).run pg w = .ok (.value (.pointer (some ⟨b, o, none⟩))) w := mQ (i := 0) Tryz.underlying56 rfl axY (by decide) _
theorem cJ (x : Addr) (w : aEl) : (jG 54 (.pointer (some x))).run pg w = ldC (w.cell? x) w (far pg 54 x w) := YO Tryz.underlying54 rfl x w
theorem eQ {ox oy : Operand} (x : Option Addr) (n c : Nat) (w : aEl) : (hU .eql 22 ox oy (.slice x n c) (.slice none 0 0)).run pg w = .ok (.value (.bool x.isNone)) w := awH Tryz.underlying22 x n c
theorem aE (b o : Nat) (w : aEl) : (jI 56 (.pointer (some ⟨b, o, none⟩)) 4).run pg w = .ok (.value (.pointer (some ⟨b, o + 4, none⟩))) w := mQ (i := 4) Tryz.underlying56 rfl GZ (by decide) _
theorem gS (x : Addr) (w : aEl) : (jG 3 (.pointer (some x))).run pg w = ldC (w.cell? x) w (far pg 3 x w) := YO Tryz.underlying3 rfl x w
theorem aJ (b o : Nat) (w : aEl) : (jI 56 (.pointer (some ⟨b, o, none⟩)) 5).run pg w = .ok (.value (.pointer (some ⟨b, o + 5, none⟩))) w := mQ (i := 5) Tryz.underlying56 rfl GZ (by decide) _
theorem cK  (w : aEl) : (kV 77 []).run pg w = .ok (.value (.agg #[(.slice none 0 0)])) w := by kernel_rfl
theorem aT {ox oy : Operand} (x : Option Addr) (w : aEl) : (hU .eql 60 ox oy (.pointer x) (.pointer none)).run pg w = .ok (.value (.bool x.isNone)) w := afE Tryz.underlying60 x
theorem bU (b o : Nat) (w : aEl) : (jI 77 (.pointer (some ⟨b, o, none⟩)) 0).run pg w = .ok (.value (.pointer (some ⟨b, o, none⟩))) w := mQ (i := 0) Tryz.underlying77 rfl Xt (by decide) _
theorem fT {k : IntKind} (a : Int) (w : aEl) : (nE 3 50 (.int k a)).run pg w = .ok (.value (.int .u64 (IntKind.u64.wrap a))) w := Dm Tryz.underlying3 Tryz.underlying50
theorem sL {b off : Nat} {cs : List aEm} {w : aEl} {v : aEm} {K : aEm -> aEl -> Prop} (ho : lN w b cs) (hv : one v = true) (h : off < cs.length) (hk : ∀ w', lN w' b (cs.set off v) -> jN w w' (fun x => x = b) -> w'.heap.size = w.heap.size -> K undef w') : gI pg (jQ 22 (.pointer (some ⟨b, off, none⟩)) v) w K := Am Xt rfl ho hv h hk
theorem cI {ty : TypeId} (x : Option Addr) (n c : Nat) (w : aEl) : (nX .len #[80] ty [.slice x n c]).run pg w = .ok (.value (.int .i64 n)) w := VO Tryz.underlying80 x n c
theorem aqZ : (pg).info? 84 = some Tryz.t84 := by kernel_rfl
theorem cF {k : IntKind} {a : Int} (b o n c : Nat) (w : aEl) (h0 : 0 <= a) (h1 : a < n) : (jT 80 (.slice (some ⟨b, o, none⟩) n c) (.int k a)).run pg w = .ok (.value (.pointer (some ⟨b, o + a.toNat * 3, none⟩))) w := YG rfl Tryz.underlying80 aqZ b o n c h0 h1
theorem MJ : (pg).info? 38 = some Tryz.t38 := by kernel_rfl
theorem aD (b o : Nat) (w : aEl) : (jI 84 (.pointer (some ⟨b, o, none⟩)) 0).run pg w = .ok (.value (.pointer (some ⟨b, o, none⟩))) w := mQ (i := 0) Tryz.underlying84 rfl MJ (by decide) _
theorem gA (x : Addr) (w : aEl) : (jG 38 (.pointer (some x))).run pg w = ldC (w.cell? x) w (far pg 38 x w) := YO Tryz.underlying38 rfl x w
theorem fD {k : IntKind} (a : Int) (w : aEl) : (nE 38 3 (.int k a)).run pg w = .ok (.value (.int .i64 (IntKind.i64.wrap a))) w := Dm Tryz.underlying38 Tryz.underlying3
theorem aN (b o : Nat) (w : aEl) : (jI 84 (.pointer (some ⟨b, o, none⟩)) 1).run pg w = .ok (.value (.pointer (some ⟨b, o + 1, none⟩))) w := mQ (i := 1) Tryz.underlying84 rfl MJ (by decide) _
theorem aF (b o : Nat) (w : aEl) : (jI 84 (.pointer (some ⟨b, o, none⟩)) 2).run pg w = .ok (.value (.pointer (some ⟨b, o + 2, none⟩))) w := mQ (i := 2) Tryz.underlying84 rfl MJ (by decide) _
theorem aqP {b off : Nat} {cs : List aEm} {w : aEl} {v : aEm} {K : aEm -> aEl -> Prop} (ho : lN w b cs) (hv : one v = true) (h : off < cs.length) (hk : ∀ w', lN w' b (cs.set off v) -> jN w w' (fun x => x = b) -> w'.heap.size = w.heap.size -> K undef w') : gI pg (jQ 38 (.pointer (some ⟨b, off, none⟩)) v) w K := Am MJ rfl ho hv h hk
theorem Tr {n : Nat} {ps : List (Nat × aEm)} {cells : Array aEm} {w : aEl} (h1 : ¬ n * 1 > 2 ^ 24) (h0 : ¬ n * 1 = 0) (hf : Go.Instr.fill (fun j => some (j * 1, 1)) ((Array.range (n * 1)).map ((Tryz.t22.zero.get!).cells[· % (Tryz.t22.zero.get!).cells.size]!)) ps = some cells) {K : aEm -> aEl -> Prop} (hk : ∀ w', lN w' w.heap.size cells.toList -> jN w w' mC -> w'.heap.size = w.heap.size + 1 -> K (.slice (some ⟨w.heap.size, 0, none⟩) n n) w') : gI pg (lT 137 n ps) w K := VH (i := Tryz.t22) Tryz.underlying137 Xt rfl h1 h0 hf hk
theorem awB : (pg).info? 4 = some Tryz.t4 := by kernel_rfl
theorem bO (b o : Nat) (w : aEl) : (jI 65 (.pointer (some ⟨b, o, none⟩)) 0).run pg w = .ok (.value (.pointer (some ⟨b, o, none⟩))) w := mQ (i := 0) Tryz.underlying65 rfl awB (by decide) _
theorem gQ (x : Addr) (w : aEl) : (jG 4 (.pointer (some x))).run pg w = ldC (w.cell? x) w (far pg 4 x w) := YO Tryz.underlying4 rfl x w
theorem aI (n0 : Int) (n1 : Int) (n2 : Int) (n3 : Int) (w : aEl) : (kV 90 [(0, (.int .u64 n0)), (1, (.int .u64 n1)), (2, (.int .u64 n2)), (3, (.int .u64 n3))]).run pg w = .ok (.value (.agg #[(.int .u64 n0), (.int .u64 n1), (.int .u64 n2), (.int .u64 n3)])) w := by kernel_rfl
theorem eX (arY atJ atV aAA : aEm) (w : aEl) : (kV 93 [(0, (.agg #[arY, atJ, atV, aAA]))]).run pg w = .ok (.value (.agg #[arY, atJ, atV, aAA, (.int .u8 0), (.int .u8 0), (.int .u8 0), (.int .u8 0), (.int .u8 0), (.int .u8 0), (.int .u8 0), (.int .u8 0), (.int .u8 0), (.int .u8 0), (.int .u8 0), (.int .u8 0), (.int .u8 0), (.int .u8 0), (.int .u8 0), (.int .u8 0), (.int .u8 0), (.int .u8 0), (.int .u8 0), (.int .u8 0), (.int .u8 0), (.int .u8 0), (.int .u8 0), (.int .u8 0), (.int .u8 0), (.int .u8 0), (.int .u8 0), (.int .u8 0), (.int .u8 0), (.int .u8 0), (.int .u8 0), (.int .u8 0), (.int .i64 0), (.int .u64 0)])) w := by kernel_rfl
theorem dT {ox oy : Operand} (x : Option Addr) (w : aEl) : (hU .eql 68 ox oy (.pointer x) (.pointer none)).run pg w = .ok (.value (.bool x.isNone)) w := afE Tryz.underlying68 x
theorem aaX : (pg).info? 32 = some Tryz.t32 := by kernel_rfl
theorem dV (b o : Nat) (w : aEl) : (jI 93 (.pointer (some ⟨b, o, none⟩)) 3).run pg w = .ok (.value (.pointer (some ⟨b, o + 37, none⟩))) w := mQ (i := 3) Tryz.underlying93 rfl aaX (by decide) _
theorem gF (x : Addr) (w : aEl) : (jG 32 (.pointer (some x))).run pg w = ldC (w.cell? x) w (far pg 32 x w) := YO Tryz.underlying32 rfl x w
theorem J2 {b off : Nat} {cs : List aEm} {w : aEl} {v : aEm} {K : aEm -> aEl -> Prop} (ho : lN w b cs) (hv : one v = true) (h : off < cs.length) (hk : ∀ w', lN w' b (cs.set off v) -> jN w w' (fun x => x = b) -> w'.heap.size = w.heap.size -> K undef w') : gI pg (jQ 32 (.pointer (some ⟨b, off, none⟩)) v) w K := Am aaX rfl ho hv h hk
theorem aAM : (pg).info? 91 = some Tryz.t91 := by kernel_rfl
theorem dE (b o : Nat) (w : aEl) : (jI 93 (.pointer (some ⟨b, o, none⟩)) 1).run pg w = .ok (.value (.pointer (some ⟨b, o + 4, none⟩))) w := mQ (i := 1) Tryz.underlying93 rfl aAM (by decide) _
theorem fB (b o : Nat) (w : aEl) : (jI 93 (.pointer (some ⟨b, o, none⟩)) 2).run pg w = .ok (.value (.pointer (some ⟨b, o + 36, none⟩))) w := mQ (i := 2) Tryz.underlying93 rfl GZ (by decide) _
theorem cZ {k : IntKind} {lo : Int} (b o : Nat) (w : aEl) (h0 : 0 <= lo) (h1 : lo <= 32) : (lR 91 (.pointer (some ⟨b, o, none⟩)) (some (.int k lo)) none none).run pg w = .ok (.value (.slice (some (uR ⟨b, o, none⟩ 32 (lo.toNat) 1)) (32 - lo.toNat) (32 - lo.toNat))) w := agI Tryz.underlying91 JX _ h0 (by simpa using h1)
theorem SM {ty : TypeId} {w : aEl} {b off dl c : Nat} {cs : List aEm} (ho : lN w b cs) (hl : off + dl <= cs.length) {v : aEm} {l : List aEm} (h : Sl w v l) (hv : ∀ x ∈ l, one x = true) {K : aEm -> aEl -> Prop} (hk : ∀ w', lN w' b (kW cs off (l.take (min l.length dl))) -> jN w w' (fun x => x = b) -> w'.heap.size = w.heap.size -> K (.int .i64 (min l.length dl : Nat)) w') : gI pg (nX .copy #[22, 22] ty [.slice (some ⟨b, off, none⟩) dl c, v]) w K := asX Tryz.underlying22 JX rfl ho hl h hv hk
theorem eH {k : IntKind} {lo : Int} (a : Option Addr) (n c : Nat) (w : aEl) (h0 : 0 <= lo) (h1 : lo <= n) : (lR 22 (.slice a n c) (some (.int k lo)) none none).run pg w = .ok (.value (.slice (mY a c (lo.toNat) 1) (n - lo.toNat) (c - lo.toNat))) w := akB Tryz.underlying22 JX _ n c h0 h1
theorem ayG : (pg).info? 90 = some Tryz.t90 := by kernel_rfl
theorem fF (b o : Nat) (w : aEl) : (jI 93 (.pointer (some ⟨b, o, none⟩)) 0).run pg w = .ok (.value (.pointer (some ⟨b, o, none⟩))) w := mQ (i := 0) Tryz.underlying93 rfl ayG (by decide) _
theorem fC {k : IntKind} {a : Int} (b o : Nat) (w : aEl) (h0 : 0 <= a) (h1 : a < 4) : (jT 90 (.pointer (some ⟨b, o, none⟩)) (.int k a)).run pg w = .ok (.value (.pointer (some ⟨b, o + a.toNat, none⟩))) w := J0 rfl Tryz.underlying90 aaX b o h0 (by simpa using h1)
theorem cG {k k' : IntKind} {lo hi : Int} (b o : Nat) (w : aEl) (h0 : 0 <= lo) (h1 : lo <= hi) (h2 : hi <= 32) : (lR 91 (.pointer (some ⟨b, o, none⟩)) (some (.int k lo)) (some (.int k' hi)) none).run pg w = .ok (.value (.slice (some (uR ⟨b, o, none⟩ 32 (lo.toNat) 1)) (hi.toNat - lo.toNat) (32 - lo.toNat))) w := Vr Tryz.underlying91 JX _ h0 h1 (by simpa using h2)
theorem dG {k : IntKind} {hi : Int} (b o : Nat) (w : aEl) (h0 : 0 <= hi) (h1 : hi <= 32) : (lR 91 (.pointer (some ⟨b, o, none⟩)) none (some (.int k hi)) none).run pg w = .ok (.value (.slice (some (uR ⟨b, o, none⟩ 32 (0) 1)) (hi.toNat - 0) (32 - 0))) w := Tl Tryz.underlying91 JX _ h0 (by simpa using h1)
theorem gK (x : Addr) (w : aEl) : (jG 5 (.pointer (some x))).run pg w = ldC (w.cell? x) w (far pg 5 x w) := YO Tryz.underlying5 rfl x w
theorem dN {k : IntKind} (a : Int) (w : aEl) : (nE 5 32 (.int k a)).run pg w = .ok (.value (.int .u64 (IntKind.u64.wrap a))) w := Dm Tryz.underlying5 Tryz.underlying32
theorem bZ (a0 : Option Addr) (l0 c0 : Nat) (w : aEl) : (kV 97 [(0, (.slice a0 l0 c0))]).run pg w = .ok (.value (.agg #[(.slice a0 l0 c0), (.int .i64 0)])) w := by kernel_rfl
theorem aS {ox oy : Operand} (x : Option Addr) (w : aEl) : (hU .eql 54 ox oy (.pointer x) (.pointer none)).run pg w = .ok (.value (.bool x.isNone)) w := afE Tryz.underlying54 x
theorem bV (b o : Nat) (w : aEl) : (jI 97 (.pointer (some ⟨b, o, none⟩)) 0).run pg w = .ok (.value (.pointer (some ⟨b, o, none⟩))) w := mQ (i := 0) Tryz.underlying97 rfl Xt (by decide) _
theorem arK : (pg).info? 24 = some Tryz.t24 := by kernel_rfl
theorem bT (b o : Nat) (w : aEl) : (jI 97 (.pointer (some ⟨b, o, none⟩)) 1).run pg w = .ok (.value (.pointer (some ⟨b, o + 1, none⟩))) w := mQ (i := 1) Tryz.underlying97 rfl arK (by decide) _
theorem fN (x : Addr) (w : aEl) : (jG 24 (.pointer (some x))).run pg w = ldC (w.cell? x) w (far pg 24 x w) := YO Tryz.underlying24 rfl x w
theorem aeX : (pg).info? 101 = some Tryz.t101 := by kernel_rfl
theorem D5 {w : aEl} {K : aEm -> aEl -> Prop} (hk : ∀ w', lN w' w.heap.size [(.int .u64 0), (.int .u64 0), (.bool false), (.bool false)] -> jN w w' mC -> w'.heap.size = w.heap.size + 1 -> K (.pointer (some ⟨w.heap.size, 0, none⟩)) w') : gI pg (oK 101) w K := Cx (i := Tryz.t101) aeX rfl hk
theorem rC {b off : Nat} {cs : List aEm} {w : aEl} {xs : Array aEm} {K : aEm -> aEl -> Prop} (ho : lN w b cs) (hs : xs.size = 4) (hv : ∀ x ∈ xs.toList, one x = true) (h : off + 4 <= cs.length) (hk : ∀ w', lN w' b (kW cs off xs.toList) -> jN w w' (fun x => x = b) -> w'.heap.size = w.heap.size -> K undef w') : gI pg (jQ 101 (.pointer (some ⟨b, off, none⟩)) (.agg xs)) w K := Fg (v := .agg xs) aeX ho hs hv h hk
theorem VR {b off : Nat} {cs : List aEm} {w : aEl} {v : aEm} {K : aEm -> aEl -> Prop} (ho : lN w b cs) (hv : one v = true) (h : off < cs.length) (hk : ∀ w', lN w' b (cs.set off v) -> jN w w' (fun x => x = b) -> w'.heap.size = w.heap.size -> K undef w') : gI pg (jQ 54 (.pointer (some ⟨b, off, none⟩)) v) w K := Am axY rfl ho hv h hk
theorem aG (b o : Nat) (w : aEl) : (jI 101 (.pointer (some ⟨b, o, none⟩)) 0).run pg w = .ok (.value (.pointer (some ⟨b, o, none⟩))) w := mQ (i := 0) Tryz.underlying101 rfl aaX (by decide) _
theorem aH (b o : Nat) (w : aEl) : (jI 56 (.pointer (some ⟨b, o, none⟩)) 1).run pg w = .ok (.value (.pointer (some ⟨b, o + 1, none⟩))) w := mQ (i := 1) Tryz.underlying56 rfl aaX (by decide) _
theorem aQ (b o : Nat) (w : aEl) : (jI 101 (.pointer (some ⟨b, o, none⟩)) 2).run pg w = .ok (.value (.pointer (some ⟨b, o + 2, none⟩))) w := mQ (i := 2) Tryz.underlying101 rfl awB (by decide) _
theorem bA (b o : Nat) (w : aEl) : (jI 101 (.pointer (some ⟨b, o, none⟩)) 1).run pg w = .ok (.value (.pointer (some ⟨b, o + 1, none⟩))) w := mQ (i := 1) Tryz.underlying101 rfl aaX (by decide) _
theorem bE (b o : Nat) (w : aEl) : (jI 56 (.pointer (some ⟨b, o, none⟩)) 2).run pg w = .ok (.value (.pointer (some ⟨b, o + 2, none⟩))) w := mQ (i := 2) Tryz.underlying56 rfl GZ (by decide) _
theorem cP (arY atJ atV : aEm) (w : aEl) : (kV 110 [(2, (.agg #[arY, atJ, atV]))]).run pg w = .ok (.value (.agg #[(.slice none 0 0), (.int .i64 0), (.slice none 0 0), (.int .i64 0), (.slice none 0 0), (.int .i64 0), (.slice none 0 0), arY, atJ, atV])) w := by kernel_rfl
theorem afP : (pg).info? 110 = some Tryz.t110 := by kernel_rfl
theorem QY {w : aEl} {K : aEm -> aEl -> Prop} (hk : ∀ w', lN w' w.heap.size [(.slice none 0 0), (.int .i64 0), (.slice none 0 0), (.int .i64 0), (.slice none 0 0), (.int .i64 0), (.slice none 0 0), (.int .u32 0), (.int .u32 0), (.int .u32 0)] -> jN w w' mC -> w'.heap.size = w.heap.size + 1 -> K (.pointer (some ⟨w.heap.size, 0, none⟩)) w') : gI pg (oK 110) w K := Cx (i := Tryz.t110) afP rfl hk
theorem qE {b off : Nat} {cs : List aEm} {w : aEl} {xs : Array aEm} {K : aEm -> aEl -> Prop} (ho : lN w b cs) (hs : xs.size = 10) (hv : ∀ x ∈ xs.toList, one x = true) (h : off + 10 <= cs.length) (hk : ∀ w', lN w' b (kW cs off xs.toList) -> jN w w' (fun x => x = b) -> w'.heap.size = w.heap.size -> K undef w') : gI pg (jQ 110 (.pointer (some ⟨b, off, none⟩)) (.agg xs)) w K := Fg (v := .agg xs) afP ho hs hv h hk
theorem H8 {b off : Nat} {cs : List aEm} {w : aEl} (ho : lN w b cs) (h : off + 10 <= cs.length) : (jG 110 (.pointer (some ⟨b, off, none⟩))).run pg w = .ok (.value (.agg ((cs.drop off).take 10).toArray)) w := Ql Tryz.underlying110 rfl afP ho h
theorem bK (b o : Nat) (w : aEl) : (jI 101 (.pointer (some ⟨b, o, none⟩)) 3).run pg w = .ok (.value (.pointer (some ⟨b, o + 3, none⟩))) w := mQ (i := 3) Tryz.underlying101 rfl awB (by decide) _
theorem IV {w : aEl} {K : aEm -> aEl -> Prop} (hk : ∀ w', Mp w' w.heap.size (WN (n := 4)) ([] : List (RW 4 × aEm)) -> jN w w' mC -> w'.heap.size = w.heap.size + 1 -> K (.map (some w.heap.size)) w') : gI pg (Yp 116 none) w K := aqH _ hk
theorem Yr {k : IntKind} {n : Int} {w : aEl} {K : aEm -> aEl -> Prop} (h0 : 0 <= n) (hn : 8 * n <= 2 ^ 48) (hk : ∀ w', lN w' w.heap.size (List.replicate n.toNat (.int .i64 0)) -> jN w w' mC -> w'.heap.size = w.heap.size + 1 -> K (.slice (some ⟨w.heap.size, 0, none⟩) n.toNat n.toNat) w') : gI pg (sP 117 (.int k n) (.int k n)) w K := aaH (i := Tryz.t3) Tryz.underlying117 GZ rfl rfl rfl h0 hn (by omega) hk
theorem aA (a0 : Option Addr) (l0 c0 : Nat) (n1 : Int) (m2 : Option Nat) (a3 : Option Addr) (l3 c3 : Nat) (n4 : Int) (w : aEl) : (kV 119 [(0, (.slice a0 l0 c0)), (1, (.int .i64 n1)), (2, (.map m2)), (3, (.slice a3 l3 c3)), (4, (.int .i64 n4))]).run pg w = .ok (.value (.agg #[(.slice a0 l0 c0), (.int .i64 n1), (.map m2), (.slice a3 l3 c3), (.int .i64 n4)])) w := by kernel_rfl
theorem fA {k : IntKind} (a : Int) (w : aEl) : (nE 3 38 (.int k a)).run pg w = .ok (.value (.int .u32 (IntKind.u32.wrap a))) w := Dm Tryz.underlying3 Tryz.underlying38
theorem aR (n0 : Int) (n1 : Int) (n2 : Int) (w : aEl) : (kV 84 [(0, (.int .u32 n0)), (1, (.int .u32 n1)), (2, (.int .u32 n2))]).run pg w = .ok (.value (.agg #[(.int .u32 n0), (.int .u32 n1), (.int .u32 n2)])) w := by kernel_rfl
theorem Wi {n : Nat} {ps : List (Nat × aEm)} {cells : Array aEm} {w : aEl} (h1 : ¬ n * 3 > 2 ^ 24) (h0 : ¬ n * 3 = 0) (hf : Go.Instr.fill (fun j => some (j * 3, 3)) ((Array.range (n * 3)).map ((Tryz.t84.zero.get!).cells[· % (Tryz.t84.zero.get!).cells.size]!)) ps = some cells) {K : aEm -> aEl -> Prop} (hk : ∀ w', lN w' w.heap.size cells.toList -> jN w w' mC -> w'.heap.size = w.heap.size + 1 -> K (.slice (some ⟨w.heap.size, 0, none⟩) n n) w') : gI pg (lT 80 n ps) w K := VH (i := Tryz.t84) Tryz.underlying80 aqZ rfl h1 h0 hf hk
theorem Fc {base n m : Nat} {ty : TypeId} {w : aEl} {v x : aEm} {l news : List aEm} (h : yW w base 3 v n l) (hx : Cl w 3 x m news) (hone : ∀ y ∈ news, one y = true) (hb : base <= w.heap.size) (hbytes : (n + m) * 12 <= 140737488355328) {K : aEm -> aEl -> Prop} (hk : ∀ v' w', yW w' base 3 v' (n + m) (l ++ news) -> jN w w' (fun y => base <= y) -> K v' w') : gI pg (nX .append #[80, 80] ty [v, x]) w K := aaK (i := Tryz.t84) Tryz.underlying80 Tryz.underlying80 aqZ rfl rfl rfl h hx hone hb (by omega) hbytes (by decide) hk
theorem cL (n0 : Int) (w : aEl) : (kV 84 [(0, (.int .u32 n0))]).run pg w = .ok (.value (.agg #[(.int .u32 n0), (.int .u32 0), (.int .u32 0)])) w := by kernel_rfl
theorem Zq {w : aEl} {K : aEm -> aEl -> Prop} (hk : ∀ w', lN w' w.heap.size [(.slice none 0 0)] -> jN w w' mC -> w'.heap.size = w.heap.size + 1 -> K (.pointer (some ⟨w.heap.size, 0, none⟩)) w') : gI pg (oK 22) w K := Cx (i := Tryz.t22) Xt rfl hk
theorem afH {k : IntKind} {n : Int} {w : aEl} {K : aEm -> aEl -> Prop} (h0 : 0 <= n) (hn : 4 * n <= 2 ^ 48) (hk : ∀ w', lN w' w.heap.size (List.replicate n.toNat (.int .u32 0)) -> jN w w' mC -> w'.heap.size = w.heap.size + 1 -> K (.slice (some ⟨w.heap.size, 0, none⟩) n.toNat n.toNat) w') : gI pg (sP 128 (.int k n) (.int k n)) w K := aaH (i := Tryz.t38) Tryz.underlying128 MJ rfl rfl rfl h0 hn (by omega) hk
theorem fJ {k : IntKind} {a : Int} (b o n c : Nat) (w : aEl) (h0 : 0 <= a) (h1 : a < n) : (jT 128 (.slice (some ⟨b, o, none⟩) n c) (.int k a)).run pg w = .ok (.value (.pointer (some ⟨b, o + a.toNat, none⟩))) w := T2 rfl Tryz.underlying128 MJ b o n c h0 h1
theorem ajV : (pg).info? 117 = some Tryz.t117 := by kernel_rfl
theorem eU {k : IntKind} {a : Int} (b o : Nat) (w : aEl) (h0 : 0 <= a) (h1 : a < 3) : (jT 131 (.pointer (some ⟨b, o, none⟩)) (.int k a)).run pg w = .ok (.value (.pointer (some ⟨b, o + a.toNat, none⟩))) w := J0 rfl Tryz.underlying131 ajV b o h0 (by simpa using h1)
theorem gG (x : Addr) (w : aEl) : (jG 117 (.pointer (some x))).run pg w = ldC (w.cell? x) w (far pg 117 x w) := YO Tryz.underlying117 rfl x w
theorem azA : (pg).info? 106 = some Tryz.t106 := by kernel_rfl
theorem bJ {k : IntKind} {a : Int} (b o : Nat) (w : aEl) (h0 : 0 <= a) (h1 : a < 3) : (jT 108 (.pointer (some ⟨b, o, none⟩)) (.int k a)).run pg w = .ok (.value (.pointer (some ⟨b, o + a.toNat * 2, none⟩))) w := aqN rfl Tryz.underlying108 azA b o h0 (by simpa using h1)
theorem eL {ty : TypeId} (x : Option Addr) (n c : Nat) (w : aEl) : (nX .len #[137] ty [.slice x n c]).run pg w = .ok (.value (.int .i64 n)) w := VO Tryz.underlying137 x n c
theorem eN {k : IntKind} {a : Int} (b o n c : Nat) (w : aEl) (h0 : 0 <= a) (h1 : a < n) : (jT 137 (.slice (some ⟨b, o, none⟩) n c) (.int k a)).run pg w = .ok (.value (.pointer (some ⟨b, o + a.toNat, none⟩))) w := T2 rfl Tryz.underlying137 Xt b o n c h0 h1
theorem bY (n0 : Int) (n1 : Int) (n2 : Int) (n3 : Int) (w : aEl) : (kV 139 [(0, (.int .i64 n0)), (1, (.int .i64 n1)), (2, (.int .i64 n2)), (3, (.int .i64 n3))]).run pg w = .ok (.value (.agg #[(.int .i64 n0), (.int .i64 n1), (.int .i64 n2), (.int .i64 n3)])) w := by kernel_rfl
theorem fW {k : IntKind} {a : Int} (cs : Array aEm) (w : aEl) (h0 : 0 <= a) (h1 : a < 4) : (Rp 139 (.agg cs) (.int k a)).run pg w = ldC cs[a.toNat]? w (atP pg 139 cs k a w) := aeZ Tryz.underlying139 Tryz.underlying3 rfl GZ rfl cs h0 (by simpa using h1)
theorem aaN {b off : Nat} {cs : List aEm} {w : aEl} (ho : lN w b cs) (h : off + 4 <= cs.length) : (jG 90 (.pointer (some ⟨b, off, none⟩))).run pg w = .ok (.value (.agg ((cs.drop off).take 4).toArray)) w := Ql Tryz.underlying90 rfl ayG ho h
theorem eZ {k : IntKind} {a : Int} (cs : Array aEm) (w : aEl) (h0 : 0 <= a) (h1 : a < 4) : (Rp 90 (.agg cs) (.int k a)).run pg w = ldC cs[a.toNat]? w (atP pg 90 cs k a w) := aeZ Tryz.underlying90 Tryz.underlying32 rfl aaX rfl cs h0 (by simpa using h1)
theorem JW {b off : Nat} {cs : List aEm} {w : aEl} {v : aEm} {K : aEm -> aEl -> Prop} (ho : lN w b cs) (hv : one v = true) (h : off < cs.length) (hk : ∀ w', lN w' b (cs.set off v) -> jN w w' (fun x => x = b) -> w'.heap.size = w.heap.size -> K undef w') : gI pg (jQ 24 (.pointer (some ⟨b, off, none⟩)) v) w K := Am arK rfl ho hv h hk
theorem eJ {k k' : IntKind} {hi mx : Int} (a : Option Addr) (n c : Nat) (w : aEl) (h0 : 0 <= hi) (h1 : hi <= mx) (h2 : mx <= c) : (lR 22 (.slice a n c) none (some (.int k hi)) (some (.int k' mx))).run pg w = .ok (.value (.slice (mY a mx.toNat 0 1) (hi.toNat - 0) (mx.toNat - 0))) w := alL Tryz.underlying22 JX a n c h0 h1 h2
theorem yF {b off : Nat} {cs : List aEm} {w : aEl} (ho : lN w b cs) (h : off + 4 <= cs.length) {K : aEm -> Prop} (hk : K (.agg ((cs.drop off).take 4).toArray)) : Nq pg 101 (.pointer (some ⟨b, off, none⟩)) w K := T0 Tryz.underlying101 rfl aeX ho h hk
theorem dH  (w : aEl) : (kV 101 []).run pg w = .ok (.value (.agg #[(.int .u64 0), (.int .u64 0), (.bool false), (.bool false)])) w := by kernel_rfl
theorem cQ (b0 : Bool) (w : aEl) : (kV 101 [(3, (.bool b0))]).run pg w = .ok (.value (.agg #[(.int .u64 0), (.int .u64 0), (.bool false), (.bool b0)])) w := by kernel_rfl
theorem awQ {b off : Nat} {cs : List aEm} {w : aEl} {v : aEm} {K : aEm -> aEl -> Prop} (ho : lN w b cs) (hv : one v = true) (h : off < cs.length) (hk : ∀ w', lN w' b (cs.set off v) -> jN w w' (fun x => x = b) -> w'.heap.size = w.heap.size -> K undef w') : gI pg (jQ 4 (.pointer (some ⟨b, off, none⟩)) v) w K := Am awB rfl ho hv h hk
theorem YX {b off : Nat} {cs : List aEm} {w : aEl} (ho : lN w b cs) (h : off + 4 <= cs.length) : (jG 101 (.pointer (some ⟨b, off, none⟩))).run pg w = .ok (.value (.agg ((cs.drop off).take 4).toArray)) w := Ql Tryz.underlying101 rfl aeX ho h
theorem uE {b off : Nat} {cs : List aEm} {w : aEl} (ho : lN w b cs) (h : off + 10 <= cs.length) {K : aEm -> Prop} (hk : K (.agg ((cs.drop off).take 10).toArray)) : Nq pg 110 (.pointer (some ⟨b, off, none⟩)) w K := T0 Tryz.underlying110 rfl afP ho h hk
theorem dD  (w : aEl) : (kV 110 []).run pg w = .ok (.value (.agg #[(.slice none 0 0), (.int .i64 0), (.slice none 0 0), (.int .i64 0), (.slice none 0 0), (.int .i64 0), (.slice none 0 0), (.int .u32 0), (.int .u32 0), (.int .u32 0)])) w := by kernel_rfl
theorem acD : (pg).info? 146 = some Tryz.t146 := by kernel_rfl
theorem Qa {w : aEl} {K : aEm -> aEl -> Prop} (hk : ∀ w', lN w' w.heap.size [(.int .u8 0), (.int .u8 0), (.int .u8 0), (.int .u8 0)] -> jN w w' mC -> w'.heap.size = w.heap.size + 1 -> K (.pointer (some ⟨w.heap.size, 0, none⟩)) w') : gI pg (oK 146) w K := Cx (i := Tryz.t146) acD rfl hk
theorem II {b off : Nat} {cs : List aEm} {w : aEl} {xs : Array aEm} {K : aEm -> aEl -> Prop} (ho : lN w b cs) (hs : xs.size = 4) (hv : ∀ x ∈ xs.toList, one x = true) (h : off + 4 <= cs.length) (hk : ∀ w', lN w' b (kW cs off xs.toList) -> jN w w' (fun x => x = b) -> w'.heap.size = w.heap.size -> K undef w') : gI pg (jQ 146 (.pointer (some ⟨b, off, none⟩)) (.agg xs)) w K := Fg (v := .agg xs) acD ho hs hv h hk
theorem ayY : (pg).info? 116 = some Tryz.t116 := by kernel_rfl
theorem aY (b o : Nat) (w : aEl) : (jI 119 (.pointer (some ⟨b, o, none⟩)) 2).run pg w = .ok (.value (.pointer (some ⟨b, o + 2, none⟩))) w := mQ (i := 2) Tryz.underlying119 rfl ayY (by decide) _
theorem bD (x : Addr) (w : aEl) : (jG 116 (.pointer (some x))).run pg w = ldC (w.cell? x) w (far pg 116 x w) := YO Tryz.underlying116 rfl x w
theorem acO {b off : Nat} {l : List aEm} {w : aEl} (hl : l.length = 4) (h : ∀ j, j < l.length -> w.cell? ⟨b, off + j, none⟩ = l[j]?) : (jG 146 (.pointer (some ⟨b, off, none⟩))).run pg w = .ok (.value (.agg l.toArray)) w := awY Tryz.underlying146 rfl acD hl.symm h
theorem ND {b off : Nat} {cs : List aEm} {w : aEl} (ho : lN w b cs) (h : off + 4 <= cs.length) : (jG 146 (.pointer (some ⟨b, off, none⟩))).run pg w = .ok (.value (.agg ((cs.drop off).take 4).toArray)) w := Ql Tryz.underlying146 rfl acD ho h
theorem I6 {w : aEl} {m : Nat} {l : List (RW 4 × aEm)} (hm : Mp w m (WN (n := 4)) l) (k : RW 4) : (agU 116 (.map (some m)) ((WN (n := 4)) k) true).run pg w = .ok (.value (.tuple #[(assoc k l).getD (.int .i64 0), .bool (assoc k l).isSome])) w := ayV Tryz.underlying116 GZ rfl (adU (n := 4) Tryz.underlying146 Tryz.underlying5 JX rfl) hm k
theorem aL (b o : Nat) (w : aEl) : (jI 119 (.pointer (some ⟨b, o, none⟩)) 3).run pg w = .ok (.value (.pointer (some ⟨b, o + 3, none⟩))) w := mQ (i := 3) Tryz.underlying119 rfl ajV (by decide) _
theorem fZ {k : IntKind} {a : Int} (b o n c : Nat) (w : aEl) (h0 : 0 <= a) (h1 : a < n) : (jT 117 (.slice (some ⟨b, o, none⟩) n c) (.int k a)).run pg w = .ok (.value (.pointer (some ⟨b, o + a.toNat, none⟩))) w := T2 rfl Tryz.underlying117 GZ b o n c h0 h1
theorem SF {w : aEl} {m : Nat} {l : List (RW 4 × aEm)} (hm : Mp w m (WN (n := 4)) l) (k : RW 4) (v : aEm) {K : aEm -> aEl -> Prop} (hk : ∀ w', Mp w' m (WN (n := 4)) (upd k v l) -> jN w w' (fun y => y = m) -> w'.heap.size = w.heap.size -> K undef w') : gI pg (aaG 116 (.map (some m)) ((WN (n := 4)) k) v) w K := anP Tryz.underlying116 (adU (n := 4) Tryz.underlying146 Tryz.underlying5 JX rfl) hm k v hk
theorem aM (b o : Nat) (w : aEl) : (jI 119 (.pointer (some ⟨b, o, none⟩)) 4).run pg w = .ok (.value (.pointer (some ⟨b, o + 4, none⟩))) w := mQ (i := 4) Tryz.underlying119 rfl GZ (by decide) _
theorem dA  (w : aEl) : (kV 45 []).run pg w = .ok (.value (.agg #[(.int .u32 0), (.int .u32 0), (.int .u32 0)])) w := by kernel_rfl
theorem eE {k : IntKind} {a : Int} (b o : Nat) (w : aEl) (h0 : 0 <= a) (h1 : a < 3) : (jT 45 (.pointer (some ⟨b, o, none⟩)) (.int k a)).run pg w = .ok (.value (.pointer (some ⟨b, o + a.toNat, none⟩))) w := J0 rfl Tryz.underlying45 MJ b o h0 (by simpa using h1)
theorem bB {k k' : IntKind} {lo hi : Int} (b o : Nat) (w : aEl) (h0 : 0 <= lo) (h1 : lo <= hi) (h2 : hi <= 3) : (lR 45 (.pointer (some ⟨b, o, none⟩)) (some (.int k lo)) (some (.int k' hi)) none).run pg w = .ok (.value (.slice (some (uR ⟨b, o, none⟩ 3 (lo.toNat) 1)) (hi.toNat - lo.toNat) (3 - lo.toNat))) w := Vr Tryz.underlying45 MJ _ h0 h1 (by simpa using h2)
theorem cC {k : IntKind} {hi : Int} (b o : Nat) (w : aEl) (h0 : 0 <= hi) (h1 : hi <= 3) : (lR 45 (.pointer (some ⟨b, o, none⟩)) none (some (.int k hi)) none).run pg w = .ok (.value (.slice (some (uR ⟨b, o, none⟩ 3 (0) 1)) (hi.toNat - 0) (3 - 0))) w := Tl Tryz.underlying45 MJ _ h0 (by simpa using h1)
theorem fK {ty : TypeId} (x : Option Addr) (n c : Nat) (w : aEl) : (nX .len #[128] ty [.slice x n c]).run pg w = .ok (.value (.int .i64 n)) w := VO Tryz.underlying128 x n c
theorem dL {k : IntKind} {hi : Int} (a : Option Addr) (n c : Nat) (w : aEl) (h0 : 0 <= hi) (h1 : hi <= c) : (lR 128 (.slice a n c) none (some (.int k hi)) none).run pg w = .ok (.value (.slice (mY a c (0) 1) (hi.toNat - 0) (c - 0))) w := VA Tryz.underlying128 MJ _ n c h0 h1
theorem gC {ty : TypeId} (x : Option Addr) (n c : Nat) (w : aEl) : (nX .len #[117] ty [.slice x n c]).run pg w = .ok (.value (.int .i64 n)) w := VO Tryz.underlying117 x n c
theorem fM {k : IntKind} (a : Int) (w : aEl) : (nE 3 5 (.int k a)).run pg w = .ok (.value (.int .u8 (IntKind.u8.wrap a))) w := Dm Tryz.underlying3 Tryz.underlying5
theorem fG {k : IntKind} {a : Int} (cs : Array aEm) (w : aEl) (h0 : 0 <= a) (h1 : a < 3) : (Rp 44 (.agg cs) (.int k a)).run pg w = ldC cs[a.toNat]? w (atP pg 44 cs k a w) := aeZ Tryz.underlying44 Tryz.underlying38 rfl MJ rfl cs h0 (by simpa using h1)
theorem fI  (w : aEl) : (kV 106 []).run pg w = .ok (.value (.agg #[(.int .i64 0), (.slice none 0 0)])) w := by kernel_rfl
theorem dS {k : IntKind} {a : Int} (b o : Nat) (w : aEl) (h0 : 0 <= a) (h1 : a < 256) : (jT 160 (.pointer (some ⟨b, o, none⟩)) (.int k a)).run pg w = .ok (.value (.pointer (some ⟨b, o + a.toNat, none⟩))) w := J0 rfl Tryz.underlying160 MJ b o h0 (by simpa using h1)
theorem aK (b o : Nat) (w : aEl) : (jI 162 (.pointer (some ⟨b, o, none⟩)) 1).run pg w = .ok (.value (.pointer (some ⟨b, o + 1, none⟩))) w := mQ (i := 1) Tryz.underlying162 rfl ajV (by decide) _
theorem cH {k : IntKind} {hi : Int} (b o : Nat) (w : aEl) (h0 : 0 <= hi) (h1 : hi <= 256) : (lR 160 (.pointer (some ⟨b, o, none⟩)) none (some (.int k hi)) none).run pg w = .ok (.value (.slice (some (uR ⟨b, o, none⟩ 256 (0) 1)) (hi.toNat - 0) (256 - 0))) w := Tl Tryz.underlying160 MJ _ h0 (by simpa using h1)
theorem cY (n0 : Int) (n1 : Int) (n2 : Int) (w : aEl) : (kV 172 [(0, (.int .i64 n0)), (1, (.int .i64 n1)), (2, (.int .i64 n2))]).run pg w = .ok (.value (.agg #[(.int .i64 n0), (.int .i64 n1), (.int .i64 n2)])) w := by kernel_rfl
theorem fY {k : IntKind} {a : Int} (cs : Array aEm) (w : aEl) (h0 : 0 <= a) (h1 : a < 3) : (Rp 172 (.agg cs) (.int k a)).run pg w = ldC cs[a.toNat]? w (atP pg 172 cs k a w) := aeZ Tryz.underlying172 Tryz.underlying3 rfl GZ rfl cs h0 (by simpa using h1)
theorem fX {k : IntKind} {a : Int} (b o : Nat) (w : aEl) (h0 : 0 <= a) (h1 : a < 3) : (jT 172 (.pointer (some ⟨b, o, none⟩)) (.int k a)).run pg w = .ok (.value (.pointer (some ⟨b, o + a.toNat, none⟩))) w := J0 rfl Tryz.underlying172 GZ b o h0 (by simpa using h1)
theorem fH {k : IntKind} {a : Int} (b o : Nat) (w : aEl) (h0 : 0 <= a) (h1 : a < 3) : (jT 44 (.pointer (some ⟨b, o, none⟩)) (.int k a)).run pg w = .ok (.value (.pointer (some ⟨b, o + a.toNat, none⟩))) w := J0 rfl Tryz.underlying44 MJ b o h0 (by simpa using h1)
theorem dC (b o : Nat) (w : aEl) : (jI 106 (.pointer (some ⟨b, o, none⟩)) 0).run pg w = .ok (.value (.pointer (some ⟨b, o, none⟩))) w := mQ (i := 0) Tryz.underlying106 rfl GZ (by decide) _
theorem aV {ox oy : Operand} (x : Option Addr) (w : aEl) : (hU .neq 60 ox oy (.pointer x) (.pointer none)).run pg w = .ok (.value (.bool (!x.isNone))) w := azL Tryz.underlying60 x
theorem Q5 {b off : Nat} {cs : List aEm} {w : aEl} (ho : lN w b cs) (h : off + 3 <= cs.length) {K : aEm -> Prop} (hk : K (.agg ((cs.drop off).take 3).toArray)) : Nq pg 65 (.pointer (some ⟨b, off, none⟩)) w K := T0 Tryz.underlying65 rfl anE ho h hk
theorem dX  (w : aEl) : (kV 65 []).run pg w = .ok (.value (.agg #[(.bool false), (.int .i64 0), (.int .i64 0)])) w := by kernel_rfl
theorem fU {k : IntKind} (a : Int) (w : aEl) : (nE 50 3 (.int k a)).run pg w = .ok (.value (.int .i64 (IntKind.i64.wrap a))) w := Dm Tryz.underlying50 Tryz.underlying3
theorem U5 {b off : Nat} {cs : List aEm} {w : aEl} (ho : lN w b cs) (h : off + 4 <= cs.length) {K : aEm -> Prop} (hk : K (.agg ((cs.drop off).take 4).toArray)) : Nq pg 146 (.pointer (some ⟨b, off, none⟩)) w K := T0 Tryz.underlying146 rfl acD ho h hk
theorem cS (b o : Nat) (w : aEl) : (jI 119 (.pointer (some ⟨b, o, none⟩)) 0).run pg w = .ok (.value (.pointer (some ⟨b, o, none⟩))) w := mQ (i := 0) Tryz.underlying119 rfl Xt (by decide) _
theorem eT  (w : aEl) : (kV 146 []).run pg w = .ok (.value (.agg #[(.int .u8 0), (.int .u8 0), (.int .u8 0), (.int .u8 0)])) w := by kernel_rfl
theorem fO {w : aEl} (x : Option Addr) (n c : Nat) (h : 4 <= n) : (axT 146 (.slice x n c)).run pg w = .ok (.value (.pointer x)) w := aAL Tryz.underlying146 x n c h
theorem cD (b o : Nat) (w : aEl) : (jI 119 (.pointer (some ⟨b, o, none⟩)) 1).run pg w = .ok (.value (.pointer (some ⟨b, o + 1, none⟩))) w := mQ (i := 1) Tryz.underlying119 rfl GZ (by decide) _
theorem bL (n0 : Int) (n1 : Int) (n2 : Int) (w : aEl) : (kV 44 [(0, (.int .u32 n0)), (1, (.int .u32 n1)), (2, (.int .u32 n2))]).run pg w = .ok (.value (.agg #[(.int .u32 n0), (.int .u32 n1), (.int .u32 n2)])) w := by kernel_rfl
theorem dR  (b o : Nat) (w : aEl)  : (lR 190 (.pointer (some ⟨b, o, none⟩)) none none none).run pg w = .ok (.value (.slice (some (uR ⟨b, o, none⟩ 36 (0) 1)) (36 - 0) (36 - 0))) w := Ge Tryz.underlying190 GZ _
theorem aZ (n0 : Int) (a1 : Option Addr) (l1 c1 : Nat) (w : aEl) : (kV 162 [(0, (.int .i64 n0)), (1, (.slice a1 l1 c1))]).run pg w = .ok (.value (.agg #[(.int .i64 n0), (.slice a1 l1 c1)])) w := by kernel_rfl
theorem dW  (b o : Nat) (w : aEl)  : (lR 191 (.pointer (some ⟨b, o, none⟩)) none none none).run pg w = .ok (.value (.slice (some (uR ⟨b, o, none⟩ 29 (0) 1)) (29 - 0) (29 - 0))) w := Ge Tryz.underlying191 GZ _
theorem dQ  (b o : Nat) (w : aEl)  : (lR 192 (.pointer (some ⟨b, o, none⟩)) none none none).run pg w = .ok (.value (.slice (some (uR ⟨b, o, none⟩ 53 (0) 1)) (53 - 0) (53 - 0))) w := Ge Tryz.underlying192 GZ _
theorem cM  (w : aEl) : (kV 162 []).run pg w = .ok (.value (.agg #[(.int .i64 0), (.slice none 0 0)])) w := by kernel_rfl
theorem eM (n0 : Int) (w : aEl) : (kV 194 [(0, (.int .u8 n0))]).run pg w = .ok (.value (.agg #[(.int .u8 n0), (.int .i64 0), (.int .i64 0)])) w := by kernel_rfl
theorem aAa : (pg).info? 194 = some Tryz.t194 := by kernel_rfl
theorem eK (a0 : Option Addr) (l0 c0 : Nat) (w : aEl) : (kV 106 [(1, (.slice a0 l0 c0))]).run pg w = .ok (.value (.agg #[(.int .i64 0), (.slice a0 l0 c0)])) w := by kernel_rfl
theorem bF (b o : Nat) (w : aEl) : (jI 162 (.pointer (some ⟨b, o, none⟩)) 0).run pg w = .ok (.value (.pointer (some ⟨b, o, none⟩))) w := mQ (i := 0) Tryz.underlying162 rfl GZ (by decide) _
theorem dF (n0 : Int) (a1 : Option Addr) (l1 c1 : Nat) (w : aEl) : (kV 106 [(0, (.int .i64 n0)), (1, (.slice a1 l1 c1))]).run pg w = .ok (.value (.agg #[(.int .i64 n0), (.slice a1 l1 c1)])) w := by kernel_rfl
theorem azY : (pg).info? 104 = some Tryz.t104 := by kernel_rfl
theorem bG (b o : Nat) (w : aEl) : (jI 106 (.pointer (some ⟨b, o, none⟩)) 1).run pg w = .ok (.value (.pointer (some ⟨b, o + 1, none⟩))) w := mQ (i := 1) Tryz.underlying106 rfl azY (by decide) _
theorem eD (x : Addr) (w : aEl) : (jG 104 (.pointer (some x))).run pg w = ldC (w.cell? x) w (far pg 104 x w) := YO Tryz.underlying104 rfl x w
theorem dU {ty : TypeId} (x : Option Addr) (n c : Nat) (w : aEl) : (nX .len #[104] ty [.slice x n c]).run pg w = .ok (.value (.int .i64 n)) w := VO Tryz.underlying104 x n c
theorem dZ {k : IntKind} {a : Int} (b o n c : Nat) (w : aEl) (h0 : 0 <= a) (h1 : a < n) : (jT 104 (.slice (some ⟨b, o, none⟩) n c) (.int k a)).run pg w = .ok (.value (.pointer (some ⟨b, o + a.toNat * 3, none⟩))) w := YG rfl Tryz.underlying104 aAa b o n c h0 h1
theorem bN (b o : Nat) (w : aEl) : (jI 194 (.pointer (some ⟨b, o, none⟩)) 0).run pg w = .ok (.value (.pointer (some ⟨b, o, none⟩))) w := mQ (i := 0) Tryz.underlying194 rfl JX (by decide) _
theorem cR (b o : Nat) (w : aEl) : (jI 194 (.pointer (some ⟨b, o, none⟩)) 1).run pg w = .ok (.value (.pointer (some ⟨b, o + 1, none⟩))) w := mQ (i := 1) Tryz.underlying194 rfl GZ (by decide) _
theorem cN (b o : Nat) (w : aEl) : (jI 194 (.pointer (some ⟨b, o, none⟩)) 2).run pg w = .ok (.value (.pointer (some ⟨b, o + 2, none⟩))) w := mQ (i := 2) Tryz.underlying194 rfl GZ (by decide) _
theorem dO  (w : aEl) : (kV 201 []).run pg w = .ok (.value (.agg #[(.slice none 0 0), (.int .i64 0)])) w := by kernel_rfl
theorem bS {ox oy : Operand} (x : Option Addr) (w : aEl) : (hU .eql 170 ox oy (.pointer x) (.pointer none)).run pg w = .ok (.value (.bool x.isNone)) w := afE Tryz.underlying170 x
theorem cW (b o : Nat) (w : aEl) : (jI 201 (.pointer (some ⟨b, o, none⟩)) 1).run pg w = .ok (.value (.pointer (some ⟨b, o + 1, none⟩))) w := mQ (i := 1) Tryz.underlying201 rfl GZ (by decide) _
theorem cV (b o : Nat) (w : aEl) : (jI 201 (.pointer (some ⟨b, o, none⟩)) 0).run pg w = .ok (.value (.pointer (some ⟨b, o, none⟩))) w := mQ (i := 0) Tryz.underlying201 rfl Xt (by decide) _
theorem fP {k : IntKind} {hi : Int} (a : Option Addr) (n c : Nat) (w : aEl) (h0 : 0 <= hi) (h1 : hi <= c) : (lR 117 (.slice a n c) none (some (.int k hi)) none).run pg w = .ok (.value (.slice (mY a c (0) 1) (hi.toNat - 0) (c - 0))) w := VA Tryz.underlying117 GZ _ n c h0 h1
theorem cB (a0 : Option Addr) (l0 c0 : Nat) (n1 : Int) (w : aEl) : (kV 201 [(0, (.slice a0 l0 c0)), (1, (.int .i64 n1))]).run pg w = .ok (.value (.agg #[(.slice a0 l0 c0), (.int .i64 n1)])) w := by kernel_rfl
theorem eI {k : IntKind} (a : Int) (w : aEl) : (nE 50 38 (.int k a)).run pg w = .ok (.value (.int .u32 (IntKind.u32.wrap a))) w := Dm Tryz.underlying50 Tryz.underlying38
theorem eP {k : IntKind} (a : Int) (w : aEl) : (nE 38 50 (.int k a)).run pg w = .ok (.value (.int .u64 (IntKind.u64.wrap a))) w := Dm Tryz.underlying38 Tryz.underlying50
theorem gE {k : IntKind} {a : Int} (x : ByteArray) (w : aEl) (h0 : 0 <= a) (h1 : a.toNat < x.size) : (Rp 9 (.string x) (.int k a)).run pg w = .ok (.value (.int .u8 (x[a.toNat]'h1).toNat)) w := azX Tryz.underlying9 x h0 h1
theorem afY : (pg).info? 139 = some Tryz.t139 := by kernel_rfl
theorem aaR {w : aEl} {K : aEm -> aEl -> Prop} (hk : ∀ w', lN w' w.heap.size [(.int .i64 0), (.int .i64 0), (.int .i64 0), (.int .i64 0)] -> jN w w' mC -> w'.heap.size = w.heap.size + 1 -> K (.pointer (some ⟨w.heap.size, 0, none⟩)) w') : gI pg (oK 139) w K := Cx (i := Tryz.t139) afY rfl hk
theorem Zn {b off : Nat} {cs : List aEm} {w : aEl} {xs : Array aEm} {K : aEm -> aEl -> Prop} (ho : lN w b cs) (hs : xs.size = 4) (hv : ∀ x ∈ xs.toList, one x = true) (h : off + 4 <= cs.length) (hk : ∀ w', lN w' b (kW cs off xs.toList) -> jN w w' (fun x => x = b) -> w'.heap.size = w.heap.size -> K undef w') : gI pg (jQ 139 (.pointer (some ⟨b, off, none⟩)) (.agg xs)) w K := Fg (v := .agg xs) afY ho hs hv h hk
theorem agS {b off : Nat} {cs : List aEm} {w : aEl} (ho : lN w b cs) (h : off + 4 <= cs.length) : (jG 139 (.pointer (some ⟨b, off, none⟩))).run pg w = .ok (.value (.agg ((cs.drop off).take 4).toArray)) w := Ql Tryz.underlying139 rfl afY ho h
theorem dY  (b o : Nat) (w : aEl)  : (lR 231 (.pointer (some ⟨b, o, none⟩)) none none none).run pg w = .ok (.value (.slice (some (uR ⟨b, o, none⟩ 20 (0) 1)) (20 - 0) (20 - 0))) w := Ge Tryz.underlying231 GZ _
theorem dP  (b o : Nat) (w : aEl)  : (lR 232 (.pointer (some ⟨b, o, none⟩)) none none none).run pg w = .ok (.value (.slice (some (uR ⟨b, o, none⟩ 21 (0) 1)) (21 - 0) (21 - 0))) w := Ge Tryz.underlying232 GZ _
theorem dM {k : IntKind} (a : Int) (w : aEl) : (nE 38 5 (.int k a)).run pg w = .ok (.value (.int .u8 (IntKind.u8.wrap a))) w := Dm Tryz.underlying38 Tryz.underlying5
theorem dI {k : IntKind} (a : Int) (w : aEl) : (nE 32 38 (.int k a)).run pg w = .ok (.value (.int .u32 (IntKind.u32.wrap a))) w := Dm Tryz.underlying32 Tryz.underlying38
theorem akA : (pg).info? 241 = some Tryz.t241 := by kernel_rfl
theorem UC {k : IntKind} {n : Int} {w : aEl} {K : aEm -> aEl -> Prop} (h0 : 0 <= n) (hn : 16 * n <= 2 ^ 48) (hk : ∀ w', lN w' w.heap.size (OZ n.toNat [(.int .i64 0), (.int .i64 0)]) -> jN w w' mC -> w'.heap.size = w.heap.size + 1 -> K (.slice (some ⟨w.heap.size, 0, none⟩) n.toNat n.toNat) w') : gI pg (sP 225 (.int k n) (.int k n)) w K := apT (i := Tryz.t241) Tryz.underlying225 akA rfl (by decide) rfl rfl h0 hn (by omega) hk
theorem bH (n0 : Int) (n1 : Int) (w : aEl) : (kV 241 [(0, (.int .i64 n0)), (1, (.int .i64 n1))]).run pg w = .ok (.value (.agg #[(.int .i64 n0), (.int .i64 n1)])) w := by kernel_rfl
theorem bR {k : IntKind} {a : Int} (b o n c : Nat) (w : aEl) (h0 : 0 <= a) (h1 : a < n) : (jT 225 (.slice (some ⟨b, o, none⟩) n c) (.int k a)).run pg w = .ok (.value (.pointer (some ⟨b, o + a.toNat * 2, none⟩))) w := YG rfl Tryz.underlying225 akA b o n c h0 h1
theorem Zb {b off : Nat} {cs : List aEm} {w : aEl} {xs : Array aEm} {K : aEm -> aEl -> Prop} (ho : lN w b cs) (hs : xs.size = 2) (hv : ∀ x ∈ xs.toList, one x = true) (h : off + 2 <= cs.length) (hk : ∀ w', lN w' b (kW cs off xs.toList) -> jN w w' (fun x => x = b) -> w'.heap.size = w.heap.size -> K undef w') : gI pg (jQ 241 (.pointer (some ⟨b, off, none⟩)) (.agg xs)) w K := Fg (v := .agg xs) akA ho hs hv h hk
theorem XT {b off : Nat} {cs : List aEm} {w : aEl} (ho : lN w b cs) {v : aEm} (h : cs[off]? = some v) {K : aEm -> Prop} (hk : K v) : Nq pg 22 (.pointer (some ⟨b, off, none⟩)) w K := anN Tryz.underlying22 rfl ho h hk
theorem Vq {b off : Nat} {cs : List aEm} {w : aEl} (ho : lN w b cs) {v : aEm} (h : cs[off]? = some v) {K : aEm -> Prop} (hk : K v) : Nq pg 24 (.pointer (some ⟨b, off, none⟩)) w K := anN Tryz.underlying24 rfl ho h hk
theorem afO {w : aEl} {K : aEm -> aEl -> Prop} (hk : ∀ w', lN w' w.heap.size [(.int .i64 0)] -> jN w w' mC -> w'.heap.size = w.heap.size + 1 -> K (.pointer (some ⟨w.heap.size, 0, none⟩)) w') : gI pg (oK 24) w K := Cx (i := Tryz.t24) arK rfl hk
theorem asG : (pg).info? 170 = some Tryz.t170 := by kernel_rfl
theorem YS {w : aEl} {K : aEm -> aEl -> Prop} (hk : ∀ w', lN w' w.heap.size [(.pointer none)] -> jN w w' mC -> w'.heap.size = w.heap.size + 1 -> K (.pointer (some ⟨w.heap.size, 0, none⟩)) w') : gI pg (oK 170) w K := Cx (i := Tryz.t170) asG rfl hk
theorem YB {b off : Nat} {cs : List aEm} {w : aEl} {v : aEm} {K : aEm -> aEl -> Prop} (ho : lN w b cs) (hv : one v = true) (h : off < cs.length) (hk : ∀ w', lN w' b (cs.set off v) -> jN w w' (fun x => x = b) -> w'.heap.size = w.heap.size -> K undef w') : gI pg (jQ 170 (.pointer (some ⟨b, off, none⟩)) v) w K := Am asG rfl ho hv h hk
theorem bW (x : Addr) (w : aEl) : (jG 225 (.pointer (some x))).run pg w = ldC (w.cell? x) w (far pg 225 x w) := YO Tryz.underlying225 rfl x w
theorem bX {ty : TypeId} (x : Option Addr) (n c : Nat) (w : aEl) : (nX .len #[225] ty [.slice x n c]).run pg w = .ok (.value (.int .i64 n)) w := VO Tryz.underlying225 x n c
theorem aU (b o : Nat) (w : aEl) : (jI 241 (.pointer (some ⟨b, o, none⟩)) 0).run pg w = .ok (.value (.pointer (some ⟨b, o, none⟩))) w := mQ (i := 0) Tryz.underlying241 rfl GZ (by decide) _
theorem cX (x : Addr) (w : aEl) : (jG 170 (.pointer (some x))).run pg w = ldC (w.cell? x) w (far pg 170 x w) := YO Tryz.underlying170 rfl x w
theorem aW (b o : Nat) (w : aEl) : (jI 241 (.pointer (some ⟨b, o, none⟩)) 1).run pg w = .ok (.value (.pointer (some ⟨b, o + 1, none⟩))) w := mQ (i := 1) Tryz.underlying241 rfl GZ (by decide) _
theorem ajA {b off : Nat} {cs : List aEm} {w : aEl} (ho : lN w b cs) (h : off + 4 <= cs.length) {K : aEm -> Prop} (hk : K (.agg ((cs.drop off).take 4).toArray)) : Nq pg 139 (.pointer (some ⟨b, off, none⟩)) w K := T0 Tryz.underlying139 rfl afY ho h hk
end Go.Proofs.YtoecppploooloaaGreatDoor
namespace Go.Pu
def VG (p : Int) : Int := if p < 0 then 1 else p
def fits : Int -> List Int -> Bool
 | left, [] => left == 0
 | left, p :: r => if p < -1 ∨ left < VG p then false else fits (left - VG p) r
def ahF (ps : List Int) : Int := (ps.map VG).sum
def ayB (log : Int) (ps : List Int) : Bool := decide (5 <= log /\ log <= 15 /\ 1 <= ps.length /\ ps.length <= 256 /\ ps.getLast? ≠ some 0)
def aAV (log : Int) (ps : List Int) : Bool := ayB log ps && fits (2 ^ log.toNat) ps
theorem aeJ (p : Int) (ps : List Int) : ahF (p :: ps) = VG p + ahF ps := by simp [ahF]
theorem acQ {p : Int} (h : -1 <= p) : 0 <= VG p := by unfold VG; split <;> omega
theorem agO {ps : List Int} (h : ∀ p ∈ ps, -1 <= p) : 0 <= ahF ps := by
 induction ps with
 | nil => simp [ahF]
 | cons p r ih =>
   rw [aeJ]
   have := acQ (h p (by simp))
   have := ih fun q hq => h q (aCh _ hq)
   omega
theorem aiH : ∀ {ps : List Int} {left : Int}, fits left ps = true ↔ (∀ p ∈ ps, -1 <= p) /\ ahF ps = left
 | [], left => by simp [fits, ahF]; constructor <;> intro h <;> omega
 | p :: r, left => by
   rw [fits, aeJ]
   by_cases h : p < -1 ∨ left < VG p
   .rw [if_pos h]
    constructor
    .intro h; cases h
    .rintro ⟨h1, h2⟩
     have hp := h1 p (by simp)
     have := agO (ps := r) fun q hq => h1 q (aCh _ hq)
     omega
   .rw [if_neg h, aiH]
    constructor
    .rintro ⟨h1, h2⟩
     exact ⟨fun q hq => by rcases aCS.1 hq with rfl | hq; · omega
                           .exact h1 q hq, by omega⟩
    .rintro ⟨h1, h2⟩
     exact ⟨fun q hq => h1 q (aCh _ hq), by omega⟩
structure May (log : Nat) (ps : List Int) : Prop where
 log5 : 5 <= log
 log15 : log <= 15
 len1 : 1 <= ps.length
 len256 : ps.length <= 256
 last : ps.getLast? ≠ some 0
 low : ∀ p ∈ ps, -1 <= p
 sum : ahF ps = 2 ^ log
theorem May.b {log : Nat} {ps : List Int} (h : May log ps) : aAV log ps = true := by
 unfold aAV ayB
 simp only [aCe, decide_eq_true_eq]
 have h1 := h.log5
 have h2 := h.log15
 refine ⟨⟨by omega, by omega, h.len1, h.len256, h.last⟩, ?_⟩
 rw [aiH, aB0]
 exact ⟨h.low, h.sum⟩
def pos (n j : Nat) : Nat := (j * (n / 2 + n / 8 + 3)) % n
def bl (k : Nat) : Nat := if k = 0 then 0 else k.log2 + 1
theorem asP (k : Nat) : k < 2 ^ bl k := by
 unfold bl
 split
 .subst_vars; simp
 .exact Nat.lt_log2_self
theorem arH {k : Nat} (h : k ≠ 0) : 2 ^ (bl k - 1) <= k := by
 unfold bl
 rw [if_neg h, aDJ]
 exact Nat.log2_self_le h
theorem arR {k : Nat} (h : k ≠ 0) : 1 <= bl k := by unfold bl; rw [if_neg h]; omega
theorem SR {k n : Nat} (h : k < 2 ^ n) : bl k <= n := by
 by_cases h0 : k = 0
 .subst h0; simp [bl]
 .rcases aCk n (bl k) with hh | hh
  .have h1 := arH h0
   have := aCn (n := 2) (by omega) (show n <= bl k - 1 by omega)
   omega
  .exact hh
theorem aAG {k n : Nat} (h1 : 2 ^ n <= k) (h2 : k < 2 ^ (n + 1)) : bl k = n + 1 := by
 have h0 : k ≠ 0 := by have := aCH n; omega
 have a := SR h2
 have b := asP k
 rcases aCk (bl k) (n + 1) with h | h
 .have := aCn (n := 2) (by omega) (show bl k <= n by omega)
  omega
 .omega
end Go.Pu
namespace Go.En
open Go
section
variable {P : Program} {w : aEl} {t e : TypeId}
theorem ajB {i : TypeInfo} (hu : P.underlying t = some (.slice e)) (hi : P.info? e = some i)
 {K : aEm -> aEl -> Prop} (hk : ∀ w', lN w' w.heap.size [] -> jN w w' mC -> w'.heap.size = w.heap.size + 1 -> K (.slice (some ⟨w.heap.size, 0, none⟩) 0 0) w') :
 gI P (lT t 0 []) w K := by
 have : (lT t 0 []).run P w = .ok (.value (.slice (some ⟨w.heap.size, 0, none⟩) 0 0)) (w.alloc (.cells ([] : List aEm).toArray e)) := by
  unfold lT; rw [tJ]
  have h1 : ¬ (0 > 2 ^ 24) := by omega
  have e : ∀ f : Nat -> aEm, Array.map f (Array.range 0) = #[] := fun f => by simp
  simp only [Instr.buildSlice, underlying, pure_bind, Sem.run_bind, run_program, Result.andThen_ok, hu, Sem.run_pure, lI hi, aDQ, h1, if_false, if_true, newRow, run_newObj, Instr.fill, e]
  rfl
 unfold gI
 rw [this]
 exact hk _ (lN.alloc _ _ _) (jN.alloc _ _ _) (by simp)
def At (v : aEm) (b : Nat) : Prop := ∀ M : Nat -> Prop, ¬ M b -> ¬ MO v M
theorem At.nil (c b : Nat) (a : Option Addr) : At (.slice a 0 c) b := fun M h => by unfold MO; split <;> simp_all
theorem At.at (b o n c : Nat) : At (.slice (some ⟨b, o, none⟩) n c) b := fun M h => by
 unfold MO; split
 .rename_i x m _ e
  obtain ⟨rfl, _⟩ : (⟨b, o, none⟩ : Addr) = x /\ _ := by simpa using e
  exact h
 .simp
theorem yW.at' {w : aEl} {base sz n : Nat} {v : aEm} {l : List aEm} (h : yW w base sz v n l) (hb : base < w.heap.size) : ∃ b, base <= b /\ b < w.heap.size /\ At v b := by
 rcases h.2 with ⟨rfl, rfl⟩ | ⟨b, c, rest, rfl, h2, h3, h4, h5⟩
 .exact ⟨base, aCb _, hb, At.nil _ _ _⟩
 .exact ⟨b, h2, h3.lt, At.at _ _ _ _⟩
end
end Go.En
namespace Go.Proofs.YtoecppploooloaaGreatDoor
open Go Go.En Go.Pu
set_option maxRecDepth 4000
def akH : ByteArray := ⟨#[0, 1, 2, 2, 3, 3, 3, 3, 4, 4, 4, 4, 4, 4, 4, 4, 5, 5, 5, 5, 5, 5, 5, 5, 5, 5, 5, 5, 5, 5, 5, 5, 6, 6, 6, 6, 6, 6, 6, 6, 6, 6, 6, 6, 6, 6, 6, 6, 6, 6, 6, 6, 6, 6, 6, 6, 6, 6, 6, 6, 6, 6, 6, 6, 7, 7, 7, 7, 7, 7, 7, 7, 7, 7, 7, 7, 7, 7, 7, 7, 7, 7, 7, 7, 7, 7, 7, 7, 7, 7, 7, 7, 7, 7, 7, 7, 7, 7, 7, 7, 7, 7, 7, 7, 7, 7, 7, 7, 7, 7, 7, 7, 7, 7, 7, 7, 7, 7, 7, 7, 7, 7, 7, 7, 7, 7, 7, 7, 8, 8, 8, 8, 8, 8, 8, 8, 8, 8, 8, 8, 8, 8, 8, 8, 8, 8, 8, 8, 8, 8, 8, 8, 8, 8, 8, 8, 8, 8, 8, 8, 8, 8, 8, 8, 8, 8, 8, 8, 8, 8, 8, 8, 8, 8, 8, 8, 8, 8, 8, 8, 8, 8, 8, 8, 8, 8, 8, 8, 8, 8, 8, 8, 8, 8, 8, 8, 8, 8, 8, 8, 8, 8, 8, 8, 8, 8, 8, 8, 8, 8, 8, 8, 8, 8, 8, 8, 8, 8, 8, 8, 8, 8, 8, 8, 8, 8, 8, 8, 8, 8, 8, 8, 8, 8, 8, 8, 8, 8, 8, 8, 8, 8, 8, 8, 8, 8, 8, 8, 8, 8, 8, 8, 8, 8, 8, 8]⟩
theorem YK : akH.size = 256 := by decide
set_option maxRecDepth 100000 in
theorem auF (x : Nat) (h : x < 256) : (akH[x]'(by rw [YK]; exact h)).toNat = bl x := by
 have : ∀ k : Fin 256, (akH.data[k.val]!).toNat = bl k.val := by decide +kernel
 have h2 := this ⟨x, h⟩
 simp only at h2
 rw [<- h2]
 have hs : x < akH.data.size := by have := YK; exact (show akH.data.size = 256 from this) ▸ h
 rw [getElem!_pos akH.data x hs]
 rfl
theorem abZ {x j : Nat} (h : 2 ^ j <= x) : bl x = bl (x / 2 ^ j) + j := by
 have hp := aCH j
 have h0 : x / 2 ^ j ≠ 0 := by
  have := Nat.div_pos h hp
  omega
 have a := arH h0
 have b := asP (x / 2 ^ j)
 have c := arR h0
 obtain ⟨m, hm⟩ : ∃ m, bl (x / 2 ^ j) = m + 1 := ⟨bl (x / 2 ^ j) - 1, by omega⟩
 rw [hm, aDJ] at a
 rw [hm] at b ⊢
 have h1 : 2 ^ (m + j) <= x := by
  rw [aC6]
  exact aCV (aCv _ a) (Nat.div_mul_le_self _ _)
 have h2 : x < 2 ^ (m + j + 1) := by
  rw [show m + j + 1 = (m + 1) + j from by omega, aC6]
  exact (aDR hp).1 b
 rw [aAG h1 h2]; omega
theorem agX {x n : Nat} (hx : x < 256) (hn : n <= 1000) (R : aEm -> aEl -> Prop) (w : aEl) (h : R (.int .i64 ((n + bl x : Nat) : Int)) w) :
 uO R (.int .u64 x) (.int .i64 n) w := by
 have hg := auF x hx
 have hs := YK
 have hb : bl x <= 8 := SR (n := 8) (by omega)
 unfold uO
 change gI pg _ w fun t21 w => gI pg (Rp 9 (.string akH) t21) w _
 simp (disch := omega) only [gI, dK, jF, dJ, gE, aB0, hg, fL, gX, hJ]
 rw [Int.natCast_add] at h
 exact h
theorem atF (a b : Nat) : ((a : Int)).fdiv (b : Int) = ((a / b : Nat) : Int) := by rw [aCD _ (by omega)] <;> rfl
theorem T1 (x j : Nat) (hj : j <= 64) : ((x : Int)).fdiv (2 ^ (min (j : Nat) IntKind.u64.bits)) = ((x / 2 ^ j : Nat) : Int) := by
 have e : min j IntKind.u64.bits = j := by simp only [IntKind.bits]; omega
 rw [e, <- atF]; simp
theorem anB (x : Nat) (hx : x < 18446744073709551616) (w : aEl) : jE pg vW #[.int .u64 x] w (fun r w' => r = .int .i64 (bl x : Nat) /\ w' = w) := by
 refine Tk ?_
 unfold Q2 Ex ED
 have amK : ∀ (y n : Nat), y < 65536 -> n <= 64 -> n + bl y = bl x -> zH (fun r w' => r = .int .i64 (bl x : Nat) /\ w' = w) (.int .u64 y) (.int .i64 n) w := by
  intro y n hy hn e
  unfold zH Es
  by_cases h : 256 <= y
  .have d : decide ((256 : Int) <= (y : Int)) = true := by simp; omega
   have sh := T1 y 8 (by omega)
   have hq : y / 2 ^ 8 < 256 := by omega
   have := abZ (x := y) (j := 8) (by omega)
   have e2 : (n : Int) + 8 = ((n + 8 : Nat) : Int) := by omega
   simp (disch := omega) only [gI, iF, d, iG, hJ, e2, gX, dJ, gB]
   rw [show (8 : Int).toNat = 8 from rfl, sh]
   exact agX hq (by omega) _ _ ⟨by rw [<- e, this]; congr 2; omega, rfl⟩
  .have d : decide ((256 : Int) <= (y : Int)) = false := by simp; omega
   simp (disch := omega) only [gI, iF, d, iG, hJ, gX, dJ, fV]
   exact agX (by omega) (by omega) _ _ ⟨by rw [e], rfl⟩
 have step16 : ∀ (y n : Nat), y < 4294967296 -> n <= 32 -> n + bl y = bl x -> zO (fun r w' => r = .int .i64 (bl x : Nat) /\ w' = w) (.int .u64 y) (.int .i64 n) w := by
  intro y n hy hn e
  unfold zO EY
  by_cases h : 65536 <= y
  .have d : decide ((65536 : Int) <= (y : Int)) = true := by simp; omega
   have sh := T1 y 16 (by omega)
   have hq : y / 2 ^ 16 < 65536 := by omega
   have := abZ (x := y) (j := 16) (by omega)
   have e2 : (n : Int) + 16 = ((n + 16 : Nat) : Int) := by omega
   simp (disch := omega) only [gI, iF, d, iG, hJ, e2, gX, dJ, gB]
   rw [show (16 : Int).toNat = 16 from rfl, sh]
   exact amK _ _ hq (by omega) (by rw [<- e, this]; omega)
  .have d : decide ((65536 : Int) <= (y : Int)) = false := by simp; omega
   simp (disch := omega) only [gI, iF, d, iG, hJ, gX, dJ, fV]
   exact amK _ _ (by omega) (by omega) e
 by_cases h : 4294967296 <= x
 .have d : decide ((4294967296 : Int) <= (x : Int)) = true := by simp; omega
  have sh := T1 x 32 (by omega)
  have hq : x / 2 ^ 32 < 4294967296 := by omega
  have := abZ (x := x) (j := 32) (by omega)
  simp (disch := omega) only [gI, iF, d, iG, dJ, gB]
  rw [show (32 : Int).toNat = 32 from rfl, sh]
  exact step16 _ 32 hq (by omega) (by rw [this]; omega)
 .have d : decide ((4294967296 : Int) <= (x : Int)) = false := by simp; omega
  simp (disch := omega) only [gI, iF, d, iG, dJ, fV]
  exact step16 _ 0 (by omega) (by omega) (by omega)
theorem aAt (x : Nat) (hx : x < 18446744073709551616) (w : aEl) : jE pg Ec #[.int .u64 x] w (fun r w' => r = .int .i64 (bl x : Nat) /\ w' = w) := by
 refine VT ?_
 simp (disch := omega) only [Vg, Hq, gI, eI, dJ, fV]
 exact anB x hx w
theorem apE {n : Nat} (h : n <= 20) : IntKind.i64.wrap (1 * 2 ^ (min n IntKind.i64.bits)) = ((2 ^ n : Nat) : Int) := by
 have : ∀ k : Fin 21, IntKind.i64.wrap (1 * 2 ^ (min k.val IntKind.i64.bits)) = ((2 ^ k.val : Nat) : Int) := by decide
 exact this ⟨n, by omega⟩
theorem Yc {w : aEl} {v : aEm} {l : List UInt8} (h : Bs w v l) (h0 : 0 < l.length) : ∃ b off c, v = .slice (some ⟨b, off, none⟩) l.length c /\ l.length <= c /\ ∀ i, (h : i < l.length) -> w.cell? ⟨b, off + i, none⟩ = some (.int .u8 (l[i].toNat : Nat)) := by
 obtain ⟨b, off, c, rfl, hc, hcell⟩ := h.openV (by simpa using h0)
 refine ⟨b, off, c, by rw [aB6], by simpa using hc, fun i hi => ?_⟩
 have := hcell i (by simpa using hi)
 simpa [nT] using this
theorem Xr {v : aEm} {l : List UInt8} {w : aEl} (h : Bs w v l) (hl : l.length <= 1000000000) :
 jE pg pF #[v] w (fun r w' => yW w' w.heap.size 1 r l.length (l.map nT) /\ jN w w' mC) := by
 refine PL ?_
 have h1 := h
 obtain ⟨a, n, c, rfl, hn, hc, hh⟩ := h
 rw [aB6] at hn
 unfold MR Cm
 cases a with
 | none =>
   have h0 : l = [] := by
    cases l with
    | nil => rfl
    | cons x l => obtain ⟨b, off, h, _⟩ := hh (by simp at hn; omega); cases h
   subst h0
   simp (disch := omega) only [gI, eQ, aB2, dJ, gB]
   exact ⟨yW.nil _ _ _, jN.refl _ _⟩
 | some x =>
   simp (disch := omega) only [gI, eQ, aB1, dJ, fV]
   refine ajB Tryz.underlying22 JX fun w1 o1 x1 s1 => ?_
   have hcl1 := (h1.ext x1 (kJ _)).cl
   rw [aB6] at hcl1
   have hos : yW w1 w.heap.size 1 (.slice (some ⟨w.heap.size, 0, none⟩) 0 0) 0 [] := ⟨rfl, .inr ⟨_, 0, [], rfl, aCb _, o1, rfl, aCb _⟩⟩
   refine mU hos hcl1 (FT _) x1.size (by omega) fun v3 w3 o3 x3 => ?_
   rw [aB4, aCT] at o3
   exact ⟨o3, x1.trans x3 fun b hb h => Nat.not_le_of_lt hb h⟩
def AtI (v : aEm) (lo hi : Nat) : Prop := ∀ M : Nat -> Prop, (∀ b, lo <= b -> b < hi -> ¬ M b) -> ¬ MO v M
theorem yW.atI {w : aEl} {base sz n : Nat} {v : aEm} {l : List aEm} (h : yW w base sz v n l) : AtI v base w.heap.size := by
 intro M hM
 rcases h.2 with ⟨rfl, rfl⟩ | ⟨b, c, rest, rfl, h2, h3, h4, h5⟩
 .exact fun h => h
 .exact At.at b 0 n c M (hM b h2 h3.lt)
theorem aAj {w : aEl} {a : Option Addr} {n c : Nat} {l : List aEm} (h : Sl w (.slice a n c) l) {k : Nat} (hk : k <= n) : Sl w (.slice a k c) (l.take k) := by
 obtain ⟨a', n', c', e, hn, hc, hh⟩ := h
 cases e
 refine ⟨a, k, c, rfl, by rw [aCf]; omega, by omega, fun h0 => ?_⟩
 obtain ⟨b, off, ha, hcell⟩ := hh (by omega)
 refine ⟨b, off, ha, fun i hi => ?_⟩
 rw [hcell i (by omega), aCN (by omega)]
theorem slA {w : aEl} {a : Option Addr} {n c : Nat} {l : List aEm} (h : Sl w (.slice a n c) l) (h0 : 0 < n) : ∃ b off, a = some ⟨b, off, none⟩ /\ ∀ i, i < n -> w.cell? ⟨b, off + i, none⟩ = l[i]? := by
 obtain ⟨a', n', c', e, hn, hc, hh⟩ := h
 cases e
 exact hh h0
end Go.Proofs.YtoecppploooloaaGreatDoor
namespace Go.Pu
open Go Go.En
def Rg (c : UInt8) : List Bool := (List.range 8).map c.toNat.testBit
def vG : List UInt8 -> List Bool
 | [] => []
 | c :: l => Rg c ++ vG l
def S1 : List Bool -> Nat
 | [] => 0
 | b :: l => b.toNat + 2 * S1 l
theorem CD (c : UInt8) : (Rg c).length = 8 := by simp [Rg]
theorem W7 : ∀ a b : List UInt8, vG (a ++ b) = vG a ++ vG b
 | [], b => rfl
 | c :: a, b => by rw [aDd, vG, vG, W7 a b, aCr]
theorem apQ (c : UInt8) {k : Nat} (h : k < 8) : (Rg c)[k]? = some (c.toNat.testBit k) := by
 unfold Rg
 rw [aCp, aDY h] <;> rfl
theorem Pf : ∀ (l : List UInt8) (i : Nat) (h : i < 8 * l.length), (vG l)[i]? = some ((l[i / 8]'(by omega)).toNat.testBit (i % 8))
 | [], i, h => by simp at h
 | c :: l, i, h => by
   rw [vG]
   rcases aCk i 8 with h8 | h8
   .rw [aCm (by rw [CD]; exact h8), apQ c h8]
    have e : i / 8 = 0 := by omega
    have e2 : i % 8 = i := by omega
    simp [e, e2]
   .rw [aCu (by rw [CD]; exact h8), CD, Pf l (i - 8) (by simp at h; omega)]
    have e : i / 8 = (i - 8) / 8 + 1 := by omega
    have e2 : (i - 8) % 8 = i % 8 := by omega
    simp [e, e2]
theorem alY : ∀ l : List Bool, S1 l < 2 ^ l.length
 | [] => by simp [S1]
 | b :: l => by
   have := alY l
   rw [S1, aCl, aDw]
   have : b.toNat <= 1 := Bool.toNat_le b
   omega
theorem ZA : ∀ a b : List Bool, S1 (a ++ b) = S1 a + 2 ^ a.length * S1 b
 | [], b => by simp [S1]
 | x :: a, b => by
   rw [aDd, S1, S1, ZA a b, aCl, aDw, aDL, <- aEd, <- aDr, aCO 2 (2 ^ a.length)]
def BH (x : Nat) (n : Nat) : List Bool := (List.range n).map x.testBit
theorem GU (x n : Nat) : (BH x n).length = n := by simp [BH]
theorem P3 (x : Nat) : BH x 0 = [] := rfl
theorem aaU (x n : Nat) : BH x (n + 1) = BH x n ++ [x.testBit n] := by
 unfold BH; rw [List.range_succ, aCC] <;> rfl
theorem alB (x n : Nat) : BH x (n + 1) = x.testBit 0 :: BH (x / 2) n := by
 unfold BH
 rw [List.range_succ_eq_map, aCz, List.map_map]
 congr 1
 apply aC8
 intro k _
 simp [Nat.testBit_succ]
theorem abJ : ∀ (n x : Nat), S1 (BH x n) = x % 2 ^ n
 | 0, x => by simp [BH, S1, Nat.mod_one]
 | n + 1, x => by
   rw [alB, S1, abJ n (x / 2), aDw, aCO (2 ^ n) 2, Nat.mod_mul]
   congr 1
   rw [Nat.testBit_zero]
   have : x % 2 = 0 ∨ x % 2 = 1 := by omega
   rcases this with h | h <;> simp [h]
theorem ajT {x i : Nat} (h : x < 2 ^ i) (b : Nat) : x ||| (b * 2 ^ i) = x + 2 ^ i * b := by
 rw [Nat.or_comm, aCO b, <- Nat.two_pow_add_eq_or_of_lt h b, Nat.add_comm]
theorem amJ {a b : Nat} (ha : a < 2 ^ 64) (hb : b < 2 ^ 64) : Z6 .u64 (a : Int) (b : Int) = ((a ||| b : Nat) : Int) := by
 have h := Nat.or_lt_two_pow ha hb
 unfold Z6
 have e : IntKind.u64.bits = 64 := rfl
 rw [e, BitVec.ofInt_natCast, BitVec.ofInt_natCast, BitVec.toNat_or, BitVec.toNat_ofNat, BitVec.toNat_ofNat, aCt ha, aCt hb]
 exact iA (by omega) (by have : ((a ||| b : Nat) : Int) < ((2 ^ 64 : Nat) : Int) := by exact_mod_cast h
                         omega)
theorem aaY {a b : Nat} (ha : a < 2 ^ 8) (hb : b < 2 ^ 8) : Z6 .u8 (a : Int) (b : Int) = ((a ||| b : Nat) : Int) := by
 have h := Nat.or_lt_two_pow ha hb
 unfold Z6
 have e : IntKind.u8.bits = 8 := rfl
 rw [e, BitVec.ofInt_natCast, BitVec.ofInt_natCast, BitVec.toNat_or, BitVec.toNat_ofNat, BitVec.toNat_ofNat, aCt ha, aCt hb]
 exact jF (by omega) (by have : ((a ||| b : Nat) : Int) < ((2 ^ 8 : Nat) : Int) := by exact_mod_cast h
                         omega)
theorem ahT {a : Nat} (h : a < 2 ^ 64) : G1 .u64 (a : Int) 1 = ((a % 2 : Nat) : Int) := by
 unfold G1
 have e : IntKind.u64.bits = 64 := rfl
 rw [e, BitVec.ofInt_natCast, show (BitVec.ofInt 64 1) = BitVec.ofNat 64 1 from rfl, BitVec.toNat_and, BitVec.toNat_ofNat, BitVec.toNat_ofNat, aCt h, show 1 % 2 ^ 64 = 1 from rfl, Nat.and_one_is_mod]
 exact iA (by omega) (by omega)
theorem adE (x k : Nat) : (x.testBit k).toNat = x / 2 ^ k % 2 := by
 rw [Nat.testBit_eq_decide_div_mod_eq]
 have : x / 2 ^ k % 2 = 0 ∨ x / 2 ^ k % 2 = 1 := by omega
 rcases this with h | h <;> simp [h]
def adN (L : List Bool) (n : Nat) : Nat := S1 (L.drop (L.length - min n L.length)) * 2 ^ (n - min n L.length)
theorem arM (L : List Bool) (n : Nat) : adN L n < 2 ^ n := by
 unfold adN
 have h := alY (L.drop (L.length - min n L.length))
 rw [aCi, show L.length - (L.length - min n L.length) = min n L.length from by omega] at h
 calc _ < 2 ^ min n L.length * 2 ^ (n - min n L.length) := Nat.mul_lt_mul_of_pos_right h (aCH _)
  _ = 2 ^ n := by rw [<- aC6]; congr 1; omega
def alF (l : List UInt8) : Option Nat := match l.getLast? with
 | none => none
 | some c => if c.toNat = 0 then none else some (8 * (l.length - 1) + bl c.toNat - 1)
theorem aeN {l : List UInt8} (h : 0 < l.length) : alF l = if (l[l.length - 1]'(by omega)).toNat = 0 then none else some (8 * (l.length - 1) + bl (l[l.length - 1]'(by omega)).toNat - 1) := by
 unfold alF
 rw [aD0, aB8 (by omega)]
theorem aoF {l : List UInt8} {k : Nat} (h : alF l = some k) : 0 < l.length /\ k < 8 * l.length /\ 8 * (l.length - 1) <= k /\ (vG l)[k]? = some true /\ ∀ j, k < j -> j < 8 * l.length -> (vG l)[j]? = some false := by
 have h0 : 0 < l.length := by
  cases l with
  | nil => simp [alF] at h
  | cons x l => simp
 rw [aeN h0] at h
 generalize hc : l[l.length - 1]'(by omega) = c at h
 split at h
 .cases h
 .rename_i hne
  have hk := aCF h
  have h1 := arR hne
  have h2 : bl c.toNat <= 8 := SR (by have : c.toNat < 256 := aC7 c
                                      omega)
  have h3 := arH hne
  have h4 := asP c.toNat
  refine ⟨h0, by omega, by omega, ?_, ?_⟩
  .rw [Pf l k (by omega)]
   have e : k / 8 = l.length - 1 := by omega
   have e2 : k % 8 = bl c.toNat - 1 := by omega
   simp only [e, hc, e2]
   rw [Nat.testBit_eq_decide_div_mod_eq]
   obtain ⟨m, hm⟩ : ∃ m, bl c.toNat = m + 1 := ⟨bl c.toNat - 1, by omega⟩
   rw [hm, aDJ] at h3 ⊢
   rw [hm, aDw] at h4
   have : c.toNat / 2 ^ m = 1 := by
    have hp := aCH m
    have := (Nat.le_div_iff_mul_le hp).2 (show 1 * 2 ^ m <= c.toNat by omega)
    have := (aDR hp).2 (show c.toNat < 2 * 2 ^ m by omega)
    omega
   simp [this]
  .intro j h5 h6
   rw [Pf l j h6]
   have e : j / 8 = l.length - 1 := by omega
   simp only [e, hc]
   rw [Nat.testBit_lt_two_pow]
   exact aDv h4 (aCn (by omega) (by omega))
end Go.Pu
namespace Go.Proofs.YtoecppploooloaaGreatDoor
open Go Go.En Go.Pu
set_option maxRecDepth 4000
def Fwd (w : aEl) (lo hi : Nat) (l : List UInt8) (st : Nat) : Prop := ∃ v, lN w hi [v, .int .i64 st] /\ Bs w v l /\ AtI v lo hi
theorem Fwd.ext {w w' : aEl} {lo hi st : Nat} {l : List UInt8} {M : Nat -> Prop} (h : Fwd w lo hi l st) (hx : jN w w' M) (hM : ∀ b, lo <= b -> b <= hi -> ¬ M b) (hlh : lo <= hi) : Fwd w' lo hi l st := by
 obtain ⟨v, h1, h2, h3⟩ := h
 exact ⟨v, h1.ext hx (hM _ hlh (aCb _)), h2.ext hx (h3 M fun b hb hh => hM b hb (by omega)), h3⟩
theorem AtI.sub {a : Option Addr} {n c m c' k sz lo hi : Nat} (h : AtI (.slice a n c) lo hi) (hm : m <= n) : AtI (.slice (mY a c k sz) m c') lo hi := by
 intro M hM hin
 cases m with
 | zero => unfold MO at hin; split at hin <;> simp_all
 | succ m =>
   obtain ⟨n', rfl⟩ : ∃ n', n = n' + 1 := ⟨n - 1, by omega⟩
   have h1 := h M hM
   cases a with
   | none => unfold mY at hin; split at hin <;> exact hin
   | some x =>
     unfold mY at hin
     have h2 : M x.block := by
      split at hin
      .exact hin
      .rw [aCB] at hin
       have e : (x.add (k * sz)).block = x.block := by unfold Addr.add; split <;> rfl
       have h3 : M (x.add (k * sz)).block := hin
       rwa [e] at h3
     exact h1 h2
end Go.Proofs.YtoecppploooloaaGreatDoor
namespace Go.Pu
def rZ : List UInt8 -> Nat
 | [] => 0
 | c :: l => c.toNat + 256 * rZ l
theorem MA : ∀ l : List UInt8, rZ l < 256 ^ l.length
 | [] => by simp [rZ]
 | c :: l => by
   have := MA l
   have hc := c.toNat_lt
   rw [rZ, aCl, aDw]; omega
theorem adY (c : UInt8) : ∀ l : List UInt8, rZ (l ++ [c]) = rZ l + 256 ^ l.length * c.toNat
 | [] => by simp [rZ]
 | d :: l => by
   rw [aDd, rZ, adY c l, rZ, aCl, aDw, aDL, aDr, aCO (256 ^ l.length) 256, aEd]
theorem ajN (i : Nat) : 256 ^ i = 2 ^ (8 * i) := by rw [Nat.pow_mul]
theorem awS (l : List UInt8) (c : UInt8) : rZ l ||| (c.toNat * 2 ^ (8 * l.length)) = rZ (l ++ [c]) := by
 have := MA l
 rw [ajN] at this
 rw [ajT this, adY, ajN]
def nM (x : Nat) : Nat -> List UInt8
 | 0 => []
 | n + 1 => UInt8.ofNat (x % 256) :: nM (x / 256) n
theorem lA : ∀ (n x : Nat), (nM x n).length = n
 | 0, _ => rfl
 | n + 1, x => by rw [nM, aCl, lA n]
theorem JZ : ∀ (n x : Nat), rZ (nM x n) = x % 256 ^ n
 | 0, x => by simp [nM, rZ, Nat.mod_one]
 | n + 1, x => by
   rw [nM, rZ, JZ n, aDw, aCO (256 ^ n) 256, Nat.mod_mul]
   have : (UInt8.ofNat (x % 256)).toNat = x % 256 := by
    rw [UInt8.toNat_ofNat']; omega
   rw [this]
theorem adG : ∀ (n x : Nat), nM x (n + 1) = nM x n ++ [UInt8.ofNat (x / 256 ^ n % 256)]
 | 0, x => by simp [nM]
 | n + 1, x => by
   rw [nM, adG n (x / 256), nM, aDd, aDi, aDw, aCO (256 ^ n) 256]
end Go.Pu
namespace Go.Proofs.YtoecppploooloaaGreatDoor
open Go Go.En Go.Pu
set_option maxRecDepth 4000
def AtS (v : aEm) (S : Nat -> Prop) : Prop := ∀ M : Nat -> Prop, (∀ b, S b -> ¬ M b) -> ¬ MO v M
theorem AtI.toS {v : aEm} {lo hi : Nat} {S : Nat -> Prop} (h : AtI v lo hi) (hS : ∀ b, lo <= b -> b < hi -> S b) : AtS v S := fun M hM => h M fun b h1 h2 => hM b (hS b h1 h2)
theorem AtS.mono {v : aEm} {S T : Nat -> Prop} (h : AtS v S) (hT : ∀ b, S b -> T b) : AtS v T := fun M hM => h M fun b hb => hM b (hT b hb)
theorem AtS.nil (S : Nat -> Prop) : AtS (.slice none 0 0) S := fun M _ h => h
theorem AtS.sub {a : Option Addr} {n c m c' k mx sz : Nat} {S : Nat -> Prop} (h : AtS (.slice a n c) S) (hm : m <= n) : AtS (.slice (mY a mx k sz) m c') S := by
 intro M hM hin
 cases m with
 | zero => unfold MO at hin; split at hin <;> simp_all
 | succ m =>
   obtain ⟨n', rfl⟩ : ∃ n', n = n' + 1 := ⟨n - 1, by omega⟩
   have h1 := h M hM
   cases a with
   | none => unfold mY at hin; split at hin <;> exact hin
   | some x =>
     unfold mY at hin
     have h2 : M x.block := by
      split at hin
      .exact hin
      .rw [aCB] at hin
       have e : (x.add (k * sz)).block = x.block := by unfold Addr.add; split <;> rfl
       have h3 : M (x.add (k * sz)).block := hin
       rwa [e] at h3
     exact h1 h2
theorem aAZ {w : aEl} {a : Option Addr} {n c : Nat} {l : List aEm} (h : Sl w (.slice a n c) l) {k : Nat} (hk : k <= n) : Sl w (.slice (mY a k 0 1) (k - 0) (k - 0)) (l.take k) := by
 obtain ⟨a', n', c', e, hn, hc, h⟩ := h
 cases e
 refine ⟨_, _, _, rfl, by rw [aCf]; omega, aCb _, fun h0 => ?_⟩
 obtain ⟨b, off, rfl, h2⟩ := h (by omega)
 have hs : mY (some ⟨b, off, none⟩) k 0 1 = some ⟨b, off + 0 * 1, none⟩ := by unfold mY; rw [if_neg (by omega)] <;> rfl
 refine ⟨b, off, by rw [hs]; simp, fun i hi => ?_⟩
 rw [aCN (by omega)]
 exact h2 i (by omega)
def Qi (w : aEl) (lo hi p : Nat) (l : List UInt8) (e : Int) : Prop := lo <= p /\ p < hi /\ ∃ v, lN w p [v, .int .i64 e] /\ Bs w v l /\ AtS v (fun b => lo <= b /\ b < hi /\ b ≠ p)
theorem Qi.ext {w w' : aEl} {lo hi p : Nat} {l : List UInt8} {e : Int} {M : Nat -> Prop} (h : Qi w lo hi p l e) (x : jN w w' M) (hM : ∀ b, lo <= b -> b < hi -> ¬ M b) : Qi w' lo hi p l e := by
 obtain ⟨h0, h0', v, h1, h2, h3⟩ := h
 exact ⟨h0, h0', v, h1.ext x (hM _ h0 h0'), h2.ext x (h3 M fun b hb => hM b hb.1 hb.2.1), h3⟩
theorem Qi.lt {w : aEl} {lo hi p : Nat} {l : List UInt8} {e : Int} (h : Qi w lo hi p l e) : p < w.heap.size := by
 obtain ⟨_, _, v, h1, _⟩ := h; exact h1.lt
theorem Jc {v : aEm} {l : List UInt8} {w : aEl} (h : Bs w v l) (hl : l.length <= 1000000000) :
 jE pg pW #[v] w (fun r w' => ∃ p, r = .pointer (some ⟨p, 0, none⟩) /\ Qi w' w.heap.size w'.heap.size p l 0 /\ jN w w' mC) := by
 refine RZ ?_
 unfold Pd Df
 refine (Xr h hl).mono ?_
 rintro r w1 ⟨ho, x1⟩
 have hat := yW.atI ho
 have hs := ho.sl
 obtain ⟨va, vc, rfl⟩ := ho.len
 simp (disch := omega) only [gI, bZ, dJ]
 refine Ah fun w2 o2 x2 s2 => ?_
 have o2 : lN w2 w1.heap.size [.slice va l.length vc, .int .i64 0] := o2
 have hz := o2.lt
 exact ⟨w1.heap.size, rfl, ⟨x1.size, hz, _, o2, hs.ext x2 (kJ _), hat.toS fun b h1 h2 => ⟨h1, by omega, by omega⟩⟩, x1.seq x2⟩
def G0 (l : List UInt8) (e : Int) (n : Nat) : List UInt8 × List UInt8 × Int := if e ≠ 0 then ([], l, e) else if l.length < n then ([], l, 10) else (l.take n, l.drop n, 0)
theorem ahA {lo hi p n : Nat} {l : List UInt8} {e : Int} {w : aEl} (h : Qi w lo hi p l e) (hl : l.length <= 1000000000) (hn : n <= 1000000000) :
 jE pg sN #[.pointer (some ⟨p, 0, none⟩), .int .i64 n, .bool true] w (fun r w' => Bs w' r (G0 l e n).1 /\ AtS r (fun b => lo <= b /\ b < hi /\ b ≠ p) /\ Qi w' lo hi p (G0 l e n).2.1 (G0 l e n).2.2 /\ jN w w' (fun y => y = p)) := by
 refine PF ?_
 unfold Lv Bi
 have h' := h
 obtain ⟨h0, h0', v, o, hb, hat⟩ := h'
 obtain ⟨va, vc, rfl, hvc⟩ := hb.len
 rw [aB6] at hb hat o hvc
 have c0 := o.cell (off := 0)
 have c1 := o.cell (off := 1)
 simp only [aBX, aBY] at c0 c1
 by_cases he : e = 0
 rotate_left
 .have n1 : (e != 0) = true := by simpa using he
  have ht : G0 l e n = ([], l, e) := by unfold G0; rw [if_pos he]
  rw [ht]
  simp (disch := omega) only [gI, iD, iJ, aB5, dJ, bT, aB4, bV, fS, fV, fN, c1, gD, iH, n1, gB]
  exact ⟨Sl.nil _, AtS.nil _, h, jN.refl _ _⟩
 subst he
 have n1 : ((0 : Int) != 0) = false := rfl
 by_cases hsh : l.length < n
 .have d1 : decide ((l.length : Int) < (n : Int)) = true := by simp; omega
  have ht : G0 l 0 n = ([], l, 10) := by unfold G0; rw [if_neg (by decide), if_pos hsh]
  rw [ht]
  simp (disch := omega) only [gI, iD, iJ, aB5, dJ, bT, aB4, bV, fS, fV, fN, c1, gD, iH, n1, c0, fQ, hZ, d1, gB]
  refine JW o rfl (by simp) fun w1 o1 x1 s1 => ?_
  simp only [aCa, aCc] at o1
  exact ⟨Sl.nil _, AtS.nil _, ⟨h0, h0', _, o1, hb.ext x1 (hat _ fun b hb => hb.2.2), hat⟩, x1⟩
 .have d1 : decide ((l.length : Int) < (n : Int)) = false := by simp; omega
  have ht : G0 l 0 n = (l.take n, l.drop n, 0) := by unfold G0; rw [if_neg (by decide), if_neg hsh]
  rw [ht]
  simp (disch := omega) only [gI, iD, iJ, aB5, dJ, bT, aB4, bV, fS, fV, fN, c1, gD, iH, n1, c0, fQ, hZ, d1, eJ, aB0, eH]
  refine sL o rfl (by simp [one]) fun w1 o1 x1 s1 => ?_
  simp only [aCa, aCc] at o1
  have hbn : Bs w (.slice (mY va n 0 1) (n - 0) (n - 0)) (l.take n) := by
   have := aAZ hb (k := n) (by omega)
   rwa [<- aDF] at this
  have hbd : Bs w (.slice (mY va vc n 1) (l.length - n) (vc - n)) (l.drop n) := by
   have := hb.drop' (k := n) (by omega)
   rwa [<- aDW] at this
  have hn1 := hat.sub (mx := n) (k := 0) (sz := 1) (m := n - 0) (c' := n - 0) (by omega)
  have hn2 := hat.sub (mx := vc) (k := n) (sz := 1) (m := l.length - n) (c' := vc - n) (by omega)
  exact ⟨hbn.ext x1 (hn1 _ fun b hb => hb.2.2), hn1, ⟨h0, h0', _, o1, hbd.ext x1 (hn2 _ fun b hb => hb.2.2), hn2⟩, x1⟩
theorem SV {lo hi p : Nat} {l : List UInt8} {e : Int} {w : aEl} (h : Qi w lo hi p l e) :
 jE pg oN #[.pointer (some ⟨p, 0, none⟩)] w (fun r w' => r = .int .i64 l.length /\ w' = w) := by
 refine OS ?_
 unfold Kv Ba
 obtain ⟨h0, h0', v, o, hb, hat⟩ := h
 obtain ⟨va, vc, rfl, hvc⟩ := hb.len
 rw [aB6] at hb hat o hvc
 have c0 := o.cell (off := 0)
 simp only [aBX, aBY] at c0
 simp (disch := omega) only [gI, aS, aB1, iD, dJ, bV, fS, and_true, c0, gD, fQ, fV]
theorem MS {lo hi p : Nat} {l : List UInt8} {e : Int} {w : aEl} (h : Qi w lo hi p l e) :
 jE pg lZ #[.pointer (some ⟨p, 0, none⟩)] w (fun r w' => r = .int .i64 e /\ w' = w) := by
 refine Qg ?_
 unfold Mw B0
 obtain ⟨h0, h0', v, o, hb, hat⟩ := h
 have c1 := o.cell (off := 1)
 simp only [aBX, aBY] at c1
 simp (disch := omega) only [gI, aS, aB1, iD, dJ, bT, aB4, fN, and_true, c1, gD, fV]
theorem Zc {lo hi p n : Nat} {l : List UInt8} {e : Int} {w : aEl} (h : Qi w lo hi p l e) (hl : l.length <= 1000000000) (hn : n <= 1000000000) :
 jE pg qL #[.pointer (some ⟨p, 0, none⟩), .int .i64 n] w (fun r w' => Bs w' r (G0 l e n).1 /\ AtS r (fun b => lo <= b /\ b < hi /\ b ≠ p) /\ Qi w' lo hi p (G0 l e n).2.1 (G0 l e n).2.2 /\ jN w w' (fun y => y = p)) := by
 refine M4 ?_
 unfold JC zT
 have d1 : decide ((0 : Int) <= (n : Int)) = true := by simp
 simp (disch := omega) only [gI, aS, aB1, iF, d1, dJ, fV]
 refine (ahA h hl hn).mono ?_
 rintro r w1 hr
 exact hr
theorem BY {lo hi p n : Nat} {l : List UInt8} {e : Int} {w : aEl} (h : Qi w lo hi p l e) (hl : l.length <= 1000000000) (hn : 1 <= n /\ n <= 8) :
 jE pg lB #[.pointer (some ⟨p, 0, none⟩), .int .i64 n] w (fun r w' => r = .int .u64 (rZ (G0 l e n).1 : Nat) /\ Qi w' lo hi p (G0 l e n).2.1 (G0 l e n).2.2 /\ jN w w' (fun y => y = p)) := by
 refine L9 ?_
 unfold I7 yO xN yR xY yI
 have d1 : decide ((1 : Int) <= (n : Int)) = true := by simp; omega
 have d2 : decide ((n : Int) <= 8) = true := by simp; omega
 simp (disch := omega) only [gI, aS, aB1, iF, d1, dJ, gV, gR, if_true, gO, iO, d2, fV]
 refine (ahA h hl (by omega)).mono ?_
 rintro r w1 ⟨hb, hat, hr, x1⟩
 obtain ⟨t, ht⟩ : ∃ t, t = (G0 l e n).1 := ⟨_, rfl⟩
 have htl : t.length <= 8 := by
  rw [ht]; unfold G0
  split
  .simp
  .split
   .simp
   .simp; omega
 rw [<- ht] at hb ⊢
 obtain ⟨va, vc, rfl, hvc⟩ := hb.len
 rw [aB6] at hb hvc hat
 simp (disch := omega) only [aB6, fQ, dJ]
 unfold yQ yU
 refine kP.rule (fun m s w' => ∃ i : Nat, m = t.length - i /\ i <= t.length /\ s = (.int .u64 (rZ (t.take i) : Nat), .int .i64 i) /\ w' = w1) t.length ⟨0, rfl, by omega, rfl, rfl⟩ ?_
 rintro m s w2 ⟨i, rfl, hi, rfl, hw⟩
 rw [hw]; clear hw w2
 unfold tC
 by_cases hlt : i < t.length
 .have d3 : decide ((i : Int) < (t.length : Int)) = true := by simp; omega
  obtain ⟨c, hc⟩ : ∃ c, c = t[i]'hlt := ⟨_, rfl⟩
  have htk : t.take (i + 1) = t.take i ++ [c] := by rw [aDB, aB8 hlt, <- hc] <;> rfl
  have hor := awS (t.take i) c
  rw [<- htk, aCf, aCL (by omega)] at hor
  have hcl : c.toNat < 256 := aC7 c
  obtain ⟨b, off, c', hv, hcc, hcell⟩ := hb.openV (by rw [aB6]; omega)
  have g1 := hcell i (by rw [aB6]; exact hlt)
  rw [aB6] at hv
  cases hv
  rw [aEe, <- hc] at g1
  simp only [nT] at g1
  generalize c.toNat = cx at *
  have hp : 2 ^ (8 * i) <= 2 ^ 56 := aCn (by omega) (by omega)
  have hm : cx * 2 ^ (8 * i) <= 255 * 2 ^ 56 := Nat.mul_le_mul (by omega) hp
  have hb0 := MA (t.take i)
  have hb1 := MA (t.take (i + 1))
  rw [aCf, aCL (by omega)] at hb0 hb1
  have hq : 256 ^ i <= 256 ^ 7 := aCn (by omega) (by omega)
  have e0 : ((8 : Int) * (i : Int)) = ((8 * i : Nat) : Int) := by omega
  have e5 : IntKind.u64.wrap ((cx : Int) * 2 ^ (min (8 * i) IntKind.u64.bits)) = ((cx * 2 ^ (8 * i) : Nat) : Int) := by
   rw [show min (8 * i) IntKind.u64.bits = 8 * i from aCL (by have : IntKind.u64.bits = 64 := rfl
                                                              omega)]
   have e : (cx : Int) * 2 ^ (8 * i) = ((cx * 2 ^ (8 * i) : Nat) : Int) := by simp
   rw [e]
   exact iA (by omega) (by omega)
  have e6 := amJ (a := rZ (t.take i)) (b := cx * 2 ^ (8 * i)) (by omega) (by omega)
  rw [hor] at e6
  have e7 : IntKind.u64.wrap (cx : Int) = (cx : Int) := iA (by omega) (by omega)
  simp (disch := omega) only [gI, gY, d3, fR, aB0, iM, e0, gX, hJ, dJ, fT, iA, gK, g1, gD, dN, e7, iE, e5, jJ, e6, and_true, gB]
  exact ⟨t.length - (i + 1), by omega, i + 1, rfl, by omega, rfl⟩
 .have d3 : decide ((i : Int) < (t.length : Int)) = false := by simp; omega
  obtain rfl : i = t.length := by omega
  simp (disch := omega) only [gI, gY, d3, iM, gX, hJ, dJ, fT, iA, fV]
  unfold tG
  rw [aDD]
  exact ⟨rfl, hr, x1⟩
def nxS (s : List UInt8 × Int) (n : Nat) : List UInt8 × Int := ((G0 s.1 s.2 n).2.1, (G0 s.1 s.2 n).2.2)
def nvS (s : List UInt8 × Int) (n : Nat) : Nat := rZ (G0 s.1 s.2 n).1
structure FH where
 window : Nat
 size : Nat
 known : Bool
 sum : Bool
def auN (w : Nat) : Nat := 2 ^ (10 + w / 8) + 2 ^ (10 + w / 8) / 8 * (w % 8)
def Uy (d : Nat) : Bool := d / 32 % 2 == 1
def fDn (d : Nat) : Nat := if d % 4 = 3 then 4 else d % 4
def Wk (d : Nat) : Nat := if d / 64 = 0 then (if Uy d then 1 else 0) else 2 ^ (d / 64)
def opS (s : List UInt8 × Int) (n : Nat) : List UInt8 × Int := if 0 < n then nxS s n else s
def opV (s : List UInt8 × Int) (n : Nat) : Nat := if 0 < n then nvS s n else 0
def fS2 (s1 : List UInt8 × Int) (d : Nat) : List UInt8 × Int := if Uy d then s1 else nxS s1 1
def ZZ (L : Nat) (s4 : List UInt8 × Int) (dict : Nat) (h : FH) : Except Int (FH × Nat) :=
 if s4.2 ≠ 0 then .error s4.2 else if dict ≠ 0 then .error 14 else .ok (h, L - s4.1.length)
def fSz (d x : Nat) : Nat := if Wk d = 2 then x + 256 else x
def abW (L : Nat) (s1 : List UInt8 × Int) (d : Nat) : Except Int (FH × Nat) :=
 ZZ L (opS (opS (fS2 s1 d) (fDn d)) (Wk d)) (opV (fS2 s1 d) (fDn d))
  ⟨if Uy d then fSz d (opV (opS (fS2 s1 d) (fDn d)) (Wk d)) else auN (nvS s1 1), fSz d (opV (opS (fS2 s1 d) (fDn d)) (Wk d)), decide (0 < Wk d), d / 4 % 2 == 1⟩
def Rb (l : List UInt8) : Except Int (FH × Nat) :=
 if (nxS (l, 0) 1).2 ≠ 0 then .error (nxS (l, 0) 1).2 else if nvS (l, 0) 1 / 8 % 2 = 1 then .error 11 else abW l.length (nxS (l, 0) 1) (nvS (l, 0) 1)
def fhV (h : FH) : aEm := .agg #[.int .u64 (h.window : Nat), .int .u64 (h.size : Nat), .bool h.known, .bool h.sum]
def fRV : Except Int (FH × Nat) -> aEm
 | .error e => .tuple #[fhV ⟨0, 0, false, false⟩, .int .i64 0, .int .i64 e]
 | .ok (h, n) => .tuple #[fhV h, .int .i64 (n : Nat), .int .i64 0]
def Pj (h : FH) : List aEm := [.int .u64 (h.window : Nat), .int .u64 (h.size : Nat), .bool h.known, .bool h.sum]
theorem agY {RR : aEm -> aEl -> Prop} {v : aEm} {L lo hi pr ph pt dict : Nat} {l : List UInt8} {e : Int} {h : FH} {z : FH} {w : aEl} (hr : Qi w lo hi pr l e) (hl : l.length <= 1000000) (hv : ∃ a c, v = .slice a L c) (hL : l.length <= L) (hL2 : L <= 1000000) (oh : lN w ph (Pj h)) (ot : lN w pt (Pj z)) (hne : ph ≠ pt) (hpt : ¬ (lo <= pt /\ pt < hi))
 (hk : ∀ w', jN w w' (fun y => y = pt) -> RR (fRV (ZZ L (l, e) dict h)) w') :
 DO RR v (.pointer (some ⟨pt, 0, none⟩)) (.pointer (some ⟨pr, 0, none⟩)) (.pointer (some ⟨ph, 0, none⟩)) (.int .u64 (dict : Nat)) w := by
 unfold DO
 obtain ⟨a, c, rfl⟩ := hv
 refine (MS hr).mono ?_
 rintro r w1 ⟨rfl, rfl⟩
 unfold ZZ at hk
 by_cases he : e = 0
 .subst he
  have n0 : ((0 : Int) != 0) = false := rfl
  simp only [ne_eq, not_true, if_false] at hk
  by_cases hd : dict = 0
  .subst hd
   have n1 : (((0 : Nat) : Int) != 0) = false := rfl
   simp only [ne_eq, not_true, if_false] at hk
   have hq := YX (off := 0) (nP oh) (by simp [Pj])
   simp only [Pj, aCs, aCq, aCw] at hq
   simp (disch := omega) only [gI, jD, dJ, stepR_skip, hJ, iC, iM, iP, iL, iN, jJ, iX, gM, iE, iG, iI, iH, gY, iO, hZ, iF, iV, iW, iJ, gR, iT, iQ, iD, jV, jW, kF, kD, kC, kG, kA, kB, kE, gD, Result.ok.injEq, Next.value.injEq, true_and, and_true, gX, iA, iU, iR, iS, jF, aB0, gV, gU, gW, gT, gO, gJ, gP, gN, gB, fV, if_true, if_false, aBZ, aB4, aB1, aB2, aB5, aB3, aBY, aBX, fQ, fL, fE, fR, cU, eS, eF, dK, bP, fS, eY, aP, dB, aX, bQ, bM, aO, cO, cJ, eQ, aE, gS, aJ, cK, aT, bU, fT, cI, cF, aD, gA, fD, aN, aF, bO, gQ, aI, eX, dT, dV, gF, dE, fB, cZ, eH, fF, fC, cG, dG, gK, dN, bZ, aS, bV, bT, fN, aG, aH, aQ, bA, bE, cP, bK, aA, fA, aR, cL, fJ, eU, gG, bJ, eL, eN, bY, fW, eZ, eJ, dH, cQ, dD, aY, bD, aL, fZ, aM, dA, eE, bB, cC, fK, dL, gC, fM, fG, fI, dS, aK, cH, cY, fY, fX, fH, dC, aV, dX, fU, cS, eT, fO, cD, bL, dR, aZ, dW, dQ, cM, eM, eK, bF, dF, bG, eD, dU, dZ, bN, cR, cN, dO, bS, cW, cV, fP, cB, eI, eP, gE, dY, dP, dM, dI, bH, bR, bW, bX, aU, cX, aW, n0, n1, hq]
   refine (SV (hr.ext (jN.dr w1 mC) (fun _ _ _ h => h))).mono ?_
   rintro r w2 ⟨rfl, rfl⟩
   have e1 : (L : Int) - (l.length : Int) = ((L - l.length : Nat) : Int) := by omega
   simp (disch := omega) only [gI, jD, dJ, stepR_skip, hJ, iC, iM, iP, iL, iN, jJ, iX, gM, iE, iG, iI, iH, gY, iO, hZ, iF, iV, iW, iJ, gR, iT, iQ, iD, jV, jW, kF, kD, kC, kG, kA, kB, kE, gD, Result.ok.injEq, Next.value.injEq, true_and, and_true, gX, iA, iU, iR, iS, jF, aB0, gV, gU, gW, gT, gO, gJ, gP, gN, gB, fV, if_true, if_false, aBZ, aB4, aB1, aB2, aB5, aB3, aBY, aBX, fQ, fL, fE, fR, cU, eS, eF, dK, bP, fS, eY, aP, dB, aX, bQ, bM, aO, cO, cJ, eQ, aE, gS, aJ, cK, aT, bU, fT, cI, cF, aD, gA, fD, aN, aF, bO, gQ, aI, eX, dT, dV, gF, dE, fB, cZ, eH, fF, fC, cG, dG, gK, dN, bZ, aS, bV, bT, fN, aG, aH, aQ, bA, bE, cP, bK, aA, fA, aR, cL, fJ, eU, gG, bJ, eL, eN, bY, fW, eZ, eJ, dH, cQ, dD, aY, bD, aL, fZ, aM, dA, eE, bB, cC, fK, dL, gC, fM, fG, fI, dS, aK, cH, cY, fY, fX, fH, dC, aV, dX, fU, cS, eT, fO, cD, bL, dR, aZ, dW, dQ, cM, eM, eK, bF, dF, bG, eD, dU, dZ, bN, cR, cN, dO, bS, cW, cV, fP, cB, eI, eP, gE, dY, dP, dM, dI, bH, bR, bW, bX, aU, cX, aW, hq, e1]
   refine rC (nP ot) rfl (by simp [one]) (by simp [Pj]) fun w3 o3 x3 s3 => ?_
   try simp (disch := omega) only [gI, jD, dJ, stepR_skip, hJ, iC, iM, iP, iL, iN, jJ, iX, gM, iE, iG, iI, iH, gY, iO, hZ, iF, iV, iW, iJ, gR, iT, iQ, iD, jV, jW, kF, kD, kC, kG, kA, kB, kE, gD, Result.ok.injEq, Next.value.injEq, true_and, and_true, gX, iA, iU, iR, iS, jF, aB0, gV, gU, gW, gT, gO, gJ, gP, gN, gB, fV, if_true, if_false, aBZ, aB4, aB1, aB2, aB5, aB3, aBY, aBX, fQ, fL, fE, fR, cU, eS, eF, dK, bP, fS, eY, aP, dB, aX, bQ, bM, aO, cO, cJ, eQ, aE, gS, aJ, cK, aT, bU, fT, cI, cF, aD, gA, fD, aN, aF, bO, gQ, aI, eX, dT, dV, gF, dE, fB, cZ, eH, fF, fC, cG, dG, gK, dN, bZ, aS, bV, bT, fN, aG, aH, aQ, bA, bE, cP, bK, aA, fA, aR, cL, fJ, eU, gG, bJ, eL, eN, bY, fW, eZ, eJ, dH, cQ, dD, aY, bD, aL, fZ, aM, dA, eE, bB, cC, fK, dL, gC, fM, fG, fI, dS, aK, cH, cY, fY, fX, fH, dC, aV, dX, fU, cS, eT, fO, cD, bL, dR, aZ, dW, dQ, cM, eM, eK, bF, dF, bG, eD, dU, dZ, bN, cR, cN, dO, bS, cW, cV, fP, cB, eI, eP, gE, dY, dP, dM, dI, bH, bR, bW, bX, aU, cX, aW, e1]
   refine yF o3 (by simp [kW, Pj]) ?_
   simp only [kW, Pj, aCa, aCc, aCs, aCq, aCw]
   exact hk w3 ((jN.dr w1 _).seq x3)
  .have n1 : ((dict : Int) != 0) = true := by simp; omega
   rw [if_pos hd] at hk
   simp (disch := omega) only [gI, jD, dJ, stepR_skip, hJ, iC, iM, iP, iL, iN, jJ, iX, gM, iE, iG, iI, iH, gY, iO, hZ, iF, iV, iW, iJ, gR, iT, iQ, iD, jV, jW, kF, kD, kC, kG, kA, kB, kE, gD, Result.ok.injEq, Next.value.injEq, true_and, and_true, gX, iA, iU, iR, iS, jF, aB0, gV, gU, gW, gT, gO, gJ, gP, gN, gB, fV, if_true, if_false, aBZ, aB4, aB1, aB2, aB5, aB3, aBY, aBX, fQ, fL, fE, fR, cU, eS, eF, dK, bP, fS, eY, aP, dB, aX, bQ, bM, aO, cO, cJ, eQ, aE, gS, aJ, cK, aT, bU, fT, cI, cF, aD, gA, fD, aN, aF, bO, gQ, aI, eX, dT, dV, gF, dE, fB, cZ, eH, fF, fC, cG, dG, gK, dN, bZ, aS, bV, bT, fN, aG, aH, aQ, bA, bE, cP, bK, aA, fA, aR, cL, fJ, eU, gG, bJ, eL, eN, bY, fW, eZ, eJ, dH, cQ, dD, aY, bD, aL, fZ, aM, dA, eE, bB, cC, fK, dL, gC, fM, fG, fI, dS, aK, cH, cY, fY, fX, fH, dC, aV, dX, fU, cS, eT, fO, cD, bL, dR, aZ, dW, dQ, cM, eM, eK, bF, dF, bG, eD, dU, dZ, bN, cR, cN, dO, bS, cW, cV, fP, cB, eI, eP, gE, dY, dP, dM, dI, bH, bR, bW, bX, aU, cX, aW, n0, n1]
   refine rC ot rfl (by simp [one]) (by simp [Pj]) fun w3 o3 x3 s3 => ?_
   refine yF o3 (by simp [kW, Pj]) ?_
   simp only [kW, Pj, aCa, aCc, aCs, aCq, aCw]
   exact hk w3 x3
 .have n0 : (e != 0) = true := by simp [he]
  rw [if_pos he] at hk
  simp (disch := omega) only [gI, jD, dJ, stepR_skip, hJ, iC, iM, iP, iL, iN, jJ, iX, gM, iE, iG, iI, iH, gY, iO, hZ, iF, iV, iW, iJ, gR, iT, iQ, iD, jV, jW, kF, kD, kC, kG, kA, kB, kE, gD, Result.ok.injEq, Next.value.injEq, true_and, and_true, gX, iA, iU, iR, iS, jF, aB0, gV, gU, gW, gT, gO, gJ, gP, gN, gB, fV, if_true, if_false, aBZ, aB4, aB1, aB2, aB5, aB3, aBY, aBX, fQ, fL, fE, fR, cU, eS, eF, dK, bP, fS, eY, aP, dB, aX, bQ, bM, aO, cO, cJ, eQ, aE, gS, aJ, cK, aT, bU, fT, cI, cF, aD, gA, fD, aN, aF, bO, gQ, aI, eX, dT, dV, gF, dE, fB, cZ, eH, fF, fC, cG, dG, gK, dN, bZ, aS, bV, bT, fN, aG, aH, aQ, bA, bE, cP, bK, aA, fA, aR, cL, fJ, eU, gG, bJ, eL, eN, bY, fW, eZ, eJ, dH, cQ, dD, aY, bD, aL, fZ, aM, dA, eE, bB, cC, fK, dL, gC, fM, fG, fI, dS, aK, cH, cY, fY, fX, fH, dC, aV, dX, fU, cS, eT, fO, cD, bL, dR, aZ, dW, dQ, cM, eM, eK, bF, dF, bG, eD, dU, dZ, bN, cR, cN, dO, bS, cW, cV, fP, cB, eI, eP, gE, dY, dP, dM, dI, bH, bR, bW, bX, aU, cX, aW, n0]
  refine (MS hr).mono ?_
  rintro r w2 ⟨rfl, rfl⟩
  refine rC ot rfl (by simp [one]) (by simp [Pj]) fun w3 o3 x3 s3 => ?_
  refine yF o3 (by simp [kW, Pj]) ?_
  simp only [kW, Pj, aCa, aCc, aCs, aCq, aCw]
  exact hk w3 x3
theorem ajH {RR : aEm -> aEl -> Prop} {v : aEm} {L lo hi pr ph pt dict : Nat} {l : List UInt8} {e : Int} {h : FH} {z : FH} {o : Bool} {w : aEl} (hr : Qi w lo hi pr l e) (hl : l.length <= 1000000) (hv : ∃ a c, v = .slice a L c) (hL : l.length <= L) (hL2 : L <= 1000000) (oh : lN w ph (Pj h)) (ot : lN w pt (Pj z)) (hne : ph ≠ pt) (hpt : ¬ (lo <= pt /\ pt < hi)) (hph : ¬ (lo <= ph /\ ph < hi))
 (hk : ∀ w', jN w w' (fun y => y = pt ∨ y = ph) -> RR (fRV (ZZ L (l, e) dict ⟨if o then h.size else h.window, h.size, h.known, h.sum⟩)) w') :
 Iu RR v (.pointer (some ⟨pt, 0, none⟩)) (.pointer (some ⟨pr, 0, none⟩)) (.pointer (some ⟨ph, 0, none⟩)) (.bool o) (.int .u64 (dict : Nat)) w := by
 unfold Iu NV
 cases o with
 | false =>
   simp (disch := omega) only [gI, jD, dJ, stepR_skip, hJ, iC, iM, iP, iL, iN, jJ, iX, gM, iE, iG, iI, iH, gY, iO, hZ, iF, iV, iW, iJ, gR, iT, iQ, iD, jV, jW, kF, kD, kC, kG, kA, kB, kE, gD, Result.ok.injEq, Next.value.injEq, true_and, and_true, gX, iA, iU, iR, iS, jF, aB0, gV, gU, gW, gT, gO, gJ, gP, gN, gB, fV, if_true, if_false, aBZ, aB4, aB1, aB2, aB5, aB3, aBY, aBX, fQ, fL, fE, fR, cU, eS, eF, dK, bP, fS, eY, aP, dB, aX, bQ, bM, aO, cO, cJ, eQ, aE, gS, aJ, cK, aT, bU, fT, cI, cF, aD, gA, fD, aN, aF, bO, gQ, aI, eX, dT, dV, gF, dE, fB, cZ, eH, fF, fC, cG, dG, gK, dN, bZ, aS, bV, bT, fN, aG, aH, aQ, bA, bE, cP, bK, aA, fA, aR, cL, fJ, eU, gG, bJ, eL, eN, bY, fW, eZ, eJ, dH, cQ, dD, aY, bD, aL, fZ, aM, dA, eE, bB, cC, fK, dL, gC, fM, fG, fI, dS, aK, cH, cY, fY, fX, fH, dC, aV, dX, fU, cS, eT, fO, cD, bL, dR, aZ, dW, dQ, cM, eM, eK, bF, dF, bG, eD, dU, dZ, bN, cR, cN, dO, bS, cW, cV, fP, cB, eI, eP, gE, dY, dP, dM, dI, bH, bR, bW, bX, aU, cX, aW]
   exact agY hr hl hv hL hL2 oh ot hne hpt fun w' x => hk w' (x.mono fun _ _ h => .inl h)
 | true =>
   have c1 := oh.cell (off := 1)
   simp only [Pj, aBX, aBY] at c1
   simp (disch := omega) only [gI, jD, dJ, stepR_skip, hJ, iC, iM, iP, iL, iN, jJ, iX, gM, iE, iG, iI, iH, gY, iO, hZ, iF, iV, iW, iJ, gR, iT, iQ, iD, jV, jW, kF, kD, kC, kG, kA, kB, kE, gD, Result.ok.injEq, Next.value.injEq, true_and, and_true, gX, iA, iU, iR, iS, jF, aB0, gV, gU, gW, gT, gO, gJ, gP, gN, gB, fV, if_true, if_false, aBZ, aB4, aB1, aB2, aB5, aB3, aBY, aBX, fQ, fL, fE, fR, cU, eS, eF, dK, bP, fS, eY, aP, dB, aX, bQ, bM, aO, cO, cJ, eQ, aE, gS, aJ, cK, aT, bU, fT, cI, cF, aD, gA, fD, aN, aF, bO, gQ, aI, eX, dT, dV, gF, dE, fB, cZ, eH, fF, fC, cG, dG, gK, dN, bZ, aS, bV, bT, fN, aG, aH, aQ, bA, bE, cP, bK, aA, fA, aR, cL, fJ, eU, gG, bJ, eL, eN, bY, fW, eZ, eJ, dH, cQ, dD, aY, bD, aL, fZ, aM, dA, eE, bB, cC, fK, dL, gC, fM, fG, fI, dS, aK, cH, cY, fY, fX, fH, dC, aV, dX, fU, cS, eT, fO, cD, bL, dR, aZ, dW, dQ, cM, eM, eK, bF, dF, bG, eD, dU, dZ, bN, cR, cN, dO, bS, cW, cV, fP, cB, eI, eP, gE, dY, dP, dM, dI, bH, bR, bW, bX, aU, cX, aW, c1]
   refine J2 oh rfl (by simp [Pj]) fun w1 o1 x1 s1 => ?_
   refine agY (h := ⟨h.size, h.size, h.known, h.sum⟩) (hr.ext x1 fun y h1 h2 h3 => hph (h3 ▸ ⟨h1, h2⟩)) hl hv hL hL2 o1 (ot.ext x1 (fun e => hne e.symm)) hne hpt fun w' x => hk w' ((x1.mono fun _ _ h => .inr h).seq (x.mono fun _ _ h => .inl h))
theorem ajD {RR : aEm -> aEl -> Prop} {v : aEm} {L lo hi pr ph pt dict n : Nat} {l : List UInt8} {e : Int} {h : FH} {z : FH} {o : Bool} {w : aEl} (hn : n = 2 -> h.size < 65536) (hr : Qi w lo hi pr l e) (hl : l.length <= 1000000) (hv : ∃ a c, v = .slice a L c) (hL : l.length <= L) (hL2 : L <= 1000000) (oh : lN w ph (Pj h)) (ot : lN w pt (Pj z)) (hne : ph ≠ pt) (hpt : ¬ (lo <= pt /\ pt < hi)) (hph : ¬ (lo <= ph /\ ph < hi))
 (hk : ∀ w', jN w w' (fun y => y = pt ∨ y = ph) -> RR (fRV (ZZ L (l, e) dict ⟨if o then (if n = 2 then h.size + 256 else h.size) else h.window, if n = 2 then h.size + 256 else h.size, h.known, h.sum⟩)) w') :
 IH RR v (.pointer (some ⟨pt, 0, none⟩)) (.pointer (some ⟨pr, 0, none⟩)) (.pointer (some ⟨ph, 0, none⟩)) (.bool o) (.int .u64 (dict : Nat)) (.int .i64 (n : Nat)) w := by
 unfold IH NY
 by_cases h2 : n = 2
 .have n1 : ((n : Int) == 2) = true := by rw [h2] <;> rfl
  simp only [h2, if_true] at hk
  have hs := hn h2
  have c1 := oh.cell (off := 1)
  simp only [Pj, aBX, aBY] at c1
  have e1 : (h.size : Int) + 256 = ((h.size + 256 : Nat) : Int) := by omega
  simp (disch := omega) only [gI, jD, dJ, stepR_skip, hJ, iC, iM, iP, iL, iN, jJ, iX, gM, iE, iG, iI, iH, gY, iO, hZ, iF, iV, iW, iJ, gR, iT, iQ, iD, jV, jW, kF, kD, kC, kG, kA, kB, kE, gD, Result.ok.injEq, Next.value.injEq, true_and, and_true, gX, iA, iU, iR, iS, jF, aB0, gV, gU, gW, gT, gO, gJ, gP, gN, gB, fV, if_true, if_false, aBZ, aB4, aB1, aB2, aB5, aB3, aBY, aBX, fQ, fL, fE, fR, cU, eS, eF, dK, bP, fS, eY, aP, dB, aX, bQ, bM, aO, cO, cJ, eQ, aE, gS, aJ, cK, aT, bU, fT, cI, cF, aD, gA, fD, aN, aF, bO, gQ, aI, eX, dT, dV, gF, dE, fB, cZ, eH, fF, fC, cG, dG, gK, dN, bZ, aS, bV, bT, fN, aG, aH, aQ, bA, bE, cP, bK, aA, fA, aR, cL, fJ, eU, gG, bJ, eL, eN, bY, fW, eZ, eJ, dH, cQ, dD, aY, bD, aL, fZ, aM, dA, eE, bB, cC, fK, dL, gC, fM, fG, fI, dS, aK, cH, cY, fY, fX, fH, dC, aV, dX, fU, cS, eT, fO, cD, bL, dR, aZ, dW, dQ, cM, eM, eK, bF, dF, bG, eD, dU, dZ, bN, cR, cN, dO, bS, cW, cV, fP, cB, eI, eP, gE, dY, dP, dM, dI, bH, bR, bW, bX, aU, cX, aW, n1, c1, e1]
  refine J2 oh rfl (by simp [Pj]) fun w1 o1 x1 s1 => ?_
  refine ajH (h := ⟨h.window, h.size + 256, h.known, h.sum⟩) (hr.ext x1 fun y h1 h2 h3 => hph (h3 ▸ ⟨h1, h2⟩)) hl hv hL hL2 o1 (ot.ext x1 (fun e => hne e.symm)) hne hpt hph fun w' x => hk w' ((x1.mono fun _ _ h => .inr h).seq x)
 .have n1 : ((n : Int) == 2) = false := by simp; omega
  simp only [if_neg h2] at hk
  simp (disch := omega) only [gI, jD, dJ, stepR_skip, hJ, iC, iM, iP, iL, iN, jJ, iX, gM, iE, iG, iI, iH, gY, iO, hZ, iF, iV, iW, iJ, gR, iT, iQ, iD, jV, jW, kF, kD, kC, kG, kA, kB, kE, gD, Result.ok.injEq, Next.value.injEq, true_and, and_true, gX, iA, iU, iR, iS, jF, aB0, gV, gU, gW, gT, gO, gJ, gP, gN, gB, fV, if_true, if_false, aBZ, aB4, aB1, aB2, aB5, aB3, aBY, aBX, fQ, fL, fE, fR, cU, eS, eF, dK, bP, fS, eY, aP, dB, aX, bQ, bM, aO, cO, cJ, eQ, aE, gS, aJ, cK, aT, bU, fT, cI, cF, aD, gA, fD, aN, aF, bO, gQ, aI, eX, dT, dV, gF, dE, fB, cZ, eH, fF, fC, cG, dG, gK, dN, bZ, aS, bV, bT, fN, aG, aH, aQ, bA, bE, cP, bK, aA, fA, aR, cL, fJ, eU, gG, bJ, eL, eN, bY, fW, eZ, eJ, dH, cQ, dD, aY, bD, aL, fZ, aM, dA, eE, bB, cC, fK, dL, gC, fM, fG, fI, dS, aK, cH, cY, fY, fX, fH, dC, aV, dX, fU, cS, eT, fO, cD, bL, dR, aZ, dW, dQ, cM, eM, eK, bF, dF, bG, eD, dU, dZ, bN, cR, cN, dO, bS, cW, cV, fP, cB, eI, eP, gE, dY, dP, dM, dI, bH, bR, bW, bX, aU, cX, aW, n1]
  exact ajH hr hl hv hL hL2 oh ot hne hpt hph hk
theorem arC {RR : aEm -> aEl -> Prop} {v : aEm} {L lo hi pr ph pt dict n : Nat} {s : List UInt8 × Int} {h : FH} {z : FH} {o : Bool} {w : aEl} (hn8 : n <= 8) (hn : n = 2 -> h.size < 65536) (hk0 : h.known = false) (hs0 : h.size = 0) (hr : Qi w lo hi pr s.1 s.2) (hl : s.1.length <= 1000000) (hv : ∃ a c, v = .slice a L c) (hL : s.1.length <= L) (hL2 : L <= 1000000) (oh : lN w ph (Pj h)) (ot : lN w pt (Pj z)) (hne : ph ≠ pt) (hpt : ¬ (lo <= pt /\ pt < hi)) (hph : ¬ (lo <= ph /\ ph < hi)) (hpr : lo <= pr /\ pr < hi)
 (hk : ∀ w', jN w w' (fun y => y = pt ∨ y = ph ∨ y = pr) -> RR (fRV (ZZ L (opS s n) dict ⟨if o then (if n = 2 then opV s n + 256 else opV s n) else h.window, if n = 2 then opV s n + 256 else opV s n, decide (0 < n), h.sum⟩)) w') :
 DD RR v (.pointer (some ⟨pt, 0, none⟩)) (.pointer (some ⟨pr, 0, none⟩)) (.pointer (some ⟨ph, 0, none⟩)) (.bool o) (.int .u64 (dict : Nat)) (.int .i64 (n : Nat)) w := by
 unfold DD Ou
 by_cases h0 : 0 < n
 .have d1 : decide ((n : Int) > 0) = true := decide_eq_true (by omega)
  have d2 : decide ((0 : Int) < (n : Int)) = true := decide_eq_true (by omega)
  unfold opS opV at hk
  simp only [if_pos h0, decide_eq_true h0] at hk
  have hlt : nvS s n < 256 ^ n := by
   unfold nvS G0
   split
   .simp [rZ]; exact Nat.pow_pos (by omega)
   .split
    .simp [rZ]; exact Nat.pow_pos (by omega)
    .have := MA (s.1.take n)
     rw [aCf, aCL (by omega)] at this
     exact this
  have hle : (nxS s n).1.length <= s.1.length := by
   unfold nxS G0
   split
   .exact aCb _
   .split
    .exact aCb _
    .simp only [aCi]; omega
  simp (disch := omega) only [gI, jD, dJ, stepR_skip, hJ, iC, iM, iP, iL, iN, jJ, iX, gM, iE, iG, iI, iH, gY, iO, hZ, iF, iV, iW, iJ, gR, iT, iQ, iD, jV, jW, kF, kD, kC, kG, kA, kB, kE, gD, Result.ok.injEq, Next.value.injEq, true_and, and_true, gX, iA, iU, iR, iS, jF, aB0, gV, gU, gW, gT, gO, gJ, gP, gN, gB, fV, if_true, if_false, aBZ, aB4, aB1, aB2, aB5, aB3, aBY, aBX, fQ, fL, fE, fR, cU, eS, eF, dK, bP, fS, eY, aP, dB, aX, bQ, bM, aO, cO, cJ, eQ, aE, gS, aJ, cK, aT, bU, fT, cI, cF, aD, gA, fD, aN, aF, bO, gQ, aI, eX, dT, dV, gF, dE, fB, cZ, eH, fF, fC, cG, dG, gK, dN, bZ, aS, bV, bT, fN, aG, aH, aQ, bA, bE, cP, bK, aA, fA, aR, cL, fJ, eU, gG, bJ, eL, eN, bY, fW, eZ, eJ, dH, cQ, dD, aY, bD, aL, fZ, aM, dA, eE, bB, cC, fK, dL, gC, fM, fG, fI, dS, aK, cH, cY, fY, fX, fH, dC, aV, dX, fU, cS, eT, fO, cD, bL, dR, aZ, dW, dQ, cM, eM, eK, bF, dF, bG, eD, dU, dZ, bN, cR, cN, dO, bS, cW, cV, fP, cB, eI, eP, gE, dY, dP, dM, dI, bH, bR, bW, bX, aU, cX, aW, d1, d2]
  refine (BY hr (by omega) ⟨h0, hn8⟩).mono ?_
  rintro r w1 ⟨rfl, hr1, x1⟩
  have oh1 := oh.ext x1 (fun e => hph (e ▸ hpr))
  have ot1 := ot.ext x1 (fun e => hpt (e ▸ hpr))
  refine J2 oh1 rfl (by simp [Pj]) fun w2 o2 x2 s2 => ?_
  refine awQ (off := 2) o2 rfl (by simp [Pj]) fun w3 o3 x3 s3 => ?_
  have x23 := x2.seq x3
  refine ajD (h := ⟨h.window, nvS s n, true, h.sum⟩) (l := (nxS s n).1) (e := (nxS s n).2) (fun h2 => by rw [h2] at hlt; rw [h2]; simpa using hlt) (hr1.ext x23 fun y h1 h2 h3 => hph (h3 ▸ ⟨h1, h2⟩)) (by omega) hv (by omega) hL2 o3 (ot1.ext x23 (fun e => hne e.symm)) hne hpt hph fun w' x => hk w' (((x1.mono fun _ _ h => .inr (.inr h)).seq (x23.mono fun _ _ h => .inr (.inl h))).seq (x.mono fun _ _ h => h.elim .inl fun h => .inr (.inl h)))
 .have d1 : decide ((n : Int) > 0) = false := decide_eq_false (by omega)
  have d2 : decide ((0 : Int) < (n : Int)) = false := decide_eq_false (by omega)
  unfold opS opV at hk
  simp only [if_neg h0, decide_eq_false h0] at hk
  simp (disch := omega) only [gI, jD, dJ, stepR_skip, hJ, iC, iM, iP, iL, iN, jJ, iX, gM, iE, iG, iI, iH, gY, iO, hZ, iF, iV, iW, iJ, gR, iT, iQ, iD, jV, jW, kF, kD, kC, kG, kA, kB, kE, gD, Result.ok.injEq, Next.value.injEq, true_and, and_true, gX, iA, iU, iR, iS, jF, aB0, gV, gU, gW, gT, gO, gJ, gP, gN, gB, fV, if_true, if_false, aBZ, aB4, aB1, aB2, aB5, aB3, aBY, aBX, fQ, fL, fE, fR, cU, eS, eF, dK, bP, fS, eY, aP, dB, aX, bQ, bM, aO, cO, cJ, eQ, aE, gS, aJ, cK, aT, bU, fT, cI, cF, aD, gA, fD, aN, aF, bO, gQ, aI, eX, dT, dV, gF, dE, fB, cZ, eH, fF, fC, cG, dG, gK, dN, bZ, aS, bV, bT, fN, aG, aH, aQ, bA, bE, cP, bK, aA, fA, aR, cL, fJ, eU, gG, bJ, eL, eN, bY, fW, eZ, eJ, dH, cQ, dD, aY, bD, aL, fZ, aM, dA, eE, bB, cC, fK, dL, gC, fM, fG, fI, dS, aK, cH, cY, fY, fX, fH, dC, aV, dX, fU, cS, eT, fO, cD, bL, dR, aZ, dW, dQ, cM, eM, eK, bF, dF, bG, eD, dU, dZ, bN, cR, cN, dO, bS, cW, cV, fP, cB, eI, eP, gE, dY, dP, dM, dI, bH, bR, bW, bX, aU, cX, aW, d1, d2]
  refine ajD (h := h) (l := s.1) (e := s.2) hn hr hl hv hL hL2 oh ot hne hpt hph fun w' x => ?_
  have := hk w' (x.mono fun _ _ h => h.elim .inl fun h => .inr (.inl h))
  rw [hs0, hk0]
  exact this
theorem ahL {RR : aEm -> aEl -> Prop} {v : aEm} {L lo hi pr ph pt dict d : Nat} {s : List UInt8 × Int} {h : FH} {z : FH} {w : aEl} (hd : d < 256) (hk0 : h.known = false) (hs0 : h.size = 0) (hr : Qi w lo hi pr s.1 s.2) (hl : s.1.length <= 1000000) (hv : ∃ a c, v = .slice a L c) (hL : s.1.length <= L) (hL2 : L <= 1000000) (oh : lN w ph (Pj h)) (ot : lN w pt (Pj z)) (hne : ph ≠ pt) (hpt : ¬ (lo <= pt /\ pt < hi)) (hph : ¬ (lo <= ph /\ ph < hi)) (hpr : lo <= pr /\ pr < hi)
 (hk : ∀ w', jN w w' (fun y => y = pt ∨ y = ph ∨ y = pr) -> RR (fRV (ZZ L (opS s (Wk d)) dict ⟨if Uy d then fSz d (opV s (Wk d)) else h.window, fSz d (opV s (Wk d)), decide (0 < Wk d), h.sum⟩)) w') :
 DF RR v (.pointer (some ⟨pt, 0, none⟩)) (.pointer (some ⟨pr, 0, none⟩)) (.int .i64 (d : Nat)) (.pointer (some ⟨ph, 0, none⟩)) (.bool (Uy d)) (.int .u64 (dict : Nat)) w := by
 unfold DF Nf
 have main : ∀ n : Nat, n = Wk d -> DD RR v (.pointer (some ⟨pt, 0, none⟩)) (.pointer (some ⟨pr, 0, none⟩)) (.pointer (some ⟨ph, 0, none⟩)) (.bool (Uy d)) (.int .u64 (dict : Nat)) (.int .i64 (n : Nat)) w := by
  rintro n rfl
  refine arC (h := h) (s := s) ?_ (fun _ => by omega) hk0 hs0 hr hl hv hL hL2 oh ot hne hpt hph hpr fun w' x => ?_
  .unfold Wk
   have : d / 64 = 0 ∨ d / 64 = 1 ∨ d / 64 = 2 ∨ d / 64 = 3 := by omega
   rcases this with h | h | h | h <;> rw [h] <;> simp
   split <;> omega
  .have := hk w' x
   unfold fSz at this
   exact this
 have h4 : d / 64 = 0 ∨ d / 64 = 1 ∨ d / 64 = 2 ∨ d / 64 = 3 := by omega
 have e6 : (d : Int).fdiv (2 ^ min (Int.toNat 6) IntKind.i64.bits) = ((d / 64 : Nat) : Int) := by
  have : (2 : Int) ^ min (Int.toNat 6) IntKind.i64.bits = 64 := by decide
  rw [this, aCD _ (by omega)]; omega
 rcases h4 with h4 | h4 | h4 | h4 <;> rw [h4] at e6
 .cases ho : Uy d with
  | true =>
    have e : 1 = Wk d := by unfold Wk; rw [h4, ho] <;> rfl
    have := main 1 e
    rw [ho] at this
    simp (disch := omega) only [gI, jD, dJ, stepR_skip, hJ, iC, iM, iP, iL, iN, jJ, iX, gM, iE, iG, iI, iH, gY, iO, hZ, iF, iV, iW, iJ, gR, iT, iQ, iD, jV, jW, kF, kD, kC, kG, kA, kB, kE, gD, Result.ok.injEq, Next.value.injEq, true_and, and_true, gX, iA, iU, iR, iS, jF, aB0, gV, gU, gW, gT, gO, gJ, gP, gN, gB, fV, if_true, if_false, aBZ, aB4, aB1, aB2, aB5, aB3, aBY, aBX, fQ, fL, fE, fR, cU, eS, eF, dK, bP, fS, eY, aP, dB, aX, bQ, bM, aO, cO, cJ, eQ, aE, gS, aJ, cK, aT, bU, fT, cI, cF, aD, gA, fD, aN, aF, bO, gQ, aI, eX, dT, dV, gF, dE, fB, cZ, eH, fF, fC, cG, dG, gK, dN, bZ, aS, bV, bT, fN, aG, aH, aQ, bA, bE, cP, bK, aA, fA, aR, cL, fJ, eU, gG, bJ, eL, eN, bY, fW, eZ, eJ, dH, cQ, dD, aY, bD, aL, fZ, aM, dA, eE, bB, cC, fK, dL, gC, fM, fG, fI, dS, aK, cH, cY, fY, fX, fH, dC, aV, dX, fU, cS, eT, fO, cD, bL, dR, aZ, dW, dQ, cM, eM, eK, bF, dF, bG, eD, dU, dZ, bN, cR, cN, dO, bS, cW, cV, fP, cB, eI, eP, gE, dY, dP, dM, dI, bH, bR, bW, bX, aU, cX, aW, e6, h4]
    exact this
  | false =>
    have e : 0 = Wk d := by unfold Wk; rw [h4, ho] <;> rfl
    have := main 0 e
    rw [ho] at this
    simp (disch := omega) only [gI, jD, dJ, stepR_skip, hJ, iC, iM, iP, iL, iN, jJ, iX, gM, iE, iG, iI, iH, gY, iO, hZ, iF, iV, iW, iJ, gR, iT, iQ, iD, jV, jW, kF, kD, kC, kG, kA, kB, kE, gD, Result.ok.injEq, Next.value.injEq, true_and, and_true, gX, iA, iU, iR, iS, jF, aB0, gV, gU, gW, gT, gO, gJ, gP, gN, gB, fV, if_true, if_false, aBZ, aB4, aB1, aB2, aB5, aB3, aBY, aBX, fQ, fL, fE, fR, cU, eS, eF, dK, bP, fS, eY, aP, dB, aX, bQ, bM, aO, cO, cJ, eQ, aE, gS, aJ, cK, aT, bU, fT, cI, cF, aD, gA, fD, aN, aF, bO, gQ, aI, eX, dT, dV, gF, dE, fB, cZ, eH, fF, fC, cG, dG, gK, dN, bZ, aS, bV, bT, fN, aG, aH, aQ, bA, bE, cP, bK, aA, fA, aR, cL, fJ, eU, gG, bJ, eL, eN, bY, fW, eZ, eJ, dH, cQ, dD, aY, bD, aL, fZ, aM, dA, eE, bB, cC, fK, dL, gC, fM, fG, fI, dS, aK, cH, cY, fY, fX, fH, dC, aV, dX, fU, cS, eT, fO, cD, bL, dR, aZ, dW, dQ, cM, eM, eK, bF, dF, bG, eD, dU, dZ, bN, cR, cN, dO, bS, cW, cV, fP, cB, eI, eP, gE, dY, dP, dM, dI, bH, bR, bW, bX, aU, cX, aW, e6, h4]
    exact this
 .have e : 2 = Wk d := by unfold Wk; rw [h4] <;> rfl
  simp (disch := omega) only [gI, jD, dJ, stepR_skip, hJ, iC, iM, iP, iL, iN, jJ, iX, gM, iE, iG, iI, iH, gY, iO, hZ, iF, iV, iW, iJ, gR, iT, iQ, iD, jV, jW, kF, kD, kC, kG, kA, kB, kE, gD, Result.ok.injEq, Next.value.injEq, true_and, and_true, gX, iA, iU, iR, iS, jF, aB0, gV, gU, gW, gT, gO, gJ, gP, gN, gB, fV, if_true, if_false, aBZ, aB4, aB1, aB2, aB5, aB3, aBY, aBX, fQ, fL, fE, fR, cU, eS, eF, dK, bP, fS, eY, aP, dB, aX, bQ, bM, aO, cO, cJ, eQ, aE, gS, aJ, cK, aT, bU, fT, cI, cF, aD, gA, fD, aN, aF, bO, gQ, aI, eX, dT, dV, gF, dE, fB, cZ, eH, fF, fC, cG, dG, gK, dN, bZ, aS, bV, bT, fN, aG, aH, aQ, bA, bE, cP, bK, aA, fA, aR, cL, fJ, eU, gG, bJ, eL, eN, bY, fW, eZ, eJ, dH, cQ, dD, aY, bD, aL, fZ, aM, dA, eE, bB, cC, fK, dL, gC, fM, fG, fI, dS, aK, cH, cY, fY, fX, fH, dC, aV, dX, fU, cS, eT, fO, cD, bL, dR, aZ, dW, dQ, cM, eM, eK, bF, dF, bG, eD, dU, dZ, bN, cR, cN, dO, bS, cW, cV, fP, cB, eI, eP, gE, dY, dP, dM, dI, bH, bR, bW, bX, aU, cX, aW, e6, h4]
  cases ho : Uy d <;> (simp (disch := omega) only [gI, jD, dJ, stepR_skip, hJ, iC, iM, iP, iL, iN, jJ, iX, gM, iE, iG, iI, iH, gY, iO, hZ, iF, iV, iW, iJ, gR, iT, iQ, iD, jV, jW, kF, kD, kC, kG, kA, kB, kE, gD, Result.ok.injEq, Next.value.injEq, true_and, and_true, gX, iA, iU, iR, iS, jF, aB0, gV, gU, gW, gT, gO, gJ, gP, gN, gB, fV, if_true, if_false, aBZ, aB4, aB1, aB2, aB5, aB3, aBY, aBX, fQ, fL, fE, fR, cU, eS, eF, dK, bP, fS, eY, aP, dB, aX, bQ, bM, aO, cO, cJ, eQ, aE, gS, aJ, cK, aT, bU, fT, cI, cF, aD, gA, fD, aN, aF, bO, gQ, aI, eX, dT, dV, gF, dE, fB, cZ, eH, fF, fC, cG, dG, gK, dN, bZ, aS, bV, bT, fN, aG, aH, aQ, bA, bE, cP, bK, aA, fA, aR, cL, fJ, eU, gG, bJ, eL, eN, bY, fW, eZ, eJ, dH, cQ, dD, aY, bD, aL, fZ, aM, dA, eE, bB, cC, fK, dL, gC, fM, fG, fI, dS, aK, cH, cY, fY, fX, fH, dC, aV, dX, fU, cS, eT, fO, cD, bL, dR, aZ, dW, dQ, cM, eM, eK, bF, dF, bG, eD, dU, dZ, bN, cR, cN, dO, bS, cW, cV, fP, cB, eI, eP, gE, dY, dP, dM, dI, bH, bR, bW, bX, aU, cX, aW]; rw [<- ho]; exact main 2 e)
 .have e : 4 = Wk d := by unfold Wk; rw [h4] <;> rfl
  simp (disch := omega) only [gI, jD, dJ, stepR_skip, hJ, iC, iM, iP, iL, iN, jJ, iX, gM, iE, iG, iI, iH, gY, iO, hZ, iF, iV, iW, iJ, gR, iT, iQ, iD, jV, jW, kF, kD, kC, kG, kA, kB, kE, gD, Result.ok.injEq, Next.value.injEq, true_and, and_true, gX, iA, iU, iR, iS, jF, aB0, gV, gU, gW, gT, gO, gJ, gP, gN, gB, fV, if_true, if_false, aBZ, aB4, aB1, aB2, aB5, aB3, aBY, aBX, fQ, fL, fE, fR, cU, eS, eF, dK, bP, fS, eY, aP, dB, aX, bQ, bM, aO, cO, cJ, eQ, aE, gS, aJ, cK, aT, bU, fT, cI, cF, aD, gA, fD, aN, aF, bO, gQ, aI, eX, dT, dV, gF, dE, fB, cZ, eH, fF, fC, cG, dG, gK, dN, bZ, aS, bV, bT, fN, aG, aH, aQ, bA, bE, cP, bK, aA, fA, aR, cL, fJ, eU, gG, bJ, eL, eN, bY, fW, eZ, eJ, dH, cQ, dD, aY, bD, aL, fZ, aM, dA, eE, bB, cC, fK, dL, gC, fM, fG, fI, dS, aK, cH, cY, fY, fX, fH, dC, aV, dX, fU, cS, eT, fO, cD, bL, dR, aZ, dW, dQ, cM, eM, eK, bF, dF, bG, eD, dU, dZ, bN, cR, cN, dO, bS, cW, cV, fP, cB, eI, eP, gE, dY, dP, dM, dI, bH, bR, bW, bX, aU, cX, aW, e6, h4]
  cases ho : Uy d <;> (simp (disch := omega) only [gI, jD, dJ, stepR_skip, hJ, iC, iM, iP, iL, iN, jJ, iX, gM, iE, iG, iI, iH, gY, iO, hZ, iF, iV, iW, iJ, gR, iT, iQ, iD, jV, jW, kF, kD, kC, kG, kA, kB, kE, gD, Result.ok.injEq, Next.value.injEq, true_and, and_true, gX, iA, iU, iR, iS, jF, aB0, gV, gU, gW, gT, gO, gJ, gP, gN, gB, fV, if_true, if_false, aBZ, aB4, aB1, aB2, aB5, aB3, aBY, aBX, fQ, fL, fE, fR, cU, eS, eF, dK, bP, fS, eY, aP, dB, aX, bQ, bM, aO, cO, cJ, eQ, aE, gS, aJ, cK, aT, bU, fT, cI, cF, aD, gA, fD, aN, aF, bO, gQ, aI, eX, dT, dV, gF, dE, fB, cZ, eH, fF, fC, cG, dG, gK, dN, bZ, aS, bV, bT, fN, aG, aH, aQ, bA, bE, cP, bK, aA, fA, aR, cL, fJ, eU, gG, bJ, eL, eN, bY, fW, eZ, eJ, dH, cQ, dD, aY, bD, aL, fZ, aM, dA, eE, bB, cC, fK, dL, gC, fM, fG, fI, dS, aK, cH, cY, fY, fX, fH, dC, aV, dX, fU, cS, eT, fO, cD, bL, dR, aZ, dW, dQ, cM, eM, eK, bF, dF, bG, eD, dU, dZ, bN, cR, cN, dO, bS, cW, cV, fP, cB, eI, eP, gE, dY, dP, dM, dI, bH, bR, bW, bX, aU, cX, aW]; rw [<- ho]; exact main 4 e)
 .have e : 8 = Wk d := by unfold Wk; rw [h4] <;> rfl
  simp (disch := omega) only [gI, jD, dJ, stepR_skip, hJ, iC, iM, iP, iL, iN, jJ, iX, gM, iE, iG, iI, iH, gY, iO, hZ, iF, iV, iW, iJ, gR, iT, iQ, iD, jV, jW, kF, kD, kC, kG, kA, kB, kE, gD, Result.ok.injEq, Next.value.injEq, true_and, and_true, gX, iA, iU, iR, iS, jF, aB0, gV, gU, gW, gT, gO, gJ, gP, gN, gB, fV, if_true, if_false, aBZ, aB4, aB1, aB2, aB5, aB3, aBY, aBX, fQ, fL, fE, fR, cU, eS, eF, dK, bP, fS, eY, aP, dB, aX, bQ, bM, aO, cO, cJ, eQ, aE, gS, aJ, cK, aT, bU, fT, cI, cF, aD, gA, fD, aN, aF, bO, gQ, aI, eX, dT, dV, gF, dE, fB, cZ, eH, fF, fC, cG, dG, gK, dN, bZ, aS, bV, bT, fN, aG, aH, aQ, bA, bE, cP, bK, aA, fA, aR, cL, fJ, eU, gG, bJ, eL, eN, bY, fW, eZ, eJ, dH, cQ, dD, aY, bD, aL, fZ, aM, dA, eE, bB, cC, fK, dL, gC, fM, fG, fI, dS, aK, cH, cY, fY, fX, fH, dC, aV, dX, fU, cS, eT, fO, cD, bL, dR, aZ, dW, dQ, cM, eM, eK, bF, dF, bG, eD, dU, dZ, bN, cR, cN, dO, bS, cW, cV, fP, cB, eI, eP, gE, dY, dP, dM, dI, bH, bR, bW, bX, aU, cX, aW, e6, h4]
  cases ho : Uy d <;> (simp (disch := omega) only [gI, jD, dJ, stepR_skip, hJ, iC, iM, iP, iL, iN, jJ, iX, gM, iE, iG, iI, iH, gY, iO, hZ, iF, iV, iW, iJ, gR, iT, iQ, iD, jV, jW, kF, kD, kC, kG, kA, kB, kE, gD, Result.ok.injEq, Next.value.injEq, true_and, and_true, gX, iA, iU, iR, iS, jF, aB0, gV, gU, gW, gT, gO, gJ, gP, gN, gB, fV, if_true, if_false, aBZ, aB4, aB1, aB2, aB5, aB3, aBY, aBX, fQ, fL, fE, fR, cU, eS, eF, dK, bP, fS, eY, aP, dB, aX, bQ, bM, aO, cO, cJ, eQ, aE, gS, aJ, cK, aT, bU, fT, cI, cF, aD, gA, fD, aN, aF, bO, gQ, aI, eX, dT, dV, gF, dE, fB, cZ, eH, fF, fC, cG, dG, gK, dN, bZ, aS, bV, bT, fN, aG, aH, aQ, bA, bE, cP, bK, aA, fA, aR, cL, fJ, eU, gG, bJ, eL, eN, bY, fW, eZ, eJ, dH, cQ, dD, aY, bD, aL, fZ, aM, dA, eE, bB, cC, fK, dL, gC, fM, fG, fI, dS, aK, cH, cY, fY, fX, fH, dC, aV, dX, fU, cS, eT, fO, cD, bL, dR, aZ, dW, dQ, cM, eM, eK, bF, dF, bG, eD, dU, dZ, bN, cR, cN, dO, bS, cW, cV, fP, cB, eI, eP, gE, dY, dP, dM, dI, bH, bR, bW, bX, aU, cX, aW]; rw [<- ho]; exact main 8 e)
theorem ayC {d : Nat} (h : d < 256) : G1 .i64 (d : Int) 3 = ((d % 4 : Nat) : Int) /\ (G1 .i64 (d : Int) 4 != 0) = (d / 4 % 2 == 1) /\ (G1 .i64 (d : Int) 8 != 0) = (d / 8 % 2 == 1) /\ (G1 .i64 (d : Int) 32 != 0) = (d / 32 % 2 == 1) := by
 have : ∀ k : Fin 256, G1 .i64 (k.val : Int) 3 = ((k.val % 4 : Nat) : Int) /\ (G1 .i64 (k.val : Int) 4 != 0) = (k.val / 4 % 2 == 1) /\ (G1 .i64 (k.val : Int) 8 != 0) = (k.val / 8 % 2 == 1) /\ (G1 .i64 (k.val : Int) 32 != 0) = (k.val / 32 % 2 == 1) := by decide +kernel
 exact this ⟨d, h⟩
theorem aBk (x : Nat) (h : x < 256) : IntKind.u64.wrap (IntKind.u64.wrap (1 * 2 ^ min (10 + ((x / 8 : Nat) : Int)).toNat IntKind.u64.bits) + IntKind.u64.wrap (IntKind.u64.wrap ((IntKind.u64.wrap (1 * 2 ^ min (10 + ((x / 8 : Nat) : Int)).toNat IntKind.u64.bits)).tdiv 8) * G1 IntKind.u64 (x : Int) 7)) = ((auN x : Nat) : Int) := by
 have : ∀ k : Fin 256, IntKind.u64.wrap (IntKind.u64.wrap (1 * 2 ^ min (10 + ((k.val / 8 : Nat) : Int)).toNat IntKind.u64.bits) + IntKind.u64.wrap (IntKind.u64.wrap ((IntKind.u64.wrap (1 * 2 ^ min (10 + ((k.val / 8 : Nat) : Int)).toNat IntKind.u64.bits)).tdiv 8) * G1 IntKind.u64 (k.val : Int) 7)) = ((auN k.val : Nat) : Int) := by decide +kernel
 exact this ⟨x, h⟩
theorem auH {x : Nat} {w : aEl} (h : x < 256) : jE pg F1 #[.int .u64 (x : Nat)] w (fun r w' => r = .int .u64 (auN x : Nat) /\ w' = w) := by
 refine XJ ?_
 unfold Wp Jg
 have e0 : (x : Int).fdiv (2 ^ min (Int.toNat 3) IntKind.u64.bits) = ((x / 8 : Nat) : Int) := by
  have : (2 : Int) ^ min (Int.toNat 3) IntKind.u64.bits = 8 := by decide
  rw [this, aCD _ (by omega)]; omega
 simp (disch := omega) only [gI, jD, dJ, stepR_skip, hJ, iC, iM, iP, iL, iN, jJ, iX, gM, iE, iG, iI, iH, gY, iO, hZ, iF, iV, iW, iJ, gR, iT, iQ, iD, jV, jW, kF, kD, kC, kG, kA, kB, kE, gD, Result.ok.injEq, Next.value.injEq, true_and, and_true, gX, iA, iU, iR, iS, jF, aB0, gV, gU, gW, gT, gO, gJ, gP, gN, gB, fV, if_true, if_false, aBZ, aB4, aB1, aB2, aB5, aB3, aBY, aBX, fQ, fL, fE, fR, cU, eS, eF, dK, bP, fS, eY, aP, dB, aX, bQ, bM, aO, cO, cJ, eQ, aE, gS, aJ, cK, aT, bU, fT, cI, cF, aD, gA, fD, aN, aF, bO, gQ, aI, eX, dT, dV, gF, dE, fB, cZ, eH, fF, fC, cG, dG, gK, dN, bZ, aS, bV, bT, fN, aG, aH, aQ, bA, bE, cP, bK, aA, fA, aR, cL, fJ, eU, gG, bJ, eL, eN, bY, fW, eZ, eJ, dH, cQ, dD, aY, bD, aL, fZ, aM, dA, eE, bB, cC, fK, dL, gC, fM, fG, fI, dS, aK, cH, cY, fY, fX, fH, dC, aV, dX, fU, cS, eT, fO, cD, bL, dR, aZ, dW, dQ, cM, eM, eK, bF, dF, bG, eD, dU, dZ, bN, cR, cN, dO, bS, cW, cV, fP, cB, eI, eP, gE, dY, dP, dM, dI, bH, bR, bW, bX, aU, cX, aW, e0]
 rw [aBk x h]
theorem adD {RR : aEm -> aEl -> Prop} {v : aEm} {L lo hi pr ph pt d : Nat} {s : List UInt8 × Int} {h : FH} {z : FH} {w : aEl} (hd : d < 256) (hk0 : h.known = false) (hs0 : h.size = 0) (hr : Qi w lo hi pr s.1 s.2) (hl : s.1.length <= 1000000) (hv : ∃ a c, v = .slice a L c) (hL : s.1.length <= L) (hL2 : L <= 1000000) (oh : lN w ph (Pj h)) (ot : lN w pt (Pj z)) (hne : ph ≠ pt) (hpt : ¬ (lo <= pt /\ pt < hi)) (hph : ¬ (lo <= ph /\ ph < hi)) (hpr : lo <= pr /\ pr < hi)
 (hk : ∀ w', jN w w' (fun y => y = pt ∨ y = ph ∨ y = pr) -> RR (fRV (ZZ L (opS (opS s (fDn d)) (Wk d)) (opV s (fDn d)) ⟨if Uy d then fSz d (opV (opS s (fDn d)) (Wk d)) else h.window, fSz d (opV (opS s (fDn d)) (Wk d)), decide (0 < Wk d), h.sum⟩)) w') :
 GF RR v (.pointer (some ⟨pt, 0, none⟩)) (.pointer (some ⟨pr, 0, none⟩)) (.int .i64 (d : Nat)) (.pointer (some ⟨ph, 0, none⟩)) (.bool (Uy d)) w := by
 unfold GF Ki
 obtain ⟨b3, _⟩ := ayC hd
 have main : ∀ n : Nat, n <= 8 -> 0 < n -> fDn d = n -> jE pg lB #[.pointer (some ⟨pr, 0, none⟩), .int .i64 n] w (fun t50 w1 => DF RR v (.pointer (some ⟨pt, 0, none⟩)) (.pointer (some ⟨pr, 0, none⟩)) (.int .i64 (d : Nat)) (.pointer (some ⟨ph, 0, none⟩)) (.bool (Uy d)) t50 w1) := by
  intro n hn h0 e
  rw [e] at hk
  unfold opS at hk
  unfold opV at hk
  rw [if_pos h0, if_pos h0] at hk
  have hle : (nxS s n).1.length <= s.1.length := by
   unfold nxS G0
   split
   .exact aCb _
   .split
    .exact aCb _
    .simp only [aCi]; omega
  refine (BY hr (by omega) ⟨h0, hn⟩).mono ?_
  rintro r w1 ⟨rfl, hr1, x1⟩
  exact ahL (s := nxS s n) (dict := nvS s n) hd hk0 hs0 hr1 (by omega) hv (by omega) hL2 (oh.ext x1 (fun e => hph (e ▸ hpr))) (ot.ext x1 (fun e => hpt (e ▸ hpr))) hne hpt hph hpr fun w' x => hk w' ((x1.mono fun _ _ h => .inr (.inr h)).seq x)
 have h4 : d % 4 = 0 ∨ d % 4 = 1 ∨ d % 4 = 2 ∨ d % 4 = 3 := by omega
 rcases h4 with h4 | h4 | h4 | h4 <;> rw [h4] at b3
 .have e : fDn d = 0 := by unfold fDn; rw [h4] <;> rfl
  have n1 : decide ((0 : Int) > 0) = false := rfl
  simp (disch := omega) only [gI, jD, dJ, stepR_skip, hJ, iC, iM, iP, iL, iN, jJ, iX, gM, iE, iG, iI, iH, gY, iO, hZ, iF, iV, iW, iJ, gR, iT, iQ, iD, jV, jW, kF, kD, kC, kG, kA, kB, kE, gD, Result.ok.injEq, Next.value.injEq, true_and, and_true, gX, iA, iU, iR, iS, jF, aB0, gV, gU, gW, gT, gO, gJ, gP, gN, gB, fV, if_true, if_false, aBZ, aB4, aB1, aB2, aB5, aB3, aBY, aBX, fQ, fL, fE, fR, cU, eS, eF, dK, bP, fS, eY, aP, dB, aX, bQ, bM, aO, cO, cJ, eQ, aE, gS, aJ, cK, aT, bU, fT, cI, cF, aD, gA, fD, aN, aF, bO, gQ, aI, eX, dT, dV, gF, dE, fB, cZ, eH, fF, fC, cG, dG, gK, dN, bZ, aS, bV, bT, fN, aG, aH, aQ, bA, bE, cP, bK, aA, fA, aR, cL, fJ, eU, gG, bJ, eL, eN, bY, fW, eZ, eJ, dH, cQ, dD, aY, bD, aL, fZ, aM, dA, eE, bB, cC, fK, dL, gC, fM, fG, fI, dS, aK, cH, cY, fY, fX, fH, dC, aV, dX, fU, cS, eT, fO, cD, bL, dR, aZ, dW, dQ, cM, eM, eK, bF, dF, bG, eD, dU, dZ, bN, cR, cN, dO, bS, cW, cV, fP, cB, eI, eP, gE, dY, dP, dM, dI, bH, bR, bW, bX, aU, cX, aW, b3, n1]
  refine ahL (s := s) (dict := 0) hd hk0 hs0 hr hl hv hL hL2 oh ot hne hpt hph hpr fun w' x => ?_
  have := hk w' x
  rw [e] at this
  exact this
 .have n1 : decide ((1 : Int) > 0) = true := rfl
  have n2 : decide ((0 : Int) < 1) = true := rfl
  simp (disch := omega) only [gI, jD, dJ, stepR_skip, hJ, iC, iM, iP, iL, iN, jJ, iX, gM, iE, iG, iI, iH, gY, iO, hZ, iF, iV, iW, iJ, gR, iT, iQ, iD, jV, jW, kF, kD, kC, kG, kA, kB, kE, gD, Result.ok.injEq, Next.value.injEq, true_and, and_true, gX, iA, iU, iR, iS, jF, aB0, gV, gU, gW, gT, gO, gJ, gP, gN, gB, fV, if_true, if_false, aBZ, aB4, aB1, aB2, aB5, aB3, aBY, aBX, fQ, fL, fE, fR, cU, eS, eF, dK, bP, fS, eY, aP, dB, aX, bQ, bM, aO, cO, cJ, eQ, aE, gS, aJ, cK, aT, bU, fT, cI, cF, aD, gA, fD, aN, aF, bO, gQ, aI, eX, dT, dV, gF, dE, fB, cZ, eH, fF, fC, cG, dG, gK, dN, bZ, aS, bV, bT, fN, aG, aH, aQ, bA, bE, cP, bK, aA, fA, aR, cL, fJ, eU, gG, bJ, eL, eN, bY, fW, eZ, eJ, dH, cQ, dD, aY, bD, aL, fZ, aM, dA, eE, bB, cC, fK, dL, gC, fM, fG, fI, dS, aK, cH, cY, fY, fX, fH, dC, aV, dX, fU, cS, eT, fO, cD, bL, dR, aZ, dW, dQ, cM, eM, eK, bF, dF, bG, eD, dU, dZ, bN, cR, cN, dO, bS, cW, cV, fP, cB, eI, eP, gE, dY, dP, dM, dI, bH, bR, bW, bX, aU, cX, aW, b3, n1, n2]
  exact main 1 (by omega) (by omega) (by unfold fDn; rw [h4] <;> rfl)
 .have n1 : decide ((2 : Int) > 0) = true := rfl
  have n2 : decide ((0 : Int) < 2) = true := rfl
  simp (disch := omega) only [gI, jD, dJ, stepR_skip, hJ, iC, iM, iP, iL, iN, jJ, iX, gM, iE, iG, iI, iH, gY, iO, hZ, iF, iV, iW, iJ, gR, iT, iQ, iD, jV, jW, kF, kD, kC, kG, kA, kB, kE, gD, Result.ok.injEq, Next.value.injEq, true_and, and_true, gX, iA, iU, iR, iS, jF, aB0, gV, gU, gW, gT, gO, gJ, gP, gN, gB, fV, if_true, if_false, aBZ, aB4, aB1, aB2, aB5, aB3, aBY, aBX, fQ, fL, fE, fR, cU, eS, eF, dK, bP, fS, eY, aP, dB, aX, bQ, bM, aO, cO, cJ, eQ, aE, gS, aJ, cK, aT, bU, fT, cI, cF, aD, gA, fD, aN, aF, bO, gQ, aI, eX, dT, dV, gF, dE, fB, cZ, eH, fF, fC, cG, dG, gK, dN, bZ, aS, bV, bT, fN, aG, aH, aQ, bA, bE, cP, bK, aA, fA, aR, cL, fJ, eU, gG, bJ, eL, eN, bY, fW, eZ, eJ, dH, cQ, dD, aY, bD, aL, fZ, aM, dA, eE, bB, cC, fK, dL, gC, fM, fG, fI, dS, aK, cH, cY, fY, fX, fH, dC, aV, dX, fU, cS, eT, fO, cD, bL, dR, aZ, dW, dQ, cM, eM, eK, bF, dF, bG, eD, dU, dZ, bN, cR, cN, dO, bS, cW, cV, fP, cB, eI, eP, gE, dY, dP, dM, dI, bH, bR, bW, bX, aU, cX, aW, b3, n1, n2]
  exact main 2 (by omega) (by omega) (by unfold fDn; rw [h4] <;> rfl)
 .have n1 : decide ((4 : Int) > 0) = true := rfl
  have n2 : decide ((0 : Int) < 4) = true := rfl
  simp (disch := omega) only [gI, jD, dJ, stepR_skip, hJ, iC, iM, iP, iL, iN, jJ, iX, gM, iE, iG, iI, iH, gY, iO, hZ, iF, iV, iW, iJ, gR, iT, iQ, iD, jV, jW, kF, kD, kC, kG, kA, kB, kE, gD, Result.ok.injEq, Next.value.injEq, true_and, and_true, gX, iA, iU, iR, iS, jF, aB0, gV, gU, gW, gT, gO, gJ, gP, gN, gB, fV, if_true, if_false, aBZ, aB4, aB1, aB2, aB5, aB3, aBY, aBX, fQ, fL, fE, fR, cU, eS, eF, dK, bP, fS, eY, aP, dB, aX, bQ, bM, aO, cO, cJ, eQ, aE, gS, aJ, cK, aT, bU, fT, cI, cF, aD, gA, fD, aN, aF, bO, gQ, aI, eX, dT, dV, gF, dE, fB, cZ, eH, fF, fC, cG, dG, gK, dN, bZ, aS, bV, bT, fN, aG, aH, aQ, bA, bE, cP, bK, aA, fA, aR, cL, fJ, eU, gG, bJ, eL, eN, bY, fW, eZ, eJ, dH, cQ, dD, aY, bD, aL, fZ, aM, dA, eE, bB, cC, fK, dL, gC, fM, fG, fI, dS, aK, cH, cY, fY, fX, fH, dC, aV, dX, fU, cS, eT, fO, cD, bL, dR, aZ, dW, dQ, cM, eM, eK, bF, dF, bG, eD, dU, dZ, bN, cR, cN, dO, bS, cW, cV, fP, cB, eI, eP, gE, dY, dP, dM, dI, bH, bR, bW, bX, aU, cX, aW, b3, n1, n2]
  exact main 4 (by omega) (by omega) (by unfold fDn; rw [h4] <;> rfl)
theorem auW (s : List UInt8 × Int) (n : Nat) : (nxS s n).1.length <= s.1.length := by
 unfold nxS G0
 split
 .exact aCb _
 .split
  .exact aCb _
  .simp only [aCi]; omega
theorem abL (s : List UInt8 × Int) (n : Nat) : nvS s n < 256 ^ n := by
 unfold nvS G0
 split
 .simp [rZ]; exact Nat.pow_pos (by omega)
 .split
  .simp [rZ]; exact Nat.pow_pos (by omega)
  .have := MA (s.1.take n)
   rw [aCf, aCL (by omega)] at this
   exact this
theorem aiX {v : aEm} {l : List UInt8} {w : aEl} (hb : Bs w v l) (hl : l.length <= 1000000) : jE pg JO #[v] w (fun r w' => r = fRV (Rb l) /\ jN w w' mC) := by
 refine Z0 ?_
 unfold aaP Lh Ks
 refine D5 fun w1 o1 x1 s1 => ?_
 obtain ⟨pt, hpt⟩ : ∃ p, p = w.heap.size := ⟨_, rfl⟩
 rw [<- hpt] at o1 ⊢
 have hz1 := o1.lt
 have hb1 := hb.ext x1 (kJ _)
 obtain ⟨va, vc, hv, _⟩ := hb.len
 rw [aB6] at hv
 refine (Jc hb1 (by omega)).mono ?_
 rintro r w2 ⟨pr, rfl, hr, x2⟩
 have o2 := o1.ext x2 (fun h => h)
 have hpr : w1.heap.size <= pr /\ pr < w2.heap.size := ⟨hr.1, hr.2.1⟩
 refine (BY (n := 1) hr (by omega) ⟨by omega, by omega⟩).mono ?_
 rintro r w3 ⟨rfl, hr3, x3⟩
 have e1 : (rZ (G0 l 0 1).1) = nvS (l, 0) 1 := rfl
 have e2 : (G0 l 0 1).2.1 = (nxS (l, 0) 1).1 := rfl
 have e3 : (G0 l 0 1).2.2 = (nxS (l, 0) 1).2 := rfl
 rw [e2, e3] at hr3
 rw [e1]
 have o3 := o2.ext x3 (by intro h; omega)
 obtain ⟨d, hd⟩ : ∃ d, d = nvS (l, 0) 1 := ⟨_, rfl⟩
 obtain ⟨s, hs⟩ : ∃ s, s = nxS (l, 0) 1 := ⟨_, rfl⟩
 have hdl : d < 256 := by have := abL (l, 0) 1; omega
 have hsl : s.1.length <= l.length := by have := auW (l, 0) 1; rw [hs]; exact this
 rw [<- hd]
 rw [<- hs] at hr3
 have hfr : Rb l = if s.2 ≠ 0 then .error s.2 else if d / 8 % 2 = 1 then .error 11 else abW l.length s d := by unfold Rb; rw [<- hd, <- hs]
 rw [hfr]
 obtain ⟨b3, b4, b8, b32⟩ := ayC hdl
 have wd : IntKind.i64.wrap (d : Int) = d := gX (by omega) (by omega)
 simp (disch := omega) only [gI, jD, dJ, stepR_skip, hJ, iC, iM, iP, iL, iN, jJ, iX, gM, iE, iG, iI, iH, gY, iO, hZ, iF, iV, iW, iJ, gR, iT, iQ, iD, jV, jW, kF, kD, kC, kG, kA, kB, kE, gD, Result.ok.injEq, Next.value.injEq, true_and, and_true, gX, iA, iU, iR, iS, jF, aB0, gV, gU, gW, gT, gO, gJ, gP, gN, gB, fV, if_true, if_false, aBZ, aB4, aB1, aB2, aB5, aB3, aBY, aBX, fQ, fL, fE, fR, cU, eS, eF, dK, bP, fS, eY, aP, dB, aX, bQ, bM, aO, cO, cJ, eQ, aE, gS, aJ, cK, aT, bU, fT, cI, cF, aD, gA, fD, aN, aF, bO, gQ, aI, eX, dT, dV, gF, dE, fB, cZ, eH, fF, fC, cG, dG, gK, dN, bZ, aS, bV, bT, fN, aG, aH, aQ, bA, bE, cP, bK, aA, fA, aR, cL, fJ, eU, gG, bJ, eL, eN, bY, fW, eZ, eJ, dH, cQ, dD, aY, bD, aL, fZ, aM, dA, eE, bB, cC, fK, dL, gC, fM, fG, fI, dS, aK, cH, cY, fY, fX, fH, dC, aV, dX, fU, cS, eT, fO, cD, bL, dR, aZ, dW, dQ, cM, eM, eK, bF, dF, bG, eD, dU, dZ, bN, cR, cN, dO, bS, cW, cV, fP, cB, eI, eP, gE, dY, dP, dM, dI, bH, bR, bW, bX, aU, cX, aW, wd]
 refine (MS hr3).mono ?_
 rintro r w4 ⟨rfl, h4⟩
 rw [h4]; clear h4 w4
 have x03 : jN w w3 mC := x1.trans (x2.trans x3 fun y hy h => by have := x2.size; omega) fun y hy h => h
 by_cases he : s.2 = 0
 rotate_left
 .have n0 : (s.2 != 0) = true := by simp [he]
  rw [if_pos he]
  simp (disch := omega) only [gI, jD, dJ, stepR_skip, hJ, iC, iM, iP, iL, iN, jJ, iX, gM, iE, iG, iI, iH, gY, iO, hZ, iF, iV, iW, iJ, gR, iT, iQ, iD, jV, jW, kF, kD, kC, kG, kA, kB, kE, gD, Result.ok.injEq, Next.value.injEq, true_and, and_true, gX, iA, iU, iR, iS, jF, aB0, gV, gU, gW, gT, gO, gJ, gP, gN, gB, fV, if_true, if_false, aBZ, aB4, aB1, aB2, aB5, aB3, aBY, aBX, fQ, fL, fE, fR, cU, eS, eF, dK, bP, fS, eY, aP, dB, aX, bQ, bM, aO, cO, cJ, eQ, aE, gS, aJ, cK, aT, bU, fT, cI, cF, aD, gA, fD, aN, aF, bO, gQ, aI, eX, dT, dV, gF, dE, fB, cZ, eH, fF, fC, cG, dG, gK, dN, bZ, aS, bV, bT, fN, aG, aH, aQ, bA, bE, cP, bK, aA, fA, aR, cL, fJ, eU, gG, bJ, eL, eN, bY, fW, eZ, eJ, dH, cQ, dD, aY, bD, aL, fZ, aM, dA, eE, bB, cC, fK, dL, gC, fM, fG, fI, dS, aK, cH, cY, fY, fX, fH, dC, aV, dX, fU, cS, eT, fO, cD, bL, dR, aZ, dW, dQ, cM, eM, eK, bF, dF, bG, eD, dU, dZ, bN, cR, cN, dO, bS, cW, cV, fP, cB, eI, eP, gE, dY, dP, dM, dI, bH, bR, bW, bX, aU, cX, aW, n0]
  refine (MS hr3).mono ?_
  rintro r w4 ⟨rfl, h4⟩
  rw [h4]; clear h4 w4
  refine rC o3 rfl (by simp [one]) (by simp) fun w5 o5 x5 s5 => ?_
  refine yF o5 (by simp [kW]) ?_
  simp only [kW, aCa, aCc, aCs, aCq, aCw]
  exact ⟨rfl, x03.trans x5 fun y hy h => by omega⟩
 have n0 : (s.2 != 0) = false := by simp [he]
 rw [if_neg (by simpa using he)]
 by_cases h8 : d / 8 % 2 = 1
 .have n8 : (d / 8 % 2 == 1) = true := by simp [h8]
  rw [if_pos h8]
  rw [n8] at b8
  simp (disch := omega) only [gI, jD, dJ, stepR_skip, hJ, iC, iM, iP, iL, iN, jJ, iX, gM, iE, iG, iI, iH, gY, iO, hZ, iF, iV, iW, iJ, gR, iT, iQ, iD, jV, jW, kF, kD, kC, kG, kA, kB, kE, gD, Result.ok.injEq, Next.value.injEq, true_and, and_true, gX, iA, iU, iR, iS, jF, aB0, gV, gU, gW, gT, gO, gJ, gP, gN, gB, fV, if_true, if_false, aBZ, aB4, aB1, aB2, aB5, aB3, aBY, aBX, fQ, fL, fE, fR, cU, eS, eF, dK, bP, fS, eY, aP, dB, aX, bQ, bM, aO, cO, cJ, eQ, aE, gS, aJ, cK, aT, bU, fT, cI, cF, aD, gA, fD, aN, aF, bO, gQ, aI, eX, dT, dV, gF, dE, fB, cZ, eH, fF, fC, cG, dG, gK, dN, bZ, aS, bV, bT, fN, aG, aH, aQ, bA, bE, cP, bK, aA, fA, aR, cL, fJ, eU, gG, bJ, eL, eN, bY, fW, eZ, eJ, dH, cQ, dD, aY, bD, aL, fZ, aM, dA, eE, bB, cC, fK, dL, gC, fM, fG, fI, dS, aK, cH, cY, fY, fX, fH, dC, aV, dX, fU, cS, eT, fO, cD, bL, dR, aZ, dW, dQ, cM, eM, eK, bF, dF, bG, eD, dU, dZ, bN, cR, cN, dO, bS, cW, cV, fP, cB, eI, eP, gE, dY, dP, dM, dI, bH, bR, bW, bX, aU, cX, aW, n0, b8]
  refine rC o3 rfl (by simp [one]) (by simp) fun w5 o5 x5 s5 => ?_
  refine yF o5 (by simp [kW]) ?_
  simp only [kW, aCa, aCc, aCs, aCq, aCw]
  exact ⟨rfl, x03.trans x5 fun y hy h => by omega⟩
 have n8 : (d / 8 % 2 == 1) = false := by simp [h8]
 rw [if_neg h8]
 rw [n8] at b8
 obtain ⟨RR, hRR⟩ : ∃ RR : aEm -> aEl -> Prop, RR = fun r w' => r = fRV (abW l.length s d) /\ jN w w' mC := ⟨_, rfl⟩
 rw [<- hRR]
 have e32 : (d / 32 % 2 == 1) = Uy d := rfl
 rw [e32] at b32
 simp (disch := omega) only [gI, jD, dJ, stepR_skip, hJ, iC, iM, iP, iL, iN, jJ, iX, gM, iE, iG, iI, iH, gY, iO, hZ, iF, iV, iW, iJ, gR, iT, iQ, iD, jV, jW, kF, kD, kC, kG, kA, kB, kE, gD, Result.ok.injEq, Next.value.injEq, true_and, and_true, gX, iA, iU, iR, iS, jF, aB0, gV, gU, gW, gT, gO, gJ, gP, gN, gB, fV, if_true, if_false, aBZ, aB4, aB1, aB2, aB5, aB3, aBY, aBX, fQ, fL, fE, fR, cU, eS, eF, dK, bP, fS, eY, aP, dB, aX, bQ, bM, aO, cO, cJ, eQ, aE, gS, aJ, cK, aT, bU, fT, cI, cF, aD, gA, fD, aN, aF, bO, gQ, aI, eX, dT, dV, gF, dE, fB, cZ, eH, fF, fC, cG, dG, gK, dN, bZ, aS, bV, bT, fN, aG, aH, aQ, bA, bE, cP, bK, aA, fA, aR, cL, fJ, eU, gG, bJ, eL, eN, bY, fW, eZ, eJ, dH, cQ, dD, aY, bD, aL, fZ, aM, dA, eE, bB, cC, fK, dL, gC, fM, fG, fI, dS, aK, cH, cY, fY, fX, fH, dC, aV, dX, fU, cS, eT, fO, cD, bL, dR, aZ, dW, dQ, cM, eM, eK, bF, dF, bG, eD, dU, dZ, bN, cR, cN, dO, bS, cW, cV, fP, cB, eI, eP, gE, dY, dP, dM, dI, bH, bR, bW, bX, aU, cX, aW, n0, b8, b4]
 refine D5 fun w5 o5 x5 s5 => ?_
 obtain ⟨ph, hph⟩ : ∃ p, p = w3.heap.size := ⟨_, rfl⟩
 rw [<- hph] at o5 ⊢
 have hz3 := x2.size
 have hz4 := x3.size
 refine rC o5 rfl (by simp [one]) (by simp) fun w6 o6 x6 s6 => ?_
 simp only [kW, aCa, aCc] at o6
 have x36 : jN w3 w6 mC := x5.new x6 (by omega)
 have x06 : jN w w6 mC := x03.trans x36 fun y hy h => h
 have hr6 := hr3.ext x36 (fun _ _ _ h => h)
 have o36 := o3.ext x36 (fun h => h)
 have oh6 : lN w6 ph (Pj ⟨0, 0, false, d / 4 % 2 == 1⟩) := o6
 have ot6 : lN w6 pt (Pj ⟨0, 0, false, false⟩) := o36
 rw [b32]
 cases ho : Uy d with
 | true =>
   simp (disch := omega) only [gI, jD, dJ, stepR_skip, hJ, iC, iM, iP, iL, iN, jJ, iX, gM, iE, iG, iI, iH, gY, iO, hZ, iF, iV, iW, iJ, gR, iT, iQ, iD, jV, jW, kF, kD, kC, kG, kA, kB, kE, gD, Result.ok.injEq, Next.value.injEq, true_and, and_true, gX, iA, iU, iR, iS, jF, aB0, gV, gU, gW, gT, gO, gJ, gP, gN, gB, fV, if_true, if_false, aBZ, aB4, aB1, aB2, aB5, aB3, aBY, aBX, fQ, fL, fE, fR, cU, eS, eF, dK, bP, fS, eY, aP, dB, aX, bQ, bM, aO, cO, cJ, eQ, aE, gS, aJ, cK, aT, bU, fT, cI, cF, aD, gA, fD, aN, aF, bO, gQ, aI, eX, dT, dV, gF, dE, fB, cZ, eH, fF, fC, cG, dG, gK, dN, bZ, aS, bV, bT, fN, aG, aH, aQ, bA, bE, cP, bK, aA, fA, aR, cL, fJ, eU, gG, bJ, eL, eN, bY, fW, eZ, eJ, dH, cQ, dD, aY, bD, aL, fZ, aM, dA, eE, bB, cC, fK, dL, gC, fM, fG, fI, dS, aK, cH, cY, fY, fX, fH, dC, aV, dX, fU, cS, eT, fO, cD, bL, dR, aZ, dW, dQ, cM, eM, eK, bF, dF, bG, eD, dU, dZ, bN, cR, cN, dO, bS, cW, cV, fP, cB, eI, eP, gE, dY, dP, dM, dI, bH, bR, bW, bX, aU, cX, aW]
   rw [<- ho]
   refine adD (L := l.length) (s := s) hdl rfl rfl hr6 (by omega) ⟨_, _, hv⟩ hsl (by omega) oh6 ot6 (by omega) (by omega) (by omega) hpr fun w' x => ?_
   rw [hRR]
   refine ⟨?_, x06.trans x fun y hy h => by omega⟩
   unfold abW fS2
   rw [ho]
   rfl
 | false =>
   simp (disch := omega) only [gI, jD, dJ, stepR_skip, hJ, iC, iM, iP, iL, iN, jJ, iX, gM, iE, iG, iI, iH, gY, iO, hZ, iF, iV, iW, iJ, gR, iT, iQ, iD, jV, jW, kF, kD, kC, kG, kA, kB, kE, gD, Result.ok.injEq, Next.value.injEq, true_and, and_true, gX, iA, iU, iR, iS, jF, aB0, gV, gU, gW, gT, gO, gJ, gP, gN, gB, fV, if_true, if_false, aBZ, aB4, aB1, aB2, aB5, aB3, aBY, aBX, fQ, fL, fE, fR, cU, eS, eF, dK, bP, fS, eY, aP, dB, aX, bQ, bM, aO, cO, cJ, eQ, aE, gS, aJ, cK, aT, bU, fT, cI, cF, aD, gA, fD, aN, aF, bO, gQ, aI, eX, dT, dV, gF, dE, fB, cZ, eH, fF, fC, cG, dG, gK, dN, bZ, aS, bV, bT, fN, aG, aH, aQ, bA, bE, cP, bK, aA, fA, aR, cL, fJ, eU, gG, bJ, eL, eN, bY, fW, eZ, eJ, dH, cQ, dD, aY, bD, aL, fZ, aM, dA, eE, bB, cC, fK, dL, gC, fM, fG, fI, dS, aK, cH, cY, fY, fX, fH, dC, aV, dX, fU, cS, eT, fO, cD, bL, dR, aZ, dW, dQ, cM, eM, eK, bF, dF, bG, eD, dU, dZ, bN, cR, cN, dO, bS, cW, cV, fP, cB, eI, eP, gE, dY, dP, dM, dI, bH, bR, bW, bX, aU, cX, aW]
   refine (BY (n := 1) hr6 (by omega) ⟨by omega, by omega⟩).mono ?_
   rintro r w7 ⟨rfl, hr7, x7⟩
   have e1 : (rZ (G0 s.1 s.2 1).1) = nvS s 1 := rfl
   have e2 : (G0 s.1 s.2 1).2.1 = (nxS s 1).1 := rfl
   have e3 : (G0 s.1 s.2 1).2.2 = (nxS s 1).2 := rfl
   rw [e2, e3] at hr7
   rw [e1]
   refine (auH (by have := abL s 1; omega)).mono ?_
   rintro r w8 ⟨rfl, h4⟩
   rw [h4]; clear h4 w8
   have oh7 := oh6.ext x7 (by intro h; omega)
   have ot7 := ot6.ext x7 (by intro h; omega)
   refine J2 (off := 0) oh7 rfl (by simp [Pj]) fun w9 o9 x9 s9 => ?_
   simp only [Pj, aCa, aCc] at o9
   have oh9 : lN w9 ph (Pj ⟨auN (nvS s 1), 0, false, d / 4 % 2 == 1⟩) := o9
   have x69 : jN w6 w9 (fun y => y = pr ∨ y = ph) := (x7.mono fun _ _ h => .inl h).seq (x9.mono fun _ _ h => .inr h)
   have hle := auW s 1
   rw [<- ho]
   refine adD (L := l.length) (s := nxS s 1) hdl rfl rfl (hr7.ext x9 fun y h1 h2 h => by omega) (by omega) ⟨_, _, hv⟩ (by omega) (by omega) oh9 (ot7.ext x9 (by omega)) (by omega) (by omega) (by omega) hpr fun w' x => ?_
   rw [hRR]
   refine ⟨?_, (x06.trans x69 fun y hy h => by omega).trans x fun y hy h => by omega⟩
   unfold abW fS2
   rw [ho]
   rfl
theorem aAO (n : Nat) : n &&& 3 = n % 4 := aDp n 2
theorem aAr (n : Nat) : n &&& 1 = n % 2 := aDp n 1
theorem azG {x : Nat} (h : x < 2 ^ 62) : G1 .i64 (x : Int) 3 = ((x % 4 : Nat) : Int) := by
 unfold G1
 have e1 : (BitVec.ofInt IntKind.i64.bits (x : Int) &&& BitVec.ofInt IntKind.i64.bits 3).toNat = x % 4 := by
  rw [BitVec.toNat_and]
  simp only [IntKind.bits, BitVec.toNat_ofInt]
  have h1 : ((x : Int) % ((2 ^ 64 : Nat) : Int)).toNat = x := by omega
  have h2 : ((3 : Int) % ((2 ^ 64 : Nat) : Int)).toNat = 3 := by decide
  rw [h1, h2, aAO]
 rw [e1]
 exact gX (by omega) (by omega)
theorem azR {x : Nat} (h : x < 2 ^ 62) : G1 .i64 (x : Int) 1 = ((x % 2 : Nat) : Int) := by
 unfold G1
 have e1 : (BitVec.ofInt IntKind.i64.bits (x : Int) &&& BitVec.ofInt IntKind.i64.bits 1).toNat = x % 2 := by
  rw [BitVec.toNat_and]
  simp only [IntKind.bits, BitVec.toNat_ofInt]
  have h1 : ((x : Int) % ((2 ^ 64 : Nat) : Int)).toNat = x := by omega
  have h2 : ((1 : Int) % ((2 ^ 64 : Nat) : Int)).toNat = 1 := by decide
  rw [h1, h2, aAr]
 rw [e1]
 exact gX (by omega) (by omega)
def rbA (x : Nat) : aEm := .agg #[.bool (x % 2 == 1), .int .i64 (x / 2 % 4 : Nat), .int .i64 (x / 8 : Nat)]
def rbV (l : List UInt8) : aEm := if rZ l / 2 % 4 = 3 then .tuple #[.agg #[.bool false, .int .i64 0, .int .i64 0], .int .i64 11] else .tuple #[rbA (rZ l), .int .i64 0]
theorem aiZ {v : aEm} {l : List UInt8} {w : aEl} (hb : Bs w v l) (hl : l.length = 3) : jE pg BK #[v] w (fun r w' => r = rbV l /\ jN w w' mC) := by
 refine Te ?_
 unfold Re EO
 refine F9 fun w1 o1 x1 s1 => ?_
 obtain ⟨pt, hpt⟩ : ∃ p, p = w.heap.size := ⟨_, rfl⟩
 rw [<- hpt] at o1 ⊢
 have hz1 := o1.lt
 have hb1 := hb.ext x1 (kJ _)
 refine (Jc hb1 (by omega)).mono ?_
 rintro r w2 ⟨pr, rfl, hr, x2⟩
 have o2 := o1.ext x2 (fun h => h)
 have hpr : w1.heap.size <= pr /\ pr < w2.heap.size := ⟨hr.1, hr.2.1⟩
 refine (BY (n := 3) hr (by omega) ⟨by omega, by omega⟩).mono ?_
 rintro r w3 ⟨rfl, hr3, x3⟩
 have o3 := o2.ext x3 (by intro h; omega)
 have e1 : G0 l 0 3 = (l, [], 0) := by
  unfold G0
  rw [if_neg (by decide), if_neg (by omega), aCg (by omega), aEb (by omega)]
 rw [e1] at hr3 ⊢
 have hlt : rZ l < 2 ^ 24 := by have := MA l; rw [hl] at this; omega
 unfold rbV
 obtain ⟨x, hx⟩ : ∃ x, x = rZ l := ⟨_, rfl⟩
 rw [<- hx] at hlt ⊢
 have wd : IntKind.i64.wrap (x : Int) = x := gX (by omega) (by omega)
 have s1 : (x : Int).fdiv (2 ^ min (Int.toNat 1) IntKind.i64.bits) = ((x / 2 : Nat) : Int) := by
  have : (2 : Int) ^ min (Int.toNat 1) IntKind.i64.bits = 2 := by decide
  rw [this, aCD _ (by omega)]; omega
 have s3 : (x : Int).fdiv (2 ^ min (Int.toNat 3) IntKind.i64.bits) = ((x / 8 : Nat) : Int) := by
  have : (2 : Int) ^ min (Int.toNat 3) IntKind.i64.bits = 8 := by decide
  rw [this, aCD _ (by omega)]; omega
 have a3 := azG (x := x / 2) (by omega)
 have a1 := azR (x := x) (by omega)
 have n0 : ((0 : Int) != 0) = false := rfl
 have x03 : jN w w3 mC := x1.trans (x2.trans x3 fun y hy h => by have := x2.size; omega) fun y hy h => h
 simp (disch := omega) only [gI, jD, dJ, stepR_skip, hJ, iC, iM, iP, iL, iN, jJ, iX, gM, iE, iG, iI, iH, gY, iO, hZ, iF, iV, iW, iJ, gR, iT, iQ, iD, jV, jW, kF, kD, kC, kG, kA, kB, kE, gD, Result.ok.injEq, Next.value.injEq, true_and, and_true, gX, iA, iU, iR, iS, jF, aB0, gV, gU, gW, gT, gO, gJ, gP, gN, gB, fV, if_true, if_false, aBZ, aB4, aB1, aB2, aB5, aB3, aBY, aBX, fQ, fL, fE, fR, cU, eS, eF, dK, bP, fS, eY, aP, dB, aX, bQ, bM, aO, cO, cJ, eQ, aE, gS, aJ, cK, aT, bU, fT, cI, cF, aD, gA, fD, aN, aF, bO, gQ, aI, eX, dT, dV, gF, dE, fB, cZ, eH, fF, fC, cG, dG, gK, dN, bZ, aS, bV, bT, fN, aG, aH, aQ, bA, bE, cP, bK, aA, fA, aR, cL, fJ, eU, gG, bJ, eL, eN, bY, fW, eZ, eJ, dH, cQ, dD, aY, bD, aL, fZ, aM, dA, eE, bB, cC, fK, dL, gC, fM, fG, fI, dS, aK, cH, cY, fY, fX, fH, dC, aV, dX, fU, cS, eT, fO, cD, bL, dR, aZ, dW, dQ, cM, eM, eK, bF, dF, bG, eD, dU, dZ, bN, cR, cN, dO, bS, cW, cV, fP, cB, eI, eP, gE, dY, dP, dM, dI, bH, bR, bW, bX, aU, cX, aW, wd]
 refine (MS hr3).mono ?_
 rintro r w4 ⟨rfl, h4⟩
 rw [h4]; clear h4 w4
 by_cases h3 : x / 2 % 4 = 3
 .have d1 : decide (((x / 2 % 4 : Nat) : Int) > 2) = true := decide_eq_true (by omega)
  have d2 : decide ((2 : Int) < ((x / 2 % 4 : Nat) : Int)) = true := decide_eq_true (by omega)
  rw [if_pos h3]
  simp (disch := omega) only [gI, jD, dJ, stepR_skip, hJ, iC, iM, iP, iL, iN, jJ, iX, gM, iE, iG, iI, iH, gY, iO, hZ, iF, iV, iW, iJ, gR, iT, iQ, iD, jV, jW, kF, kD, kC, kG, kA, kB, kE, gD, Result.ok.injEq, Next.value.injEq, true_and, and_true, gX, iA, iU, iR, iS, jF, aB0, gV, gU, gW, gT, gO, gJ, gP, gN, gB, fV, if_true, if_false, aBZ, aB4, aB1, aB2, aB5, aB3, aBY, aBX, fQ, fL, fE, fR, cU, eS, eF, dK, bP, fS, eY, aP, dB, aX, bQ, bM, aO, cO, cJ, eQ, aE, gS, aJ, cK, aT, bU, fT, cI, cF, aD, gA, fD, aN, aF, bO, gQ, aI, eX, dT, dV, gF, dE, fB, cZ, eH, fF, fC, cG, dG, gK, dN, bZ, aS, bV, bT, fN, aG, aH, aQ, bA, bE, cP, bK, aA, fA, aR, cL, fJ, eU, gG, bJ, eL, eN, bY, fW, eZ, eJ, dH, cQ, dD, aY, bD, aL, fZ, aM, dA, eE, bB, cC, fK, dL, gC, fM, fG, fI, dS, aK, cH, cY, fY, fX, fH, dC, aV, dX, fU, cS, eT, fO, cD, bL, dR, aZ, dW, dQ, cM, eM, eK, bF, dF, bG, eD, dU, dZ, bN, cR, cN, dO, bS, cW, cV, fP, cB, eI, eP, gE, dY, dP, dM, dI, bH, bR, bW, bX, aU, cX, aW, n0, s1, a3, d1, d2]
  refine AH o3 rfl (by simp [one]) (by simp) fun w5 o5 x5 s5 => ?_
  refine Q5 o5 (by simp [kW]) ?_
  simp only [kW, aCa, aCc, aCs, aCq, aCw]
  exact ⟨trivial, x03.trans x5 fun y hy h => by omega⟩
 .have d1 : decide (((x / 2 % 4 : Nat) : Int) > 2) = false := decide_eq_false (by omega)
  have d2 : decide ((2 : Int) < ((x / 2 % 4 : Nat) : Int)) = false := decide_eq_false (by omega)
  have e5 : (((x % 2 : Nat) : Int) == 1) = (x % 2 == 1) := by
   have : x % 2 = 0 ∨ x % 2 = 1 := by omega
   rcases this with h | h <;> rw [h] <;> rfl
  rw [if_neg h3]
  simp (disch := omega) only [gI, jD, dJ, stepR_skip, hJ, iC, iM, iP, iL, iN, jJ, iX, gM, iE, iG, iI, iH, gY, iO, hZ, iF, iV, iW, iJ, gR, iT, iQ, iD, jV, jW, kF, kD, kC, kG, kA, kB, kE, gD, Result.ok.injEq, Next.value.injEq, true_and, and_true, gX, iA, iU, iR, iS, jF, aB0, gV, gU, gW, gT, gO, gJ, gP, gN, gB, fV, if_true, if_false, aBZ, aB4, aB1, aB2, aB5, aB3, aBY, aBX, fQ, fL, fE, fR, cU, eS, eF, dK, bP, fS, eY, aP, dB, aX, bQ, bM, aO, cO, cJ, eQ, aE, gS, aJ, cK, aT, bU, fT, cI, cF, aD, gA, fD, aN, aF, bO, gQ, aI, eX, dT, dV, gF, dE, fB, cZ, eH, fF, fC, cG, dG, gK, dN, bZ, aS, bV, bT, fN, aG, aH, aQ, bA, bE, cP, bK, aA, fA, aR, cL, fJ, eU, gG, bJ, eL, eN, bY, fW, eZ, eJ, dH, cQ, dD, aY, bD, aL, fZ, aM, dA, eE, bB, cC, fK, dL, gC, fM, fG, fI, dS, aK, cH, cY, fY, fX, fH, dC, aV, dX, fU, cS, eT, fO, cD, bL, dR, aZ, dW, dQ, cM, eM, eK, bF, dF, bG, eD, dU, dZ, bN, cR, cN, dO, bS, cW, cV, fP, cB, eI, eP, gE, dY, dP, dM, dI, bH, bR, bW, bX, aU, cX, aW, n0, s1, a3, d1, d2, a1, s3, e5]
  refine AH o3 rfl (by simp [one]) (by simp) fun w5 o5 x5 s5 => ?_
  refine Q5 o5 (by simp [kW]) ?_
  simp only [kW, aCa, aCc, aCs, aCq, aCw]
  exact ⟨rfl, x03.trans x5 fun y hy h => by omega⟩
end Go.Proofs.YtoecppploooloaaGreatDoor
namespace Go.Proofs.YtoecppploooloaaGreatDoor
open Go Go.En Go.Pu
theorem arW {x n m : Nat} (h : m = n) : (x : Int).fdiv (2 ^ m) = ((x / 2 ^ n : Nat) : Int) := by
 subst h
 rw [aCD _ (by exact_mod_cast aDX _)]
 push_cast
 rfl
theorem aAm {x n : Nat} (h : n <= 64) : (x : Int).fdiv (2 ^ min n IntKind.u64.bits) = ((x / 2 ^ n : Nat) : Int) := arW (by have : IntKind.u64.bits = 64 := rfl; omega)
theorem alG {x n : Nat} (hx : x < 2 ^ 63) (hn : n <= 62) : G1 .u64 (x : Int) ((2 ^ n - 1 : Nat) : Int) = ((x % 2 ^ n : Nat) : Int) := by
 have hp : 2 ^ n <= 2 ^ 62 := aCn (by omega) hn
 unfold G1
 have e : IntKind.u64.bits = 64 := rfl
 rw [e, BitVec.ofInt_natCast, BitVec.ofInt_natCast, BitVec.toNat_and, BitVec.toNat_ofNat, BitVec.toNat_ofNat, aCt (by omega), aCt (by omega), aDp]
 have := Nat.mod_le x (2 ^ n)
 exact iA (by omega) (by omega)
end Go.Proofs.YtoecppploooloaaGreatDoor
namespace Go.Proofs.YtoecppploooloaaGreatDoor
open Go Go.En Go.Pu
set_option maxRecDepth 4000
theorem awI {n : Nat} {w : aEl} (hn : n <= 131072) :
 jE pg BD #[.int .u64 1, .int .u64 n] w (fun r w' => r = .tuple #[.int .u64 0, .int .u64 n] /\ jN w w' mC) := by
 refine S0 ?_
 unfold QU EG
 have a1 : G1 .u64 1 4294967295 = 1 := by decide
 have a2 : G1 .u64 (n : Int) 4294967295 = n := by
  have := alG (x := n) (n := 32) (by omega) (by omega)
  rw [aCt (by omega)] at this
  exact this
 have a0 : G1 .u64 0 4294967295 = 0 := by decide
 have s1 : (1 : Int).fdiv (2 ^ min 32 IntKind.u64.bits) = 0 := by decide
 have s0 : (0 : Int).fdiv (2 ^ min 32 IntKind.u64.bits) = 0 := by decide
 have s2 : (n : Int).fdiv (2 ^ min 32 IntKind.u64.bits) = 0 := by
  rw [aAm (by omega), Nat.div_eq_of_lt (by omega)] <;> rfl
 have t32 : (32 : Int).toNat = 32 := rfl
 have w0 : IntKind.u64.wrap 0 = 0 := rfl
 have w1 : IntKind.u64.wrap (n : Int) = n := iA (by omega) (by omega)
 simp (disch := omega) only [gI, iN, a1, iG, t32, s1, a2, s2, iM, Int.one_mul, w1, dJ, Int.zero_mul, w0, Int.mul_zero, hJ, Int.add_zero, a0, s0, true_and]
 exact jN.refl _ _
theorem aAC {n : Nat} {w : aEl} (hn : n <= 131072) :
 jE pg Ed #[.int .u64 1, .int .u64 n] w (fun r w' => r = .tuple #[.int .u64 0, .int .u64 n] /\ jN w w' mC) := by
 refine Wc ?_
 unfold Vj HX
 simp (disch := omega) only [gI, eI, iR, dJ, fV]
 refine (awI hn).mono ?_
 rintro r w1 ⟨rfl, x1⟩
 simp (disch := omega) only [jV, jW, dJ, true_and]
 exact x1
theorem ayT {z v : aEm} {i n : Nat} (hi : i <= n) : kW (List.replicate i v ++ List.replicate (n - i) z) i ((List.replicate i v).take (min i (n - i))) = List.replicate (i + min i (n - i)) v ++ List.replicate (n - (i + min i (n - i))) z := by
 have e : (List.replicate i v).take (min i (n - i)) = List.replicate (min i (n - i)) v := by
  rw [List.take_replicate]; congr 1; omega
 rw [e]
 generalize hm : min i (n - i) = m
 have hm2 : i + m <= n := by omega
 clear hm e
 induction m generalizing i with
 | zero => simp [kW]
 | succ m ih =>
   rw [aC9]
   simp only [kW]
   rw [show (List.replicate i v ++ List.replicate (n - i) z).set i v = List.replicate (i + 1) v ++ List.replicate (n - (i + 1)) z from ?_]
   .rw [ih (i := i + 1) (by omega) (by omega), show i + 1 + m = i + (m + 1) from by omega]
   .rw [aCI _ _ (by simp), aCZ, aDh, show n - i = (n - (i + 1)) + 1 from by omega, aC9, aCa, List.replicate_succ', aCr]
    rfl
theorem aqO {c : UInt8} {n p : Nat} {w3 : aEl} {RR : aEm -> aEl -> Prop} (hn : n <= 131072) (o3 : lN w3 p (List.replicate (min 1 n) (nT c) ++ List.replicate (n - min 1 n) (.int .u8 0)))
 (hk : ∀ w4, lN w4 p (List.replicate n (nT c)) -> jN w3 w4 (fun y => y = p) -> RR (.slice (some ⟨p, 0, none⟩) n n) w4) :
 uY RR (.slice (some ⟨p, 0, none⟩) n n) (.int .i64 (min 1 n : Nat)) w3 := by
 unfold uY AU A0
 refine kP.rule (fun m (t : aEm) w' => ∃ i : Nat, m = n - i /\ t = .int .i64 i /\ i <= n /\ (1 <= i ∨ n = 0) /\ lN w' p (List.replicate i (nT c) ++ List.replicate (n - i) (.int .u8 0)) /\ jN w3 w' (fun y => y = p)) (n - min 1 n)
  ⟨min 1 n, rfl, rfl, by omega, by omega, o3, jN.refl _ _⟩ ?_
 rintro m t w4 ⟨i, rfl, rfl, hi, h0, o4, x4⟩
 unfold vE
 by_cases hlt : i < n
 .have d5 : decide ((i : Int) < (n : Int)) = true := by simp; omega
  have q1 : (i : Int).toNat = i := aB0 _
  have s1 : mY (some (⟨p, 0, none⟩ : Addr)) n i 1 = some ⟨p, 0 + i, none⟩ := QH (by omega)
  have s2 : mY (some (⟨p, 0, none⟩ : Addr)) n 0 1 = some ⟨p, 0 + 0, none⟩ := QH (by omega)
  simp (disch := omega) only [gI, fQ, eH, q1, s1, aB4, eF, s2, aDE, true_and, dJ, gY, d5, gB]
  have hs : Bs (dr w4) (.slice (some ⟨p, 0, none⟩) i n) (List.replicate i c) := by
   have := (nP o4).bs (off := 0) (c := n) (l := List.replicate i c) (by simp; omega) (fun j hj => by
    rw [aCZ] at hj
    rw [aB4, aCm (by simp; omega)]
    simp [aDs, hj])
   rw [aCZ] at this
   exact this
  refine SM (off := i) (dl := n - i) (nP o4) (by simp) hs (by simp [one, nT]) fun w5 o5 x5 s5 => ?_
  have hm5 : (List.map nT (List.replicate i c)).length = i := by simp
  rw [hm5, aDx, ayT hi] at o5
  rw [hm5]
  have e5 : (i : Int) + ((min i (n - i) : Nat) : Int) = ((i + min i (n - i) : Nat) : Int) := by omega
  have wi5 : IntKind.i64.wrap ((i + min i (n - i) : Nat) : Int) = ((i + min i (n - i) : Nat) : Int) := gX (by omega) (by omega)
  simp (disch := omega) only [hJ, e5, wi5, dJ, true_and]
  exact ⟨n - (i + min i (n - i)), by omega, i + min i (n - i), rfl, rfl, by omega, by omega, o5, x4.seq ((jN.dr w4 _).seq x5)⟩
 .have d5 : decide ((i : Int) < (n : Int)) = false := by simp; omega
  have hin : i = n := by omega
  rw [hin, aDh, List.replicate_zero, aCM] at o4
  simp (disch := omega) only [gI, fQ, eH, aB0, eF, true_and, dJ, gY, d5, fV]
  unfold vC
  exact hk w4 o4 x4
theorem arU {v : aEm} {c : UInt8} {n : Nat} {w : aEl} (h : Bs w v [c]) (hn : n <= 131072) :
 jE pg wD #[v, .int .i64 n] w (fun r w' => yW w' w.heap.size 1 r n (List.replicate n (nT c)) /\ jN w w' mC) := by
 refine O5 ?_
 obtain ⟨RR, hRR⟩ : ∃ RR : aEm -> aEl -> Prop, RR = fun r w' => yW w' w.heap.size 1 r n (List.replicate n (nT c)) /\ jN w w' mC := ⟨_, rfl⟩
 rw [<- hRR]
 obtain ⟨b, off, cap, rfl, hc, hcell⟩ := Yc h (by simp)
 have hl1 : ([c] : List UInt8).length = 1 := rfl
 rw [hl1] at *
 have d0 : decide ((n : Int) < 0) = false := decide_eq_false (by omega)
 have e1 : ((1 : Nat) : Int) = 1 := rfl
 have wn : IntKind.u64.wrap (n : Int) = n := iA (by omega) (by omega)
 have w1 : IntKind.u64.wrap 1 = 1 := rfl
 unfold KU zC Av
 simp (disch := omega) only [gI, gY, d0, dJ, fV]
 unfold AR Bm
 simp (disch := omega) only [gI, fQ, e1, fT, wn, dJ, w1]
 refine (aAC hn).mono ?_
 rintro r w1 ⟨rfl, x1⟩
 have d1 : decide ((0 : Int) > 0) = false := rfl
 have d2 : decide ((n : Int) > 9223372036854775807) = false := decide_eq_false (by omega)
 have d3 : decide ((9223372036854775807 : Int) < (n : Int)) = false := decide_eq_false (by omega)
 have d4 : decide ((0 : Int) < 0) = false := rfl
 simp (disch := omega) only [jV, jW, dJ, hZ, d1, gT, gR, aBZ, if_false, gO, d2, fV]
 unfold Bd AY
 have wi : IntKind.i64.wrap (n : Int) = n := gX (by omega) (by omega)
 simp (disch := omega) only [gI, fU, wi, dJ]
 refine Zr (by omega) (by omega) fun w2 o2 x2 s2 => ?_
 simp only [aB0] at o2 ⊢
 have z1 := x1.size
 have z2 := x2.size
 have x02 := x1.seq x2
 have h2 := h.ext x02 (kJ _)
 obtain ⟨p, hp⟩ : ∃ p, p = w1.heap.size := ⟨_, rfl⟩
 rw [<- hp] at o2 ⊢
 refine SM (off := 0) o2 (by simp) h2 (by simp [one, nT]) fun w3 o3 x3 s3 => ?_
 have hmn : min (List.map nT [c]).length n = min 1 n := rfl
 rw [hmn] at o3 ⊢
 have hs3 : kW (List.replicate n (Value.int .u8 0)) 0 ((List.map nT [c]).take (min 1 n)) = List.replicate (min 1 n) (nT c) ++ List.replicate (n - min 1 n) (.int .u8 0) := by
  rcases aDc n with rfl | hp
  .rfl
  .rw [show min 1 n = 1 from by omega]
   obtain ⟨m, rfl⟩ : ∃ m, n = m + 1 := ⟨n - 1, by omega⟩
   rfl
 rw [hs3] at o3
 have x13 : jN w1 w3 mC := x2.new x3 (by omega)
 have x03 := x1.seq x13
 refine aqO hn o3 fun w4 o4 x4 => ?_
 have z4 := x4.size
 have x04 : jN w w4 mC := x03.trans x4 fun y hy h => by omega
 rw [hRR]
 exact ⟨⟨by rw [aCZ, aC0], .inr ⟨p, n, [], rfl, by omega, by rw [aCM]; exact o4, by rw [aCM, aCZ, aC0], aCb _⟩⟩, x04⟩
end Go.Proofs.YtoecppploooloaaGreatDoor
namespace Go.Pu
open Go Go.En
structure ZP (B : List Bool) (l : List UInt8) : Prop where
 len : l.length = (B.length + 7) / 8
 bits : vG l = B ++ List.replicate (8 * l.length - B.length) false
theorem arT : ZP [] [] := ⟨rfl, rfl⟩
theorem akG : Rg 0 = List.replicate 8 false := by decide
theorem adR {B : List Bool} {l : List UInt8} (h : ZP B l) (h8 : B.length % 8 = 0) : vG (l ++ [0]) = B ++ List.replicate (8 * (l.length + 1) - B.length) false /\ (l ++ [(0 : UInt8)]).length = (B.length + 1 + 7) / 8 := by
 have hl := h.len
 refine ⟨?_, by rw [aB7, aCJ]; omega⟩
 rw [W7, h.bits, vG, vG, akG, aCM, aCr]
 congr 1
 rw [show 8 * l.length - B.length = 0 from by omega, show 8 * (l.length + 1) - B.length = 8 from by omega]
 rfl
theorem atY (c : UInt8) (r : Nat) (hr : r < 8) (y : Bool) (h : c.toNat.testBit r = false) : Rg (UInt8.ofNat (c.toNat + 2 ^ r * y.toNat)) = (Rg c).set r y /\ c.toNat + 2 ^ r * y.toNat < 256 /\ c.toNat ||| (y.toNat * 2 ^ r) = c.toNat + 2 ^ r * y.toNat := by
 have key : ∀ (c : Fin 256) (r : Fin 8) (y : Bool), c.val.testBit r.val = false -> Rg (UInt8.ofNat (c.val + 2 ^ r.val * y.toNat)) = (Rg (UInt8.ofNat c.val)).set r.val y /\ c.val + 2 ^ r.val * y.toNat < 256 /\ c.val ||| (y.toNat * 2 ^ r.val) = c.val + 2 ^ r.val * y.toNat := by decide +kernel
 have := key ⟨c.toNat, aC7 c⟩ ⟨r, hr⟩ y h
 simpa using this
theorem adP : ∀ (l : List UInt8) (i r : Nat) (c : UInt8) (y : Bool) (hi : i < l.length), r < 8 -> Rg c = (Rg l[i]).set r y -> vG (l.set i c) = (vG l).set (8 * i + r) y
 | [], i, r, c, y, hi, hr, h => by simp at hi
 | x :: l, 0, r, c, y, hi, hr, h => by
   rw [aCa, vG, vG, h, aDC _ _ (by rw [CD]; omega)]
   simp
 | x :: l, i + 1, r, c, y, hi, hr, h => by
   rw [aCc, vG, vG, aCI _ _ (by rw [CD]; omega), CD, adP l i r c y (by simpa using hi) hr (by simpa using h)]
   congr 2
   omega
theorem agT {B : List Bool} {l : List UInt8} {y : Bool} (hb : vG l = B ++ List.replicate (8 * l.length - B.length) false) (hl : l.length = (B.length + 1 + 7) / 8) :
 ∃ hi : B.length / 8 < l.length, ZP (B ++ [y]) (l.set (B.length / 8) (UInt8.ofNat ((l[B.length / 8]'hi).toNat + 2 ^ (B.length % 8) * y.toNat))) /\
   (l[B.length / 8]'hi).toNat + 2 ^ (B.length % 8) * y.toNat < 256 /\ (l[B.length / 8]'hi).toNat ||| (y.toNat * 2 ^ (B.length % 8)) = (l[B.length / 8]'hi).toNat + 2 ^ (B.length % 8) * y.toNat := by
 have hi : B.length / 8 < l.length := by omega
 have hbit := Pf l B.length (by omega)
 rw [hb, aCu (aCb _), aDh, aDs, if_pos (by omega)] at hbit
 have hbit := (aCF hbit).symm
 obtain ⟨h1, h2, h3⟩ := atY _ (B.length % 8) (by omega) y hbit
 refine ⟨hi, ⟨?_, ?_⟩, h2, h3⟩
 .rw [aDq, aB7, aCJ]; exact hl
 .rw [adP l _ (B.length % 8) _ y hi (by omega) h1, hb, show 8 * (B.length / 8) + B.length % 8 = B.length from by omega, aCI _ _ (aCb _), aDh, aDq, aB7, aCJ, aCr]
  congr 1
  rw [show 8 * l.length - B.length = (8 * l.length - (B.length + 1)) + 1 from by omega, aC9, aCa]
  rfl
theorem avB {B : List Bool} {l : List UInt8} (h : ZP (B ++ [true]) l) : alF l = some B.length /\ (vG l).take B.length = B := by
 have hl := h.len
 have hb := h.bits
 rw [aB7, aCJ] at hl hb
 have h0 : 0 < l.length := by omega
 have htop : (vG l)[B.length]? = some true := by
  rw [hb, aCr, aCu (aCb _), aDh] <;> rfl
 have hoff : ∀ j, B.length < j -> j < 8 * l.length -> (vG l)[j]? = some false := by
  intro j h1 h2
  rw [hb, aCr, aCu (by omega), List.singleton_append, List.getElem?_cons, if_neg (by omega), aDs, if_pos (by omega)]
 refine ⟨?_, by rw [hb, aCr, aD1] <;> rfl⟩
 cases he : alF l with
 | none =>
   rw [aeN h0] at he
   split at he
   .rename_i hz
    rw [Pf l _ (by omega)] at htop
    have e : B.length / 8 = l.length - 1 := by omega
    simp only [e, hz] at htop
    simp at htop
   .cases he
 | some k =>
   obtain ⟨_, h1, _, h2, h3⟩ := aoF he
   rcases aD9 k B.length with h | h | h
   .rw [h3 _ h (by omega)] at htop; simp at htop
   .rw [h]
   .rw [hoff _ h h1] at h2; simp at h2
theorem auI {x n : Nat} (h : x < 2 ^ n) : S1 (BH x n) = x := by rw [abJ, aCt h]
theorem alJ {B : List Bool} {x n : Nat} (h : x < 2 ^ n) : adN (B ++ BH x n) n = x := by
 unfold adN
 rw [aB7, GU, show min n (B.length + n) = n from by omega, aDh, aDJ, List.drop_left, auI h]; simp
end Go.Pu
namespace Go.Proofs.YtoecppploooloaaGreatDoor
open Go Go.En Go.Pu
set_option maxRecDepth 4000
theorem Jj {w w' : aEl} {S M : Nat -> Prop} {sz n : Nat} {v : aEm} {l : List aEm} (h : GX w S sz v n l) (hx : jN w w' M) (hM : ∀ b, S b -> ¬ M b) : GX w' S sz v n l := by
 refine ⟨h.1, ?_⟩
 rcases h.2 with h2 | ⟨b, c, rest, h1, h2, h3, h4, h5⟩
 .exact .inl h2
 .exact .inr ⟨b, c, rest, h1, h2, h3.ext hx (hM b h2), h4, h5⟩
def Wr (w : aEl) (lo p : Nat) (B : List Bool) : Prop := lo <= p /\ ∃ v bytes, lN w p [v, .int .i64 B.length] /\ GX w (fun b => lo <= b /\ b ≠ p) 1 v bytes.length (bytes.map nT) /\ ZP B bytes
def Rm (w : aEl) (lo p : Nat) (B : List Bool) : Prop := lo <= p /\ ∃ v bytes, lN w p [v, .int .i64 B.length] /\ GX w (fun b => lo <= b /\ b ≠ p) 1 v bytes.length (bytes.map nT) /\
 vG bytes = B ++ List.replicate (8 * bytes.length - B.length) false /\ bytes.length = (B.length + 1 + 7) / 8
theorem Wr.ext {w w' : aEl} {lo p : Nat} {B : List Bool} {M : Nat -> Prop} (h : Wr w lo p B) (hx : jN w w' M) (hM : ∀ b, lo <= b -> ¬ M b) : Wr w' lo p B := by
 obtain ⟨h0, v, bytes, h1, h2, h3⟩ := h
 exact ⟨h0, v, bytes, h1.ext hx (hM _ h0), Jj h2 hx fun b hb => hM b hb.1, h3⟩
theorem axV {lo p x i : Nat} {B : List Bool} {t17 : aEm} {w : aEl} (h : Rm w lo p B) (hx : x < 2 ^ 64) (hi : i <= 60) (hB : B.length <= 1000000000)
 {kn : aEm -> aEm -> aEm -> aEm -> aEl -> Prop} (hR : ∀ w', Wr w' lo p (B ++ [x.testBit i]) -> jN w w' (fun y => lo <= y) -> kn (.pointer (some ⟨p, 0, none⟩)) (.int .u64 x) t17 (.int .i64 i) w') :
 pU kn (.pointer (some ⟨p, 0, none⟩)) (.int .u64 x) (.int .i64 i) t17 (.int .i64 i) w := by
 obtain ⟨h0, v, bytes, o, os, hbits, hlen⟩ := h
 obtain ⟨hlt, hheld, hval, hor⟩ := agT (y := x.testBit i) hbits hlen
 rcases os.2 with ⟨rfl, hz⟩ | ⟨b, c, rest, rfl, hS, ob, hc, hn⟩
 .rw [hlen] at hz; omega
 generalize hq : B.length = q at *
 have hcell : (bytes.map nT ++ rest)[q / 8]? = some (.int .u8 ((bytes[q / 8]'hlt).toNat : Nat)) := by
  rw [aCm (by rw [aB6]; exact hlt), aCp, aB8 hlt] <;> rfl
 have hcl : (bytes[q / 8]'hlt).toNat < 2 ^ 8 := aC7 _
 have hset : (bytes.map nT ++ rest).set (q / 8) (.int .u8 (((bytes[q / 8]'hlt).toNat + 2 ^ (q % 8) * (x.testBit i).toNat : Nat))) = (bytes.set (q / 8) (UInt8.ofNat ((bytes[q / 8]'hlt).toNat + 2 ^ (q % 8) * (x.testBit i).toNat))).map nT ++ rest := by
  rw [aDC _ _ (by rw [aB6]; exact hlt), aDS, nT, aD3 (by simpa using hval)]
 have hbl : (bytes.set (q / 8) (UInt8.ofNat ((bytes[q / 8]'hlt).toNat + 2 ^ (q % 8) * (x.testBit i).toNat))).length = bytes.length := aDq
 generalize bytes.set (q / 8) (UInt8.ofNat ((bytes[q / 8]'hlt).toNat + 2 ^ (q % 8) * (x.testBit i).toNat)) = bytes' at *
 generalize (bytes[q / 8]'hlt).toNat = y at *
 have e1 : (q : Int).tdiv 8 = ((q / 8 : Nat) : Int) := by rw [aDz (by omega)]; omega
 have e2 : (q : Int).tmod 8 = ((q % 8 : Nat) : Int) := by rw [aDA (by omega)]; omega
 have e3 := T1 x i (by omega)
 have hxl : x / 2 ^ i < 2 ^ 64 := by have := aD2 x (2 ^ i); omega
 have e4 := ahT hxl
 rw [<- adE] at e4
 have hbt : (x.testBit i).toNat <= 1 := Bool.toNat_le _
 have hp8 : 2 ^ (q % 8) <= 2 ^ 7 := aCn (by omega) (by omega)
 have hm : (x.testBit i).toNat * 2 ^ (q % 8) <= 2 ^ (q % 8) := by
  have := aCv (2 ^ (q % 8)) hbt
  omega
 have e5 : IntKind.u8.wrap (((x.testBit i).toNat : Int) * 2 ^ (min (q % 8) IntKind.u8.bits)) = (((x.testBit i).toNat * 2 ^ (q % 8) : Nat) : Int) := by
  rw [show min (q % 8) IntKind.u8.bits = q % 8 from aCL (by have h8 : IntKind.u8.bits = 8 := rfl; omega)]
  have e : ((x.testBit i).toNat : Int) * 2 ^ (q % 8) = (((x.testBit i).toNat * 2 ^ (q % 8) : Nat) : Int) := by simp
  rw [e]
  exact jF (by omega) (by omega)
 have e6 := aaY (a := y) (b := (x.testBit i).toNat * 2 ^ (q % 8)) hcl (by omega)
 rw [hor] at e6
 have e7 : (q : Int) + 1 = ((q + 1 : Nat) : Int) := by omega
 have od := nP o
 have obd := nP ob
 have c0 := od.cell (off := 0)
 have c1 := od.cell (off := 1)
 have g := obd.cell (off := q / 8)
 rw [hcell] at g
 simp only [aBX, aBY] at c0 c1
 unfold pU
 simp (disch := omega) only [gI, iD, fT, iA, dJ, cW, aB4, gS, c1, gD, iL, e2, true_and, iG, aB0, e3, iN, e4, dK, jF, iE, e5, iP, e1, gX, cV, fS, c0, fR, gK, g, jJ, e6]
 refine acC obd rfl (by rw [aB7, aB6]; omega) fun w2 o2 x2 s2 => ?_
 rw [hset] at o2
 have op2 := od.ext x2 (fun h => hS.2 h.symm)
 have c12 := op2.cell (off := 1)
 simp only [aBX, aBY] at c12
 simp (disch := omega) only [c12, gD, dJ, hJ, e7, gX]
 refine LC op2 rfl (by simp) fun w3 o3 x3 s3 => ?_
 simp only [aCa, aCc] at o3
 have hBl : (B ++ [x.testBit i]).length = q + 1 := by rw [aB7, hq] <;> rfl
 refine hR _ ⟨h0, _, bytes', by rw [hBl]; exact o3, ⟨by simp, .inr ⟨b, c, rest, by rw [hbl], hS, o2.ext x3 hS.2, ?_, by rw [hbl]; exact hn⟩⟩, hheld⟩ ?_
 .rw [aB7, aB6] at hc ⊢; rw [hbl]; exact hc
 .exact ((jN.dr _ _).seq (x2.mono fun z _ h => by omega)).seq (x3.mono fun z _ h => by omega)
theorem aAJ {lo p x i n : Nat} {B : List Bool} {w : aEl} (hw : Wr w lo p B) (hx : x < 2 ^ 64) (hi : i <= 60) (hB : B.length <= 1000000000)
 {kn : aEm -> aEm -> aEm -> aEm -> aEl -> Prop} (hR : ∀ w', Wr w' lo p (B ++ [x.testBit i]) -> jN w w' (fun y => lo <= y) -> kn (.pointer (some ⟨p, 0, none⟩)) (.int .u64 x) (.int .i64 n) (.int .i64 i) w') :
 sO kn (.pointer (some ⟨p, 0, none⟩)) (.int .u64 x) (.int .i64 n) (.int .i64 i) w := by
 unfold sO vS
 obtain ⟨h0, v, bytes, o, os, hh⟩ := hw
 have c1 := o.cell (off := 1)
 have c0 := o.cell (off := 0)
 simp only [aBX, aBY] at c0 c1
 have e2 : (B.length : Int).tmod 8 = ((B.length % 8 : Nat) : Int) := by rw [aDA (by omega)]; omega
 by_cases h8 : B.length % 8 = 0
 .have d4 : (((B.length % 8 : Nat) : Int) == 0) = true := by rw [h8] <;> rfl
  obtain ⟨hr1, hr2⟩ := adR hh h8
  have hl2 := hh.len
  have lp := o.lt
  simp (disch := omega) only [gI, iD, dJ, cV, fS, cW, aB4, gS, c1, gD, iL, e2, iI, d4, c0, gB]
  refine uD (cells := #[.int .u8 0]) (by decide) (by decide) (by kernel_rfl) fun w2 o2 x2 s2 => ?_
  refine B9 (m := 1) (news := [nT 0]) (i := Tryz.t5) Tryz.underlying22 Tryz.underlying22 JX rfl rfl rfl (Jj os x2 (fun _ _ h => h)) (o2.cl (off := 0) (l := [nT 0]) (n := 1) rfl (fun i hi => by rw [aB4] <;> rfl)) (by simp [one, nT]) (fun b hb => ⟨by omega, by omega⟩) (by omega) (by rw [show Tryz.t5.bytes = 1 from rfl]; omega) (by decide) fun v3 w3 o3 x3 => ?_
  have x13 : jN w w3 (fun y => lo <= y /\ y ≠ p) := (x2.mono fun _ _ h => h.elim).seq x3
  have op3 := o.ext x13 (fun h => h.2 rfl)
  have hv3 : ∃ a n c, v3 = .slice a n c := by
   rcases o3.2 with ⟨rfl, _⟩ | ⟨b, c, rest, rfl, _⟩
   .exact ⟨_, _, _, rfl⟩
   .exact ⟨_, _, _, rfl⟩
  obtain ⟨a3, n3, c3, rfl⟩ := hv3
  refine sL op3 rfl (by simp) fun w4 o4 x4 s4 => ?_
  simp only [aCa, aCc] at o4
  have x14 : jN w w4 (fun y => lo <= y) := (x13.mono fun y _ h => h.1).seq (x4.mono fun y _ h => by omega)
  refine axV (w := w4) ⟨h0, _, bytes ++ [0], o4, ?_, ?_, hr2⟩ hx hi hB fun w5 h5 x5 => hR w5 h5 (x14.seq x5)
  .have := Jj o3 x4 (fun b hb h => hb.2 h)
   rw [aB7, aCC]
   exact this
  .rw [aB7]; exact hr1
 .have d4 : (((B.length % 8 : Nat) : Int) == 0) = false := by simp; omega
  simp (disch := omega) only [gI, iD, dJ, cV, fS, cW, aB4, gS, c1, gD, iL, e2, iI, d4, fV]
  refine axV (w := w) ⟨h0, v, bytes, o, os, hh.bits, ?_⟩ hx hi hB fun w5 h5 x5 => hR w5 h5 x5
  rw [hh.len]; omega
theorem axE {lo p x n : Nat} {B : List Bool} {w : aEl} (h : Wr w lo p B) (hx : x < 2 ^ 64) (hn : n <= 56) (hB : B.length <= 100000000) :
 jE pg rO #[.pointer (some ⟨p, 0, none⟩), .int .u64 x, .int .i64 n] w (fun r w' => r = .tuple #[] /\ Wr w' lo p (B ++ BH x n) /\ jN w w' (fun y => lo <= y)) := by
 refine GH ?_
 unfold GI vB vA
 by_cases hn0 : n = 0
 .subst hn0
  have d1 : decide (((0 : Nat) : Int) < 1) = true := rfl
  simp (disch := omega) only [gI, bS, aB1, true_and, dJ, gT, gR, aBZ, if_false, gO, gY, d1, gU, if_true, gB, gJ]
  exact ⟨by rw [P3, aCM]; exact h, jN.refl _ _⟩
 have d1 : decide ((n : Int) < 1) = false := by simp; omega
 have d2 : decide ((56 : Int) < (n : Int)) = false := by simp; omega
 simp (disch := omega) only [gI, bS, aB1, true_and, dJ, gT, gR, aBZ, if_false, gO, gY, d1, hZ, d2, fV]
 unfold uW vU
 refine kP.rule (fun m (t : aEm) w' => ∃ i : Nat, m = n - i /\ t = .int .i64 i /\ i <= n /\ Wr w' lo p (B ++ BH x i) /\ jN w w' (fun y => lo <= y)) n
  ⟨0, rfl, rfl, by omega, by rw [P3, aCM]; exact h, jN.refl _ _⟩ ?_
 rintro m t w1 ⟨i, rfl, rfl, hi, hw, x1⟩
 unfold sY vT
 by_cases hlt : i < n
 .have d3 : decide ((i : Int) < (n : Int)) = true := by simp; omega
  simp (disch := omega) only [gI, gY, d3, dJ, gB]
  unfold vM wE
  refine aAJ hw hx (by omega) (by rw [aB7, GU]; omega) fun w3 hw3 x3 => ?_
  unfold sS
  simp (disch := omega) only [gI, hJ, gX, dJ]
  refine ⟨n - (i + 1), by omega, i + 1, rfl, rfl, by omega, ?_, x1.seq x3⟩
  rw [aaU, <- aCr]
  exact hw3
 .have d3 : decide ((i : Int) < (n : Int)) = false := by simp; omega
  obtain rfl : i = n := by omega
  simp (disch := omega) only [gI, gY, d3, dJ, fV]
  exact ⟨hw, x1⟩
def Cw (w : aEl) (p : Nat) (S : Nat -> Prop) (l : List UInt8) : Prop := ¬ S p /\ ∃ v, lN w p [v] /\ GX w S 1 v l.length (l.map nT)
theorem Cw.ext {w w' : aEl} {p : Nat} {S M : Nat -> Prop} {l : List UInt8} (h : Cw w p S l) (x : jN w w' M) (hp : ¬ M p) (hM : ∀ b, S b -> ¬ M b) : Cw w' p S l := by
 obtain ⟨h0, v, h1, h2⟩ := h
 exact ⟨h0, v, h1.ext x hp, Jj h2 x hM⟩
theorem Cw.lt {w : aEl} {p : Nat} {S : Nat -> Prop} {l : List UInt8} (h : Cw w p S l) : p < w.heap.size := by
 obtain ⟨_, v, h1, _⟩ := h; exact h1.lt
theorem Cw.turn {w : aEl} {p : Nat} {S T : Nat -> Prop} {l : List UInt8} (h : Cw w p S l) (hT : ∀ b, S b -> b < w.heap.size -> T b) (hp : ¬ T p) : Cw w p T l := by
 obtain ⟨h0, v, h1, h2, h3⟩ := h
 refine ⟨hp, v, h1, h2, ?_⟩
 rcases h3 with h3 | ⟨b, c, rest, g1, g2, g3, g4, g5⟩
 .exact .inl h3
 .exact .inr ⟨b, c, rest, g1, hT b g2 g3.lt, g3, g4, g5⟩
theorem Px {w : aEl} {S : Nat -> Prop} {sz n : Nat} {v : aEm} {l : List aEm} (o3 : GX w S sz v n l) : ∃ a c, v = .slice a n c := by
 rcases o3.2 with ⟨rfl, rfl⟩ | ⟨b, c, rest, rfl, _⟩
 .exact ⟨_, _, rfl⟩
 .exact ⟨_, _, rfl⟩
theorem afK {w : aEl} {S : Nat -> Prop} {n : Nat} {v : aEm} {l : List aEm} (o3 : GX w S 1 v n l) : Sl w v l := by
 have : yW w 0 1 v n l := ⟨o3.1, by
  rcases o3.2 with h | ⟨b, c, rest, g1, g2, g3⟩
  .exact .inl h
  .exact .inr ⟨b, c, rest, g1, by omega, g3⟩⟩
 exact this.sl
theorem HK (w : aEl) : jE pg oS #[] w (fun r w' => r = .pointer (some ⟨w.heap.size, 0, none⟩) /\ w.heap.size < w'.heap.size /\ Cw w' w.heap.size (fun b => w.heap.size < b) [] /\ jN w w' mC) := by
 refine Sd ?_
 unfold OV Db
 simp (disch := omega) only [gI, cK, dJ]
 refine Ah fun w1 o1 x1 s1 => ?_
 simp only [Value.cells] at o1
 exact ⟨rfl, by omega, ⟨by omega, _, o1, ⟨rfl, .inl ⟨rfl, rfl⟩⟩⟩, x1⟩
theorem abC {p : Nat} {S : Nat -> Prop} {l m : List UInt8} {v : aEm} {w : aEl} (h : Cw w p S l) (hS : ∀ b, w.heap.size <= b -> S b) (hv : Bs w v m) (hl : l.length + m.length <= 1000000000) :
 jE pg pL #[.pointer (some ⟨p, 0, none⟩), v] w (fun r w' => r = .tuple #[] /\ Cw w' p S (l ++ m) /\ jN w w' (fun y => y = p ∨ S y)) := by
 refine Oh ?_
 unfold JF As
 obtain ⟨h0, v0, o, os⟩ := h
 obtain ⟨va, vc, rfl⟩ := Px os
 have c0 := o.cell (off := 0)
 simp only [aBX, aBY] at c0
 have lp := o.lt
 simp (disch := omega) only [gI, aV, aB1, aB3, iD, true_and, dJ, bU, fS, c0, gD, gB]
 have hcl := hv.cl
 rw [aB6] at hcl
 refine B9 (m := m.length) (news := m.map nT) (i := Tryz.t5) Tryz.underlying22 Tryz.underlying22 JX rfl rfl rfl os hcl (FT _) (fun b hb => hS b hb) (by omega) (by rw [show Tryz.t5.bytes = 1 from rfl]; omega) (by decide) fun v3 w3 o3 x3 => ?_
 have op3 := o.ext x3 h0
 obtain ⟨a3, c3, rfl⟩ := Px o3
 refine sL op3 rfl (by simp) fun w4 o4 x4 s4 => ?_
 simp only [aCa, aCc] at o4
 refine ⟨⟨h0, _, o4, ?_⟩, (x3.mono fun y _ h => .inr h).seq (x4.mono fun y _ h => .inl h)⟩
 have := Jj o3 x4 (fun b hb h => h0 (h ▸ hb))
 rw [aB7, aCC]
 exact this
theorem B2 {p x n : Nat} {S : Nat -> Prop} {l : List UInt8} {w : aEl} (h : Cw w p S l) (hS : ∀ b, w.heap.size <= b -> S b) (hx : x < 2 ^ 64) (hn : 1 <= n /\ n <= 8) (hl : l.length <= 100000000) :
 jE pg jR #[.pointer (some ⟨p, 0, none⟩), .int .u64 x, .int .i64 n] w (fun r w' => r = .tuple #[] /\ Cw w' p S (l ++ nM x n) /\ jN w w' (fun y => y = p ∨ S y)) := by
 refine L4 ?_
 unfold I8 yK yA
 have d1 : decide ((n : Int) < 1) = false := by simp; omega
 have d2 : decide ((8 : Int) < (n : Int)) = false := by simp; omega
 simp (disch := omega) only [gI, aT, aB1, true_and, dJ, gT, gR, aBZ, if_false, gO, gY, d1, hZ, d2, fV]
 unfold yB yC
 refine kP.rule (fun m (t : aEm) w' => ∃ i : Nat, m = n - i /\ t = .int .i64 i /\ i <= n /\ Cw w' p S (l ++ nM x i) /\ jN w w' (fun y => y = p ∨ S y)) n
  ⟨0, rfl, rfl, by omega, by rw [nM, aCM]; exact h, jN.refl _ _⟩ ?_
 rintro m t w1 ⟨i, rfl, rfl, hi, hw, x1⟩
 unfold tF
 by_cases hlt : i < n
 .have d3 : decide ((i : Int) < (n : Int)) = true := by simp; omega
  have e0 : ((8 : Int) * (i : Int)) = ((8 * i : Nat) : Int) := by omega
  have e1 : (x : Int).fdiv (2 ^ (min (8 * i) IntKind.u64.bits)) = ((x / 256 ^ i : Nat) : Int) := by
   rw [ajN]; exact T1 x (8 * i) (by omega)
  have e2 : IntKind.u8.wrap ((x / 256 ^ i : Nat) : Int) = (((UInt8.ofNat (x / 256 ^ i % 256)).toNat : Nat) : Int) := by
   rw [UInt8.toNat_ofNat']
   generalize x / 256 ^ i = y
   rw [show IntKind.u8.wrap (y : Int) = (y : Int) % 256 from rfl]
   omega
  obtain ⟨c, hc⟩ : ∃ c, c = UInt8.ofNat (x / 256 ^ i % 256) := ⟨_, rfl⟩
  rw [<- hc] at e2
  obtain ⟨h0, v0, o, os⟩ := hw
  obtain ⟨va, vc, rfl⟩ := Px os
  have c0 := o.cell (off := 0)
  simp only [aBX, aBY] at c0
  have lp := o.lt
  have hsz := x1.size
  have hpl := lA i x
  rw [aB7, hpl] at os
  rw [aB7, hpl] at c0
  simp (disch := omega) only [gI, gY, d3, iD, iM, e0, gX, hJ, dJ, bU, fT, iA, iG, aB0, e1, dK, e2, fS, c0, gD, gB]
  refine uD (cells := #[.int .u8 c.toNat]) (by decide) (by decide) (by kernel_rfl) fun w2 o2 x2 s2 => ?_
  refine B9 (m := 1) (news := [nT c]) (i := Tryz.t5) Tryz.underlying22 Tryz.underlying22 JX rfl rfl rfl (Jj os x2 (fun _ _ h => h)) (o2.cl (off := 0) (l := [nT c]) (n := 1) rfl (fun i hi => by rw [aB4] <;> rfl)) (by simp [one, nT]) (fun b hb => hS b (by omega)) (by omega) (by rw [show Tryz.t5.bytes = 1 from rfl]; omega) (by decide) fun v3 w3 o3 x3 => ?_
  have x13 : jN w1 w3 S := (x2.mono fun _ _ h => h.elim).seq x3
  have op3 := o.ext x13 h0
  obtain ⟨a3, c3, rfl⟩ := Px o3
  refine sL op3 rfl (by simp) fun w4 o4 x4 s4 => ?_
  simp only [aCa, aCc] at o4
  have x14 : jN w1 w4 (fun y => y = p ∨ S y) := (x13.mono fun y _ h => .inr h).seq (x4.mono fun y _ h => .inl h)
  refine ⟨n - (i + 1), by omega, i + 1, rfl, rfl, by omega, ⟨h0, _, o4, ?_⟩, x1.seq x14⟩
  have := Jj o3 x4 (fun b hb h => h0 (h ▸ hb))
  rw [adG, <- hc, <- aCr, aCC, aB7, aB7, lA]
  exact this
 .have d3 : decide ((i : Int) < (n : Int)) = false := by simp; omega
  obtain rfl : i = n := by omega
  simp (disch := omega) only [gI, gY, d3, iD, iM, gX, hJ, dJ, bU, fT, iA, iG, dK, fS, fV]
  exact ⟨hw, x1⟩
theorem Tf {p : Nat} {S : Nat -> Prop} {l : List UInt8} {w : aEl} (h : Cw w p S l) (hl : l.length <= 1000000000) :
 jE pg oB #[.pointer (some ⟨p, 0, none⟩)] w (fun r w' => yW w' w.heap.size 1 r l.length (l.map nT) /\ jN w w' mC) := by
 refine P0 ?_
 unfold MF B3
 obtain ⟨h0, v0, o, os⟩ := h
 obtain ⟨va, vc, rfl⟩ := Px os
 have c0 := o.cell (off := 0)
 simp only [aBX, aBY] at c0
 simp (disch := omega) only [gI, aT, aB1, iD, dJ, bU, fS, c0, gD, fV]
 exact Xr (afK os) hl
end Go.Proofs.YtoecppploooloaaGreatDoor
namespace Go.En
open Go
theorem GX.ext {w w' : aEl} {S M : Nat -> Prop} {sz n : Nat} {v : aEm} {l : List aEm} (h : GX w S sz v n l) (hx : jN w w' M) (hM : ∀ b, S b -> ¬ M b) : GX w' S sz v n l := by
 refine ⟨h.1, ?_⟩
 rcases h.2 with h2 | ⟨b, c, rest, h1, h2, h3, h4, h5⟩
 .exact .inl h2
 .exact .inr ⟨b, c, rest, h1, h2, h3.ext hx (hM b h2), h4, h5⟩
theorem yW.ne {w : aEl} {base p sz n : Nat} {v : aEm} {l : List aEm} (h : yW w base sz v n l) (hp : w.heap.size <= p) : GX w (fun b => base <= b /\ b ≠ p) sz v n l := by
 refine ⟨h.1, ?_⟩
 rcases h.2 with h2 | ⟨b, c, rest, h1, h2, h3, h4, h5⟩
 .exact .inl h2
 .have := h3.lt
  exact .inr ⟨b, c, rest, h1, ⟨h2, by omega⟩, h3, h4, h5⟩
theorem GX.len {w : aEl} {S : Nat -> Prop} {sz n : Nat} {v : aEm} {l : List aEm} (h : GX w S sz v n l) : ∃ a c, v = .slice a n c := by
 rcases h.2 with ⟨h1, rfl⟩ | ⟨b, c, rest, h1, _⟩
 .exact ⟨_, _, h1⟩
 .exact ⟨_, _, h1⟩
end Go.En
namespace Go.Proofs.YtoecppploooloaaGreatDoor
open Go Go.En Go.Pu
set_option maxRecDepth 4000
theorem WI {w : aEl} {S T : Nat -> Prop} {sz n : Nat} {v : aEm} {l : List aEm} (h : GX w S sz v n l) (hT : ∀ b, S b -> b < w.heap.size -> T b) : GX w T sz v n l := by
 refine ⟨h.1, ?_⟩
 rcases h.2 with h2 | ⟨b, c, rest, h1, h2, h3, h4, h5⟩
 .exact .inl h2
 .exact .inr ⟨b, c, rest, h1, hT b h2 h3.lt, h3, h4, h5⟩
def NQ : aEm := .slice none 0 0
theorem abB {p pr lo hi n : Nat} {cs : List aEm} {l : List UInt8} {w : aEl} (o : lN w p cs) (c0 : cs[0]? = some (.pointer (some ⟨pr, 0, none⟩))) (hr : Qi w lo hi pr l 0) (hl : l.length <= 1000000) (hn : n <= 1000000) :
 jE pg qT #[.pointer (some ⟨p, 0, none⟩), .int .i64 (n : Nat)] w (fun r w' => (l.length < n /\ r = .tuple #[NQ, .int .i64 10] /\ w' = w) ∨ (n <= l.length /\ ∃ v, r = .tuple #[v, .int .i64 0] /\ Bs w' v (l.take n) /\ AtS v (fun b => lo <= b /\ b < hi /\ b ≠ pr) /\ Qi w' lo hi pr (l.drop n) 0 /\ jN w w' (fun y => y = pr))) := by
 refine PH ?_
 unfold Li Bk
 have c := o.cell (off := 0)
 rw [c0] at c
 simp (disch := omega) only [gI, jD, dJ, stepR_skip, hJ, iC, iM, iP, iL, iN, jJ, iX, gM, iE, iG, iI, iH, gY, iO, hZ, iF, iV, iW, iJ, gR, iT, iQ, iD, jV, jW, kF, kD, kC, kG, kA, kB, kE, gD, Result.ok.injEq, Next.value.injEq, true_and, and_true, gX, iA, iU, iR, iS, jF, aB0, gV, gU, gW, gT, gO, gJ, gP, gN, gB, fV, if_true, if_false, aBZ, aB4, aB1, aB2, aB5, aB3, aBY, aBX, fQ, fL, fE, fR, cU, eS, eF, dK, bP, fS, eY, aP, dB, aX, bQ, bM, aO, cO, cJ, eQ, aE, gS, aJ, cK, aT, bU, fT, cI, cF, aD, gA, fD, aN, aF, bO, gQ, aI, eX, dT, dV, gF, dE, fB, cZ, eH, fF, fC, cG, dG, gK, dN, bZ, aS, bV, bT, fN, aG, aH, aQ, bA, bE, cP, bK, aA, fA, aR, cL, fJ, eU, gG, bJ, eL, eN, bY, fW, eZ, eJ, dH, cQ, dD, aY, bD, aL, fZ, aM, dA, eE, bB, cC, fK, dL, gC, fM, fG, fI, dS, aK, cH, cY, fY, fX, fH, dC, aV, dX, fU, cS, eT, fO, cD, bL, dR, aZ, dW, dQ, cM, eM, eK, bF, dF, bG, eD, dU, dZ, bN, cR, cN, dO, bS, cW, cV, fP, cB, eI, eP, gE, dY, dP, dM, dI, bH, bR, bW, bX, aU, cX, aW, c]
 refine (SV hr).mono ?_
 rintro r w1 ⟨rfl, h1⟩
 rw [h1]; clear h1 w1
 by_cases h : l.length < n
 .have d1 : decide ((n : Int) > (l.length : Int)) = true := decide_eq_true (by omega)
  have d2 : decide ((l.length : Int) < (n : Int)) = true := decide_eq_true (by omega)
  simp (disch := omega) only [gI, jD, dJ, stepR_skip, hJ, iC, iM, iP, iL, iN, jJ, iX, gM, iE, iG, iI, iH, gY, iO, hZ, iF, iV, iW, iJ, gR, iT, iQ, iD, jV, jW, kF, kD, kC, kG, kA, kB, kE, gD, Result.ok.injEq, Next.value.injEq, true_and, and_true, gX, iA, iU, iR, iS, jF, aB0, gV, gU, gW, gT, gO, gJ, gP, gN, gB, fV, if_true, if_false, aBZ, aB4, aB1, aB2, aB5, aB3, aBY, aBX, fQ, fL, fE, fR, cU, eS, eF, dK, bP, fS, eY, aP, dB, aX, bQ, bM, aO, cO, cJ, eQ, aE, gS, aJ, cK, aT, bU, fT, cI, cF, aD, gA, fD, aN, aF, bO, gQ, aI, eX, dT, dV, gF, dE, fB, cZ, eH, fF, fC, cG, dG, gK, dN, bZ, aS, bV, bT, fN, aG, aH, aQ, bA, bE, cP, bK, aA, fA, aR, cL, fJ, eU, gG, bJ, eL, eN, bY, fW, eZ, eJ, dH, cQ, dD, aY, bD, aL, fZ, aM, dA, eE, bB, cC, fK, dL, gC, fM, fG, fI, dS, aK, cH, cY, fY, fX, fH, dC, aV, dX, fU, cS, eT, fO, cD, bL, dR, aZ, dW, dQ, cM, eM, eK, bF, dF, bG, eD, dU, dZ, bN, cR, cN, dO, bS, cW, cV, fP, cB, eI, eP, gE, dY, dP, dM, dI, bH, bR, bW, bX, aU, cX, aW, d1, d2]
  exact .inl ⟨h, rfl⟩
 .have d1 : decide ((n : Int) > (l.length : Int)) = false := decide_eq_false (by omega)
  have d2 : decide ((l.length : Int) < (n : Int)) = false := decide_eq_false (by omega)
  simp (disch := omega) only [gI, jD, dJ, stepR_skip, hJ, iC, iM, iP, iL, iN, jJ, iX, gM, iE, iG, iI, iH, gY, iO, hZ, iF, iV, iW, iJ, gR, iT, iQ, iD, jV, jW, kF, kD, kC, kG, kA, kB, kE, gD, Result.ok.injEq, Next.value.injEq, true_and, and_true, gX, iA, iU, iR, iS, jF, aB0, gV, gU, gW, gT, gO, gJ, gP, gN, gB, fV, if_true, if_false, aBZ, aB4, aB1, aB2, aB5, aB3, aBY, aBX, fQ, fL, fE, fR, cU, eS, eF, dK, bP, fS, eY, aP, dB, aX, bQ, bM, aO, cO, cJ, eQ, aE, gS, aJ, cK, aT, bU, fT, cI, cF, aD, gA, fD, aN, aF, bO, gQ, aI, eX, dT, dV, gF, dE, fB, cZ, eH, fF, fC, cG, dG, gK, dN, bZ, aS, bV, bT, fN, aG, aH, aQ, bA, bE, cP, bK, aA, fA, aR, cL, fJ, eU, gG, bJ, eL, eN, bY, fW, eZ, eJ, dH, cQ, dD, aY, bD, aL, fZ, aM, dA, eE, bB, cC, fK, dL, gC, fM, fG, fI, dS, aK, cH, cY, fY, fX, fH, dC, aV, dX, fU, cS, eT, fO, cD, bL, dR, aZ, dW, dQ, cM, eM, eK, bF, dF, bG, eD, dU, dZ, bN, cR, cN, dO, bS, cW, cV, fP, cB, eI, eP, gE, dY, dP, dM, dI, bH, bR, bW, bX, aU, cX, aW, d1, d2, c]
  refine (Zc hr (by omega) (by omega)).mono ?_
  have ht : G0 l 0 n = (l.take n, l.drop n, 0) := by unfold G0; rw [if_neg (by decide), if_neg h]
  rw [ht]
  rintro r w1 ⟨h1, h2, h3, h4⟩
  exact .inr ⟨by omega, r, rfl, h1, h2, h3, h4⟩
def gZ : List aEm := [NQ, .int .i64 0, NQ, .int .i64 0, NQ, .int .i64 0, NQ, .int .u32 0, .int .u32 0, .int .u32 0]
def gL : List aEm := [NQ, .int .i64 0, NQ, .int .i64 0, NQ, .int .i64 0, NQ, .int .u32 1, .int .u32 4, .int .u32 8]
def gZv : aEm := .agg #[.slice none 0 0, .int .i64 0, .slice none 0 0, .int .i64 0, .slice none 0 0, .int .i64 0, .slice none 0 0, .int .u32 0, .int .u32 0, .int .u32 0]
def gLv : aEm := .agg #[.slice none 0 0, .int .i64 0, .slice none 0 0, .int .i64 0, .slice none 0 0, .int .i64 0, .slice none 0 0, .int .u32 1, .int .u32 4, .int .u32 8]
def bx (l : List UInt8) : Nat := rZ (l.take 3)
def MK (l : List UInt8) : Nat := bx l / 2 % 4
def O6 (l : List UInt8) : Nat := bx l / 8
def Xl (l : List UInt8) : Nat := if MK l = 1 then 1 else O6 l
def ahD (l : List UInt8) : List UInt8 := if MK l = 1 then List.replicate (O6 l) ((l.drop 3).headD 0) else (l.drop 3).take (O6 l)
def Wl (l all : List UInt8) (win room : Nat) : Option (Except Int (List UInt8 × List UInt8 × Bool)) :=
 if l.length < 3 then some (.error 10) else if MK l = 3 then some (.error 11) else if min win 131072 < O6 l then some (.error 12)
 else if MK l = 2 then none else if l.length - 3 < Xl l then some (.error 10)
 else if room < all.length + (ahD l).length then some (.error 12) else some (.ok (all ++ ahD l, l.drop (3 + Xl l), bx l % 2 == 1))
theorem aoL {RR : aEm -> aEl -> Prop} {p pg6 pt9 px most n : Nat} {L : Bool} {vo va x1 x2 : aEm} {N : Nat} {cs : List aEm} {w : aEl}
 (o : lN w p cs) (k2 : cs[2]? = some (.int .i64 (most : Nat))) (k3 : cs[3]? = some vo) (hvo : ∃ a c, vo = .slice a n c) (hva : ∃ a c, va = .slice a N c) (og : lN w pg6 gL) (ot : lN w pt9 gZ) (hne : pg6 ≠ pt9) (hpx : px ≠ pt9)
 (ox : lN w px [.bool L, x1, x2]) (hn : n <= 2000000) (hN : N <= 4000000) (hmost : most <= 2000000)
 (hk : ∀ w', jN w w' (fun y => y = pt9) -> RR (if most < n + N then .tuple #[NQ, gZv, .bool false, .int .i64 12] else .tuple #[va, gLv, .bool L, .int .i64 0]) w') :
 qJ RR (.pointer (some ⟨p, 0, none⟩)) va (.pointer (some ⟨pg6, 0, none⟩)) (.pointer (some ⟨pt9, 0, none⟩)) (.pointer (some ⟨px, 0, none⟩)) w := by
 unfold qJ
 obtain ⟨a, c, rfl⟩ := hvo
 obtain ⟨a', c', rfl⟩ := hva
 have e2 := (nP o).cell (off := 2)
 have e3 := (nP o).cell (off := 3)
 have f2 := o.cell (off := 2)
 have f3 := o.cell (off := 3)
 have g2 := (nP (nP o)).cell (off := 2)
 have g3 := (nP (nP o)).cell (off := 3)
 rw [k2] at e2 f2 g2
 rw [k3] at e3 f3 g3
 by_cases h : most < n + N
 .have d1 : decide ((n : Int) + (N : Int) > (most : Int)) = true := decide_eq_true (by omega)
  have d2 : decide ((most : Int) < (n : Int) + (N : Int)) = true := decide_eq_true (by omega)
  rw [if_pos h] at hk
  simp (disch := omega) only [gI, jD, dJ, stepR_skip, hJ, iC, iM, iP, iL, iN, jJ, iX, gM, iE, iG, iI, iH, gY, iO, hZ, iF, iV, iW, iJ, gR, iT, iQ, iD, jV, jW, kF, kD, kC, kG, kA, kB, kE, gD, Result.ok.injEq, Next.value.injEq, true_and, and_true, gX, iA, iU, iR, iS, jF, aB0, gV, gU, gW, gT, gO, gJ, gP, gN, gB, fV, if_true, if_false, aBZ, aB4, aB1, aB2, aB5, aB3, aBY, aBX, fQ, fL, fE, fR, cU, eS, eF, dK, bP, fS, eY, aP, dB, aX, bQ, bM, aO, cO, cJ, eQ, aE, gS, aJ, cK, aT, bU, fT, cI, cF, aD, gA, fD, aN, aF, bO, gQ, aI, eX, dT, dV, gF, dE, fB, cZ, eH, fF, fC, cG, dG, gK, dN, bZ, aS, bV, bT, fN, aG, aH, aQ, bA, bE, cP, bK, aA, fA, aR, cL, fJ, eU, gG, bJ, eL, eN, bY, fW, eZ, eJ, dH, cQ, dD, aY, bD, aL, fZ, aM, dA, eE, bB, cC, fK, dL, gC, fM, fG, fI, dS, aK, cH, cY, fY, fX, fH, dC, aV, dX, fU, cS, eT, fO, cD, bL, dR, aZ, dW, dQ, cM, eM, eK, bF, dF, bG, eD, dU, dZ, bN, cR, cN, dO, bS, cW, cV, fP, cB, eI, eP, gE, dY, dP, dM, dI, bH, bR, bW, bX, aU, cX, aW, e2, e3, f2, f3, g2, g3, d1, d2]
  refine qE (nP ot) rfl (by simp [one]) (by simp [gZ]) fun w1 o1 x1 s1 => ?_
  refine uE o1 (by simp [kW, gZ]) ?_
  simp only [kW, gZ, aCa, aCc, aCs, aCq, aCw]
  exact hk w1 ((jN.dr w _).seq x1)
 .have d1 : decide ((n : Int) + (N : Int) > (most : Int)) = false := decide_eq_false (by omega)
  have d2 : decide ((most : Int) < (n : Int) + (N : Int)) = false := decide_eq_false (by omega)
  rw [if_neg h] at hk
  have hg := H8 (off := 0) (nP og) (by simp [gL])
  have hg2 := H8 (off := 0) (nP (nP og)) (by simp [gL])
  simp only [gL, aCs, aCq, aCw] at hg hg2
  have b0 := (nP ox).cell (off := 0)
  have b1 := (nP (nP ox)).cell (off := 0)
  simp only [aBX] at b0 b1
  simp (disch := omega) only [gI, jD, dJ, stepR_skip, hJ, iC, iM, iP, iL, iN, jJ, iX, gM, iE, iG, iI, iH, gY, iO, hZ, iF, iV, iW, iJ, gR, iT, iQ, iD, jV, jW, kF, kD, kC, kG, kA, kB, kE, gD, Result.ok.injEq, Next.value.injEq, true_and, and_true, gX, iA, iU, iR, iS, jF, aB0, gV, gU, gW, gT, gO, gJ, gP, gN, gB, fV, if_true, if_false, aBZ, aB4, aB1, aB2, aB5, aB3, aBY, aBX, fQ, fL, fE, fR, cU, eS, eF, dK, bP, fS, eY, aP, dB, aX, bQ, bM, aO, cO, cJ, eQ, aE, gS, aJ, cK, aT, bU, fT, cI, cF, aD, gA, fD, aN, aF, bO, gQ, aI, eX, dT, dV, gF, dE, fB, cZ, eH, fF, fC, cG, dG, gK, dN, bZ, aS, bV, bT, fN, aG, aH, aQ, bA, bE, cP, bK, aA, fA, aR, cL, fJ, eU, gG, bJ, eL, eN, bY, fW, eZ, eJ, dH, cQ, dD, aY, bD, aL, fZ, aM, dA, eE, bB, cC, fK, dL, gC, fM, fG, fI, dS, aK, cH, cY, fY, fX, fH, dC, aV, dX, fU, cS, eT, fO, cD, bL, dR, aZ, dW, dQ, cM, eM, eK, bF, dF, bG, eD, dU, dZ, bN, cR, cN, dO, bS, cW, cV, fP, cB, eI, eP, gE, dY, dP, dM, dI, bH, bR, bW, bX, aU, cX, aW, e2, e3, f2, f3, g2, g3, d1, d2, hg, hg2, b0, b1]
  refine qE (nP (nP ot)) rfl (by simp [one, NQ]) (by simp [gZ]) fun w1 o1 x1 s1 => ?_
  have ox1 := (nP (nP ox)).ext x1 hpx
  have b2 := ox1.cell (off := 0)
  simp only [aBX] at b2
  try simp (disch := omega) only [gI, jD, dJ, stepR_skip, hJ, iC, iM, iP, iL, iN, jJ, iX, gM, iE, iG, iI, iH, gY, iO, hZ, iF, iV, iW, iJ, gR, iT, iQ, iD, jV, jW, kF, kD, kC, kG, kA, kB, kE, gD, Result.ok.injEq, Next.value.injEq, true_and, and_true, gX, iA, iU, iR, iS, jF, aB0, gV, gU, gW, gT, gO, gJ, gP, gN, gB, fV, if_true, if_false, aBZ, aB4, aB1, aB2, aB5, aB3, aBY, aBX, fQ, fL, fE, fR, cU, eS, eF, dK, bP, fS, eY, aP, dB, aX, bQ, bM, aO, cO, cJ, eQ, aE, gS, aJ, cK, aT, bU, fT, cI, cF, aD, gA, fD, aN, aF, bO, gQ, aI, eX, dT, dV, gF, dE, fB, cZ, eH, fF, fC, cG, dG, gK, dN, bZ, aS, bV, bT, fN, aG, aH, aQ, bA, bE, cP, bK, aA, fA, aR, cL, fJ, eU, gG, bJ, eL, eN, bY, fW, eZ, eJ, dH, cQ, dD, aY, bD, aL, fZ, aM, dA, eE, bB, cC, fK, dL, gC, fM, fG, fI, dS, aK, cH, cY, fY, fX, fH, dC, aV, dX, fU, cS, eT, fO, cD, bL, dR, aZ, dW, dQ, cM, eM, eK, bF, dF, bG, eD, dU, dZ, bN, cR, cN, dO, bS, cW, cV, fP, cB, eI, eP, gE, dY, dP, dM, dI, bH, bR, bW, bX, aU, cX, aW, b2]
  refine uE o1 (by simp [kW, gZ]) ?_
  simp only [kW, gZ, aCa, aCc, aCs, aCq, aCw]
  exact hk w1 (((jN.dr w _).seq (jN.dr _ _)).seq x1)
theorem apB {S : Nat -> Prop} {v x : aEm} {l m : List UInt8} {w : aEl} (h : GX w S 1 v l.length (l.map nT)) (hx : Bs w x m) (hb : ∀ b, w.heap.size <= b -> S b) (hn : l.length + m.length <= 100000000) {K : aEm -> aEl -> Prop}
 (hk : ∀ v' w', GX w' S 1 v' (l ++ m).length ((l ++ m).map nT) -> jN w w' S -> K v' w') : gI pg (nX .append #[22, 22] 22 [v, x]) w K := by
 have hcl : Cl w 1 x m.length (m.map nT) := by have := hx.cl; rwa [aB6] at this
 refine B9 (m := m.length) (news := m.map nT) (i := Tryz.t5) Tryz.underlying22 Tryz.underlying22 JX rfl rfl rfl h hcl (FT _) hb (by omega) (by rw [show Tryz.t5.bytes = 1 from rfl]; omega) (by decide) fun v3 w3 o3 x3 => ?_
 refine hk v3 w3 ?_ x3
 rw [aB7, aCC]
 exact o3
theorem apN {RR : aEm -> aEl -> Prop} {p pr pg6 pt9 px lo hi most n k sz need wv bv : Nat} {L : Bool} {A : Nat -> Prop} {vo va : aEm} {all l made : List UInt8} {cs : List aEm} {w : aEl}
 (o : lN w p cs) (k0 : cs[0]? = some (.pointer (some ⟨pr, 0, none⟩))) (k2 : cs[2]? = some (.int .i64 (most : Nat))) (k3 : cs[3]? = some vo) (hvo : ∃ a c, vo = .slice a n c) (og : lN w pg6 gL) (ot : lN w pt9 gZ) (ox : lN w px [.bool L, .int .i64 (k : Nat), .int .i64 (sz : Nat)])
 (hr : Qi w lo hi pr l 0) (ha : GX w A 1 va all.length (all.map nT)) (hA : ∀ b, A b -> b ≠ p /\ ¬ (lo <= b /\ b < hi) /\ b ≠ pg6 /\ b ≠ pt9 /\ b ≠ px) (hAn : ∀ b, w.heap.size <= b -> A b)
 (hne : pg6 ≠ pt9) (hpx : px ≠ pt9) (q1 : ¬ (lo <= p /\ p < hi)) (q2 : ¬ (lo <= pg6 /\ pg6 < hi)) (q3 : ¬ (lo <= pt9 /\ pt9 < hi)) (q4 : ¬ (lo <= px /\ px < hi)) (hk01 : k = 0 ∨ k = 1) (hsz : sz <= 131072) (hn : n <= 2000000) (hl : l.length <= 1000000) (hall : all.length <= 2000000) (hmost : most <= 2000000)
 (hneed : need = if k = 1 then 1 else sz) (hmade : made = if k = 1 then List.replicate sz (l.headD 0) else l.take sz)
 (hk1 : l.length < need -> ∀ w', jN w w' (fun y => y = pt9) -> RR (.tuple #[NQ, gZv, .bool false, .int .i64 10]) w')
 (hk2 : need <= l.length -> most < n + (all.length + made.length) -> ∀ w', jN w w' (fun y => A y ∨ y = pr ∨ y = pt9) -> RR (.tuple #[NQ, gZv, .bool false, .int .i64 12]) w')
 (hk3 : need <= l.length -> ¬ most < n + (all.length + made.length) -> ∀ w' va', GX w' A 1 va' (all ++ made).length ((all ++ made).map nT) -> Qi w' lo hi pr (l.drop need) 0 -> jN w w' (fun y => A y ∨ y = pr ∨ y = pt9) -> RR (.tuple #[va', gLv, .bool L, .int .i64 0]) w') :
 rW RR (.pointer (some ⟨p, 0, none⟩)) va (.int .u64 (wv : Nat)) (.pointer (some ⟨pg6, 0, none⟩)) (.pointer (some ⟨pt9, 0, none⟩)) (.int .i64 (bv : Nat)) (.pointer (some ⟨px, 0, none⟩)) (.int .i64 (need : Nat)) w := by
 have hneed2 : need <= 131072 := by rw [hneed]; split <;> omega
 unfold rW Bb
 refine (abB o k0 hr hl (by omega)).mono ?_
 rintro r w1 (⟨h1, rfl, h2⟩ | ⟨h1, v, rfl, hb1, hat, hr1, x1⟩)
 .rw [h2]; clear h2 w1
  have n1 : ((10 : Int) != 0) = true := rfl
  unfold NQ
  simp (disch := omega) only [gI, jD, dJ, stepR_skip, hJ, iC, iM, iP, iL, iN, jJ, iX, gM, iE, iG, iI, iH, gY, iO, hZ, iF, iV, iW, iJ, gR, iT, iQ, iD, jV, jW, kF, kD, kC, kG, kA, kB, kE, gD, Result.ok.injEq, Next.value.injEq, true_and, and_true, gX, iA, iU, iR, iS, jF, aB0, gV, gU, gW, gT, gO, gJ, gP, gN, gB, fV, if_true, if_false, aBZ, aB4, aB1, aB2, aB5, aB3, aBY, aBX, fQ, fL, fE, fR, cU, eS, eF, dK, bP, fS, eY, aP, dB, aX, bQ, bM, aO, cO, cJ, eQ, aE, gS, aJ, cK, aT, bU, fT, cI, cF, aD, gA, fD, aN, aF, bO, gQ, aI, eX, dT, dV, gF, dE, fB, cZ, eH, fF, fC, cG, dG, gK, dN, bZ, aS, bV, bT, fN, aG, aH, aQ, bA, bE, cP, bK, aA, fA, aR, cL, fJ, eU, gG, bJ, eL, eN, bY, fW, eZ, eJ, dH, cQ, dD, aY, bD, aL, fZ, aM, dA, eE, bB, cC, fK, dL, gC, fM, fG, fI, dS, aK, cH, cY, fY, fX, fH, dC, aV, dX, fU, cS, eT, fO, cD, bL, dR, aZ, dW, dQ, cM, eM, eK, bF, dF, bG, eD, dU, dZ, bN, cR, cN, dO, bS, cW, cV, fP, cB, eI, eP, gE, dY, dP, dM, dI, bH, bR, bW, bX, aU, cX, aW, n1]
  refine qE ot rfl (by simp [one]) (by simp [gZ]) fun w1 o1 x1 s1 => ?_
  refine uE o1 (by simp [kW, gZ]) ?_
  simp only [kW, gZ, aCa, aCc, aCs, aCq, aCw]
  exact hk1 h1 w1 x1
 have n1 : ((0 : Int) != 0) = false := rfl
 have hpr : lo <= pr /\ pr < hi := ⟨hr.1, hr.2.1⟩
 have ox1 := ox.ext x1 (fun e => q4 (e ▸ hpr))
 have og1 := og.ext x1 (fun e => q2 (e ▸ hpr))
 have ot1 := ot.ext x1 (fun e => q3 (e ▸ hpr))
 have o1 := o.ext x1 (fun e => q1 (e ▸ hpr))
 have ha1 := ha.ext x1 (fun b hb e => (hA b hb).2.1 (e ▸ hpr))
 have z1 := x1.size
 have c1 := ox1.cell (off := 1)
 have c2 := ox1.cell (off := 2)
 simp only [aBX, aBY] at c1 c2
 have fin : ∀ (m' : List UInt8) (v' : aEm) (w2 : aEl), m' = made -> GX w2 A 1 v' (all ++ m').length ((all ++ m').map nT) -> jN w1 w2 A -> qJ RR (.pointer (some ⟨p, 0, none⟩)) v' (.pointer (some ⟨pg6, 0, none⟩)) (.pointer (some ⟨pt9, 0, none⟩)) (.pointer (some ⟨px, 0, none⟩)) w2 := by
  rintro m' v' w2 rfl o2 x2
  have hlen := o2.len
  refine aoL (n := n) (N := (all ++ m').length) (L := L) (o1.ext x2 fun h => (hA p h).1 rfl) k2 k3 hvo hlen (og1.ext x2 fun h => (hA _ h).2.2.1 rfl) (ot1.ext x2 fun h => (hA _ h).2.2.2.1 rfl) hne hpx (ox1.ext x2 fun h => (hA _ h).2.2.2.2 rfl) (by omega) ?_ hmost fun w' x => ?_
  .have : m'.length <= 131072 := by
    rw [hmade]; split
    .rw [aCZ]; exact hsz
    .rw [aCf]; omega
   rw [aB7]; omega
  .rw [aB7]
   have xx : jN w w' (fun y => A y ∨ y = pr ∨ y = pt9) := (((x1.mono fun _ _ h => .inr (.inl h)).seq (x2.mono fun _ _ h => .inl h))).seq (x.mono fun _ _ h => .inr (.inr h))
   by_cases hm : most < n + (all.length + m'.length)
   .rw [if_pos hm]; exact hk2 h1 hm w' xx
   .rw [if_neg hm]
    refine hk3 h1 hm w' v' (o2.ext x fun b hb e => (hA b hb).2.2.2.1 e) ((hr1.ext x2 fun b h1 h2 h3 => (hA b h3).2.1 ⟨h1, h2⟩).ext x fun b h1 h2 h3 => q3 (h3 ▸ ⟨h1, h2⟩)) xx
 rcases hk01 with rfl | rfl
 .have e0 : (((0 : Nat) : Int) == 0) = true := rfl
  simp only [show ¬ ((0 : Nat) = 1) from by decide, if_false] at hneed hmade
  simp (disch := omega) only [gI, jD, dJ, stepR_skip, hJ, iC, iM, iP, iL, iN, jJ, iX, gM, iE, iG, iI, iH, gY, iO, hZ, iF, iV, iW, iJ, gR, iT, iQ, iD, jV, jW, kF, kD, kC, kG, kA, kB, kE, gD, Result.ok.injEq, Next.value.injEq, true_and, and_true, gX, iA, iU, iR, iS, jF, aB0, gV, gU, gW, gT, gO, gJ, gP, gN, gB, fV, if_true, if_false, aBZ, aB4, aB1, aB2, aB5, aB3, aBY, aBX, fQ, fL, fE, fR, cU, eS, eF, dK, bP, fS, eY, aP, dB, aX, bQ, bM, aO, cO, cJ, eQ, aE, gS, aJ, cK, aT, bU, fT, cI, cF, aD, gA, fD, aN, aF, bO, gQ, aI, eX, dT, dV, gF, dE, fB, cZ, eH, fF, fC, cG, dG, gK, dN, bZ, aS, bV, bT, fN, aG, aH, aQ, bA, bE, cP, bK, aA, fA, aR, cL, fJ, eU, gG, bJ, eL, eN, bY, fW, eZ, eJ, dH, cQ, dD, aY, bD, aL, fZ, aM, dA, eE, bB, cC, fK, dL, gC, fM, fG, fI, dS, aK, cH, cY, fY, fX, fH, dC, aV, dX, fU, cS, eT, fO, cD, bL, dR, aZ, dW, dQ, cM, eM, eK, bF, dF, bG, eD, dU, dZ, bN, cR, cN, dO, bS, cW, cV, fP, cB, eI, eP, gE, dY, dP, dM, dI, bH, bR, bW, bX, aU, cX, aW, n1, c1, e0]
  refine apB ha1 hb1 (fun b hb => hAn b (by omega)) (by rw [aCf]; omega) fun v' w2 o2 x2 => ?_
  exact fin _ v' w2 (by rw [hmade, hneed]) o2 x2
 .have e0 : (((1 : Nat) : Int) == 0) = false := rfl
  have e1 : (((1 : Nat) : Int) == 1) = true := rfl
  simp only [if_true] at hneed hmade
  subst hneed
  simp (disch := omega) only [gI, jD, dJ, stepR_skip, hJ, iC, iM, iP, iL, iN, jJ, iX, gM, iE, iG, iI, iH, gY, iO, hZ, iF, iV, iW, iJ, gR, iT, iQ, iD, jV, jW, kF, kD, kC, kG, kA, kB, kE, gD, Result.ok.injEq, Next.value.injEq, true_and, and_true, gX, iA, iU, iR, iS, jF, aB0, gV, gU, gW, gT, gO, gJ, gP, gN, gB, fV, if_true, if_false, aBZ, aB4, aB1, aB2, aB5, aB3, aBY, aBX, fQ, fL, fE, fR, cU, eS, eF, dK, bP, fS, eY, aP, dB, aX, bQ, bM, aO, cO, cJ, eQ, aE, gS, aJ, cK, aT, bU, fT, cI, cF, aD, gA, fD, aN, aF, bO, gQ, aI, eX, dT, dV, gF, dE, fB, cZ, eH, fF, fC, cG, dG, gK, dN, bZ, aS, bV, bT, fN, aG, aH, aQ, bA, bE, cP, bK, aA, fA, aR, cL, fJ, eU, gG, bJ, eL, eN, bY, fW, eZ, eJ, dH, cQ, dD, aY, bD, aL, fZ, aM, dA, eE, bB, cC, fK, dL, gC, fM, fG, fI, dS, aK, cH, cY, fY, fX, fH, dC, aV, dX, fU, cS, eT, fO, cD, bL, dR, aZ, dW, dQ, cM, eM, eK, bF, dF, bG, eD, dU, dZ, bN, cR, cN, dO, bS, cW, cV, fP, cB, eI, eP, gE, dY, dP, dM, dI, bH, bR, bW, bX, aU, cX, aW, n1, c1, e0, e1, c2]
  obtain ⟨c, t, hct⟩ : ∃ c t, l = c :: t := by
   cases l with
   | nil => simp at h1
   | cons c t => exact ⟨c, t, rfl⟩
  have e4 : l.take 1 = [c] := by rw [hct] <;> rfl
  rw [e4] at hb1
  refine (arU hb1 hsz).mono ?_
  rintro r w2 ⟨o2, x2⟩
  have z2 := x2.size
  have hbr : Bs w2 r (List.replicate sz c) := by
   unfold Bs
   rw [aDx]
   exact o2.sl
  refine apB (ha1.ext x2 fun _ _ h => h) hbr (fun b hb => hAn b (by omega)) (by rw [aCZ]; omega) fun v' w3 o3 x3 => ?_
  exact fin _ v' w3 (by rw [hmade, hct] <;> rfl) o3 ((x2.mono fun _ _ h => h.elim).seq x3)
def ayE (lo hi pr : Nat) (A : Nat -> Prop) (w : aEl) (r : aEm) (w' : aEl) : Except Int (List UInt8 × List UInt8 × Bool) -> Prop
 | .error e => r = .tuple #[NQ, gZv, .bool false, .int .i64 e] /\ jN w w' (fun y => A y ∨ y = pr)
 | .ok (a, l, b) => ∃ v, r = .tuple #[v, gLv, .bool b, .int .i64 0] /\ GX w' A 1 v a.length (a.map nT) /\ Qi w' lo hi pr l 0 /\ jN w w' (fun y => A y ∨ y = pr)
theorem asI {p pr lo hi most n win : Nat} {A : Nat -> Prop} {vo va : aEm} {all l : List UInt8} {cs : List aEm} {w : aEl} {m : Except Int (List UInt8 × List UInt8 × Bool)}
 (o : lN w p cs) (k0 : cs[0]? = some (.pointer (some ⟨pr, 0, none⟩))) (k2 : cs[2]? = some (.int .i64 (most : Nat))) (k3 : cs[3]? = some vo) (hvo : ∃ a c, vo = .slice a n c)
 (hr : Qi w lo hi pr l 0) (ha : GX w A 1 va all.length (all.map nT)) (hA : ∀ b, A b -> b ≠ p /\ ¬ (lo <= b /\ b < hi)) (hAn : ∀ b, w.heap.size <= b -> A b) (hhi : hi <= w.heap.size)
 (q1 : ¬ (lo <= p /\ p < hi)) (hn : n <= most) (hl : l.length <= 1000000) (hall : all.length <= 2000000) (hmost : most <= 2000000)
 (hm : Wl l all win (most - n) = some m) :
 jE pg wB #[.pointer (some ⟨p, 0, none⟩), va, gLv, .int .u64 (win : Nat)] w (fun r w' => ayE lo hi pr A w r w' m) := by
 refine Pa ?_
 obtain ⟨RR, hRR⟩ : ∃ RR : aEm -> aEl -> Prop, RR = fun r w' => ayE lo hi pr A w r w' m := ⟨_, rfl⟩
 rw [<- hRR]
 unfold KO AZ AT
 refine Ah fun w1 o1 x1 s1 => ?_
 have o1 : lN w1 w.heap.size gL := o1
 obtain ⟨p6, hp6⟩ : ∃ p, p = w.heap.size := ⟨_, rfl⟩
 rw [<- hp6] at o1 ⊢
 refine QY fun w2 o2 x2 s2 => ?_
 have o2 : lN w2 w1.heap.size gZ := o2
 obtain ⟨p9, hp9⟩ : ∃ p, p = w1.heap.size := ⟨_, rfl⟩
 rw [<- hp9] at o2 ⊢
 have z1 := o1.lt
 have z2 := o2.lt
 have x12 := x1.seq x2
 have og2 := o1.ext x2 (fun h => h)
 have hmn : (if (131072 : Int) < (win : Int) then (131072 : Int) else (win : Int)) = ((min win 131072 : Nat) : Int) := by
  split <;> omega
 have hw : IntKind.i64.wrap ((min win 131072 : Nat) : Int) = ((min win 131072 : Nat) : Int) := gX (by omega) (by omega)
 simp (disch := omega) only [gI, jD, dJ, stepR_skip, hJ, iC, iM, iP, iL, iN, jJ, iX, gM, iE, iG, iI, iH, gY, iO, hZ, iF, iV, iW, iJ, gR, iT, iQ, iD, jV, jW, kF, kD, kC, kG, kA, kB, kE, gD, Result.ok.injEq, Next.value.injEq, true_and, and_true, gX, iA, iU, iR, iS, jF, aB0, gV, gU, gW, gT, gO, gJ, gP, gN, gB, fV, if_true, if_false, aBZ, aB4, aB1, aB2, aB5, aB3, aBY, aBX, fQ, fL, fE, fR, cU, eS, eF, dK, bP, fS, eY, aP, dB, aX, bQ, bM, aO, cO, cJ, eQ, aE, gS, aJ, cK, aT, bU, fT, cI, cF, aD, gA, fD, aN, aF, bO, gQ, aI, eX, dT, dV, gF, dE, fB, cZ, eH, fF, fC, cG, dG, gK, dN, bZ, aS, bV, bT, fN, aG, aH, aQ, bA, bE, cP, bK, aA, fA, aR, cL, fJ, eU, gG, bJ, eL, eN, bY, fW, eZ, eJ, dH, cQ, dD, aY, bD, aL, fZ, aM, dA, eE, bB, cC, fK, dL, gC, fM, fG, fI, dS, aK, cH, cY, fY, fX, fH, dC, aV, dX, fU, cS, eT, fO, cD, bL, dR, aZ, dW, dQ, cM, eM, eK, bF, dF, bG, eD, dU, dZ, bN, cR, cN, dO, bS, cW, cV, fP, cB, eI, eP, gE, dY, dP, dM, dI, bH, bR, bW, bX, aU, cX, aW, hmn, hw]
 refine (abB (n := 3) (o.ext x12 (fun h => h)) k0 (hr.ext x12 (fun _ _ _ h => h)) hl (by omega)).mono ?_
 unfold Wl at hm
 rintro r w3 (⟨h1, rfl, h2⟩ | ⟨h1, v, rfl, hb1, hat, hr1, x3⟩)
 .rw [h2]; clear h2 w3
  rw [if_pos h1] at hm
  cases hm
  have n1 : ((10 : Int) != 0) = true := rfl
  unfold NQ
  simp (disch := omega) only [gI, jD, dJ, stepR_skip, hJ, iC, iM, iP, iL, iN, jJ, iX, gM, iE, iG, iI, iH, gY, iO, hZ, iF, iV, iW, iJ, gR, iT, iQ, iD, jV, jW, kF, kD, kC, kG, kA, kB, kE, gD, Result.ok.injEq, Next.value.injEq, true_and, and_true, gX, iA, iU, iR, iS, jF, aB0, gV, gU, gW, gT, gO, gJ, gP, gN, gB, fV, if_true, if_false, aBZ, aB4, aB1, aB2, aB5, aB3, aBY, aBX, fQ, fL, fE, fR, cU, eS, eF, dK, bP, fS, eY, aP, dB, aX, bQ, bM, aO, cO, cJ, eQ, aE, gS, aJ, cK, aT, bU, fT, cI, cF, aD, gA, fD, aN, aF, bO, gQ, aI, eX, dT, dV, gF, dE, fB, cZ, eH, fF, fC, cG, dG, gK, dN, bZ, aS, bV, bT, fN, aG, aH, aQ, bA, bE, cP, bK, aA, fA, aR, cL, fJ, eU, gG, bJ, eL, eN, bY, fW, eZ, eJ, dH, cQ, dD, aY, bD, aL, fZ, aM, dA, eE, bB, cC, fK, dL, gC, fM, fG, fI, dS, aK, cH, cY, fY, fX, fH, dC, aV, dX, fU, cS, eT, fO, cD, bL, dR, aZ, dW, dQ, cM, eM, eK, bF, dF, bG, eD, dU, dZ, bN, cR, cN, dO, bS, cW, cV, fP, cB, eI, eP, gE, dY, dP, dM, dI, bH, bR, bW, bX, aU, cX, aW, n1]
  refine qE o2 rfl (by simp [one]) (by simp [gZ]) fun w3 o3 x3 s3 => ?_
  refine uE o3 (by simp [kW, gZ]) ?_
  simp only [kW, gZ, aCa, aCc, aCs, aCq, aCw]
  rw [hRR]
  exact ⟨rfl, (x12.mono fun _ _ h => h.elim).trans x3 fun y hy h => by omega⟩
 rw [if_neg (by omega)] at hm
 have n0 : ((0 : Int) != 0) = false := rfl
 have hpr : lo <= pr /\ pr < hi := ⟨hr.1, hr.2.1⟩
 have og3 := og2.ext x3 (by intro h; omega)
 have ot3 := o2.ext x3 (by intro h; omega)
 have o3 := (o.ext x12 (fun h => h)).ext x3 (fun e => q1 (e ▸ hpr))
 have ha3 := (ha.ext x12 (fun _ _ h => h)).ext x3 (fun b hb e => (hA b hb).2 (e ▸ hpr))
 simp (disch := omega) only [gI, jD, dJ, stepR_skip, hJ, iC, iM, iP, iL, iN, jJ, iX, gM, iE, iG, iI, iH, gY, iO, hZ, iF, iV, iW, iJ, gR, iT, iQ, iD, jV, jW, kF, kD, kC, kG, kA, kB, kE, gD, Result.ok.injEq, Next.value.injEq, true_and, and_true, gX, iA, iU, iR, iS, jF, aB0, gV, gU, gW, gT, gO, gJ, gP, gN, gB, fV, if_true, if_false, aBZ, aB4, aB1, aB2, aB5, aB3, aBY, aBX, fQ, fL, fE, fR, cU, eS, eF, dK, bP, fS, eY, aP, dB, aX, bQ, bM, aO, cO, cJ, eQ, aE, gS, aJ, cK, aT, bU, fT, cI, cF, aD, gA, fD, aN, aF, bO, gQ, aI, eX, dT, dV, gF, dE, fB, cZ, eH, fF, fC, cG, dG, gK, dN, bZ, aS, bV, bT, fN, aG, aH, aQ, bA, bE, cP, bK, aA, fA, aR, cL, fJ, eU, gG, bJ, eL, eN, bY, fW, eZ, eJ, dH, cQ, dD, aY, bD, aL, fZ, aM, dA, eE, bB, cC, fK, dL, gC, fM, fG, fI, dS, aK, cH, cY, fY, fX, fH, dC, aV, dX, fU, cS, eT, fO, cD, bL, dR, aZ, dW, dQ, cM, eM, eK, bF, dF, bG, eD, dU, dZ, bN, cR, cN, dO, bS, cW, cV, fP, cB, eI, eP, gE, dY, dP, dM, dI, bH, bR, bW, bX, aU, cX, aW, n0]
 refine (aiZ hb1 (by rw [aCf]; omega)).mono ?_
 rintro r w4 ⟨rfl, x4⟩
 have e0 : rZ (l.take 3) = bx l := rfl
 unfold rbV
 rw [e0]
 have ek : bx l / 2 % 4 = MK l := rfl
 rw [ek]
 have og4 := og3.ext x4 (fun h => h)
 have ot4 := ot3.ext x4 (fun h => h)
 have zz3 := x3.size
 have zz4 := x4.size
 by_cases h3 : MK l = 3
 .rw [if_pos h3]
  rw [if_pos h3] at hm
  cases hm
  have n1 : ((11 : Int) != 0) = true := rfl
  simp (disch := omega) only [gI, jD, dJ, stepR_skip, hJ, iC, iM, iP, iL, iN, jJ, iX, gM, iE, iG, iI, iH, gY, iO, hZ, iF, iV, iW, iJ, gR, iT, iQ, iD, jV, jW, kF, kD, kC, kG, kA, kB, kE, gD, Result.ok.injEq, Next.value.injEq, true_and, and_true, gX, iA, iU, iR, iS, jF, aB0, gV, gU, gW, gT, gO, gJ, gP, gN, gB, fV, if_true, if_false, aBZ, aB4, aB1, aB2, aB5, aB3, aBY, aBX, fQ, fL, fE, fR, cU, eS, eF, dK, bP, fS, eY, aP, dB, aX, bQ, bM, aO, cO, cJ, eQ, aE, gS, aJ, cK, aT, bU, fT, cI, cF, aD, gA, fD, aN, aF, bO, gQ, aI, eX, dT, dV, gF, dE, fB, cZ, eH, fF, fC, cG, dG, gK, dN, bZ, aS, bV, bT, fN, aG, aH, aQ, bA, bE, cP, bK, aA, fA, aR, cL, fJ, eU, gG, bJ, eL, eN, bY, fW, eZ, eJ, dH, cQ, dD, aY, bD, aL, fZ, aM, dA, eE, bB, cC, fK, dL, gC, fM, fG, fI, dS, aK, cH, cY, fY, fX, fH, dC, aV, dX, fU, cS, eT, fO, cD, bL, dR, aZ, dW, dQ, cM, eM, eK, bF, dF, bG, eD, dU, dZ, bN, cR, cN, dO, bS, cW, cV, fP, cB, eI, eP, gE, dY, dP, dM, dI, bH, bR, bW, bX, aU, cX, aW, n1]
  refine F9 fun w5 o5 x5 s5 => ?_
  refine AH o5 rfl (by simp [one]) (by simp) fun w6 o6 x6 s6 => ?_
  have x46 : jN w4 w6 mC := x5.new x6 (by omega)
  have ot6 := ot4.ext x46 (fun h => h)
  try simp (disch := omega) only [gI, jD, dJ, stepR_skip, hJ, iC, iM, iP, iL, iN, jJ, iX, gM, iE, iG, iI, iH, gY, iO, hZ, iF, iV, iW, iJ, gR, iT, iQ, iD, jV, jW, kF, kD, kC, kG, kA, kB, kE, gD, Result.ok.injEq, Next.value.injEq, true_and, and_true, gX, iA, iU, iR, iS, jF, aB0, gV, gU, gW, gT, gO, gJ, gP, gN, gB, fV, if_true, if_false, aBZ, aB4, aB1, aB2, aB5, aB3, aBY, aBX, fQ, fL, fE, fR, cU, eS, eF, dK, bP, fS, eY, aP, dB, aX, bQ, bM, aO, cO, cJ, eQ, aE, gS, aJ, cK, aT, bU, fT, cI, cF, aD, gA, fD, aN, aF, bO, gQ, aI, eX, dT, dV, gF, dE, fB, cZ, eH, fF, fC, cG, dG, gK, dN, bZ, aS, bV, bT, fN, aG, aH, aQ, bA, bE, cP, bK, aA, fA, aR, cL, fJ, eU, gG, bJ, eL, eN, bY, fW, eZ, eJ, dH, cQ, dD, aY, bD, aL, fZ, aM, dA, eE, bB, cC, fK, dL, gC, fM, fG, fI, dS, aK, cH, cY, fY, fX, fH, dC, aV, dX, fU, cS, eT, fO, cD, bL, dR, aZ, dW, dQ, cM, eM, eK, bF, dF, bG, eD, dU, dZ, bN, cR, cN, dO, bS, cW, cV, fP, cB, eI, eP, gE, dY, dP, dM, dI, bH, bR, bW, bX, aU, cX, aW, n1]
  refine qE ot6 rfl (by simp [one]) (by simp [gZ]) fun w7 o7 x7 s7 => ?_
  refine uE o7 (by simp [kW, gZ]) ?_
  simp only [kW, gZ, aCa, aCc, aCs, aCq, aCw]
  rw [hRR]
  exact ⟨rfl, ((x12.mono fun _ _ h => h.elim).seq ((x3.mono fun _ _ h => .inr h).seq ((x4.seq x46).mono fun _ _ h => h.elim))).trans x7 fun y hy h => by omega⟩
 rw [if_neg h3]
 rw [if_neg h3] at hm
 unfold rbA
 rw [ek]
 have es : bx l / 8 = O6 l := rfl
 rw [es]
 simp (disch := omega) only [gI, jD, dJ, stepR_skip, hJ, iC, iM, iP, iL, iN, jJ, iX, gM, iE, iG, iI, iH, gY, iO, hZ, iF, iV, iW, iJ, gR, iT, iQ, iD, jV, jW, kF, kD, kC, kG, kA, kB, kE, gD, Result.ok.injEq, Next.value.injEq, true_and, and_true, gX, iA, iU, iR, iS, jF, aB0, gV, gU, gW, gT, gO, gJ, gP, gN, gB, fV, if_true, if_false, aBZ, aB4, aB1, aB2, aB5, aB3, aBY, aBX, fQ, fL, fE, fR, cU, eS, eF, dK, bP, fS, eY, aP, dB, aX, bQ, bM, aO, cO, cJ, eQ, aE, gS, aJ, cK, aT, bU, fT, cI, cF, aD, gA, fD, aN, aF, bO, gQ, aI, eX, dT, dV, gF, dE, fB, cZ, eH, fF, fC, cG, dG, gK, dN, bZ, aS, bV, bT, fN, aG, aH, aQ, bA, bE, cP, bK, aA, fA, aR, cL, fJ, eU, gG, bJ, eL, eN, bY, fW, eZ, eJ, dH, cQ, dD, aY, bD, aL, fZ, aM, dA, eE, bB, cC, fK, dL, gC, fM, fG, fI, dS, aK, cH, cY, fY, fX, fH, dC, aV, dX, fU, cS, eT, fO, cD, bL, dR, aZ, dW, dQ, cM, eM, eK, bF, dF, bG, eD, dU, dZ, bN, cR, cN, dO, bS, cW, cV, fP, cB, eI, eP, gE, dY, dP, dM, dI, bH, bR, bW, bX, aU, cX, aW, n0]
 refine F9 fun w5 o5 x5 s5 => ?_
 obtain ⟨px, hpx⟩ : ∃ p, p = w4.heap.size := ⟨_, rfl⟩
 rw [<- hpx] at o5 ⊢
 refine AH o5 rfl (by simp [one]) (by simp) fun w6 o6 x6 s6 => ?_
 simp only [kW, aCa, aCc] at o6
 have x46 : jN w4 w6 mC := x5.new x6 (by omega)
 have c1 := o6.cell (off := 1)
 have c2 := o6.cell (off := 2)
 simp only [aBX, aBY] at c1 c2
 have og6 := og4.ext x46 (fun h => h)
 have ot6 := ot4.ext x46 (fun h => h)
 have z5 := o5.lt
 by_cases hb : min win 131072 < O6 l
 .rw [if_pos hb] at hm
  cases hm
  have d1 : decide (((O6 l : Nat) : Int) > ((min win 131072 : Nat) : Int)) = true := decide_eq_true (by omega)
  have d2 : decide (((min win 131072 : Nat) : Int) < ((O6 l : Nat) : Int)) = true := decide_eq_true (by omega)
  simp (disch := omega) only [gI, jD, dJ, stepR_skip, hJ, iC, iM, iP, iL, iN, jJ, iX, gM, iE, iG, iI, iH, gY, iO, hZ, iF, iV, iW, iJ, gR, iT, iQ, iD, jV, jW, kF, kD, kC, kG, kA, kB, kE, gD, Result.ok.injEq, Next.value.injEq, true_and, and_true, gX, iA, iU, iR, iS, jF, aB0, gV, gU, gW, gT, gO, gJ, gP, gN, gB, fV, if_true, if_false, aBZ, aB4, aB1, aB2, aB5, aB3, aBY, aBX, fQ, fL, fE, fR, cU, eS, eF, dK, bP, fS, eY, aP, dB, aX, bQ, bM, aO, cO, cJ, eQ, aE, gS, aJ, cK, aT, bU, fT, cI, cF, aD, gA, fD, aN, aF, bO, gQ, aI, eX, dT, dV, gF, dE, fB, cZ, eH, fF, fC, cG, dG, gK, dN, bZ, aS, bV, bT, fN, aG, aH, aQ, bA, bE, cP, bK, aA, fA, aR, cL, fJ, eU, gG, bJ, eL, eN, bY, fW, eZ, eJ, dH, cQ, dD, aY, bD, aL, fZ, aM, dA, eE, bB, cC, fK, dL, gC, fM, fG, fI, dS, aK, cH, cY, fY, fX, fH, dC, aV, dX, fU, cS, eT, fO, cD, bL, dR, aZ, dW, dQ, cM, eM, eK, bF, dF, bG, eD, dU, dZ, bN, cR, cN, dO, bS, cW, cV, fP, cB, eI, eP, gE, dY, dP, dM, dI, bH, bR, bW, bX, aU, cX, aW, n0, c1, c2, d1, d2]
  refine qE ot6 rfl (by simp [one]) (by simp [gZ]) fun w7 o7 x7 s7 => ?_
  refine uE o7 (by simp [kW, gZ]) ?_
  simp only [kW, gZ, aCa, aCc, aCs, aCq, aCw]
  rw [hRR]
  exact ⟨rfl, ((x12.mono fun _ _ h => h.elim).seq ((x3.mono fun _ _ h => .inr h).seq ((x4.seq x46).mono fun _ _ h => h.elim))).trans x7 fun y hy h => by omega⟩
 rw [if_neg hb] at hm
 have d1 : decide (((O6 l : Nat) : Int) > ((min win 131072 : Nat) : Int)) = false := decide_eq_false (by omega)
 have d2 : decide (((min win 131072 : Nat) : Int) < ((O6 l : Nat) : Int)) = false := decide_eq_false (by omega)
 have hk2' : MK l ≠ 2 := by
  intro h
  rw [if_pos h] at hm
  cases hm
 rw [if_neg hk2'] at hm
 have hk01 : MK l = 0 ∨ MK l = 1 := by
  have : MK l < 4 := aD6 _ (by omega)
  omega
 have x02 : jN w w2 mC := x12
 have x06 : jN w w6 (fun y => y = pr) := ((x02.mono fun _ _ h => h.elim).seq x3).seq ((x4.seq x46).mono fun _ _ h => h.elim)
 have ha' : GX w (fun b => A b /\ b ≠ p6 /\ b ≠ p9 /\ b ≠ px) 1 va all.length (all.map nT) := WI ha fun b hb h1 => by
  have := x1.size
  have := x2.size
  exact ⟨hb, by omega, by omega, by omega⟩
 have ha6 := ha'.ext x06 fun b hb e => (hA b hb.1).2 (e ▸ hpr)
 have hr6 := (hr1.ext x4 fun _ _ _ h => h).ext x46 fun _ _ _ h => h
 have o6' := (o3.ext x4 fun h => h).ext x46 fun h => h
 have e8 : (l.drop 3).headD 0 = (l.drop 3).headD 0 := rfl
 have hld : (l.drop 3).length = l.length - 3 := aCi
 have main : rW RR (.pointer (some ⟨p, 0, none⟩)) va (.int .u64 (win : Nat)) (.pointer (some ⟨p6, 0, none⟩)) (.pointer (some ⟨p9, 0, none⟩)) (.int .i64 (min win 131072 : Nat)) (.pointer (some ⟨px, 0, none⟩)) (.int .i64 (Xl l : Nat)) w6 := by
  have hz0 := o.lt
  refine apN (made := ahD l) (L := bx l % 2 == 1) (A := fun b => A b /\ b ≠ p6 /\ b ≠ p9 /\ b ≠ px) o6' k0 k2 k3 hvo og6 ot6 o6 hr6 ha6 ?_ ?_ (by omega) (by omega) q1 (by omega) (by omega) (by omega) hk01 (by omega) (by omega) (by omega) hall hmost rfl rfl ?_ ?_ ?_
  .intro b hb
   exact ⟨(hA b hb.1).1, (hA b hb.1).2, hb.2.1, hb.2.2.1, hb.2.2.2⟩
  .intro b hb
   exact ⟨hAn b (by omega), by omega, by omega, by omega⟩
  .intro h w' x
   rw [if_pos (by omega)] at hm
   cases hm
   rw [hRR]
   exact ⟨rfl, (x06.mono fun _ _ h => .inr h).trans x fun y hy h => by omega⟩
  .intro h h2 w' h5
   rw [if_neg (by omega), if_pos (by omega)] at hm
   cases hm
   rw [hRR]
   refine ⟨rfl, (x06.mono fun _ _ h => .inr h).trans h5 fun y hy h => ?_⟩
   rcases h with h | h | h
   .exact .inl h.1
   .exact .inr h
   .omega
  .intro h h2 w' va' h3 h4 h5
   rw [if_neg (by omega), if_neg (by omega)] at hm
   cases hm
   rw [hRR]
   rw [aDm] at h4
   refine ⟨va', rfl, WI h3 fun b hb _ => hb.1, h4, (x06.mono fun _ _ h => .inr h).trans h5 fun y hy h => ?_⟩
   rcases h with h | h | h
   .exact .inl h.1
   .exact .inr h
   .omega
 rcases hk01 with h | h
 .have e1 : Xl l = O6 l := by unfold Xl; rw [if_neg (by omega)]
  have e2 : (((MK l : Nat) : Int) == 1) = false := by rw [h] <;> rfl
  rw [e1] at main
  simp (disch := omega) only [gI, jD, dJ, stepR_skip, hJ, iC, iM, iP, iL, iN, jJ, iX, gM, iE, iG, iI, iH, gY, iO, hZ, iF, iV, iW, iJ, gR, iT, iQ, iD, jV, jW, kF, kD, kC, kG, kA, kB, kE, gD, Result.ok.injEq, Next.value.injEq, true_and, and_true, gX, iA, iU, iR, iS, jF, aB0, gV, gU, gW, gT, gO, gJ, gP, gN, gB, fV, if_true, if_false, aBZ, aB4, aB1, aB2, aB5, aB3, aBY, aBX, fQ, fL, fE, fR, cU, eS, eF, dK, bP, fS, eY, aP, dB, aX, bQ, bM, aO, cO, cJ, eQ, aE, gS, aJ, cK, aT, bU, fT, cI, cF, aD, gA, fD, aN, aF, bO, gQ, aI, eX, dT, dV, gF, dE, fB, cZ, eH, fF, fC, cG, dG, gK, dN, bZ, aS, bV, bT, fN, aG, aH, aQ, bA, bE, cP, bK, aA, fA, aR, cL, fJ, eU, gG, bJ, eL, eN, bY, fW, eZ, eJ, dH, cQ, dD, aY, bD, aL, fZ, aM, dA, eE, bB, cC, fK, dL, gC, fM, fG, fI, dS, aK, cH, cY, fY, fX, fH, dC, aV, dX, fU, cS, eT, fO, cD, bL, dR, aZ, dW, dQ, cM, eM, eK, bF, dF, bG, eD, dU, dZ, bN, cR, cN, dO, bS, cW, cV, fP, cB, eI, eP, gE, dY, dP, dM, dI, bH, bR, bW, bX, aU, cX, aW, n0, c1, c2, d1, d2, e2]
  exact main
 .have e1 : Xl l = 1 := by unfold Xl; rw [if_pos (by omega)]
  have e2 : (((MK l : Nat) : Int) == 1) = true := by rw [h] <;> rfl
  rw [e1] at main
  simp (disch := omega) only [gI, jD, dJ, stepR_skip, hJ, iC, iM, iP, iL, iN, jJ, iX, gM, iE, iG, iI, iH, gY, iO, hZ, iF, iV, iW, iJ, gR, iT, iQ, iD, jV, jW, kF, kD, kC, kG, kA, kB, kE, gD, Result.ok.injEq, Next.value.injEq, true_and, and_true, gX, iA, iU, iR, iS, jF, aB0, gV, gU, gW, gT, gO, gJ, gP, gN, gB, fV, if_true, if_false, aBZ, aB4, aB1, aB2, aB5, aB3, aBY, aBX, fQ, fL, fE, fR, cU, eS, eF, dK, bP, fS, eY, aP, dB, aX, bQ, bM, aO, cO, cJ, eQ, aE, gS, aJ, cK, aT, bU, fT, cI, cF, aD, gA, fD, aN, aF, bO, gQ, aI, eX, dT, dV, gF, dE, fB, cZ, eH, fF, fC, cG, dG, gK, dN, bZ, aS, bV, bT, fN, aG, aH, aQ, bA, bE, cP, bK, aA, fA, aR, cL, fJ, eU, gG, bJ, eL, eN, bY, fW, eZ, eJ, dH, cQ, dD, aY, bD, aL, fZ, aM, dA, eE, bB, cC, fK, dL, gC, fM, fG, fI, dS, aK, cH, cY, fY, fX, fH, dC, aV, dX, fU, cS, eT, fO, cD, bL, dR, aZ, dW, dQ, cM, eM, eK, bF, dF, bG, eD, dU, dZ, bN, cR, cN, dO, bS, cW, cV, fP, cB, eI, eP, gE, dY, dP, dM, dI, bH, bR, bW, bX, aU, cX, aW, n0, c1, c2, d1, d2, e2]
  exact main
end Go.Proofs.YtoecppploooloaaGreatDoor
namespace Go.Proofs.YtoecppploooloaaGreatDoor
open Go Go.En
set_option maxRecDepth 4000
def akO (x : Int) (k : Nat) : Int := Z6 .u64 (IntKind.u64.wrap (x * 2 ^ k)) (x.fdiv (2 ^ (64 - k)))
def apX (v x : Int) : Int := IntKind.u64.wrap (akO (IntKind.u64.wrap (v + IntKind.u64.wrap (x * 14029467366897019727))) 31 * 11400714785074694791)
theorem aA9 : ∀ k : Fin 64, G1 .u64 (k.val : Int) 63 = (k.val : Int) := by decide
theorem aAQ : ∀ k : Fin 64, IntKind.u64.wrap (64 - (k.val : Int)) = 64 - (k.val : Int) := by decide
theorem Xx (x : Int) (k : Nat) (hk : k < 64) (w : aEl) :
 jE pg mV #[.int .u64 x, .int .i64 (k : Int)] w (fun v w' => v = .int .u64 (akO x k) /\ w' = w) := by
 refine JT ?_
 have h1 := aA9 ⟨k, hk⟩
 have h2 := aAQ ⟨k, hk⟩
 simp only at h1 h2
 have e1 : min k IntKind.u64.bits = k := by simp only [IntKind.bits]; omega
 have e2 : min (64 - (k : Int)).toNat IntKind.u64.bits = 64 - k := by simp only [IntKind.bits]; omega
 simp (disch := omega) only [GQ, vI, gI, jD, dJ, stepR_skip, hJ, iC, iM, iP, iL, iN, jJ, iX, gM, iE, iG, iI, iH, gY, iO, hZ, iF, iV, iW, iJ, gR, iT, iQ, iD, jV, jW, kF, kD, kC, kG, kA, kB, kE, gD, Result.ok.injEq, Next.value.injEq, true_and, and_true, gX, iA, iU, iR, iS, jF, aB0, gV, gU, gW, gT, gO, gJ, gP, gN, gB, fV, if_true, if_false, aBZ, aB4, aB1, aB2, aB5, aB3, aBY, aBX, fQ, fL, fE, fR, cU, eS, eF, dK, bP, fS, eY, aP, dB, aX, bQ, bM, aO, cO, cJ, eQ, aE, gS, aJ, cK, aT, bU, fT, cI, cF, aD, gA, fD, aN, aF, bO, gQ, aI, eX, dT, dV, gF, dE, fB, cZ, eH, fF, fC, cG, dG, gK, dN, bZ, aS, bV, bT, fN, aG, aH, aQ, bA, bE, cP, bK, aA, fA, aR, cL, fJ, eU, gG, bJ, eL, eN, bY, fW, eZ, eJ, dH, cQ, dD, aY, bD, aL, fZ, aM, dA, eE, bB, cC, fK, dL, gC, fM, fG, fI, dS, aK, cH, cY, fY, fX, fH, dC, aV, dX, fU, cS, eT, fO, cD, bL, dR, aZ, dW, dQ, cM, eM, eK, bF, dF, bG, eD, dU, dZ, bN, cR, cN, dO, bS, cW, cV, fP, cB, eI, eP, gE, dY, dP, dM, dI, bH, bR, bW, bX, aU, cX, aW, h1, h2, e1, e2, akO]
theorem Ys (v x : Int) (w : aEl) :
 jE pg Fu #[.int .u64 v, .int .u64 x] w (fun r w' => r = .int .u64 (apX v x) /\ w' = w) := by
 refine abD ?_
 simp (disch := omega) only [aeA, Qd, gI, jD, dJ, stepR_skip, hJ, iC, iM, iP, iL, iN, jJ, iX, gM, iE, iG, iI, iH, gY, iO, hZ, iF, iV, iW, iJ, gR, iT, iQ, iD, jV, jW, kF, kD, kC, kG, kA, kB, kE, gD, Result.ok.injEq, Next.value.injEq, true_and, and_true, gX, iA, iU, iR, iS, jF, aB0, gV, gU, gW, gT, gO, gJ, gP, gN, gB, fV, if_true, if_false, aBZ, aB4, aB1, aB2, aB5, aB3, aBY, aBX, fQ, fL, fE, fR, cU, eS, eF, dK, bP, fS, eY, aP, dB, aX, bQ, bM, aO, cO, cJ, eQ, aE, gS, aJ, cK, aT, bU, fT, cI, cF, aD, gA, fD, aN, aF, bO, gQ, aI, eX, dT, dV, gF, dE, fB, cZ, eH, fF, fC, cG, dG, gK, dN, bZ, aS, bV, bT, fN, aG, aH, aQ, bA, bE, cP, bK, aA, fA, aR, cL, fJ, eU, gG, bJ, eL, eN, bY, fW, eZ, eJ, dH, cQ, dD, aY, bD, aL, fZ, aM, dA, eE, bB, cC, fK, dL, gC, fM, fG, fI, dS, aK, cH, cY, fY, fX, fH, dC, aV, dX, fU, cS, eT, fO, cD, bL, dR, aZ, dW, dQ, cM, eM, eK, bF, dF, bG, eD, dU, dZ, bN, cR, cN, dO, bS, cW, cV, fP, cB, eI, eP, gE, dY, dP, dM, dI, bH, bR, bW, bX, aU, cX, aW]
 refine (Xx _ 31 (by omega) w).mono ?_
 rintro r w' ⟨rfl, rfl⟩
 simp (disch := omega) only [gI, jD, dJ, stepR_skip, hJ, iC, iM, iP, iL, iN, jJ, iX, gM, iE, iG, iI, iH, gY, iO, hZ, iF, iV, iW, iJ, gR, iT, iQ, iD, jV, jW, kF, kD, kC, kG, kA, kB, kE, gD, Result.ok.injEq, Next.value.injEq, true_and, and_true, gX, iA, iU, iR, iS, jF, aB0, gV, gU, gW, gT, gO, gJ, gP, gN, gB, fV, if_true, if_false, aBZ, aB4, aB1, aB2, aB5, aB3, aBY, aBX, fQ, fL, fE, fR, cU, eS, eF, dK, bP, fS, eY, aP, dB, aX, bQ, bM, aO, cO, cJ, eQ, aE, gS, aJ, cK, aT, bU, fT, cI, cF, aD, gA, fD, aN, aF, bO, gQ, aI, eX, dT, dV, gF, dE, fB, cZ, eH, fF, fC, cG, dG, gK, dN, bZ, aS, bV, bT, fN, aG, aH, aQ, bA, bE, cP, bK, aA, fA, aR, cL, fJ, eU, gG, bJ, eL, eN, bY, fW, eZ, eJ, dH, cQ, dD, aY, bD, aL, fZ, aM, dA, eE, bB, cC, fK, dL, gC, fM, fG, fI, dS, aK, cH, cY, fY, fX, fH, dC, aV, dX, fU, cS, eT, fO, cD, bL, dR, aZ, dW, dQ, cM, eM, eK, bF, dF, bG, eD, dU, dZ, bN, cR, cN, dO, bS, cW, cV, fP, cB, eI, eP, gE, dY, dP, dM, dI, bH, bR, bW, bX, aU, cX, aW, apX]
def Hg : List UInt8 -> Int
 | [] => 0
 | c :: l => (c.toNat : Int) + 256 * Hg l
theorem XV : ∀ l, 0 <= Hg l
 | [] => by simp [Hg]
 | c :: l => by have := XV l; simp only [Hg]; omega
theorem ajY (l : List UInt8) (c : UInt8) : Hg (l ++ [c]) = Hg l + (c.toNat : Int) * 256 ^ l.length := by
 induction l with
 | nil => simp [Hg]
 | cons a l ih => simp only [aDd, Hg, ih, aCl, Int.pow_succ, Int.mul_add]; rw [Int.mul_comm (256 : Int) (_ * _), Int.mul_assoc]; omega
theorem agH : ∀ l : List UInt8, Hg l < 256 ^ l.length
 | [] => by simp [Hg]
 | c :: l => by
   have := agH l
   have hc : c.toNat < 256 := c.toNat_lt
   simp only [Hg, aCl, Int.pow_succ]; omega
theorem ZT {α : Type} {l : List α} {k : Nat} (h : k < l.length) : l.take (k + 1) = l.take k ++ [l[k]] := by
 rw [List.take_succ_eq_append_getElem h]
theorem atA {x : Int} {c k : Nat} (hk : k < 8) (hx0 : 0 <= x) (hx : x < 256 ^ k) (hc : c < 256) :
 Z6 .u64 x (IntKind.u64.wrap ((c : Int) * 2 ^ (8 * k))) = x + (c : Int) * 256 ^ k := by
 obtain ⟨m, rfl⟩ := Int.eq_ofNat_of_zero_le hx0
 have e256 : (256 : Nat) ^ k = 2 ^ (8 * k) := by rw [show (256 : Nat) = 2 ^ 8 from rfl, <- Nat.pow_mul]
 have hm : m < 2 ^ (8 * k) := by rw [<- e256]; exact_mod_cast hx
 have hle : c * 2 ^ (8 * k) + 2 ^ (8 * k) <= 2 ^ 64 := by
  have h1 : (c + 1) * 2 ^ (8 * k) <= 256 * 2 ^ (8 * k) := aCv _ (by omega)
  have h2 : (256 : Nat) * 2 ^ (8 * k) = 2 ^ (8 * k + 8) := by rw [aC6, aCO]
  have h3 : (2 : Nat) ^ (8 * k + 8) <= 2 ^ 64 := aCn (by omega) (by omega)
  rw [aCQ] at h1; omega
 have hpos : 0 < 2 ^ (8 * k) := Nat.pow_pos (by omega)
 have w : IntKind.u64.wrap ((c : Int) * 2 ^ (8 * k)) = ((c * 2 ^ (8 * k) : Nat) : Int) := by
  have : ((c : Int) * 2 ^ (8 * k)) = ((c * 2 ^ (8 * k) : Nat) : Int) := by push_cast; rfl
  rw [this]; exact iA (by omega) (by omega)
 rw [w]
 have b1 : (BitVec.ofInt 64 (m : Int) ||| BitVec.ofInt 64 ((c * 2 ^ (8 * k) : Nat) : Int)).toNat = m + c * 2 ^ (8 * k) := by
  rw [BitVec.toNat_or]
  simp only [BitVec.toNat_ofInt]
  have e1 : (((m : Int) % ((2 ^ 64 : Nat) : Int)).toNat) = m := by omega
  have e2 : ((((c * 2 ^ (8 * k) : Nat) : Int) % ((2 ^ 64 : Nat) : Int)).toNat) = c * 2 ^ (8 * k) := by omega
  rw [e1, e2, Nat.or_comm, aCO c, <- Nat.two_pow_add_eq_or_of_lt hm]
  omega
 show IntKind.u64.wrap ((BitVec.ofInt 64 (m : Int) ||| BitVec.ofInt 64 ((c * 2 ^ (8 * k) : Nat) : Int)).toNat : Int) = _
 rw [b1]
 have : ((m + c * 2 ^ (8 * k) : Nat) : Int) = (m : Int) + (c : Int) * 256 ^ k := by
  rw [<- e256]; push_cast; rfl
 rw [<- this]
 exact iA (by omega) (by omega)
theorem Vv (v : aEm) (l : List UInt8) (w : aEl) (h : Bs w v l) (hl : l.length <= 8) :
 jE pg Cz #[v] w (fun r w' => r = .int .u64 (Hg l) /\ w' = w) := by
 obtain ⟨a, n, c, rfl, hn, hc, hcell⟩ := h
 rw [aB6] at hn
 subst hn
 refine ZY ?_
 simp (disch := omega) only [aaI, IJ, Nd, M6, NR, Ol, NA, NC, M0, gI, jD, dJ, stepR_skip, hJ, iC, iM, iP, iL, iN, jJ, iX, gM, iE, iG, iI, iH, gY, iO, hZ, iF, iV, iW, iJ, gR, iT, iQ, iD, jV, jW, kF, kD, kC, kG, kA, kB, kE, gD, Result.ok.injEq, Next.value.injEq, true_and, and_true, gX, iA, iU, iR, iS, jF, aB0, gV, gU, gW, gT, gO, gJ, gP, gN, gB, fV, if_true, if_false, aBZ, aB4, aB1, aB2, aB5, aB3, aBY, aBX, fQ, fL, fE, fR, cU, eS, eF, dK, bP, fS, eY, aP, dB, aX, bQ, bM, aO, cO, cJ, eQ, aE, gS, aJ, cK, aT, bU, fT, cI, cF, aD, gA, fD, aN, aF, bO, gQ, aI, eX, dT, dV, gF, dE, fB, cZ, eH, fF, fC, cG, dG, gK, dN, bZ, aS, bV, bT, fN, aG, aH, aQ, bA, bE, cP, bK, aA, fA, aR, cL, fJ, eU, gG, bJ, eL, eN, bY, fW, eZ, eJ, dH, cQ, dD, aY, bD, aL, fZ, aM, dA, eE, bB, cC, fK, dL, gC, fM, fG, fI, dS, aK, cH, cY, fY, fX, fH, dC, aV, dX, fU, cS, eT, fO, cD, bL, dR, aZ, dW, dQ, cM, eM, eK, bF, dF, bG, eD, dU, dZ, bN, cR, cN, dO, bS, cW, cV, fP, cB, eI, eP, gE, dY, dP, dM, dI, bH, bR, bW, bX, aU, cX, aW]
 refine kP.rule (fun n t w' => ∃ k : Nat, n = l.length - k /\ k <= l.length /\ t = (.int .u64 (Hg (l.take k)), .int .i64 (k : Int)) /\ w' = w) l.length ⟨0, rfl, aDX _, rfl, rfl⟩ ?_
 rintro n t w' ⟨k, rfl, hk, rfl, rfl⟩
 by_cases hlt : k < l.length
 .obtain ⟨b, off, rfl, hcell'⟩ := hcell (by omega)
  have hcl := hcell' k hlt
  rw [aCp, aB8 hlt, aCB] at hcl
  have hb : (l[k].toNat) < 256 := l[k].toNat_lt
  have hd : decide ((k : Int) < (l.length : Int)) = true := by simpa using hlt
  have e1 : min (8 * (k : Int)).toNat IntKind.u64.bits = 8 * k := by simp only [IntKind.bits]; omega
  simp (disch := omega) only [DT, gI, jD, dJ, stepR_skip, hJ, iC, iM, iP, iL, iN, jJ, iX, gM, iE, iG, iI, iH, gY, iO, hZ, iF, iV, iW, iJ, gR, iT, iQ, iD, jV, jW, kF, kD, kC, kG, kA, kB, kE, gD, Result.ok.injEq, Next.value.injEq, true_and, and_true, gX, iA, iU, iR, iS, jF, aB0, gV, gU, gW, gT, gO, gJ, gP, gN, gB, fV, if_true, if_false, aBZ, aB4, aB1, aB2, aB5, aB3, aBY, aBX, fQ, fL, fE, fR, cU, eS, eF, dK, bP, fS, eY, aP, dB, aX, bQ, bM, aO, cO, cJ, eQ, aE, gS, aJ, cK, aT, bU, fT, cI, cF, aD, gA, fD, aN, aF, bO, gQ, aI, eX, dT, dV, gF, dE, fB, cZ, eH, fF, fC, cG, dG, gK, dN, bZ, aS, bV, bT, fN, aG, aH, aQ, bA, bE, cP, bK, aA, fA, aR, cL, fJ, eU, gG, bJ, eL, eN, bY, fW, eZ, eJ, dH, cQ, dD, aY, bD, aL, fZ, aM, dA, eE, bB, cC, fK, dL, gC, fM, fG, fI, dS, aK, cH, cY, fY, fX, fH, dC, aV, dX, fU, cS, eT, fO, cD, bL, dR, aZ, dW, dQ, cM, eM, eK, bF, dF, bG, eD, dU, dZ, bN, cR, cN, dO, bS, cW, cV, fP, cB, eI, eP, gE, dY, dP, dM, dI, bH, bR, bW, bX, aU, cX, aW, hd, gB, hcl, nT, e1]
  have hlen : (l.take k).length = k := by simp; omega
  have hx := agH (l.take k)
  rw [hlen] at hx
  refine ⟨l.length - (k + 1), by omega, k + 1, rfl, by omega, ?_⟩
  rw [atA (by omega) (XV _) hx hb, ZT hlt, ajY, hlen]
  rfl
 .have hd : decide ((k : Int) < (l.length : Int)) = false := by simpa using hlt
  simp (disch := omega) only [DT, gI, jD, dJ, stepR_skip, hJ, iC, iM, iP, iL, iN, jJ, iX, gM, iE, iG, iI, iH, gY, iO, hZ, iF, iV, iW, iJ, gR, iT, iQ, iD, jV, jW, kF, kD, kC, kG, kA, kB, kE, gD, Result.ok.injEq, Next.value.injEq, true_and, and_true, gX, iA, iU, iR, iS, jF, aB0, gV, gU, gW, gT, gO, gJ, gP, gN, gB, fV, if_true, if_false, aBZ, aB4, aB1, aB2, aB5, aB3, aBY, aBX, fQ, fL, fE, fR, cU, eS, eF, dK, bP, fS, eY, aP, dB, aX, bQ, bM, aO, cO, cJ, eQ, aE, gS, aJ, cK, aT, bU, fT, cI, cF, aD, gA, fD, aN, aF, bO, gQ, aI, eX, dT, dV, gF, dE, fB, cZ, eH, fF, fC, cG, dG, gK, dN, bZ, aS, bV, bT, fN, aG, aH, aQ, bA, bE, cP, bK, aA, fA, aR, cL, fJ, eU, gG, bJ, eL, eN, bY, fW, eZ, eJ, dH, cQ, dD, aY, bD, aL, fZ, aM, dA, eE, bB, cC, fK, dL, gC, fM, fG, fI, dS, aK, cH, cY, fY, fX, fH, dC, aV, dX, fU, cS, eT, fO, cD, bL, dR, aZ, dW, dQ, cM, eM, eK, bF, dF, bG, eD, dU, dZ, bN, cR, cN, dO, bS, cW, cV, fP, cB, eI, eP, gE, dY, dP, dM, dI, bH, bR, bW, bX, aU, cX, aW, hd, fV]
  rw [aCg (by omega)]
def aAF : List Int := [IntKind.u64.wrap (11400714785074694791 + 14029467366897019727), 14029467366897019727, 0, IntKind.u64.wrap (0 - 11400714785074694791)]
def Tg (vs : List Int) (s : List UInt8) (i : Nat) : List Int := vs.mapIdx fun j v => if j < i then apX v (Hg ((s.drop (8 * j)).take 8)) else v
def T7 : Nat -> List UInt8 -> List Int
 | 0, _ => aAF
 | k + 1, L => Tg (T7 k L) ((L.drop (32 * k)).take 32) 4
theorem yZ (vs : List Int) (s : List UInt8) (i : Nat) : (Tg vs s i).length = vs.length := by simp [Tg]
theorem Cd : ∀ k L, (T7 k L).length = 4
 | 0, _ => rfl
 | k + 1, L => by rw [T7, yZ, Cd k L]
theorem aoY (vs : List Int) (s : List UInt8) : Tg vs s 0 = vs := by
 apply List.ext_getElem
 .simp [Tg]
 .intro i h1 h2; simp [Tg]
theorem arZ (vs : List Int) (s : List UInt8) (i : Nat) (h : i < vs.length) : (Tg vs s i)[i]? = some vs[i] := by
 rw [aB8 (by rw [yZ]; exact h)]; simp [Tg]
theorem auG (vs : List Int) (s : List UInt8) (i : Nat) (h : i < vs.length) : (Tg vs s i).set i (apX vs[i] (Hg ((s.drop (8 * i)).take 8))) = Tg vs s (i + 1) := by
 apply List.ext_getElem
 .simp [Tg]
 .intro j h1 h2
  rw [List.getElem_set]
  simp only [Tg, List.getElem_mapIdx]
  by_cases hij : i = j
  .subst hij; simp
  .simp only [hij, if_false]
   by_cases hj : j < i
   .rw [if_pos hj, if_pos (by omega)]
   .rw [if_neg hj, if_neg (by omega)]
theorem Zu : ∀ k (L M : List UInt8), 32 * k <= L.length -> T7 k (L ++ M) = T7 k L
 | 0, _, _, _ => rfl
 | k + 1, L, M, h => by
   rw [T7, T7, Zu k L M (by omega)]
   congr 1
   rw [aDN (by omega), aC2 (by rw [aCi]; omega)]
def lS (vs : List Int) (kept : List UInt8) (n all : Nat) : List aEm := vs.map (Value.int .u64) ++ (kept.map nT ++ [.int .i64 (n : Int), .int .u64 (all : Int)])
theorem uF {vs : List Int} {kept : List UInt8} {n all : Nat} (h1 : vs.length = 4) (h2 : kept.length = 32) : (lS vs kept n all).length = 38 := by
 simp [lS, h1, h2]
theorem Zs {vs : List Int} {kept : List UInt8} {n all : Nat} (i : Nat) (h : i < vs.length) : (lS vs kept n all)[i]? = some (.int .u64 vs[i]) := by
 unfold lS; rw [aCm (by simpa using h)]; simp [h]
theorem SG {vs : List Int} {kept : List UInt8} {n all : Nat} (h1 : vs.length = 4) (i : Nat) (h : i < kept.length) : (lS vs kept n all)[4 + i]? = some (nT kept[i]) := by
 unfold lS
 rw [aCu (by simp [h1]), aB6, h1, aD7, aCm (by simpa using h)]; simp [h]
theorem MW {vs : List Int} {kept : List UInt8} {n all : Nat} (h1 : vs.length = 4) (h2 : kept.length = 32) : (lS vs kept n all)[36]? = some (.int .i64 (n : Int)) := by
 unfold lS
 rw [aCu (by simp [h1]), aB6, h1, aCu (by simp [h2]), aB6, h2] <;> rfl
theorem IC {vs : List Int} {kept : List UInt8} {n all : Nat} (h1 : vs.length = 4) (h2 : kept.length = 32) : (lS vs kept n all)[37]? = some (.int .u64 (all : Int)) := by
 unfold lS
 rw [aCu (by simp [h1]), aB6, h1, aCu (by simp [h2]), aB6, h2] <;> rfl
theorem ZQ {vs : List Int} {kept : List UInt8} {n all : Nat} (i : Nat) (x : Int) (h : i < vs.length) : (lS vs kept n all).set i (.int .u64 x) = lS (vs.set i x) kept n all := by
 unfold lS; rw [aDC _ _ (by simpa using h), aDS]
theorem QZ {vs : List Int} {kept : List UInt8} {n all : Nat} (h1 : vs.length = 4) (h2 : kept.length = 32) (m : Nat) : (lS vs kept n all).set 36 (.int .i64 (m : Int)) = lS vs kept m all := by
 unfold lS
 rw [aCI _ _ (by simp [h1]), aB6, h1, aCI _ _ (by simp [h2]), aB6, h2] <;> rfl
theorem WJ {vs : List Int} {kept : List UInt8} {n all : Nat} (h1 : vs.length = 4) (h2 : kept.length = 32) (m : Nat) : (lS vs kept n all).set 37 (.int .u64 (m : Int)) = lS vs kept n m := by
 unfold lS
 rw [aCI _ _ (by simp [h1]), aB6, h1, aCI _ _ (by simp [h2]), aB6, h2] <;> rfl
def PY (l : List UInt8) (o : Nat) (x : List UInt8) : List UInt8 := l.take o ++ x ++ l.drop (o + x.length)
theorem acY {l : List UInt8} {o : Nat} {x : List UInt8} (h : o + x.length <= l.length) : (PY l o x).length = l.length := by
 simp [PY]; omega
theorem apA {l : List UInt8} {o : Nat} {c : UInt8} {x : List UInt8} (h : o + (x.length + 1) <= l.length) : PY (l.set o c) (o + 1) x = PY l o (c :: x) := by
 unfold PY
 rw [List.take_set, List.drop_set_of_lt (by omega)]
 have e : (l.take (o + 1)).set o c = l.take o ++ [c] := by
  rw [List.take_succ_eq_append_getElem (by omega), aCI _ _ (by simp; omega)]
  simp only [aCf]
  rw [show o - min o l.length = 0 from by omega] <;> rfl
 rw [e]
 simp only [aCr, List.singleton_append, aCl, aDd, aCT]
 rw [show o + 1 + x.length = o + (x.length + 1) from by omega]
theorem acA {vs : List Int} {n all : Nat} (h1 : vs.length = 4) : ∀ (x kept : List UInt8) (o : Nat), o + x.length <= kept.length →
 kW (lS vs kept n all) (4 + o) (x.map nT) = lS vs (PY kept o x) n all := by
 intro x
 induction x with
 | nil => intro kept o _; simp [kW, PY]
 | cons c x ih =>
   intro kept o h
   rw [aCl] at h
   have e : (lS vs kept n all).set (4 + o) (nT c) = lS vs (kept.set o c) n all := by
    unfold lS
    rw [aCI _ _ (by simp [h1]), aB6, h1, aD7, aDC _ _ (by simp; omega), aDS]
   rw [aCz, kW, e, aDr, ih _ _ (by simp; omega), apA (by omega)]
def alZ (w : aEl) (b : Nat) (L : List UInt8) (all : Nat) : Prop :=
 ∃ kept, kept.length = 32 /\ kept.take (L.length % 32) = L.drop (32 * (L.length / 32)) /\ lN w b (lS (T7 (L.length / 32) L) kept (L.length % 32) all)
abbrev YN (w : aEl) (b : Nat) (L : List UInt8) : Prop := alZ w b L L.length
theorem axF (w : aEl) : jE pg TX #[] w (fun v w' => v = .pointer (some ⟨w.heap.size, 0, none⟩) /\ YN w' w.heap.size [] /\ jN w w' mC) := by
 refine afU ?_
 simp (disch := omega) only [amG, V4, gI, jD, dJ, stepR_skip, hJ, iC, iM, iP, iL, iN, jJ, iX, gM, iE, iG, iI, iH, gY, iO, hZ, iF, iV, iW, iJ, gR, iT, iQ, iD, jV, jW, kF, kD, kC, kG, kA, kB, kE, gD, Result.ok.injEq, Next.value.injEq, true_and, and_true, gX, iA, iU, iR, iS, jF, aB0, gV, gU, gW, gT, gO, gJ, gP, gN, gB, fV, if_true, if_false, aBZ, aB4, aB1, aB2, aB5, aB3, aBY, aBX, fQ, fL, fE, fR, cU, eS, eF, dK, bP, fS, eY, aP, dB, aX, bQ, bM, aO, cO, cJ, eQ, aE, gS, aJ, cK, aT, bU, fT, cI, cF, aD, gA, fD, aN, aF, bO, gQ, aI, eX, dT, dV, gF, dE, fB, cZ, eH, fF, fC, cG, dG, gK, dN, bZ, aS, bV, bT, fN, aG, aH, aQ, bA, bE, cP, bK, aA, fA, aR, cL, fJ, eU, gG, bJ, eL, eN, bY, fW, eZ, eJ, dH, cQ, dD, aY, bD, aL, fZ, aM, dA, eE, bB, cC, fK, dL, gC, fM, fG, fI, dS, aK, cH, cY, fY, fX, fH, dC, aV, dX, fU, cS, eT, fO, cD, bL, dR, aZ, dW, dQ, cM, eM, eK, bF, dF, bG, eD, dU, dZ, bN, cR, cN, dO, bS, cW, cV, fP, cB, eI, eP, gE, dY, dP, dM, dI, bH, bR, bW, bX, aU, cX, aW]
 refine Ah fun w1 o1 x1 s1 => ⟨rfl, ⟨List.replicate 32 0, rfl, rfl, ?_⟩, x1⟩
 exact o1
theorem XX {w : aEl} {b : Nat} {cs : List aEm} (h : lN w b cs) : lN (dr w) b cs := h.ext (jN.dr w mC) (fun h => h)
theorem afS (w0 : aEl) (b : Nat) (vs : List Int) (kept : List UInt8) (all : Nat) (h1 : vs.length = 4) (h2 : kept.length = 32) (v : aEm) (R : aEm -> aEm -> aEl -> Prop)
 (hR : ∀ w', lN w' b (lS (Tg vs kept 4) kept 32 all) -> jN w0 w' (fun x => x = b) -> R (.pointer (some ⟨b, 0, none⟩)) v w') (w : aEl) (ho : lN w b (lS vs kept 32 all)) (hx : jN w0 w (fun x => x = b)) :
 BS R (.pointer (some ⟨b, 0, none⟩)) v w := by
 simp (disch := omega) only [BS, GK, FV, GN]
 refine kP.rule (fun n t w' => ∃ i : Nat, i <= 4 /\ n = 4 - i /\ t = .int .i64 (i : Int) /\ lN w' b (lS (Tg vs kept i) kept 32 all) /\ jN w0 w' (fun x => x = b)) 4
  ⟨0, by omega, rfl, rfl, by rw [aoY]; exact ho, hx⟩ ?_
 rintro n t w' ⟨i, hi, rfl, rfl, ho, hx⟩
 by_cases hlt : i < 4
 .have hd : decide ((i : Int) < 4) = true := by simp; omega
  have hod := XX ho
  have hv := arZ vs kept i (by omega)
  have hc : (lS (Tg vs kept i) kept 32 all)[i]? = some (.int .u64 vs[i]) := by
   rw [Zs i (by rw [yZ]; omega)]
   rw [aB8 (by rw [yZ]; omega)] at hv
   rw [aCF hv]
  have t1 : (8 * (i : Int)).toNat = 8 * i := by omega
  have t2 : (8 * (i : Int) + 8).toNat = 8 * i + 8 := by omega
  simp (disch := omega) only [vR, gI, jD, dJ, stepR_skip, hJ, iC, iM, iP, iL, iN, jJ, iX, gM, iE, iG, iI, iH, gY, iO, hZ, iF, iV, iW, iJ, gR, iT, iQ, iD, jV, jW, kF, kD, kC, kG, kA, kB, kE, gD, Result.ok.injEq, Next.value.injEq, true_and, and_true, gX, iA, iU, iR, iS, jF, aB0, gV, gU, gW, gT, gO, gJ, gP, gN, gB, fV, if_true, if_false, aBZ, aB4, aB1, aB2, aB5, aB3, aBY, aBX, fQ, fL, fE, fR, cU, eS, eF, dK, bP, fS, eY, aP, dB, aX, bQ, bM, aO, cO, cJ, eQ, aE, gS, aJ, cK, aT, bU, fT, cI, cF, aD, gA, fD, aN, aF, bO, gQ, aI, eX, dT, dV, gF, dE, fB, cZ, eH, fF, fC, cG, dG, gK, dN, bZ, aS, bV, bT, fN, aG, aH, aQ, bA, bE, cP, bK, aA, fA, aR, cL, fJ, eU, gG, bJ, eL, eN, bY, fW, eZ, eJ, dH, cQ, dD, aY, bD, aL, fZ, aM, dA, eE, bB, cC, fK, dL, gC, fM, fG, fI, dS, aK, cH, cY, fY, fX, fH, dC, aV, dX, fU, cS, eT, fO, cD, bL, dR, aZ, dW, dQ, cM, eM, eK, bF, dF, bG, eD, dU, dZ, bN, cR, cN, dO, bS, cW, cV, fP, cB, eI, eP, gE, dY, dP, dM, dI, bH, bR, bW, bX, aU, cX, aW, hd, hod.cell, hc, t1, t2, VE (show 8 * i ≠ 32 by omega)]
  have hs : ((kept.drop (8 * i)).take 8).length = 8 := by rw [aCf, aCi]; omega
  have hbs : Bs (dr w') (.slice (some ⟨b, 4 + 8 * i, none⟩) (8 * i + 8 - 8 * i) (32 - 8 * i)) ((kept.drop (8 * i)).take 8) := by
   rw [show 8 * i + 8 - 8 * i = ((kept.drop (8 * i)).take 8).length from by omega]
   refine hod.bs (by omega) fun j hj => ?_
   rw [aDr, SG (by rw [yZ]; exact h1) (8 * i + j) (by omega)]
   simp
  refine (Vv _ _ _ hbs (by omega)).mono ?_
  rintro r w1 ⟨rfl, rfl⟩
  simp (disch := omega) only [gI, jD, dJ, stepR_skip, hJ, iC, iM, iP, iL, iN, jJ, iX, gM, iE, iG, iI, iH, gY, iO, hZ, iF, iV, iW, iJ, gR, iT, iQ, iD, jV, jW, kF, kD, kC, kG, kA, kB, kE, gD, Result.ok.injEq, Next.value.injEq, true_and, and_true, gX, iA, iU, iR, iS, jF, aB0, gV, gU, gW, gT, gO, gJ, gP, gN, gB, fV, if_true, if_false, aBZ, aB4, aB1, aB2, aB5, aB3, aBY, aBX, fQ, fL, fE, fR, cU, eS, eF, dK, bP, fS, eY, aP, dB, aX, bQ, bM, aO, cO, cJ, eQ, aE, gS, aJ, cK, aT, bU, fT, cI, cF, aD, gA, fD, aN, aF, bO, gQ, aI, eX, dT, dV, gF, dE, fB, cZ, eH, fF, fC, cG, dG, gK, dN, bZ, aS, bV, bT, fN, aG, aH, aQ, bA, bE, cP, bK, aA, fA, aR, cL, fJ, eU, gG, bJ, eL, eN, bY, fW, eZ, eJ, dH, cQ, dD, aY, bD, aL, fZ, aM, dA, eE, bB, cC, fK, dL, gC, fM, fG, fI, dS, aK, cH, cY, fY, fX, fH, dC, aV, dX, fU, cS, eT, fO, cD, bL, dR, aZ, dW, dQ, cM, eM, eK, bF, dF, bG, eD, dU, dZ, bN, cR, cN, dO, bS, cW, cV, fP, cB, eI, eP, gE, dY, dP, dM, dI, bH, bR, bW, bX, aU, cX, aW, hod.cell, hc]
  refine (Ys _ _ _).mono ?_
  rintro r w1 ⟨rfl, rfl⟩
  refine J2 hod rfl (by rw [uF (by rw [yZ]; exact h1) h2]; omega) fun w2 o2 x2 s2 => ?_
  rw [ZQ i _ (by rw [yZ]; omega), auG vs kept i (by omega)] at o2
  exact ⟨4 - (i + 1), by omega, i + 1, by omega, rfl, rfl, o2, (hx.seq (jN.dr _ _)).seq x2⟩
 .have : i = 4 := by omega
  subst this
  have hd : decide (((4 : Nat) : Int) < 4) = false := by simp
  simp (disch := omega) only [vR, gI, jD, dJ, stepR_skip, hJ, iC, iM, iP, iL, iN, jJ, iX, gM, iE, iG, iI, iH, gY, iO, hZ, iF, iV, iW, iJ, gR, iT, iQ, iD, jV, jW, kF, kD, kC, kG, kA, kB, kE, gD, Result.ok.injEq, Next.value.injEq, true_and, and_true, gX, iA, iU, iR, iS, jF, aB0, gV, gU, gW, gT, gO, gJ, gP, gN, gB, fV, if_true, if_false, aBZ, aB4, aB1, aB2, aB5, aB3, aBY, aBX, fQ, fL, fE, fR, cU, eS, eF, dK, bP, fS, eY, aP, dB, aX, bQ, bM, aO, cO, cJ, eQ, aE, gS, aJ, cK, aT, bU, fT, cI, cF, aD, gA, fD, aN, aF, bO, gQ, aI, eX, dT, dV, gF, dE, fB, cZ, eH, fF, fC, cG, dG, gK, dN, bZ, aS, bV, bT, fN, aG, aH, aQ, bA, bE, cP, bK, aA, fA, aR, cL, fJ, eU, gG, bJ, eL, eN, bY, fW, eZ, eJ, dH, cQ, dD, aY, bD, aL, fZ, aM, dA, eE, bB, cC, fK, dL, gC, fM, fG, fI, dS, aK, cH, cY, fY, fX, fH, dC, aV, dX, fU, cS, eT, fO, cD, bL, dR, aZ, dW, dQ, cM, eM, eK, bF, dF, bG, eD, dU, dZ, bN, cR, cN, dO, bS, cW, cV, fP, cB, eI, eP, gE, dY, dP, dM, dI, bH, bR, bW, bX, aU, cX, aW, hd]
  exact hR _ ho hx
theorem afM (w0 : aEl) (b : Nat) (L l : List UInt8) (_hlen : L.length + l.length <= 1099511627776) (R : aEl -> Prop)
 (hR : ∀ w', alZ w' b (L ++ l) (L.length + l.length) -> jN w0 w' (fun x => x = b) -> R w') (v : aEm) (w : aEl)
 (h : alZ w b L (L.length + l.length)) (hv : Bs w v l) (hb : ¬ MO v (fun x => x = b)) (hx : jN w0 w (fun x => x = b)) :
 zE R (.pointer (some ⟨b, 0, none⟩)) v w := by
 unfold zE
 refine kP.rule (fun n t w' => ∃ m : Nat, m <= l.length /\ n = l.length - m /\ Bs w' t (l.drop m) /\ ¬ MO t (fun x => x = b) /\ alZ w' b (L ++ l.take m) (L.length + l.length) /\ jN w0 w' (fun x => x = b)) l.length
  ⟨0, by omega, rfl, hv, hb, by simpa using h, hx⟩ ?_
 rintro n t w' ⟨m, hm, rfl, hv, hb, ⟨kept, h2, hk, ho⟩, hx⟩
 have hv' := hv
 obtain ⟨a, n, c, rfl, hn, hc, hcell⟩ := hv'
 rw [aB6, aCi] at hn
 by_cases hlt : m < l.length
 .obtain ⟨b', o', rfl, hcell'⟩ := hcell (by omega)
  have hd : decide ((0 : Int) < (n : Int)) = true := by simp; omega
  have hM : (L ++ l.take m).length = L.length + m := by simp; omega
  rw [hM] at hk ho
  obtain ⟨q, hq⟩ : ∃ q, q = (L.length + m) / 32 := ⟨_, rfl⟩
  obtain ⟨r, hr⟩ : ∃ r, r = (L.length + m) % 32 := ⟨_, rfl⟩
  rw [<- hq, <- hr] at hk ho
  have hqr : L.length + m = 32 * q + r /\ r < 32 := by omega
  have h1 : (T7 q (L ++ l.take m)).length = 4 := Cd _ _
  have hod := XX ho
  have t1 : (r : Int).toNat = r := by omega
  simp (disch := omega) only [sF, uL, uI, Ae, uJ, wH, vP, BJ, sZ, gI, jD, dJ, stepR_skip, hJ, iC, iM, iP, iL, iN, jJ, iX, gM, iE, iG, iI, iH, gY, iO, hZ, iF, iV, iW, iJ, gR, iT, iQ, iD, jV, jW, kF, kD, kC, kG, kA, kB, kE, gD, Result.ok.injEq, Next.value.injEq, true_and, and_true, gX, iA, iU, iR, iS, jF, aB0, gV, gU, gW, gT, gO, gJ, gP, gN, gB, fV, if_true, if_false, aBZ, aB4, aB1, aB2, aB5, aB3, aBY, aBX, fQ, fL, fE, fR, cU, eS, eF, dK, bP, fS, eY, aP, dB, aX, bQ, bM, aO, cO, cJ, eQ, aE, gS, aJ, cK, aT, bU, fT, cI, cF, aD, gA, fD, aN, aF, bO, gQ, aI, eX, dT, dV, gF, dE, fB, cZ, eH, fF, fC, cG, dG, gK, dN, bZ, aS, bV, bT, fN, aG, aH, aQ, bA, bE, cP, bK, aA, fA, aR, cL, fJ, eU, gG, bJ, eL, eN, bY, fW, eZ, eJ, dH, cQ, dD, aY, bD, aL, fZ, aM, dA, eE, bB, cC, fK, dL, gC, fM, fG, fI, dS, aK, cH, cY, fY, fX, fH, dC, aV, dX, fU, cS, eT, fO, cD, bL, dR, aZ, dW, dQ, cM, eM, eK, bF, dF, bG, eD, dU, dZ, bN, cR, cN, dO, bS, cW, cV, fP, cB, eI, eP, gE, dY, dP, dM, dI, bH, bR, bW, bX, aU, cX, aW, hd, hod.cell, MW h1 h2, VE (show r ≠ 32 by omega)]
  have hvd : Bs (dr w') (.slice (some ⟨b', o', none⟩) n c) (l.drop m) := hv.ext (jN.dr w' mC) (by unfold MO mC; split <;> simp)
  refine SM hod (by rw [uF h1 h2]; omega) hvd (FT _) fun w1 o1 x1 s1 => ?_
  obtain ⟨u, hu⟩ : ∃ u, u = min n (32 - r) := ⟨_, rfl⟩
  have hlm : (List.map nT (l.drop m)).length = n := by rw [aB6, aCi, hn]
  rw [hlm] at o1 ⊢
  rw [<- hu] at o1 ⊢
  have hu1 : u <= n /\ u <= 32 - r /\ (u = n ∨ u = 32 - r) := by omega
  have hul : ((l.drop m).take u).length = u := by rw [aCf, aCi]; omega
  rw [<- aDF, acA h1 _ _ _ (by omega)] at o1
  obtain ⟨kept1, hk1⟩ : ∃ x, x = PY kept r ((l.drop m).take u) := ⟨_, rfl⟩
  rw [<- hk1] at o1
  have h21 : kept1.length = 32 := by rw [hk1, acY (by omega)]; exact h2
  simp (disch := omega) only [gI, jD, dJ, stepR_skip, hJ, iC, iM, iP, iL, iN, jJ, iX, gM, iE, iG, iI, iH, gY, iO, hZ, iF, iV, iW, iJ, gR, iT, iQ, iD, jV, jW, kF, kD, kC, kG, kA, kB, kE, gD, Result.ok.injEq, Next.value.injEq, true_and, and_true, gX, iA, iU, iR, iS, jF, aB0, gV, gU, gW, gT, gO, gJ, gP, gN, gB, fV, if_true, if_false, aBZ, aB4, aB1, aB2, aB5, aB3, aBY, aBX, fQ, fL, fE, fR, cU, eS, eF, dK, bP, fS, eY, aP, dB, aX, bQ, bM, aO, cO, cJ, eQ, aE, gS, aJ, cK, aT, bU, fT, cI, cF, aD, gA, fD, aN, aF, bO, gQ, aI, eX, dT, dV, gF, dE, fB, cZ, eH, fF, fC, cG, dG, gK, dN, bZ, aS, bV, bT, fN, aG, aH, aQ, bA, bE, cP, bK, aA, fA, aR, cL, fJ, eU, gG, bJ, eL, eN, bY, fW, eZ, eJ, dH, cQ, dD, aY, bD, aL, fZ, aM, dA, eE, bB, cC, fK, dL, gC, fM, fG, fI, dS, aK, cH, cY, fY, fX, fH, dC, aV, dX, fU, cS, eT, fO, cD, bL, dR, aZ, dW, dQ, cM, eM, eK, bF, dF, bG, eD, dU, dZ, bN, cR, cN, dO, bS, cW, cV, fP, cB, eI, eP, gE, dY, dP, dM, dI, bH, bR, bW, bX, aU, cX, aW, o1.cell, MW h1 h21]
  refine LC o1 rfl (by rw [uF h1 h21]; omega) fun w2 o2 x2 s2 => ?_
  rw [<- Int.natCast_add, QZ h1 h21] at o2
  have hx2 : jN w' w2 (fun x => x = b) := ((jN.dr w' _).seq x1).seq x2
  have hv2 := hv.ext hx2 hb
  have hv3 := hv2.drop hu1.1
  have hb3 := anR (k := u) hb (by omega) (n - u)
  rw [<- aDW, aDm] at hv3
  have hM2 : L ++ l.take (m + u) = (L ++ l.take m) ++ (l.drop m).take u := by rw [aCr, List.take_add]
  have hacc : T7 q (L ++ l.take (m + u)) = T7 q (L ++ l.take m) := by rw [hM2]; exact Zu _ _ _ (by omega)
  have hlen2 : (L ++ l.take (m + u)).length = L.length + (m + u) := by simp; omega
  have hkeep : kept1.take (r + u) = (L ++ l.take (m + u)).drop (32 * q) := by
   rw [hk1, hM2, aDN (by omega), <- hk]
   unfold PY
   rw [aC2 (by simp; omega), aCg (by simp; omega)]
  rw [<- hacc] at o2
  simp (disch := omega) only [gI, jD, dJ, stepR_skip, hJ, iC, iM, iP, iL, iN, jJ, iX, gM, iE, iG, iI, iH, gY, iO, hZ, iF, iV, iW, iJ, gR, iT, iQ, iD, jV, jW, kF, kD, kC, kG, kA, kB, kE, gD, Result.ok.injEq, Next.value.injEq, true_and, and_true, gX, iA, iU, iR, iS, jF, aB0, gV, gU, gW, gT, gO, gJ, gP, gN, gB, fV, if_true, if_false, aBZ, aB4, aB1, aB2, aB5, aB3, aBY, aBX, fQ, fL, fE, fR, cU, eS, eF, dK, bP, fS, eY, aP, dB, aX, bQ, bM, aO, cO, cJ, eQ, aE, gS, aJ, cK, aT, bU, fT, cI, cF, aD, gA, fD, aN, aF, bO, gQ, aI, eX, dT, dV, gF, dE, fB, cZ, eH, fF, fC, cG, dG, gK, dN, bZ, aS, bV, bT, fN, aG, aH, aQ, bA, bE, cP, bK, aA, fA, aR, cL, fJ, eU, gG, bJ, eL, eN, bY, fW, eZ, eJ, dH, cQ, dD, aY, bD, aL, fZ, aM, dA, eE, bB, cC, fK, dL, gC, fM, fG, fI, dS, aK, cH, cY, fY, fX, fH, dC, aV, dX, fU, cS, eT, fO, cD, bL, dR, aZ, dW, dQ, cM, eM, eK, bF, dF, bG, eD, dU, dZ, bN, cR, cN, dO, bS, cW, cV, fP, cB, eI, eP, gE, dY, dP, dM, dI, bH, bR, bW, bX, aU, cX, aW, o2.cell, MW (Cd _ _) h21]
  by_cases hfull : r + u = 32
  .have he : (((r + u : Nat) : Int) == 32) = true := by rw [hfull] <;> rfl
   rw [he]
   simp (disch := omega) only [gI, jD, dJ, stepR_skip, hJ, iC, iM, iP, iL, iN, jJ, iX, gM, iE, iG, iI, iH, gY, iO, hZ, iF, iV, iW, iJ, gR, iT, iQ, iD, jV, jW, kF, kD, kC, kG, kA, kB, kE, gD, Result.ok.injEq, Next.value.injEq, true_and, and_true, gX, iA, iU, iR, iS, jF, aB0, gV, gU, gW, gT, gO, gJ, gP, gN, gB, fV, if_true, if_false, aBZ, aB4, aB1, aB2, aB5, aB3, aBY, aBX, fQ, fL, fE, fR, cU, eS, eF, dK, bP, fS, eY, aP, dB, aX, bQ, bM, aO, cO, cJ, eQ, aE, gS, aJ, cK, aT, bU, fT, cI, cF, aD, gA, fD, aN, aF, bO, gQ, aI, eX, dT, dV, gF, dE, fB, cZ, eH, fF, fC, cG, dG, gK, dN, bZ, aS, bV, bT, fN, aG, aH, aQ, bA, bE, cP, bK, aA, fA, aR, cL, fJ, eU, gG, bJ, eL, eN, bY, fW, eZ, eJ, dH, cQ, dD, aY, bD, aL, fZ, aM, dA, eE, bB, cC, fK, dL, gC, fM, fG, fI, dS, aK, cH, cY, fY, fX, fH, dC, aV, dX, fU, cS, eT, fO, cD, bL, dR, aZ, dW, dQ, cM, eM, eK, bF, dF, bG, eD, dU, dZ, bN, cR, cN, dO, bS, cW, cV, fP, cB, eI, eP, gE, dY, dP, dM, dI, bH, bR, bW, bX, aU, cX, aW]
   rw [hfull] at o2 hkeep
   have h11 := Cd q (L ++ l.take (m + u))
   refine afS w2 b _ kept1 _ h11 h21 _ _ (fun w3 o3 x3 => ?_) w2 o2 (jN.refl _ _)
   have h13 : (Tg (T7 q (L ++ l.take (m + u))) kept1 4).length = 4 := by rw [yZ]; exact h11
   simp (disch := omega) only [sF, uL, uI, Ae, uJ, wH, vP, BJ, sZ, gI, jD, dJ, stepR_skip, hJ, iC, iM, iP, iL, iN, jJ, iX, gM, iE, iG, iI, iH, gY, iO, hZ, iF, iV, iW, iJ, gR, iT, iQ, iD, jV, jW, kF, kD, kC, kG, kA, kB, kE, gD, Result.ok.injEq, Next.value.injEq, true_and, and_true, gX, iA, iU, iR, iS, jF, aB0, gV, gU, gW, gT, gO, gJ, gP, gN, gB, fV, if_true, if_false, aBZ, aB4, aB1, aB2, aB5, aB3, aBY, aBX, fQ, fL, fE, fR, cU, eS, eF, dK, bP, fS, eY, aP, dB, aX, bQ, bM, aO, cO, cJ, eQ, aE, gS, aJ, cK, aT, bU, fT, cI, cF, aD, gA, fD, aN, aF, bO, gQ, aI, eX, dT, dV, gF, dE, fB, cZ, eH, fF, fC, cG, dG, gK, dN, bZ, aS, bV, bT, fN, aG, aH, aQ, bA, bE, cP, bK, aA, fA, aR, cL, fJ, eU, gG, bJ, eL, eN, bY, fW, eZ, eJ, dH, cQ, dD, aY, bD, aL, fZ, aM, dA, eE, bB, cC, fK, dL, gC, fM, fG, fI, dS, aK, cH, cY, fY, fX, fH, dC, aV, dX, fU, cS, eT, fO, cD, bL, dR, aZ, dW, dQ, cM, eM, eK, bF, dF, bG, eD, dU, dZ, bN, cR, cN, dO, bS, cW, cV, fP, cB, eI, eP, gE, dY, dP, dM, dI, bH, bR, bW, bX, aU, cX, aW]
   refine LC o3 rfl (by rw [uF h13 h21]; omega) fun w4 o4 x4 s4 => ?_
   have o4 : lN w4 b ((lS (Tg (T7 q (L ++ l.take (m + u))) kept1 4) kept1 32 (L.length + l.length)).set 36 (.int .i64 ((0 : Nat) : Int))) := o4
   rw [QZ h13 h21] at o4
   have hx4 := x3.seq x4
   have hkk : kept1 = (L ++ l.take (m + u)).drop (32 * q) := by rw [<- hkeep, aCg (by omega)]
   refine ⟨l.length - (m + u), by omega, m + u, by omega, rfl, hv3.ext hx4 hb3, hb3, ⟨kept1, h21, ?_, ?_⟩, (hx.seq hx2).seq hx4⟩
   .have z : (L ++ l.take (m + u)).drop (32 * ((L.length + (m + u)) / 32)) = [] := aDM (by rw [hlen2]; omega)
    have z1 : (L.length + (m + u)) % 32 = 0 := by omega
    rw [hlen2, z, z1] <;> rfl
   .have z1 : (L.length + (m + u)) % 32 = 0 := by omega
    have z2 : (L.length + (m + u)) / 32 = q + 1 := by omega
    have z3 : kept1.take 32 = kept1 := aCg (by omega)
    rw [hlen2, z1, z2, T7, <- hkk, z3]
    exact o4
  .have he : (((r + u : Nat) : Int) == 32) = false := by rw [beq_eq_false_iff_ne]; omega
   rw [he]
   simp (disch := omega) only [gI, jD, dJ, stepR_skip, hJ, iC, iM, iP, iL, iN, jJ, iX, gM, iE, iG, iI, iH, gY, iO, hZ, iF, iV, iW, iJ, gR, iT, iQ, iD, jV, jW, kF, kD, kC, kG, kA, kB, kE, gD, Result.ok.injEq, Next.value.injEq, true_and, and_true, gX, iA, iU, iR, iS, jF, aB0, gV, gU, gW, gT, gO, gJ, gP, gN, gB, fV, if_true, if_false, aBZ, aB4, aB1, aB2, aB5, aB3, aBY, aBX, fQ, fL, fE, fR, cU, eS, eF, dK, bP, fS, eY, aP, dB, aX, bQ, bM, aO, cO, cJ, eQ, aE, gS, aJ, cK, aT, bU, fT, cI, cF, aD, gA, fD, aN, aF, bO, gQ, aI, eX, dT, dV, gF, dE, fB, cZ, eH, fF, fC, cG, dG, gK, dN, bZ, aS, bV, bT, fN, aG, aH, aQ, bA, bE, cP, bK, aA, fA, aR, cL, fJ, eU, gG, bJ, eL, eN, bY, fW, eZ, eJ, dH, cQ, dD, aY, bD, aL, fZ, aM, dA, eE, bB, cC, fK, dL, gC, fM, fG, fI, dS, aK, cH, cY, fY, fX, fH, dC, aV, dX, fU, cS, eT, fO, cD, bL, dR, aZ, dW, dQ, cM, eM, eK, bF, dF, bG, eD, dU, dZ, bN, cR, cN, dO, bS, cW, cV, fP, cB, eI, eP, gE, dY, dP, dM, dI, bH, bR, bW, bX, aU, cX, aW]
   refine ⟨l.length - (m + u), by omega, m + u, by omega, rfl, hv3, hb3, ⟨kept1, h21, ?_, ?_⟩, hx.seq hx2⟩
   .rw [hlen2, show (L.length + (m + u)) % 32 = r + u from by omega, show (L.length + (m + u)) / 32 = q from by omega]; exact hkeep
   .rw [hlen2, show (L.length + (m + u)) % 32 = r + u from by omega, show (L.length + (m + u)) / 32 = q from by omega]; exact o2
 .have hd : decide ((0 : Int) < (n : Int)) = false := by simp; omega
  simp (disch := omega) only [sF, uL, uI, Ae, uJ, wH, vP, BJ, sZ, gI, jD, dJ, stepR_skip, hJ, iC, iM, iP, iL, iN, jJ, iX, gM, iE, iG, iI, iH, gY, iO, hZ, iF, iV, iW, iJ, gR, iT, iQ, iD, jV, jW, kF, kD, kC, kG, kA, kB, kE, gD, Result.ok.injEq, Next.value.injEq, true_and, and_true, gX, iA, iU, iR, iS, jF, aB0, gV, gU, gW, gT, gO, gJ, gP, gN, gB, fV, if_true, if_false, aBZ, aB4, aB1, aB2, aB5, aB3, aBY, aBX, fQ, fL, fE, fR, cU, eS, eF, dK, bP, fS, eY, aP, dB, aX, bQ, bM, aO, cO, cJ, eQ, aE, gS, aJ, cK, aT, bU, fT, cI, cF, aD, gA, fD, aN, aF, bO, gQ, aI, eX, dT, dV, gF, dE, fB, cZ, eH, fF, fC, cG, dG, gK, dN, bZ, aS, bV, bT, fN, aG, aH, aQ, bA, bE, cP, bK, aA, fA, aR, cL, fJ, eU, gG, bJ, eL, eN, bY, fW, eZ, eJ, dH, cQ, dD, aY, bD, aL, fZ, aM, dA, eE, bB, cC, fK, dL, gC, fM, fG, fI, dS, aK, cH, cY, fY, fX, fH, dC, aV, dX, fU, cS, eT, fO, cD, bL, dR, aZ, dW, dQ, cM, eM, eK, bF, dF, bG, eD, dU, dZ, bN, cR, cN, dO, bS, cW, cV, fP, cB, eI, eP, gE, dY, dP, dM, dI, bH, bR, bW, bX, aU, cX, aW, hd]
  refine hR _ ⟨kept, h2, ?_, ?_⟩ hx
  .have e : l.take m = l := aCg (by omega)
   rw [e] at hk; exact hk
  .have e : l.take m = l := aCg (by omega)
   rw [e] at ho; exact ho
theorem apP (b : Nat) (L l : List UInt8) (hlen : L.length + l.length <= 1099511627776) (v : aEm) (w : aEl) (h : YN w b L) (hv : Bs w v l) (hb : ¬ MO v (fun x => x = b)) :
 jE pg CK #[.pointer (some ⟨b, 0, none⟩), v] w (fun r w' => r = .tuple #[] /\ YN w' b (L ++ l) /\ jN w w' (fun x => x = b)) := by
 refine UA ?_
 obtain ⟨kept, h2, hk, ho⟩ := h
 have h1 := Cd (L.length / 32) L
 have hv' := hv
 obtain ⟨a, n, c, rfl, hn, hc, hcell⟩ := hv'
 rw [aB6] at hn
 simp (disch := omega) only [TV, EA, ES, ER, gI, jD, dJ, stepR_skip, hJ, iC, iM, iP, iL, iN, jJ, iX, gM, iE, iG, iI, iH, gY, iO, hZ, iF, iV, iW, iJ, gR, iT, iQ, iD, jV, jW, kF, kD, kC, kG, kA, kB, kE, gD, Result.ok.injEq, Next.value.injEq, true_and, and_true, gX, iA, iU, iR, iS, jF, aB0, gV, gU, gW, gT, gO, gJ, gP, gN, gB, fV, if_true, if_false, aBZ, aB4, aB1, aB2, aB5, aB3, aBY, aBX, fQ, fL, fE, fR, cU, eS, eF, dK, bP, fS, eY, aP, dB, aX, bQ, bM, aO, cO, cJ, eQ, aE, gS, aJ, cK, aT, bU, fT, cI, cF, aD, gA, fD, aN, aF, bO, gQ, aI, eX, dT, dV, gF, dE, fB, cZ, eH, fF, fC, cG, dG, gK, dN, bZ, aS, bV, bT, fN, aG, aH, aQ, bA, bE, cP, bK, aA, fA, aR, cL, fJ, eU, gG, bJ, eL, eN, bY, fW, eZ, eJ, dH, cQ, dD, aY, bD, aL, fZ, aM, dA, eE, bB, cC, fK, dL, gC, fM, fG, fI, dS, aK, cH, cY, fY, fX, fH, dC, aV, dX, fU, cS, eT, fO, cD, bL, dR, aZ, dW, dQ, cM, eM, eK, bF, dF, bG, eD, dU, dZ, bN, cR, cN, dO, bS, cW, cV, fP, cB, eI, eP, gE, dY, dP, dM, dI, bH, bR, bW, bX, aU, cX, aW, ho.cell, IC h1 h2]
 refine J2 ho rfl (by rw [uF h1 h2]; omega) fun w1 o1 x1 s1 => ?_
 rw [<- Int.natCast_add, hn, WJ h1 h2] at o1
 refine afM w b L l hlen _ (fun w' hh hx => ⟨?_, hx⟩) _ w1 ⟨kept, h2, hk, o1⟩ (hv.ext x1 hb) hb x1
 unfold YN; rw [aB7]; exact hh
def jA (vs : List Int) : Nat -> Int
 | 0 => 0
 | i + 1 => IntKind.u64.wrap (jA vs i + akO (vs.getD i 0) ([1, 7, 12, 18].getD i 0))
def jB (vs : List Int) : Nat -> Int
 | 0 => jA vs 4
 | i + 1 => IntKind.u64.wrap (IntKind.u64.wrap (Vw .u64 (jB vs i) (apX 0 (vs.getD i 0)) * 11400714785074694791) + 9650029242287828579)
def aiO (L : List UInt8) : Int := if L.length < 32 then 2870177450012600261 else jB (T7 (L.length / 32) L) 4
def aqX (x : Int) : Int :=
 let y1 := IntKind.u64.wrap (Vw .u64 x (x.fdiv (2 ^ min (33 : Int).toNat IntKind.u64.bits)) * 14029467366897019727)
 let y2 := IntKind.u64.wrap (Vw .u64 y1 (y1.fdiv (2 ^ min (29 : Int).toNat IntKind.u64.bits)) * 1609587929392839161)
 Vw .u64 y2 (y2.fdiv (2 ^ min (32 : Int).toNat IntKind.u64.bits))
def amK (x m : Int) : Int := IntKind.u64.wrap (IntKind.u64.wrap (akO (Vw .u64 x (apX 0 m)) 27 * 11400714785074694791) + 9650029242287828579)
def ayA (x m : Int) : Int := IntKind.u64.wrap (IntKind.u64.wrap (akO (Vw .u64 x (IntKind.u64.wrap (m * 11400714785074694791))) 23 * 14029467366897019727) + 1609587929392839161)
def aAU (x : Int) (c : UInt8) : Int := IntKind.u64.wrap (akO (Vw .u64 x (IntKind.u64.wrap ((c.toNat : Int) * 2870177450012600261))) 11 * 11400714785074694791)
def e8 (x : Int) (B : List UInt8) : Nat -> Int
 | 0 => x
 | j + 1 => amK (e8 x B j) (Hg ((B.drop (8 * j)).take 8))
def e1 (x : Int) (B : List UInt8) : Nat -> Int
 | 0 => x
 | j + 1 => aAU (e1 x B j) (B.getD j 0)
def X9 (x : Int) (C : List UInt8) : Int × List UInt8 := if 4 <= C.length then (ayA x (Hg (C.take 4)), C.drop 4) else (x, C)
def atC (x : Int) (B : List UInt8) : Int :=
 let r := X9 (e8 x B (B.length / 8)) (B.drop (8 * (B.length / 8)))
 e1 r.1 r.2 r.2.length
def XXH (L : List UInt8) : Int := aqX (atC (IntKind.u64.wrap (aiO L + (L.length : Int))) (L.drop (32 * (L.length / 32))))
theorem akX (b : Nat) (L : List UInt8) (hlen : L.length <= 1099511627776) (w : aEl) (h : YN w b L) :
 jE pg BL #[.pointer (some ⟨b, 0, none⟩)] w (fun r w' => r = .int .u64 (aiO L) /\ w' = w) := by
 refine Ts ?_
 obtain ⟨kept, h2, hk, ho⟩ := h
 have h1 := Cd (L.length / 32) L
 by_cases hs : L.length < 32
 .have hd : decide ((L.length : Int) < 32) = true := by simp; omega
  simp (disch := omega) only [Jf, xF, xE, gI, jD, dJ, stepR_skip, hJ, iC, iM, iP, iL, iN, jJ, iX, gM, iE, iG, iI, iH, gY, iO, hZ, iF, iV, iW, iJ, gR, iT, iQ, iD, jV, jW, kF, kD, kC, kG, kA, kB, kE, gD, Result.ok.injEq, Next.value.injEq, true_and, and_true, gX, iA, iU, iR, iS, jF, aB0, gV, gU, gW, gT, gO, gJ, gP, gN, gB, fV, if_true, if_false, aBZ, aB4, aB1, aB2, aB5, aB3, aBY, aBX, fQ, fL, fE, fR, cU, eS, eF, dK, bP, fS, eY, aP, dB, aX, bQ, bM, aO, cO, cJ, eQ, aE, gS, aJ, cK, aT, bU, fT, cI, cF, aD, gA, fD, aN, aF, bO, gQ, aI, eX, dT, dV, gF, dE, fB, cZ, eH, fF, fC, cG, dG, gK, dN, bZ, aS, bV, bT, fN, aG, aH, aQ, bA, bE, cP, bK, aA, fA, aR, cL, fJ, eU, gG, bJ, eL, eN, bY, fW, eZ, eJ, dH, cQ, dD, aY, bD, aL, fZ, aM, dA, eE, bB, cC, fK, dL, gC, fM, fG, fI, dS, aK, cH, cY, fY, fX, fH, dC, aV, dX, fU, cS, eT, fO, cD, bL, dR, aZ, dW, dQ, cM, eM, eK, bF, dF, bG, eD, dU, dZ, bN, cR, cN, dO, bS, cW, cV, fP, cB, eI, eP, gE, dY, dP, dM, dI, bH, bR, bW, bX, aU, cX, aW, ho.cell, IC h1 h2, hd, aiO, hs]
 .have hd : decide ((L.length : Int) < 32) = false := by simp; omega
  obtain ⟨vs, hvs⟩ : ∃ vs, vs = T7 (L.length / 32) L := ⟨_, rfl⟩
  have hH : aiO L = jB vs 4 := by rw [hvs]; unfold aiO; rw [if_neg hs]
  rw [hH]
  rw [<- hvs] at ho h1
  clear hvs hH
  simp (disch := omega) only [Jf, zS, Ef, EK, EZ, Ew, Ey, Et, Du, Dh, Da, CV, xE, xF, gI, jD, dJ, stepR_skip, hJ, iC, iM, iP, iL, iN, jJ, iX, gM, iE, iG, iI, iH, gY, iO, hZ, iF, iV, iW, iJ, gR, iT, iQ, iD, jV, jW, kF, kD, kC, kG, kA, kB, kE, gD, Result.ok.injEq, Next.value.injEq, true_and, and_true, gX, iA, iU, iR, iS, jF, aB0, gV, gU, gW, gT, gO, gJ, gP, gN, gB, fV, if_true, if_false, aBZ, aB4, aB1, aB2, aB5, aB3, aBY, aBX, fQ, fL, fE, fR, cU, eS, eF, dK, bP, fS, eY, aP, dB, aX, bQ, bM, aO, cO, cJ, eQ, aE, gS, aJ, cK, aT, bU, fT, cI, cF, aD, gA, fD, aN, aF, bO, gQ, aI, eX, dT, dV, gF, dE, fB, cZ, eH, fF, fC, cG, dG, gK, dN, bZ, aS, bV, bT, fN, aG, aH, aQ, bA, bE, cP, bK, aA, fA, aR, cL, fJ, eU, gG, bJ, eL, eN, bY, fW, eZ, eJ, dH, cQ, dD, aY, bD, aL, fZ, aM, dA, eE, bB, cC, fK, dL, gC, fM, fG, fI, dS, aK, cH, cY, fY, fX, fH, dC, aV, dX, fU, cS, eT, fO, cD, bL, dR, aZ, dW, dQ, cM, eM, eK, bF, dF, bG, eD, dU, dZ, bN, cR, cN, dO, bS, cW, cV, fP, cB, eI, eP, gE, dY, dP, dM, dI, bH, bR, bW, bX, aU, cX, aW, ho.cell, IC h1 h2, hd]
  refine kP.rule (fun n t w' => ∃ i : Nat, i <= 4 /\ n = 4 - i /\ t = (.int .u64 (jA vs i), .int .i64 (i : Int)) /\ w' = w) 4 ⟨0, by omega, rfl, rfl, rfl⟩ ?_
  rintro n t w' ⟨i, hi, rfl, rfl, rfl⟩
  by_cases hlt : i < 4
  .have hd : decide ((i : Int) < 4) = true := by simp; omega
   have hv := Zs (vs := vs) (kept := kept) (n := L.length % 32) (all := L.length) i (by omega)
   have hg : (#[Value.int .i64 1, .int .i64 7, .int .i64 12, .int .i64 18] : Array aEm)[i]? = some (.int .i64 (([1, 7, 12, 18].getD i 0 : Nat) : Int)) := by
    have : i = 0 ∨ i = 1 ∨ i = 2 ∨ i = 3 := by omega
    rcases this with rfl | rfl | rfl | rfl <;> rfl
   have ht : [1, 7, 12, 18].getD i 0 < 64 := by
    have : i = 0 ∨ i = 1 ∨ i = 2 ∨ i = 3 := by omega
    rcases this with rfl | rfl | rfl | rfl <;> decide
   simp (disch := omega) only [uN, gI, jD, dJ, stepR_skip, hJ, iC, iM, iP, iL, iN, jJ, iX, gM, iE, iG, iI, iH, gY, iO, hZ, iF, iV, iW, iJ, gR, iT, iQ, iD, jV, jW, kF, kD, kC, kG, kA, kB, kE, gD, Result.ok.injEq, Next.value.injEq, true_and, and_true, gX, iA, iU, iR, iS, jF, aB0, gV, gU, gW, gT, gO, gJ, gP, gN, gB, fV, if_true, if_false, aBZ, aB4, aB1, aB2, aB5, aB3, aBY, aBX, fQ, fL, fE, fR, cU, eS, eF, dK, bP, fS, eY, aP, dB, aX, bQ, bM, aO, cO, cJ, eQ, aE, gS, aJ, cK, aT, bU, fT, cI, cF, aD, gA, fD, aN, aF, bO, gQ, aI, eX, dT, dV, gF, dE, fB, cZ, eH, fF, fC, cG, dG, gK, dN, bZ, aS, bV, bT, fN, aG, aH, aQ, bA, bE, cP, bK, aA, fA, aR, cL, fJ, eU, gG, bJ, eL, eN, bY, fW, eZ, eJ, dH, cQ, dD, aY, bD, aL, fZ, aM, dA, eE, bB, cC, fK, dL, gC, fM, fG, fI, dS, aK, cH, cY, fY, fX, fH, dC, aV, dX, fU, cS, eT, fO, cD, bL, dR, aZ, dW, dQ, cM, eM, eK, bF, dF, bG, eD, dU, dZ, bN, cR, cN, dO, bS, cW, cV, fP, cB, eI, eP, gE, dY, dP, dM, dI, bH, bR, bW, bX, aU, cX, aW, hd, hg, ho.cell, hv]
   refine (Xx _ _ ht _).mono ?_
   rintro r w1 ⟨rfl, rfl⟩
   simp (disch := omega) only [gI, jD, dJ, stepR_skip, hJ, iC, iM, iP, iL, iN, jJ, iX, gM, iE, iG, iI, iH, gY, iO, hZ, iF, iV, iW, iJ, gR, iT, iQ, iD, jV, jW, kF, kD, kC, kG, kA, kB, kE, gD, Result.ok.injEq, Next.value.injEq, true_and, and_true, gX, iA, iU, iR, iS, jF, aB0, gV, gU, gW, gT, gO, gJ, gP, gN, gB, fV, if_true, if_false, aBZ, aB4, aB1, aB2, aB5, aB3, aBY, aBX, fQ, fL, fE, fR, cU, eS, eF, dK, bP, fS, eY, aP, dB, aX, bQ, bM, aO, cO, cJ, eQ, aE, gS, aJ, cK, aT, bU, fT, cI, cF, aD, gA, fD, aN, aF, bO, gQ, aI, eX, dT, dV, gF, dE, fB, cZ, eH, fF, fC, cG, dG, gK, dN, bZ, aS, bV, bT, fN, aG, aH, aQ, bA, bE, cP, bK, aA, fA, aR, cL, fJ, eU, gG, bJ, eL, eN, bY, fW, eZ, eJ, dH, cQ, dD, aY, bD, aL, fZ, aM, dA, eE, bB, cC, fK, dL, gC, fM, fG, fI, dS, aK, cH, cY, fY, fX, fH, dC, aV, dX, fU, cS, eT, fO, cD, bL, dR, aZ, dW, dQ, cM, eM, eK, bF, dF, bG, eD, dU, dZ, bN, cR, cN, dO, bS, cW, cV, fP, cB, eI, eP, gE, dY, dP, dM, dI, bH, bR, bW, bX, aU, cX, aW]
   refine ⟨4 - (i + 1), by omega, i + 1, by omega, rfl, ?_⟩
   have hvd : vs.getD i 0 = vs[i]'(by omega) := by rw [aB9, aB8 (by omega)] <;> rfl
   rw [jA, hvd]
   rfl
  .have : i = 4 := by omega
   subst this
   have hd : decide (((4 : Nat) : Int) < 4) = false := by simp
   have ha := aaN (off := 0) ho (by rw [uF h1 h2]; omega)
   have hb : ((lS vs kept (L.length % 32) L.length).drop 0).take 4 = vs.map (Value.int .u64) := by
    rw [aCs]; unfold lS; rw [aC2 (by simp; omega), aCg (by simp; omega)]
   rw [hb] at ha
   simp (disch := omega) only [uN, gI, jD, dJ, stepR_skip, hJ, iC, iM, iP, iL, iN, jJ, iX, gM, iE, iG, iI, iH, gY, iO, hZ, iF, iV, iW, iJ, gR, iT, iQ, iD, jV, jW, kF, kD, kC, kG, kA, kB, kE, gD, Result.ok.injEq, Next.value.injEq, true_and, and_true, gX, iA, iU, iR, iS, jF, aB0, gV, gU, gW, gT, gO, gJ, gP, gN, gB, fV, if_true, if_false, aBZ, aB4, aB1, aB2, aB5, aB3, aBY, aBX, fQ, fL, fE, fR, cU, eS, eF, dK, bP, fS, eY, aP, dB, aX, bQ, bM, aO, cO, cJ, eQ, aE, gS, aJ, cK, aT, bU, fT, cI, cF, aD, gA, fD, aN, aF, bO, gQ, aI, eX, dT, dV, gF, dE, fB, cZ, eH, fF, fC, cG, dG, gK, dN, bZ, aS, bV, bT, fN, aG, aH, aQ, bA, bE, cP, bK, aA, fA, aR, cL, fJ, eU, gG, bJ, eL, eN, bY, fW, eZ, eJ, dH, cQ, dD, aY, bD, aL, fZ, aM, dA, eE, bB, cC, fK, dL, gC, fM, fG, fI, dS, aK, cH, cY, fY, fX, fH, dC, aV, dX, fU, cS, eT, fO, cD, bL, dR, aZ, dW, dQ, cM, eM, eK, bF, dF, bG, eD, dU, dZ, bN, cR, cN, dO, bS, cW, cV, fP, cB, eI, eP, gE, dY, dP, dM, dI, bH, bR, bW, bX, aU, cX, aW, hd, ha]
   refine kP.rule (fun n t w2 => ∃ i : Nat, i <= 4 /\ n = 4 - i /\ t = (.int .u64 (jB vs i), .int .i64 (i : Int)) /\ w2 = w') 4 ⟨0, by omega, rfl, rfl, rfl⟩ ?_
   rintro n t w2 ⟨i, hi, rfl, rfl, rfl⟩
   by_cases hlt : i < 4
   .have hd : decide ((i : Int) < 4) = true := by simp; omega
    have hg : ((vs.map (Value.int .u64)).toArray)[i]? = some (.int .u64 (vs[i]'(by omega))) := by simp [show i < vs.length by omega]
    simp (disch := omega) only [uP, gI, jD, dJ, stepR_skip, hJ, iC, iM, iP, iL, iN, jJ, iX, gM, iE, iG, iI, iH, gY, iO, hZ, iF, iV, iW, iJ, gR, iT, iQ, iD, jV, jW, kF, kD, kC, kG, kA, kB, kE, gD, Result.ok.injEq, Next.value.injEq, true_and, and_true, gX, iA, iU, iR, iS, jF, aB0, gV, gU, gW, gT, gO, gJ, gP, gN, gB, fV, if_true, if_false, aBZ, aB4, aB1, aB2, aB5, aB3, aBY, aBX, fQ, fL, fE, fR, cU, eS, eF, dK, bP, fS, eY, aP, dB, aX, bQ, bM, aO, cO, cJ, eQ, aE, gS, aJ, cK, aT, bU, fT, cI, cF, aD, gA, fD, aN, aF, bO, gQ, aI, eX, dT, dV, gF, dE, fB, cZ, eH, fF, fC, cG, dG, gK, dN, bZ, aS, bV, bT, fN, aG, aH, aQ, bA, bE, cP, bK, aA, fA, aR, cL, fJ, eU, gG, bJ, eL, eN, bY, fW, eZ, eJ, dH, cQ, dD, aY, bD, aL, fZ, aM, dA, eE, bB, cC, fK, dL, gC, fM, fG, fI, dS, aK, cH, cY, fY, fX, fH, dC, aV, dX, fU, cS, eT, fO, cD, bL, dR, aZ, dW, dQ, cM, eM, eK, bF, dF, bG, eD, dU, dZ, bN, cR, cN, dO, bS, cW, cV, fP, cB, eI, eP, gE, dY, dP, dM, dI, bH, bR, bW, bX, aU, cX, aW, hd, hg]
    refine (Ys _ _ _).mono ?_
    rintro r w1 ⟨rfl, rfl⟩
    simp (disch := omega) only [gI, jD, dJ, stepR_skip, hJ, iC, iM, iP, iL, iN, jJ, iX, gM, iE, iG, iI, iH, gY, iO, hZ, iF, iV, iW, iJ, gR, iT, iQ, iD, jV, jW, kF, kD, kC, kG, kA, kB, kE, gD, Result.ok.injEq, Next.value.injEq, true_and, and_true, gX, iA, iU, iR, iS, jF, aB0, gV, gU, gW, gT, gO, gJ, gP, gN, gB, fV, if_true, if_false, aBZ, aB4, aB1, aB2, aB5, aB3, aBY, aBX, fQ, fL, fE, fR, cU, eS, eF, dK, bP, fS, eY, aP, dB, aX, bQ, bM, aO, cO, cJ, eQ, aE, gS, aJ, cK, aT, bU, fT, cI, cF, aD, gA, fD, aN, aF, bO, gQ, aI, eX, dT, dV, gF, dE, fB, cZ, eH, fF, fC, cG, dG, gK, dN, bZ, aS, bV, bT, fN, aG, aH, aQ, bA, bE, cP, bK, aA, fA, aR, cL, fJ, eU, gG, bJ, eL, eN, bY, fW, eZ, eJ, dH, cQ, dD, aY, bD, aL, fZ, aM, dA, eE, bB, cC, fK, dL, gC, fM, fG, fI, dS, aK, cH, cY, fY, fX, fH, dC, aV, dX, fU, cS, eT, fO, cD, bL, dR, aZ, dW, dQ, cM, eM, eK, bF, dF, bG, eD, dU, dZ, bN, cR, cN, dO, bS, cW, cV, fP, cB, eI, eP, gE, dY, dP, dM, dI, bH, bR, bW, bX, aU, cX, aW]
    refine ⟨4 - (i + 1), by omega, i + 1, by omega, rfl, ?_⟩
    have hvd : vs.getD i 0 = vs[i]'(by omega) := by rw [aB9, aB8 (by omega)] <;> rfl
    rw [jB, hvd]
    rfl
   .have : i = 4 := by omega
    subst this
    have hd : decide (((4 : Nat) : Int) < 4) = false := by simp
    simp (disch := omega) only [uP, gI, jD, dJ, stepR_skip, hJ, iC, iM, iP, iL, iN, jJ, iX, gM, iE, iG, iI, iH, gY, iO, hZ, iF, iV, iW, iJ, gR, iT, iQ, iD, jV, jW, kF, kD, kC, kG, kA, kB, kE, gD, Result.ok.injEq, Next.value.injEq, true_and, and_true, gX, iA, iU, iR, iS, jF, aB0, gV, gU, gW, gT, gO, gJ, gP, gN, gB, fV, if_true, if_false, aBZ, aB4, aB1, aB2, aB5, aB3, aBY, aBX, fQ, fL, fE, fR, cU, eS, eF, dK, bP, fS, eY, aP, dB, aX, bQ, bM, aO, cO, cJ, eQ, aE, gS, aJ, cK, aT, bU, fT, cI, cF, aD, gA, fD, aN, aF, bO, gQ, aI, eX, dT, dV, gF, dE, fB, cZ, eH, fF, fC, cG, dG, gK, dN, bZ, aS, bV, bT, fN, aG, aH, aQ, bA, bE, cP, bK, aA, fA, aR, cL, fJ, eU, gG, bJ, eL, eN, bY, fW, eZ, eJ, dH, cQ, dD, aY, bD, aL, fZ, aM, dA, eE, bB, cC, fK, dL, gC, fM, fG, fI, dS, aK, cH, cY, fY, fX, fH, dC, aV, dX, fU, cS, eT, fO, cD, bL, dR, aZ, dW, dQ, cM, eM, eK, bF, dF, bG, eD, dU, dZ, bN, cR, cN, dO, bS, cW, cV, fP, cB, eI, eP, gE, dY, dP, dM, dI, bH, bR, bW, bX, aU, cX, aW, hd]
theorem agG (w : aEl) (R : aEm -> aEl -> Prop) (y : Int) (D : List UInt8) (v : aEm) (hv : Bs w v D) (hD : D.length < 32) (hR : R (.int .u64 (aqX (e1 y D D.length))) w) :
 Eb R (.int .u64 y) v w := by
 have hv' := hv
 obtain ⟨a, n, c, rfl, hn, hc, hcell⟩ := hv'
 rw [aB6] at hn
 simp (disch := omega) only [Eb, Ji, Jd, Jq, Jr, gI, jD, dJ, stepR_skip, hJ, iC, iM, iP, iL, iN, jJ, iX, gM, iE, iG, iI, iH, gY, iO, hZ, iF, iV, iW, iJ, gR, iT, iQ, iD, jV, jW, kF, kD, kC, kG, kA, kB, kE, gD, Result.ok.injEq, Next.value.injEq, true_and, and_true, gX, iA, iU, iR, iS, jF, aB0, gV, gU, gW, gT, gO, gJ, gP, gN, gB, fV, if_true, if_false, aBZ, aB4, aB1, aB2, aB5, aB3, aBY, aBX, fQ, fL, fE, fR, cU, eS, eF, dK, bP, fS, eY, aP, dB, aX, bQ, bM, aO, cO, cJ, eQ, aE, gS, aJ, cK, aT, bU, fT, cI, cF, aD, gA, fD, aN, aF, bO, gQ, aI, eX, dT, dV, gF, dE, fB, cZ, eH, fF, fC, cG, dG, gK, dN, bZ, aS, bV, bT, fN, aG, aH, aQ, bA, bE, cP, bK, aA, fA, aR, cL, fJ, eU, gG, bJ, eL, eN, bY, fW, eZ, eJ, dH, cQ, dD, aY, bD, aL, fZ, aM, dA, eE, bB, cC, fK, dL, gC, fM, fG, fI, dS, aK, cH, cY, fY, fX, fH, dC, aV, dX, fU, cS, eT, fO, cD, bL, dR, aZ, dW, dQ, cM, eM, eK, bF, dF, bG, eD, dU, dZ, bN, cR, cN, dO, bS, cW, cV, fP, cB, eI, eP, gE, dY, dP, dM, dI, bH, bR, bW, bX, aU, cX, aW]
 refine kP.rule (fun m t w' => ∃ j : Nat, j <= n /\ m = n - j /\ t = (.int .u64 (e1 y D j), .int .i64 (j : Int)) /\ w' = w) n ⟨0, by omega, rfl, rfl, rfl⟩ ?_
 rintro m t w' ⟨j, hj, rfl, rfl, rfl⟩
 by_cases hlt : j < n
 .obtain ⟨b, off, rfl, hcell'⟩ := hcell (by omega)
  have hcl := hcell' j hlt
  rw [aCp, aB8 (by omega), aCB] at hcl
  have hb : (D[j]'(by omega)).toNat < 256 := aC7 _
  have hd : decide ((j : Int) < (n : Int)) = true := by simpa using hlt
  simp (disch := omega) only [AG, gI, jD, dJ, stepR_skip, hJ, iC, iM, iP, iL, iN, jJ, iX, gM, iE, iG, iI, iH, gY, iO, hZ, iF, iV, iW, iJ, gR, iT, iQ, iD, jV, jW, kF, kD, kC, kG, kA, kB, kE, gD, Result.ok.injEq, Next.value.injEq, true_and, and_true, gX, iA, iU, iR, iS, jF, aB0, gV, gU, gW, gT, gO, gJ, gP, gN, gB, fV, if_true, if_false, aBZ, aB4, aB1, aB2, aB5, aB3, aBY, aBX, fQ, fL, fE, fR, cU, eS, eF, dK, bP, fS, eY, aP, dB, aX, bQ, bM, aO, cO, cJ, eQ, aE, gS, aJ, cK, aT, bU, fT, cI, cF, aD, gA, fD, aN, aF, bO, gQ, aI, eX, dT, dV, gF, dE, fB, cZ, eH, fF, fC, cG, dG, gK, dN, bZ, aS, bV, bT, fN, aG, aH, aQ, bA, bE, cP, bK, aA, fA, aR, cL, fJ, eU, gG, bJ, eL, eN, bY, fW, eZ, eJ, dH, cQ, dD, aY, bD, aL, fZ, aM, dA, eE, bB, cC, fK, dL, gC, fM, fG, fI, dS, aK, cH, cY, fY, fX, fH, dC, aV, dX, fU, cS, eT, fO, cD, bL, dR, aZ, dW, dQ, cM, eM, eK, bF, dF, bG, eD, dU, dZ, bN, cR, cN, dO, bS, cW, cV, fP, cB, eI, eP, gE, dY, dP, dM, dI, bH, bR, bW, bX, aU, cX, aW, hd, hcl, nT]
  refine (Xx _ 11 (by omega) _).mono ?_
  rintro r w1 ⟨rfl, rfl⟩
  simp (disch := omega) only [gI, jD, dJ, stepR_skip, hJ, iC, iM, iP, iL, iN, jJ, iX, gM, iE, iG, iI, iH, gY, iO, hZ, iF, iV, iW, iJ, gR, iT, iQ, iD, jV, jW, kF, kD, kC, kG, kA, kB, kE, gD, Result.ok.injEq, Next.value.injEq, true_and, and_true, gX, iA, iU, iR, iS, jF, aB0, gV, gU, gW, gT, gO, gJ, gP, gN, gB, fV, if_true, if_false, aBZ, aB4, aB1, aB2, aB5, aB3, aBY, aBX, fQ, fL, fE, fR, cU, eS, eF, dK, bP, fS, eY, aP, dB, aX, bQ, bM, aO, cO, cJ, eQ, aE, gS, aJ, cK, aT, bU, fT, cI, cF, aD, gA, fD, aN, aF, bO, gQ, aI, eX, dT, dV, gF, dE, fB, cZ, eH, fF, fC, cG, dG, gK, dN, bZ, aS, bV, bT, fN, aG, aH, aQ, bA, bE, cP, bK, aA, fA, aR, cL, fJ, eU, gG, bJ, eL, eN, bY, fW, eZ, eJ, dH, cQ, dD, aY, bD, aL, fZ, aM, dA, eE, bB, cC, fK, dL, gC, fM, fG, fI, dS, aK, cH, cY, fY, fX, fH, dC, aV, dX, fU, cS, eT, fO, cD, bL, dR, aZ, dW, dQ, cM, eM, eK, bF, dF, bG, eD, dU, dZ, bN, cR, cN, dO, bS, cW, cV, fP, cB, eI, eP, gE, dY, dP, dM, dI, bH, bR, bW, bX, aU, cX, aW]
  refine ⟨n - (j + 1), by omega, j + 1, by omega, rfl, ?_⟩
  have hg : D.getD j 0 = D[j]'(by omega) := by rw [aB9, aB8 (by omega)] <;> rfl
  rw [e1, hg]
  rfl
 .have hd : decide ((j : Int) < (n : Int)) = false := by simpa using hlt
  have : j = D.length := by omega
  subst this
  simp (disch := omega) only [AG, D6, gI, jD, dJ, stepR_skip, hJ, iC, iM, iP, iL, iN, jJ, iX, gM, iE, iG, iI, iH, gY, iO, hZ, iF, iV, iW, iJ, gR, iT, iQ, iD, jV, jW, kF, kD, kC, kG, kA, kB, kE, gD, Result.ok.injEq, Next.value.injEq, true_and, and_true, gX, iA, iU, iR, iS, jF, aB0, gV, gU, gW, gT, gO, gJ, gP, gN, gB, fV, if_true, if_false, aBZ, aB4, aB1, aB2, aB5, aB3, aBY, aBX, fQ, fL, fE, fR, cU, eS, eF, dK, bP, fS, eY, aP, dB, aX, bQ, bM, aO, cO, cJ, eQ, aE, gS, aJ, cK, aT, bU, fT, cI, cF, aD, gA, fD, aN, aF, bO, gQ, aI, eX, dT, dV, gF, dE, fB, cZ, eH, fF, fC, cG, dG, gK, dN, bZ, aS, bV, bT, fN, aG, aH, aQ, bA, bE, cP, bK, aA, fA, aR, cL, fJ, eU, gG, bJ, eL, eN, bY, fW, eZ, eJ, dH, cQ, dD, aY, bD, aL, fZ, aM, dA, eE, bB, cC, fK, dL, gC, fM, fG, fI, dS, aK, cH, cY, fY, fX, fH, dC, aV, dX, fU, cS, eT, fO, cD, bL, dR, aZ, dW, dQ, cM, eM, eK, bF, dF, bG, eD, dU, dZ, bN, cR, cN, dO, bS, cW, cV, fP, cB, eI, eP, gE, dY, dP, dM, dI, bH, bR, bW, bX, aU, cX, aW, hd]
  exact hR
theorem auD (w : aEl) (R : aEm -> aEl -> Prop) (x : Int) (B : List UInt8) (v : aEm) (hv : Bs w v B) (hB : B.length < 32) (hR : R (.int .u64 (aqX (atC x B))) w) :
 CG R (.int .u64 x) v w := by
 unfold CG HF Hx
 refine kP.rule (fun n t w' => ∃ (j : Nat) (u : aEm), 8 * j <= B.length /\ n = B.length - j /\ t = (.int .u64 (e8 x B j), u) /\ Bs w u (B.drop (8 * j)) /\ w' = w) B.length ⟨0, v, by omega, rfl, rfl, hv, rfl⟩ ?_
 rintro n t w' ⟨j, u, hj, rfl, rfl, hu, rfl⟩
 have hu' := hu
 obtain ⟨a, n, c, rfl, hn, hc, hcell⟩ := hu'
 rw [aB6, aCi] at hn
 by_cases h8 : 8 <= n
 .obtain ⟨b', o', rfl, _⟩ := hcell (by omega)
  have hd : decide ((8 : Int) <= (n : Int)) = true := by simp; omega
  have t8 : (8 : Int).toNat = 8 := rfl
  simp (disch := omega) only [yL, gI, jD, dJ, stepR_skip, hJ, iC, iM, iP, iL, iN, jJ, iX, gM, iE, iG, iI, iH, gY, iO, hZ, iF, iV, iW, iJ, gR, iT, iQ, iD, jV, jW, kF, kD, kC, kG, kA, kB, kE, gD, Result.ok.injEq, Next.value.injEq, true_and, and_true, gX, iA, iU, iR, iS, jF, aB0, gV, gU, gW, gT, gO, gJ, gP, gN, gB, fV, if_true, if_false, aBZ, aB4, aB1, aB2, aB5, aB3, aBY, aBX, fQ, fL, fE, fR, cU, eS, eF, dK, bP, fS, eY, aP, dB, aX, bQ, bM, aO, cO, cJ, eQ, aE, gS, aJ, cK, aT, bU, fT, cI, cF, aD, gA, fD, aN, aF, bO, gQ, aI, eX, dT, dV, gF, dE, fB, cZ, eH, fF, fC, cG, dG, gK, dN, bZ, aS, bV, bT, fN, aG, aH, aQ, bA, bE, cP, bK, aA, fA, aR, cL, fJ, eU, gG, bJ, eL, eN, bY, fW, eZ, eJ, dH, cQ, dD, aY, bD, aL, fZ, aM, dA, eE, bB, cC, fK, dL, gC, fM, fG, fI, dS, aK, cH, cY, fY, fX, fH, dC, aV, dX, fU, cS, eT, fO, cD, bL, dR, aZ, dW, dQ, cM, eM, eK, bF, dF, bG, eD, dU, dZ, bN, cR, cN, dO, bS, cW, cV, fP, cB, eI, eP, gE, dY, dP, dM, dI, bH, bR, bW, bX, aU, cX, aW, hd, t8]
  have hs := hu.take h8
  rw [<- aDF] at hs
  refine (Vv _ _ _ hs (by rw [aCf]; omega)).mono ?_
  rintro r w1 ⟨rfl, rfl⟩
  refine (Ys _ _ _).mono ?_
  rintro r w1 ⟨rfl, rfl⟩
  simp (disch := omega) only [gI, jD, dJ, stepR_skip, hJ, iC, iM, iP, iL, iN, jJ, iX, gM, iE, iG, iI, iH, gY, iO, hZ, iF, iV, iW, iJ, gR, iT, iQ, iD, jV, jW, kF, kD, kC, kG, kA, kB, kE, gD, Result.ok.injEq, Next.value.injEq, true_and, and_true, gX, iA, iU, iR, iS, jF, aB0, gV, gU, gW, gT, gO, gJ, gP, gN, gB, fV, if_true, if_false, aBZ, aB4, aB1, aB2, aB5, aB3, aBY, aBX, fQ, fL, fE, fR, cU, eS, eF, dK, bP, fS, eY, aP, dB, aX, bQ, bM, aO, cO, cJ, eQ, aE, gS, aJ, cK, aT, bU, fT, cI, cF, aD, gA, fD, aN, aF, bO, gQ, aI, eX, dT, dV, gF, dE, fB, cZ, eH, fF, fC, cG, dG, gK, dN, bZ, aS, bV, bT, fN, aG, aH, aQ, bA, bE, cP, bK, aA, fA, aR, cL, fJ, eU, gG, bJ, eL, eN, bY, fW, eZ, eJ, dH, cQ, dD, aY, bD, aL, fZ, aM, dA, eE, bB, cC, fK, dL, gC, fM, fG, fI, dS, aK, cH, cY, fY, fX, fH, dC, aV, dX, fU, cS, eT, fO, cD, bL, dR, aZ, dW, dQ, cM, eM, eK, bF, dF, bG, eD, dU, dZ, bN, cR, cN, dO, bS, cW, cV, fP, cB, eI, eP, gE, dY, dP, dM, dI, bH, bR, bW, bX, aU, cX, aW]
  refine (Xx _ 27 (by omega) _).mono ?_
  rintro r w1 ⟨rfl, rfl⟩
  simp (disch := omega) only [gI, jD, dJ, stepR_skip, hJ, iC, iM, iP, iL, iN, jJ, iX, gM, iE, iG, iI, iH, gY, iO, hZ, iF, iV, iW, iJ, gR, iT, iQ, iD, jV, jW, kF, kD, kC, kG, kA, kB, kE, gD, Result.ok.injEq, Next.value.injEq, true_and, and_true, gX, iA, iU, iR, iS, jF, aB0, gV, gU, gW, gT, gO, gJ, gP, gN, gB, fV, if_true, if_false, aBZ, aB4, aB1, aB2, aB5, aB3, aBY, aBX, fQ, fL, fE, fR, cU, eS, eF, dK, bP, fS, eY, aP, dB, aX, bQ, bM, aO, cO, cJ, eQ, aE, gS, aJ, cK, aT, bU, fT, cI, cF, aD, gA, fD, aN, aF, bO, gQ, aI, eX, dT, dV, gF, dE, fB, cZ, eH, fF, fC, cG, dG, gK, dN, bZ, aS, bV, bT, fN, aG, aH, aQ, bA, bE, cP, bK, aA, fA, aR, cL, fJ, eU, gG, bJ, eL, eN, bY, fW, eZ, eJ, dH, cQ, dD, aY, bD, aL, fZ, aM, dA, eE, bB, cC, fK, dL, gC, fM, fG, fI, dS, aK, cH, cY, fY, fX, fH, dC, aV, dX, fU, cS, eT, fO, cD, bL, dR, aZ, dW, dQ, cM, eM, eK, bF, dF, bG, eD, dU, dZ, bN, cR, cN, dO, bS, cW, cV, fP, cB, eI, eP, gE, dY, dP, dM, dI, bH, bR, bW, bX, aU, cX, aW, t8]
  have hs2 := hu.drop h8
  rw [<- aDW, aDm] at hs2
  exact ⟨B.length - (j + 1), by omega, j + 1, _, by omega, rfl, rfl, by rw [aDL]; exact hs2⟩
 .have hd : decide ((8 : Int) <= (n : Int)) = false := by simp; omega
  have hj8 : j = B.length / 8 := by omega
  obtain ⟨C, hC⟩ : ∃ C, C = B.drop (8 * j) := ⟨_, rfl⟩
  have hCl : C.length = n := by rw [hC, aCi, hn]
  have htail : atC x B = (let r := X9 (e8 x B j) C; e1 r.1 r.2 r.2.length) := by rw [hC, hj8] <;> rfl
  rw [htail] at hR
  rw [<- hC] at hu
  simp (disch := omega) only [yL, gI, jD, dJ, stepR_skip, hJ, iC, iM, iP, iL, iN, jJ, iX, gM, iE, iG, iI, iH, gY, iO, hZ, iF, iV, iW, iJ, gR, iT, iQ, iD, jV, jW, kF, kD, kC, kG, kA, kB, kE, gD, Result.ok.injEq, Next.value.injEq, true_and, and_true, gX, iA, iU, iR, iS, jF, aB0, gV, gU, gW, gT, gO, gJ, gP, gN, gB, fV, if_true, if_false, aBZ, aB4, aB1, aB2, aB5, aB3, aBY, aBX, fQ, fL, fE, fR, cU, eS, eF, dK, bP, fS, eY, aP, dB, aX, bQ, bM, aO, cO, cJ, eQ, aE, gS, aJ, cK, aT, bU, fT, cI, cF, aD, gA, fD, aN, aF, bO, gQ, aI, eX, dT, dV, gF, dE, fB, cZ, eH, fF, fC, cG, dG, gK, dN, bZ, aS, bV, bT, fN, aG, aH, aQ, bA, bE, cP, bK, aA, fA, aR, cL, fJ, eU, gG, bJ, eL, eN, bY, fW, eZ, eJ, dH, cQ, dD, aY, bD, aL, fZ, aM, dA, eE, bB, cC, fK, dL, gC, fM, fG, fI, dS, aK, cH, cY, fY, fX, fH, dC, aV, dX, fU, cS, eT, fO, cD, bL, dR, aZ, dW, dQ, cM, eM, eK, bF, dF, bG, eD, dU, dZ, bN, cR, cN, dO, bS, cW, cV, fP, cB, eI, eP, gE, dY, dP, dM, dI, bH, bR, bW, bX, aU, cX, aW, hd]
  by_cases h4 : 4 <= n
  .obtain ⟨b', o', rfl, _⟩ := hcell (by omega)
   have hd : decide ((4 : Int) <= (n : Int)) = true := by simp; omega
   have t4 : (4 : Int).toNat = 4 := rfl
   have ha : X9 (e8 x B j) C = (ayA (e8 x B j) (Hg (C.take 4)), C.drop 4) := by unfold X9; rw [if_pos (by omega)]
   rw [ha] at hR
   simp (disch := omega) only [DX, D0, gI, jD, dJ, stepR_skip, hJ, iC, iM, iP, iL, iN, jJ, iX, gM, iE, iG, iI, iH, gY, iO, hZ, iF, iV, iW, iJ, gR, iT, iQ, iD, jV, jW, kF, kD, kC, kG, kA, kB, kE, gD, Result.ok.injEq, Next.value.injEq, true_and, and_true, gX, iA, iU, iR, iS, jF, aB0, gV, gU, gW, gT, gO, gJ, gP, gN, gB, fV, if_true, if_false, aBZ, aB4, aB1, aB2, aB5, aB3, aBY, aBX, fQ, fL, fE, fR, cU, eS, eF, dK, bP, fS, eY, aP, dB, aX, bQ, bM, aO, cO, cJ, eQ, aE, gS, aJ, cK, aT, bU, fT, cI, cF, aD, gA, fD, aN, aF, bO, gQ, aI, eX, dT, dV, gF, dE, fB, cZ, eH, fF, fC, cG, dG, gK, dN, bZ, aS, bV, bT, fN, aG, aH, aQ, bA, bE, cP, bK, aA, fA, aR, cL, fJ, eU, gG, bJ, eL, eN, bY, fW, eZ, eJ, dH, cQ, dD, aY, bD, aL, fZ, aM, dA, eE, bB, cC, fK, dL, gC, fM, fG, fI, dS, aK, cH, cY, fY, fX, fH, dC, aV, dX, fU, cS, eT, fO, cD, bL, dR, aZ, dW, dQ, cM, eM, eK, bF, dF, bG, eD, dU, dZ, bN, cR, cN, dO, bS, cW, cV, fP, cB, eI, eP, gE, dY, dP, dM, dI, bH, bR, bW, bX, aU, cX, aW, hd, t4]
   have hs := hu.take h4
   rw [<- aDF] at hs
   refine (Vv _ _ _ hs (by rw [aCf]; omega)).mono ?_
   rintro r w1 ⟨rfl, rfl⟩
   simp (disch := omega) only [gI, jD, dJ, stepR_skip, hJ, iC, iM, iP, iL, iN, jJ, iX, gM, iE, iG, iI, iH, gY, iO, hZ, iF, iV, iW, iJ, gR, iT, iQ, iD, jV, jW, kF, kD, kC, kG, kA, kB, kE, gD, Result.ok.injEq, Next.value.injEq, true_and, and_true, gX, iA, iU, iR, iS, jF, aB0, gV, gU, gW, gT, gO, gJ, gP, gN, gB, fV, if_true, if_false, aBZ, aB4, aB1, aB2, aB5, aB3, aBY, aBX, fQ, fL, fE, fR, cU, eS, eF, dK, bP, fS, eY, aP, dB, aX, bQ, bM, aO, cO, cJ, eQ, aE, gS, aJ, cK, aT, bU, fT, cI, cF, aD, gA, fD, aN, aF, bO, gQ, aI, eX, dT, dV, gF, dE, fB, cZ, eH, fF, fC, cG, dG, gK, dN, bZ, aS, bV, bT, fN, aG, aH, aQ, bA, bE, cP, bK, aA, fA, aR, cL, fJ, eU, gG, bJ, eL, eN, bY, fW, eZ, eJ, dH, cQ, dD, aY, bD, aL, fZ, aM, dA, eE, bB, cC, fK, dL, gC, fM, fG, fI, dS, aK, cH, cY, fY, fX, fH, dC, aV, dX, fU, cS, eT, fO, cD, bL, dR, aZ, dW, dQ, cM, eM, eK, bF, dF, bG, eD, dU, dZ, bN, cR, cN, dO, bS, cW, cV, fP, cB, eI, eP, gE, dY, dP, dM, dI, bH, bR, bW, bX, aU, cX, aW]
   refine (Xx _ 23 (by omega) _).mono ?_
   rintro r w1 ⟨rfl, rfl⟩
   simp (disch := omega) only [gI, jD, dJ, stepR_skip, hJ, iC, iM, iP, iL, iN, jJ, iX, gM, iE, iG, iI, iH, gY, iO, hZ, iF, iV, iW, iJ, gR, iT, iQ, iD, jV, jW, kF, kD, kC, kG, kA, kB, kE, gD, Result.ok.injEq, Next.value.injEq, true_and, and_true, gX, iA, iU, iR, iS, jF, aB0, gV, gU, gW, gT, gO, gJ, gP, gN, gB, fV, if_true, if_false, aBZ, aB4, aB1, aB2, aB5, aB3, aBY, aBX, fQ, fL, fE, fR, cU, eS, eF, dK, bP, fS, eY, aP, dB, aX, bQ, bM, aO, cO, cJ, eQ, aE, gS, aJ, cK, aT, bU, fT, cI, cF, aD, gA, fD, aN, aF, bO, gQ, aI, eX, dT, dV, gF, dE, fB, cZ, eH, fF, fC, cG, dG, gK, dN, bZ, aS, bV, bT, fN, aG, aH, aQ, bA, bE, cP, bK, aA, fA, aR, cL, fJ, eU, gG, bJ, eL, eN, bY, fW, eZ, eJ, dH, cQ, dD, aY, bD, aL, fZ, aM, dA, eE, bB, cC, fK, dL, gC, fM, fG, fI, dS, aK, cH, cY, fY, fX, fH, dC, aV, dX, fU, cS, eT, fO, cD, bL, dR, aZ, dW, dQ, cM, eM, eK, bF, dF, bG, eD, dU, dZ, bN, cR, cN, dO, bS, cW, cV, fP, cB, eI, eP, gE, dY, dP, dM, dI, bH, bR, bW, bX, aU, cX, aW, t4]
   have hs2 := hu.drop h4
   rw [<- aDW] at hs2
   exact agG _ _ _ _ _ hs2 (by rw [aCi]; omega) hR
  .have hd : decide ((4 : Int) <= (n : Int)) = false := by simp; omega
   have ha : X9 (e8 x B j) C = (e8 x B j, C) := by unfold X9; rw [if_neg (by omega)]
   rw [ha] at hR
   simp (disch := omega) only [DX, D0, gI, jD, dJ, stepR_skip, hJ, iC, iM, iP, iL, iN, jJ, iX, gM, iE, iG, iI, iH, gY, iO, hZ, iF, iV, iW, iJ, gR, iT, iQ, iD, jV, jW, kF, kD, kC, kG, kA, kB, kE, gD, Result.ok.injEq, Next.value.injEq, true_and, and_true, gX, iA, iU, iR, iS, jF, aB0, gV, gU, gW, gT, gO, gJ, gP, gN, gB, fV, if_true, if_false, aBZ, aB4, aB1, aB2, aB5, aB3, aBY, aBX, fQ, fL, fE, fR, cU, eS, eF, dK, bP, fS, eY, aP, dB, aX, bQ, bM, aO, cO, cJ, eQ, aE, gS, aJ, cK, aT, bU, fT, cI, cF, aD, gA, fD, aN, aF, bO, gQ, aI, eX, dT, dV, gF, dE, fB, cZ, eH, fF, fC, cG, dG, gK, dN, bZ, aS, bV, bT, fN, aG, aH, aQ, bA, bE, cP, bK, aA, fA, aR, cL, fJ, eU, gG, bJ, eL, eN, bY, fW, eZ, eJ, dH, cQ, dD, aY, bD, aL, fZ, aM, dA, eE, bB, cC, fK, dL, gC, fM, fG, fI, dS, aK, cH, cY, fY, fX, fH, dC, aV, dX, fU, cS, eT, fO, cD, bL, dR, aZ, dW, dQ, cM, eM, eK, bF, dF, bG, eD, dU, dZ, bN, cR, cN, dO, bS, cW, cV, fP, cB, eI, eP, gE, dY, dP, dM, dI, bH, bR, bW, bX, aU, cX, aW, hd]
   exact agG _ _ _ _ _ hu (by omega) hR
theorem avY (b : Nat) (L : List UInt8) (hlen : L.length <= 1099511627776) (w : aEl) (h : YN w b L) :
 jE pg FX #[.pointer (some ⟨b, 0, none⟩)] w (fun r w' => r = .int .u64 (XXH L) /\ jN w w' mC) := by
 refine WE ?_
 have h' := h
 obtain ⟨kept, h2, hk, ho⟩ := h'
 have h1 := Cd (L.length / 32) L
 have hod := XX ho
 simp (disch := omega) only [W5, Ib, H5, gI, jD, dJ, stepR_skip, hJ, iC, iM, iP, iL, iN, jJ, iX, gM, iE, iG, iI, iH, gY, iO, hZ, iF, iV, iW, iJ, gR, iT, iQ, iD, jV, jW, kF, kD, kC, kG, kA, kB, kE, gD, Result.ok.injEq, Next.value.injEq, true_and, and_true, gX, iA, iU, iR, iS, jF, aB0, gV, gU, gW, gT, gO, gJ, gP, gN, gB, fV, if_true, if_false, aBZ, aB4, aB1, aB2, aB5, aB3, aBY, aBX, fQ, fL, fE, fR, cU, eS, eF, dK, bP, fS, eY, aP, dB, aX, bQ, bM, aO, cO, cJ, eQ, aE, gS, aJ, cK, aT, bU, fT, cI, cF, aD, gA, fD, aN, aF, bO, gQ, aI, eX, dT, dV, gF, dE, fB, cZ, eH, fF, fC, cG, dG, gK, dN, bZ, aS, bV, bT, fN, aG, aH, aQ, bA, bE, cP, bK, aA, fA, aR, cL, fJ, eU, gG, bJ, eL, eN, bY, fW, eZ, eJ, dH, cQ, dD, aY, bD, aL, fZ, aM, dA, eE, bB, cC, fK, dL, gC, fM, fG, fI, dS, aK, cH, cY, fY, fX, fH, dC, aV, dX, fU, cS, eT, fO, cD, bL, dR, aZ, dW, dQ, cM, eM, eK, bF, dF, bG, eD, dU, dZ, bN, cR, cN, dO, bS, cW, cV, fP, cB, eI, eP, gE, dY, dP, dM, dI, bH, bR, bW, bX, aU, cX, aW]
 refine (akX b L hlen (dr w) ⟨kept, h2, hk, hod⟩).mono ?_
 rintro r w1 ⟨rfl, rfl⟩
 have hod2 := XX hod
 have hr : L.length % 32 < 32 := by omega
 have hbs : Bs (dr (dr w)) (.slice (some ⟨b, 4, none⟩) (L.length % 32 - 0) (32 - 0)) (L.drop (32 * (L.length / 32))) := by
  rw [<- hk]
  have e : (kept.take (L.length % 32)).length = L.length % 32 := by rw [aCf]; omega
  rw [show L.length % 32 - 0 = (kept.take (L.length % 32)).length from by omega]
  refine hod2.bs (by omega) fun j hj => ?_
  rw [SG h1 j (by omega)]
  simp
 have t0 : uR ⟨b, 4, none⟩ 32 0 1 = ⟨b, 4, none⟩ := by rw [VE (by omega)]
 simp (disch := omega) only [gI, jD, dJ, stepR_skip, hJ, iC, iM, iP, iL, iN, jJ, iX, gM, iE, iG, iI, iH, gY, iO, hZ, iF, iV, iW, iJ, gR, iT, iQ, iD, jV, jW, kF, kD, kC, kG, kA, kB, kE, gD, Result.ok.injEq, Next.value.injEq, true_and, and_true, gX, iA, iU, iR, iS, jF, aB0, gV, gU, gW, gT, gO, gJ, gP, gN, gB, fV, if_true, if_false, aBZ, aB4, aB1, aB2, aB5, aB3, aBY, aBX, fQ, fL, fE, fR, cU, eS, eF, dK, bP, fS, eY, aP, dB, aX, bQ, bM, aO, cO, cJ, eQ, aE, gS, aJ, cK, aT, bU, fT, cI, cF, aD, gA, fD, aN, aF, bO, gQ, aI, eX, dT, dV, gF, dE, fB, cZ, eH, fF, fC, cG, dG, gK, dN, bZ, aS, bV, bT, fN, aG, aH, aQ, bA, bE, cP, bK, aA, fA, aR, cL, fJ, eU, gG, bJ, eL, eN, bY, fW, eZ, eJ, dH, cQ, dD, aY, bD, aL, fZ, aM, dA, eE, bB, cC, fK, dL, gC, fM, fG, fI, dS, aK, cH, cY, fY, fX, fH, dC, aV, dX, fU, cS, eT, fO, cD, bL, dR, aZ, dW, dQ, cM, eM, eK, bF, dF, bG, eD, dU, dZ, bN, cR, cN, dO, bS, cW, cV, fP, cB, eI, eP, gE, dY, dP, dM, dI, bH, bR, bW, bX, aU, cX, aW, hod.cell, hod2.cell, IC h1 h2, MW h1 h2, t0]
 refine auD _ _ _ _ _ hbs (by rw [aCi]; omega) ⟨rfl, (jN.dr w _).seq (jN.dr _ _)⟩
theorem arF (L : List UInt8) (hlen : L.length <= 1099511627776) (v : aEm) (w : aEl) (hv : Bs w v L) :
 jE pg OG #[v] w (fun r w' => r = .int .u64 (XXH L) /\ jN w w' mC) := by
 refine ahH ?_
 simp (disch := omega) only [atT, YE, gI, jD, dJ, stepR_skip, hJ, iC, iM, iP, iL, iN, jJ, iX, gM, iE, iG, iI, iH, gY, iO, hZ, iF, iV, iW, iJ, gR, iT, iQ, iD, jV, jW, kF, kD, kC, kG, kA, kB, kE, gD, Result.ok.injEq, Next.value.injEq, true_and, and_true, gX, iA, iU, iR, iS, jF, aB0, gV, gU, gW, gT, gO, gJ, gP, gN, gB, fV, if_true, if_false, aBZ, aB4, aB1, aB2, aB5, aB3, aBY, aBX, fQ, fL, fE, fR, cU, eS, eF, dK, bP, fS, eY, aP, dB, aX, bQ, bM, aO, cO, cJ, eQ, aE, gS, aJ, cK, aT, bU, fT, cI, cF, aD, gA, fD, aN, aF, bO, gQ, aI, eX, dT, dV, gF, dE, fB, cZ, eH, fF, fC, cG, dG, gK, dN, bZ, aS, bV, bT, fN, aG, aH, aQ, bA, bE, cP, bK, aA, fA, aR, cL, fJ, eU, gG, bJ, eL, eN, bY, fW, eZ, eJ, dH, cQ, dD, aY, bD, aL, fZ, aM, dA, eE, bB, cC, fK, dL, gC, fM, fG, fI, dS, aK, cH, cY, fY, fX, fH, dC, aV, dX, fU, cS, eT, fO, cD, bL, dR, aZ, dW, dQ, cM, eM, eK, bF, dF, bG, eD, dU, dZ, bN, cR, cN, dO, bS, cW, cV, fP, cB, eI, eP, gE, dY, dP, dM, dI, bH, bR, bW, bX, aU, cX, aW]
 refine (axF w).mono ?_
 rintro r w1 ⟨rfl, h1, x1⟩
 have hnb : ¬ MO v (fun x => x = w.heap.size) := by
  intro hb
  refine hv.old ?_
  unfold MO at *
  split at hb
  .omega
  .exact hb
 have hv1 := hv.ext x1 (by unfold MO mC; split <;> simp)
 refine (apP _ [] L (by simpa using hlen) v w1 h1 hv1 hnb).mono ?_
 rintro r w2 ⟨rfl, h2, x2⟩
 refine (avY _ L hlen w2 h2).mono ?_
 rintro r w3 ⟨rfl, x3⟩
 exact ⟨rfl, (x1.new x2 (aCb _)).seq x3⟩
end Go.Proofs.YtoecppploooloaaGreatDoor
namespace Go.Proofs.YtoecppploooloaaGreatDoor
open Go Go.En Go.Pu
set_option maxRecDepth 4000
def XN (L : List UInt8) : Nat := (XXH L).toNat
theorem YC (a b : Int) : 0 <= Vw .u64 a b /\ Vw .u64 a b < 2 ^ 64 := by
 unfold Vw
 have h : (BitVec.ofInt IntKind.u64.bits a ^^^ BitVec.ofInt IntKind.u64.bits b).toNat < 2 ^ 64 := BitVec.isLt _
 rw [iA (by omega) (by omega)]
 omega
theorem ayK (L : List UInt8) : XN L < 2 ^ 64 := by
 have := YC
 unfold XN XXH aqX
 simp only []
 generalize IntKind.u64.wrap (Vw .u64 (IntKind.u64.wrap _) _ * 1609587929392839161) = y
 have := YC y (y.fdiv (2 ^ min (32 : Int).toNat IntKind.u64.bits))
 omega
theorem ayH (L : List UInt8) : XXH L = (XN L : Int) := by
 have : 0 <= XXH L := by
  unfold XXH aqX
  exact (YC _ _).1
 unfold XN
 omega
theorem aA3 {x : Nat} (h : x < 2 ^ 64) : G1 .u64 (x : Int) 4294967295 = ((x % 2 ^ 32 : Nat) : Int) := by
 unfold G1
 have e : IntKind.u64.bits = 64 := rfl
 have e2 : (4294967295 : Int) = ((2 ^ 32 - 1 : Nat) : Int) := by decide
 rw [e2, e, BitVec.ofInt_natCast, BitVec.ofInt_natCast, BitVec.toNat_and, BitVec.toNat_ofNat, BitVec.toNat_ofNat, aCt h, aCt (by omega), aDp]
 exact iA (by omega) (by omega)
def afD (l all : List UInt8) : Except Int (List UInt8) := if l.length < 4 then .error 10 else if rZ (l.take 4) ≠ XN all % 2 ^ 32 then .error 13 else .ok (l.drop 4)
def aA7 (lo hi pr : Nat) (w : aEl) (r : aEm) (w' : aEl) : Except Int (List UInt8) -> Prop
 | .error e => e ≠ 0 /\ r = .int .i64 e /\ jN w w' (fun y => y = pr)
 | .ok l => r = .int .i64 0 /\ Qi w' lo hi pr l 0 /\ jN w w' (fun y => y = pr)
theorem aqJ {p pr lo hi : Nat} {va : aEm} {all l : List UInt8} {cs : List aEm} {w : aEl} (o : lN w p cs) (k0 : cs[0]? = some (.pointer (some ⟨pr, 0, none⟩))) (hr : Qi w lo hi pr l 0) (ha : Bs w va all) (hv : ¬ MO va (fun y => y = pr)) (hl : l.length <= 1000000) (hall : all.length <= 2000000) :
 jE pg sD #[.pointer (some ⟨p, 0, none⟩), va] w (fun r w' => aA7 lo hi pr w r w' (afD l all)) := by
 refine Oo ?_
 unfold JJ zU
 refine (abB (n := 4) o k0 hr hl (by omega)).mono ?_
 unfold afD
 rintro r w1 (⟨h1, rfl, h2⟩ | ⟨h1, v, rfl, hb1, hat, hr1, x1⟩)
 .rw [h2]; clear h2 w1
  have n1 : ((10 : Int) != 0) = true := rfl
  rw [if_pos h1]
  simp (disch := omega) only [gI, jD, dJ, stepR_skip, hJ, iC, iM, iP, iL, iN, jJ, iX, gM, iE, iG, iI, iH, gY, iO, hZ, iF, iV, iW, iJ, gR, iT, iQ, iD, jV, jW, kF, kD, kC, kG, kA, kB, kE, gD, Result.ok.injEq, Next.value.injEq, true_and, and_true, gX, iA, iU, iR, iS, jF, aB0, gV, gU, gW, gT, gO, gJ, gP, gN, gB, fV, if_true, if_false, aBZ, aB4, aB1, aB2, aB5, aB3, aBY, aBX, fQ, fL, fE, fR, cU, eS, eF, dK, bP, fS, eY, aP, dB, aX, bQ, bM, aO, cO, cJ, eQ, aE, gS, aJ, cK, aT, bU, fT, cI, cF, aD, gA, fD, aN, aF, bO, gQ, aI, eX, dT, dV, gF, dE, fB, cZ, eH, fF, fC, cG, dG, gK, dN, bZ, aS, bV, bT, fN, aG, aH, aQ, bA, bE, cP, bK, aA, fA, aR, cL, fJ, eU, gG, bJ, eL, eN, bY, fW, eZ, eJ, dH, cQ, dD, aY, bD, aL, fZ, aM, dA, eE, bB, cC, fK, dL, gC, fM, fG, fI, dS, aK, cH, cY, fY, fX, fH, dC, aV, dX, fU, cS, eT, fO, cD, bL, dR, aZ, dW, dQ, cM, eM, eK, bF, dF, bG, eD, dU, dZ, bN, cR, cN, dO, bS, cW, cV, fP, cB, eI, eP, gE, dY, dP, dM, dI, bH, bR, bW, bX, aU, cX, aW, n1]
  exact ⟨by decide, rfl, jN.refl _ _⟩
 rw [if_neg (by omega)]
 have n1 : ((0 : Int) != 0) = false := rfl
 simp (disch := omega) only [gI, jD, dJ, stepR_skip, hJ, iC, iM, iP, iL, iN, jJ, iX, gM, iE, iG, iI, iH, gY, iO, hZ, iF, iV, iW, iJ, gR, iT, iQ, iD, jV, jW, kF, kD, kC, kG, kA, kB, kE, gD, Result.ok.injEq, Next.value.injEq, true_and, and_true, gX, iA, iU, iR, iS, jF, aB0, gV, gU, gW, gT, gO, gJ, gP, gN, gB, fV, if_true, if_false, aBZ, aB4, aB1, aB2, aB5, aB3, aBY, aBX, fQ, fL, fE, fR, cU, eS, eF, dK, bP, fS, eY, aP, dB, aX, bQ, bM, aO, cO, cJ, eQ, aE, gS, aJ, cK, aT, bU, fT, cI, cF, aD, gA, fD, aN, aF, bO, gQ, aI, eX, dT, dV, gF, dE, fB, cZ, eH, fF, fC, cG, dG, gK, dN, bZ, aS, bV, bT, fN, aG, aH, aQ, bA, bE, cP, bK, aA, fA, aR, cL, fJ, eU, gG, bJ, eL, eN, bY, fW, eZ, eJ, dH, cQ, dD, aY, bD, aL, fZ, aM, dA, eE, bB, cC, fK, dL, gC, fM, fG, fI, dS, aK, cH, cY, fY, fX, fH, dC, aV, dX, fU, cS, eT, fO, cD, bL, dR, aZ, dW, dQ, cM, eM, eK, bF, dF, bG, eD, dU, dZ, bN, cR, cN, dO, bS, cW, cV, fP, cB, eI, eP, gE, dY, dP, dM, dI, bH, bR, bW, bX, aU, cX, aW, n1]
 refine (Jc hb1 (by rw [aCf]; omega)).mono ?_
 rintro r w2 ⟨p2, rfl, hr2, x2⟩
 have z1 := x1.size
 have hz := hr.lt
 refine (BY (n := 4) hr2 (by rw [aCf]; omega) ⟨by omega, by omega⟩).mono ?_
 rintro r w3 ⟨rfl, hr3, x3⟩
 have ht : G0 (l.take 4) 0 4 = (l.take 4, [], 0) := by
  unfold G0
  rw [if_neg (by decide), if_neg (by rw [aCf]; omega), aCg (by rw [aCf]; omega), aEb (by rw [aCf]; omega)]
 rw [ht]
 have h2 : w1.heap.size <= p2 := hr2.1
 have x13 : jN w1 w3 mC := x2.trans x3 fun y hy h => by omega
 refine (arF all (by omega) va w3 ((ha.ext x1 hv).ext x13 (kJ _))).mono ?_
 rintro r w4 ⟨rfl, x4⟩
 rw [ayH]
 have a32 := aA3 (ayK all)
 obtain ⟨q, hq⟩ : ∃ q, q = rZ (l.take 4) := ⟨_, rfl⟩
 rw [<- hq]
 obtain ⟨q2, hq2⟩ : ∃ q, q = XN all % 2 ^ 32 := ⟨_, rfl⟩
 rw [<- hq2] at a32 ⊢
 by_cases he : q = q2
 .have n2 : ((q : Int) != (q2 : Int)) = false := by rw [he]; simp
  rw [if_neg (by simpa using he)]
  simp (disch := omega) only [gI, jD, dJ, stepR_skip, hJ, iC, iM, iP, iL, iN, jJ, iX, gM, iE, iG, iI, iH, gY, iO, hZ, iF, iV, iW, iJ, gR, iT, iQ, iD, jV, jW, kF, kD, kC, kG, kA, kB, kE, gD, Result.ok.injEq, Next.value.injEq, true_and, and_true, gX, iA, iU, iR, iS, jF, aB0, gV, gU, gW, gT, gO, gJ, gP, gN, gB, fV, if_true, if_false, aBZ, aB4, aB1, aB2, aB5, aB3, aBY, aBX, fQ, fL, fE, fR, cU, eS, eF, dK, bP, fS, eY, aP, dB, aX, bQ, bM, aO, cO, cJ, eQ, aE, gS, aJ, cK, aT, bU, fT, cI, cF, aD, gA, fD, aN, aF, bO, gQ, aI, eX, dT, dV, gF, dE, fB, cZ, eH, fF, fC, cG, dG, gK, dN, bZ, aS, bV, bT, fN, aG, aH, aQ, bA, bE, cP, bK, aA, fA, aR, cL, fJ, eU, gG, bJ, eL, eN, bY, fW, eZ, eJ, dH, cQ, dD, aY, bD, aL, fZ, aM, dA, eE, bB, cC, fK, dL, gC, fM, fG, fI, dS, aK, cH, cY, fY, fX, fH, dC, aV, dX, fU, cS, eT, fO, cD, bL, dR, aZ, dW, dQ, cM, eM, eK, bF, dF, bG, eD, dU, dZ, bN, cR, cN, dO, bS, cW, cV, fP, cB, eI, eP, gE, dY, dP, dM, dI, bH, bR, bW, bX, aU, cX, aW, a32, n2]
  exact ⟨rfl, (hr1.ext x13 fun _ _ _ h => h).ext x4 fun _ _ _ h => h, (x1.trans x13 fun _ _ h => h.elim).trans x4 fun _ _ h => h.elim⟩
 .have n2 : ((q : Int) != (q2 : Int)) = true := by simp; omega
  rw [if_pos he]
  simp (disch := omega) only [gI, jD, dJ, stepR_skip, hJ, iC, iM, iP, iL, iN, jJ, iX, gM, iE, iG, iI, iH, gY, iO, hZ, iF, iV, iW, iJ, gR, iT, iQ, iD, jV, jW, kF, kD, kC, kG, kA, kB, kE, gD, Result.ok.injEq, Next.value.injEq, true_and, and_true, gX, iA, iU, iR, iS, jF, aB0, gV, gU, gW, gT, gO, gJ, gP, gN, gB, fV, if_true, if_false, aBZ, aB4, aB1, aB2, aB5, aB3, aBY, aBX, fQ, fL, fE, fR, cU, eS, eF, dK, bP, fS, eY, aP, dB, aX, bQ, bM, aO, cO, cJ, eQ, aE, gS, aJ, cK, aT, bU, fT, cI, cF, aD, gA, fD, aN, aF, bO, gQ, aI, eX, dT, dV, gF, dE, fB, cZ, eH, fF, fC, cG, dG, gK, dN, bZ, aS, bV, bT, fN, aG, aH, aQ, bA, bE, cP, bK, aA, fA, aR, cL, fJ, eU, gG, bJ, eL, eN, bY, fW, eZ, eJ, dH, cQ, dD, aY, bD, aL, fZ, aM, dA, eE, bB, cC, fK, dL, gC, fM, fG, fI, dS, aK, cH, cY, fY, fX, fH, dC, aV, dX, fU, cS, eT, fO, cD, bL, dR, aZ, dW, dQ, cM, eM, eK, bF, dF, bG, eD, dU, dZ, bN, cR, cN, dO, bS, cW, cV, fP, cB, eI, eP, gE, dY, dP, dM, dI, bH, bR, bW, bX, aU, cX, aW, a32, n2]
  exact ⟨by decide, rfl, (x1.trans x13 fun _ _ h => h.elim).trans x4 fun _ _ h => h.elim⟩
def Pq (h : FH) (l all : List UInt8) : Except Int (List UInt8 × List UInt8) :=
 if h.known = true /\ all.length ≠ h.size then .error 11 else if h.sum = true then (match afD l all with | .error e => .error e | .ok l' => .ok (all, l')) else .ok (all, l)
structure DM where
 l : List UInt8
 win : Nat
 most : Nat
 out : List UInt8
 fr : Nat
 sk : Nat
def yG (pr : Nat) (vo : aEm) (m : DM) : List aEm := [.pointer (some ⟨pr, 0, none⟩), .int .u64 (m.win : Nat), .int .i64 (m.most : Nat), vo, .int .i64 (m.fr : Nat), .int .i64 (m.sk : Nat)]
def DSt (w : aEl) (base p : Nat) (m : DM) : Prop :=
 ∃ pr vo lo hi, ∃ O : Nat -> Prop, lN w p (yG pr vo m) /\ Qi w lo hi pr m.l 0 /\ GX w O 1 vo m.out.length (m.out.map nT) /\ base <= p /\ base <= lo /\ (∀ b, O b -> base <= b /\ b ≠ p /\ ¬ (lo <= b /\ b < hi)) /\ ¬ (lo <= p /\ p < hi) /\ hi <= w.heap.size
end Go.Proofs.YtoecppploooloaaGreatDoor

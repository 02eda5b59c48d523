/- Parts of the proof of DecodeSkips: merged and given short names by a program of ours. -/
import Derived.Test.YthohephggmkeeaaDoorZsA
set_option linter.unusedVariables false
set_option linter.unusedSimpArgs false
open Bool renaming false_eq_true → Lh, not_false → Ll, not_true → Lm, and_eq_true → Lo
open Int renaming fdiv_eq_ediv_of_nonneg → LX, toNat_natCast → Lk
open List renaming append_assoc → L3, getElem?_map → L4, mem_cons → L5, take_append_of_le_length → L6, length_cons → LA, take_of_length_le → LD, drop_zero → LF, take_zero → LG, getElem?_append_left → LJ, getD_eq_getElem?_getD → LN, set_append_right → LO, length_replicate → LU, getElem?_append_right → LY, getElem?_cons_zero → Lf, getElem?_cons_succ → Lg, length_map → Lq, getElem?_eq_getElem → Lr, set_cons_zero → Ls, length_take → Lt, set_cons_succ → Lu, length_drop → Lv, length_append → Lw, mem_cons_of_mem → Lx, take_succ_cons → Lz, getElem?_take_of_lt → Mc, cons_append → Md, nil_append → Ms, drop_of_length_le → Mv, map_take → Mw, map_drop → Mx, append_nil → Mz
open Nat renaming pow_le_pow_right → L1, and_two_pow_sub_one_eq_mod → L2, mod_eq_of_lt → L8, mul_one → L9, le_refl → LB, min_eq_left → LW, zero_add → Ln, add_assoc → Mn, add_mul → Mo
open Option renaming map_some → LH, isNone_some → Li, isNone_none → Lj
open Option.some renaming inj → LP
namespace Go.Proofs.YthohephggmkeeaaDoor
open Go Go.En
set_option maxRecDepth 4000
theorem cR {ty : TypeId} (x : Option Addr) (n c : Nat) (w : MA) : (nR .len #[22] ty [.slice x n c]).run pg w = .ok (.value (.int .i64 n)) w := EL Tryd.underlying22 x n c
theorem cM {k : IntKind} (a : Int) (w : MA) : (jV 5 3 (.int k a)).run pg w = .ok (.value (.int .i64 (IntKind.i64.wrap a))) w := rX Tryd.underlying5 Tryd.underlying3
theorem cH {k : IntKind} (a : Int) (w : MA) : (jV 23 3 (.int k a)).run pg w = .ok (.value (.int .i64 (IntKind.i64.wrap a))) w := rX Tryd.underlying23 Tryd.underlying3
theorem Cm : (pg).info? 5 = some Tryd.t5 := by kernel_rfl
theorem bY {k : IntKind} {hi : Int} (a : Option Addr) (n c : Nat) (w : MA) (h0 : 0 <= hi) (h1 : hi <= c) : (hJ 22 (.slice a n c) none (some (.int k hi)) none).run pg w = .ok (.value (.slice (iC a c (0) 1) (hi.toNat - 0) (c - 0))) w := Gp Tryd.underlying22 Cm _ n c h0 h1
theorem Bt {l : List UInt8} {v : MB} {w : MA} (h : Bs w v l) : (jV 22 9 v).run pg w = .ok (.value (.string ⟨l.toArray⟩)) w := HL Tryd.underlying22 Tryd.underlying9 Tryd.underlying5 h
theorem cV {k : IntKind} {a : Int} (b o n c : Nat) (w : MA) (h0 : 0 <= a) (h1 : a < n) : (kP 22 (.slice (some ⟨b, o, none⟩) n c) (.int k a)).run pg w = .ok (.value (.pointer (some ⟨b, o + a.toNat, none⟩))) w := AZ rfl Tryd.underlying22 Cm b o n c h0 h1
theorem dJ (x : Addr) (w : MA) : (fM 5 (.pointer (some x))).run pg w = Gn (w.cell? x) w (HE pg 5 x w) := EN Tryd.underlying5 rfl x w
theorem bU {ty : TypeId} (x : Option Addr) (n c : Nat) (w : MA) : (nR .len #[30] ty [.slice x n c]).run pg w = .ok (.value (.int .i64 n)) w := EL Tryd.underlying30 x n c
theorem GO : (pg).info? 22 = some Tryd.t22 := by kernel_rfl
theorem bX {k : IntKind} {a : Int} (b o n c : Nat) (w : MA) (h0 : 0 <= a) (h1 : a < n) : (kP 30 (.slice (some ⟨b, o, none⟩) n c) (.int k a)).run pg w = .ok (.value (.pointer (some ⟨b, o + a.toNat, none⟩))) w := AZ rfl Tryd.underlying30 GO b o n c h0 h1
theorem cS (x : Addr) (w : MA) : (fM 22 (.pointer (some x))).run pg w = Gn (w.cell? x) w (HE pg 22 x w) := EN Tryd.underlying22 rfl x w
theorem vO {n : Nat} {ps : List (Nat × MB)} {cells : Array MB} {w : MA} (h1 : ¬ n * 1 > 2 ^ 24) (h0 : ¬ n * 1 = 0) (hf : Go.Instr.fill (fun j => some (j * 1, 1)) ((Array.range (n * 1)).map ((Tryd.t5.zero.get!).cells[· % (Tryd.t5.zero.get!).cells.size]!)) ps = some cells) {K : MB -> MA -> Prop} (hk : ∀ w', iD w' w.heap.size cells.toList -> gA w w' nQ -> w'.heap.size = w.heap.size + 1 -> K (.slice (some ⟨w.heap.size, 0, none⟩) n n) w') : dQ pg (hZ 22 n ps) w K := DE (i := Tryd.t5) Tryd.underlying22 Cm rfl h1 h0 hf hk
theorem Av {base n m : Nat} {ty : TypeId} {w : MA} {v x : MB} {l news : List MB} (h : CW w base 1 v n l) (hx : Cl w 1 x m news) (hone : ∀ y ∈ news, one y = true) (hb : base <= w.heap.size) (hbytes : (n + m) * 1 <= 140737488355328) {K : MB -> MA -> Prop} (hk : ∀ v' w', CW w' base 1 v' (n + m) (l ++ news) -> gA w w' (fun y => base <= y) -> K v' w') : dQ pg (nR .append #[22, 22] ty [v, x]) w K := Gm (i := Tryd.t5) Tryd.underlying22 Tryd.underlying22 Cm rfl rfl rfl h hx hone hb (by omega) hbytes (by decide) hk
theorem cN {ty : TypeId} (x : Option Addr) (n c : Nat) (w : MA) : (nR .len #[34] ty [.slice x n c]).run pg w = .ok (.value (.int .i64 n)) w := EL Tryd.underlying34 x n c
theorem Kw : (pg).info? 23 = some Tryd.t23 := by kernel_rfl
theorem cO {k : IntKind} {a : Int} (b o n c : Nat) (w : MA) (h0 : 0 <= a) (h1 : a < n) : (kP 34 (.slice (some ⟨b, o, none⟩) n c) (.int k a)).run pg w = .ok (.value (.pointer (some ⟨b, o + a.toNat, none⟩))) w := AZ rfl Tryd.underlying34 Kw b o n c h0 h1
theorem dE (x : Addr) (w : MA) : (fM 23 (.pointer (some x))).run pg w = Gn (w.cell? x) w (HE pg 23 x w) := EN Tryd.underlying23 rfl x w
theorem Fo {k : IntKind} {n : Int} {w : MA} {K : MB -> MA -> Prop} (h0 : 0 <= n) (hn : 1 * n <= 2 ^ 48) (hk : ∀ w', iD w' w.heap.size (List.replicate n.toNat (.int .u8 0)) -> gA w w' nQ -> w'.heap.size = w.heap.size + 1 -> K (.slice (some ⟨w.heap.size, 0, none⟩) n.toNat n.toNat) w') : dQ pg (AP 22 (.int k n) (.int k n)) w K := Iz (i := Tryd.t5) Tryd.underlying22 Cm rfl rfl rfl h0 hn (by omega) hk
theorem Ca {b off n c : Nat} {cs : List MB} {w : MA} (ho : iD w b cs) {K : MB -> MA -> Prop} (hk : ∀ w', iD w' b cs -> gA w w' (fun y => y = b) -> w'.heap.size = w.heap.size -> K (.slice (some ⟨b, off, none⟩) n c) w') : dQ pg (jV 22 22 (.slice (some ⟨b, off, none⟩) n c)) w K := I6 Tryd.underlying22 Tryd.underlying5 ho hk
theorem cL {k : IntKind} (a : Int) (w : MA) : (jV 3 5 (.int k a)).run pg w = .ok (.value (.int .u8 (IntKind.u8.wrap a))) w := rX Tryd.underlying3 Tryd.underlying5
theorem DP : (pg).info? 3 = some Tryd.t3 := by kernel_rfl
theorem Hp {n : Nat} {ps : List (Nat × MB)} {cells : Array MB} {w : MA} (h1 : ¬ n * 1 > 2 ^ 24) (h0 : ¬ n * 1 = 0) (hf : Go.Instr.fill (fun j => some (j * 1, 1)) ((Array.range (n * 1)).map ((Tryd.t3.zero.get!).cells[· % (Tryd.t3.zero.get!).cells.size]!)) ps = some cells) {K : MB -> MA -> Prop} (hk : ∀ w', iD w' w.heap.size cells.toList -> gA w w' nQ -> w'.heap.size = w.heap.size + 1 -> K (.slice (some ⟨w.heap.size, 0, none⟩) n n) w') : dQ pg (hZ 37 n ps) w K := DE (i := Tryd.t3) Tryd.underlying37 DP rfl h1 h0 hf hk
theorem dD {ty : TypeId} (x : Option Addr) (n c : Nat) (w : MA) : (nR .len #[37] ty [.slice x n c]).run pg w = .ok (.value (.int .i64 n)) w := EL Tryd.underlying37 x n c
theorem dG {k : IntKind} {a : Int} (b o n c : Nat) (w : MA) (h0 : 0 <= a) (h1 : a < n) : (kP 37 (.slice (some ⟨b, o, none⟩) n c) (.int k a)).run pg w = .ok (.value (.pointer (some ⟨b, o + a.toNat, none⟩))) w := AZ rfl Tryd.underlying37 DP b o n c h0 h1
theorem dU (x : Addr) (w : MA) : (fM 3 (.pointer (some x))).run pg w = Gn (w.cell? x) w (HE pg 3 x w) := EN Tryd.underlying3 rfl x w
theorem dB {ox oy : Operand} (c d : Bool) (w : MA) : (fD .eql 4 ox oy (.bool c) (.bool d)).run pg w = .ok (.value (.bool (c == d))) w := JF c d Tryd.underlying4
theorem cD {k : IntKind} (a : Int) (w : MA) : (jV 3 40 (.int k a)).run pg w = .ok (.value (.int .u64 (IntKind.u64.wrap a))) w := rX Tryd.underlying3 Tryd.underlying40
theorem bH {k k' : IntKind} {lo hi : Int} (a : Option Addr) (n c : Nat) (w : MA) (h0 : 0 <= lo) (h1 : lo <= hi) (h2 : hi <= c) : (hJ 22 (.slice a n c) (some (.int k lo)) (some (.int k' hi)) none).run pg w = .ok (.value (.slice (iC a c (lo.toNat) 1) (hi.toNat - lo.toNat) (c - lo.toNat))) w := EH Tryd.underlying22 Cm _ n c h0 h1 h2
theorem bR {k : IntKind} (a : Int) (w : MA) : (jV 40 5 (.int k a)).run pg w = .ok (.value (.int .u8 (IntKind.u8.wrap a))) w := rX Tryd.underlying40 Tryd.underlying5
theorem aU (b o : Nat) (w : MA) : (fF 47 (.pointer (some ⟨b, o, none⟩)) 3).run pg w = .ok (.value (.pointer (some ⟨b, o + 3, none⟩))) w := jM (i := 3) Tryd.underlying47 rfl GO (by decide) _
theorem aE (b o : Nat) (w : MA) : (fF 47 (.pointer (some ⟨b, o, none⟩)) 4).run pg w = .ok (.value (.pointer (some ⟨b, o + 4, none⟩))) w := jM (i := 4) Tryd.underlying47 rfl DP (by decide) _
theorem aH (b o : Nat) (w : MA) : (fF 47 (.pointer (some ⟨b, o, none⟩)) 5).run pg w = .ok (.value (.pointer (some ⟨b, o + 5, none⟩))) w := jM (i := 5) Tryd.underlying47 rfl DP (by decide) _
theorem dF {ty : TypeId} (x : ByteArray) (w : MA) : (nR .len #[9] ty [.string x]).run pg w = .ok (.value (.int .i64 x.size)) w := JO Tryd.underlying9 x
theorem aL (n0 : Int) (n1 : Int) (n2 : Int) (n3 : Int) (w : MA) : (hX 49 [(0, (.int .u64 n0)), (1, (.int .u64 n1)), (2, (.int .u64 n2)), (3, (.int .u64 n3))]).run pg w = .ok (.value (.agg #[(.int .u64 n0), (.int .u64 n1), (.int .u64 n2), (.int .u64 n3)])) w := by kernel_rfl
theorem Ju : (pg).info? 49 = some Tryd.t49 := by kernel_rfl
theorem DK : (pg).info? 40 = some Tryd.t40 := by kernel_rfl
theorem cG {k : IntKind} {a : Int} (b o : Nat) (w : MA) (h0 : 0 <= a) (h1 : a < 4) : (kP 49 (.pointer (some ⟨b, o, none⟩)) (.int k a)).run pg w = .ok (.value (.pointer (some ⟨b, o + a.toNat, none⟩))) w := Hv rfl Tryd.underlying49 DK b o h0 (by simpa using h1)
theorem dA (x : Addr) (w : MA) : (fM 40 (.pointer (some x))).run pg w = Gn (w.cell? x) w (HE pg 40 x w) := EN Tryd.underlying40 rfl x w
theorem tZ {b off : Nat} {cs : List MB} {w : MA} {v : MB} {K : MB -> MA -> Prop} (ho : iD w b cs) (hv : one v = true) (h : off < cs.length) (hk : ∀ w', iD w' b (cs.set off v) -> gA w w' (fun x => x = b) -> w'.heap.size = w.heap.size -> K undef w') : dQ pg (fZ 40 (.pointer (some ⟨b, off, none⟩)) v) w K := sD DK rfl ho hv h hk
theorem cZ {k : IntKind} {a : Int} (x : ByteArray) (w : MA) (h0 : 0 <= a) (h1 : a.toNat < x.size) : (CH 9 (.string x) (.int k a)).run pg w = .ok (.value (.int .u8 (x[a.toNat]'h1).toNat)) w := JH Tryd.underlying9 x h0 h1
theorem bN {k : IntKind} (a : Int) (w : MA) : (jV 5 40 (.int k a)).run pg w = .ok (.value (.int .u64 (IntKind.u64.wrap a))) w := rX Tryd.underlying5 Tryd.underlying40
theorem aK (p0 : Option Addr) (n1 : Int) (n2 : Int) (w : MA) : (hX 47 [(0, (.pointer p0)), (1, (.int .u64 n1)), (2, (.int .i64 n2))]).run pg w = .ok (.value (.agg #[(.pointer p0), (.int .u64 n1), (.int .i64 n2), (.slice none 0 0), (.int .i64 0), (.int .i64 0)])) w := by kernel_rfl
theorem Jx : (pg).info? 45 = some Tryd.t45 := by kernel_rfl
theorem bC (b o : Nat) (w : MA) : (fF 47 (.pointer (some ⟨b, o, none⟩)) 0).run pg w = .ok (.value (.pointer (some ⟨b, o, none⟩))) w := jM (i := 0) Tryd.underlying47 rfl Jx (by decide) _
theorem aZ (x : Addr) (w : MA) : (fM 45 (.pointer (some x))).run pg w = Gn (w.cell? x) w (HE pg 45 x w) := EN Tryd.underlying45 rfl x w
theorem cP {k : IntKind} {lo : Int} (x : ByteArray) (w : MA) (h0 : 0 <= lo) (h1 : lo <= x.size) : (hJ 9 (.string x) (some (.int k lo)) none none).run pg w = .ok (.value (.string (x.extract lo.toNat x.size))) w := FO Tryd.underlying9  x h0 h1
theorem aC (s0 : ByteArray) (w : MA) : (hX 58 [(0, (.string s0))]).run pg w = .ok (.value (.agg #[(.string s0), (.int .i64 0)])) w := by kernel_rfl
theorem aX (a0 : Option Addr) (l0 c0 : Nat) (w : MA) : (hX 63 [(0, (.slice a0 l0 c0))]).run pg w = .ok (.value (.agg #[(.slice a0 l0 c0), (.int .i64 0)])) w := by kernel_rfl
theorem aM {ox oy : Operand} (x : Option Addr) (w : MA) : (fD .eql 45 ox oy (.pointer x) (.pointer none)).run pg w = .ok (.value (.bool x.isNone)) w := HF Tryd.underlying45 x
theorem aV (b o : Nat) (w : MA) : (fF 63 (.pointer (some ⟨b, o, none⟩)) 0).run pg w = .ok (.value (.pointer (some ⟨b, o, none⟩))) w := jM (i := 0) Tryd.underlying63 rfl GO (by decide) _
theorem cU {k : IntKind} (a : Int) (w : MA) : (jV 3 35 (.int k a)).run pg w = .ok (.value (.int .u64 (IntKind.u64.wrap a))) w := rX Tryd.underlying3 Tryd.underlying35
theorem Iw : (pg).info? 26 = some Tryd.t26 := by kernel_rfl
theorem aW (b o : Nat) (w : MA) : (fF 63 (.pointer (some ⟨b, o, none⟩)) 1).run pg w = .ok (.value (.pointer (some ⟨b, o + 1, none⟩))) w := jM (i := 1) Tryd.underlying63 rfl Iw (by decide) _
theorem cJ (x : Addr) (w : MA) : (fM 26 (.pointer (some x))).run pg w = Gn (w.cell? x) w (HE pg 26 x w) := EN Tryd.underlying26 rfl x w
theorem GY : (pg).info? 67 = some Tryd.t67 := by kernel_rfl
theorem pQ {w : MA} {K : MB -> MA -> Prop} (hk : ∀ w', iD w' w.heap.size [(.int .u64 0), (.int .u64 0), (.bool false), (.bool false)] -> gA w w' nQ -> w'.heap.size = w.heap.size + 1 -> K (.pointer (some ⟨w.heap.size, 0, none⟩)) w') : dQ pg (oS 67) w K := A2 (i := Tryd.t67) GY rfl hk
theorem iR {b off : Nat} {cs : List MB} {w : MA} {xs : Array MB} {K : MB -> MA -> Prop} (ho : iD w b cs) (hs : xs.size = 4) (hv : ∀ x ∈ xs.toList, one x = true) (h : off + 4 <= cs.length) (hk : ∀ w', iD w' b (gD cs off xs.toList) -> gA w w' (fun x => x = b) -> w'.heap.size = w.heap.size -> K undef w') : dQ pg (fZ 67 (.pointer (some ⟨b, off, none⟩)) (.agg xs)) w K := yO (v := .agg xs) GY ho hs hv h hk
theorem bS {k : IntKind} {lo : Int} (a : Option Addr) (n c : Nat) (w : MA) (h0 : 0 <= lo) (h1 : lo <= n) : (hJ 22 (.slice a n c) (some (.int k lo)) none none).run pg w = .ok (.value (.slice (iC a c (lo.toNat) 1) (n - lo.toNat) (c - lo.toNat))) w := Gv Tryd.underlying22 Cm _ n c h0 h1
theorem BE {b off : Nat} {cs : List MB} {w : MA} {v : MB} {K : MB -> MA -> Prop} (ho : iD w b cs) (hv : one v = true) (h : off < cs.length) (hk : ∀ w', iD w' b (cs.set off v) -> gA w w' (fun x => x = b) -> w'.heap.size = w.heap.size -> K undef w') : dQ pg (fZ 45 (.pointer (some ⟨b, off, none⟩)) v) w K := sD Jx rfl ho hv h hk
theorem aF (b o : Nat) (w : MA) : (fF 67 (.pointer (some ⟨b, o, none⟩)) 0).run pg w = .ok (.value (.pointer (some ⟨b, o, none⟩))) w := jM (i := 0) Tryd.underlying67 rfl DK (by decide) _
theorem aG (b o : Nat) (w : MA) : (fF 47 (.pointer (some ⟨b, o, none⟩)) 1).run pg w = .ok (.value (.pointer (some ⟨b, o + 1, none⟩))) w := jM (i := 1) Tryd.underlying47 rfl DK (by decide) _
theorem IY : (pg).info? 4 = some Tryd.t4 := by kernel_rfl
theorem aJ (b o : Nat) (w : MA) : (fF 67 (.pointer (some ⟨b, o, none⟩)) 2).run pg w = .ok (.value (.pointer (some ⟨b, o + 2, none⟩))) w := jM (i := 2) Tryd.underlying67 rfl IY (by decide) _
theorem dP (x : Addr) (w : MA) : (fM 4 (.pointer (some x))).run pg w = Gn (w.cell? x) w (HE pg 4 x w) := EN Tryd.underlying4 rfl x w
theorem aP (b o : Nat) (w : MA) : (fF 67 (.pointer (some ⟨b, o, none⟩)) 1).run pg w = .ok (.value (.pointer (some ⟨b, o + 1, none⟩))) w := jM (i := 1) Tryd.underlying67 rfl DK (by decide) _
theorem aN (b o : Nat) (w : MA) : (fF 47 (.pointer (some ⟨b, o, none⟩)) 2).run pg w = .ok (.value (.pointer (some ⟨b, o + 2, none⟩))) w := jM (i := 2) Tryd.underlying47 rfl DP (by decide) _
theorem bD (H2 Iy HJ : MB) (w : MA) : (hX 80 [(2, (.agg #[H2, Iy, HJ]))]).run pg w = .ok (.value (.agg #[(.slice none 0 0), (.int .i64 0), (.slice none 0 0), (.int .i64 0), (.slice none 0 0), (.int .i64 0), (.slice none 0 0), H2, Iy, HJ])) w := by kernel_rfl
theorem GL : (pg).info? 80 = some Tryd.t80 := by kernel_rfl
theorem zZ {w : MA} {K : MB -> MA -> Prop} (hk : ∀ w', iD w' w.heap.size [(.slice none 0 0), (.int .i64 0), (.slice none 0 0), (.int .i64 0), (.slice none 0 0), (.int .i64 0), (.slice none 0 0), (.int .u32 0), (.int .u32 0), (.int .u32 0)] -> gA w w' nQ -> w'.heap.size = w.heap.size + 1 -> K (.pointer (some ⟨w.heap.size, 0, none⟩)) w') : dQ pg (oS 80) w K := A2 (i := Tryd.t80) GL rfl hk
theorem iI {b off : Nat} {cs : List MB} {w : MA} {xs : Array MB} {K : MB -> MA -> Prop} (ho : iD w b cs) (hs : xs.size = 10) (hv : ∀ x ∈ xs.toList, one x = true) (h : off + 10 <= cs.length) (hk : ∀ w', iD w' b (gD cs off xs.toList) -> gA w w' (fun x => x = b) -> w'.heap.size = w.heap.size -> K undef w') : dQ pg (fZ 80 (.pointer (some ⟨b, off, none⟩)) (.agg xs)) w K := yO (v := .agg xs) GL ho hs hv h hk
theorem sE {b off : Nat} {cs : List MB} {w : MA} (ho : iD w b cs) (h : off + 10 <= cs.length) : (fM 80 (.pointer (some ⟨b, off, none⟩))).run pg w = .ok (.value (.agg ((cs.drop off).take 10).toArray)) w := EF Tryd.underlying80 rfl GL ho h
theorem aQ (b o : Nat) (w : MA) : (fF 67 (.pointer (some ⟨b, o, none⟩)) 3).run pg w = .ok (.value (.pointer (some ⟨b, o + 3, none⟩))) w := jM (i := 3) Tryd.underlying67 rfl IY (by decide) _
theorem C8 {b off : Nat} {cs : List MB} {w : MA} {v : MB} {K : MB -> MA -> Prop} (ho : iD w b cs) (hv : one v = true) (h : off < cs.length) (hk : ∀ w', iD w' b (cs.set off v) -> gA w w' (fun x => x = b) -> w'.heap.size = w.heap.size -> K undef w') : dQ pg (fZ 22 (.pointer (some ⟨b, off, none⟩)) v) w K := sD GO rfl ho hv h hk
theorem EP {b off : Nat} {cs : List MB} {w : MA} {v : MB} {K : MB -> MA -> Prop} (ho : iD w b cs) (hv : one v = true) (h : off < cs.length) (hk : ∀ w', iD w' b (cs.set off v) -> gA w w' (fun x => x = b) -> w'.heap.size = w.heap.size -> K undef w') : dQ pg (fZ 3 (.pointer (some ⟨b, off, none⟩)) v) w K := sD DP rfl ho hv h hk
theorem cC {k : IntKind} (a : Int) (w : MA) : (jV 40 3 (.int k a)).run pg w = .ok (.value (.int .i64 (IntKind.i64.wrap a))) w := rX Tryd.underlying40 Tryd.underlying3
theorem aD (b o : Nat) (w : MA) : (fF 58 (.pointer (some ⟨b, o, none⟩)) 1).run pg w = .ok (.value (.pointer (some ⟨b, o + 1, none⟩))) w := jM (i := 1) Tryd.underlying58 rfl Iw (by decide) _
theorem ER {b off : Nat} {cs : List MB} {w : MA} {v : MB} {K : MB -> MA -> Prop} (ho : iD w b cs) (hv : one v = true) (h : off < cs.length) (hk : ∀ w', iD w' b (cs.set off v) -> gA w w' (fun x => x = b) -> w'.heap.size = w.heap.size -> K undef w') : dQ pg (fZ 26 (.pointer (some ⟨b, off, none⟩)) v) w K := sD Iw rfl ho hv h hk
theorem bZ {ox oy : Operand} (x : Option Addr) (n c : Nat) (w : MA) : (fD .eql 22 ox oy (.slice x n c) (.slice none 0 0)).run pg w = .ok (.value (.bool x.isNone)) w := IZ Tryd.underlying22 x n c
theorem bT {k k' : IntKind} {hi mx : Int} (a : Option Addr) (n c : Nat) (w : MA) (h0 : 0 <= hi) (h1 : hi <= mx) (h2 : mx <= c) : (hJ 22 (.slice a n c) none (some (.int k hi)) (some (.int k' mx))).run pg w = .ok (.value (.slice (iC a mx.toNat 0 1) (hi.toNat - 0) (mx.toNat - 0))) w := F9 Tryd.underlying22 Cm a n c h0 h1 h2
theorem lQ {b off : Nat} {cs : List MB} {w : MA} (ho : iD w b cs) (h : off + 4 <= cs.length) {K : MB -> Prop} (hk : K (.agg ((cs.drop off).take 4).toArray)) : D9 pg 67 (.pointer (some ⟨b, off, none⟩)) w K := Dp Tryd.underlying67 rfl GY ho h hk
theorem bL  (w : MA) : (hX 67 []).run pg w = .ok (.value (.agg #[(.int .u64 0), (.int .u64 0), (.bool false), (.bool false)])) w := by kernel_rfl
theorem bB (b0 : Bool) (w : MA) : (hX 67 [(3, (.bool b0))]).run pg w = .ok (.value (.agg #[(.int .u64 0), (.int .u64 0), (.bool false), (.bool b0)])) w := by kernel_rfl
theorem aY (n0 : Int) (n1 : Int) (n2 : Int) (n3 : Int) (w : MA) : (hX 87 [(0, (.int .i64 n0)), (1, (.int .i64 n1)), (2, (.int .i64 n2)), (3, (.int .i64 n3))]).run pg w = .ok (.value (.agg #[(.int .i64 n0), (.int .i64 n1), (.int .i64 n2), (.int .i64 n3)])) w := by kernel_rfl
theorem cX {k : IntKind} {a : Int} (cs : Array MB) (w : MA) (h0 : 0 <= a) (h1 : a < 4) : (CH 87 (.agg cs) (.int k a)).run pg w = Gn cs[a.toNat]? w (J0 pg 87 cs k a w) := II Tryd.underlying87 Tryd.underlying3 rfl DP rfl cs h0 (by simpa using h1)
theorem Jd {b off : Nat} {cs : List MB} {w : MA} {v : MB} {K : MB -> MA -> Prop} (ho : iD w b cs) (hv : one v = true) (h : off < cs.length) (hk : ∀ w', iD w' b (cs.set off v) -> gA w w' (fun x => x = b) -> w'.heap.size = w.heap.size -> K undef w') : dQ pg (fZ 4 (.pointer (some ⟨b, off, none⟩)) v) w K := sD IY rfl ho hv h hk
theorem Cy {b off : Nat} {cs : List MB} {w : MA} (ho : iD w b cs) (h : off + 4 <= cs.length) : (fM 67 (.pointer (some ⟨b, off, none⟩))).run pg w = .ok (.value (.agg ((cs.drop off).take 4).toArray)) w := EF Tryd.underlying67 rfl GY ho h
theorem H3 : (pg).info? 72 = some Tryd.t72 := by kernel_rfl
theorem CB {b off : Nat} {cs : List MB} {w : MA} (ho : iD w b cs) (h : off + 3 <= cs.length) {K : MB -> Prop} (hk : K (.agg ((cs.drop off).take 3).toArray)) : D9 pg 72 (.pointer (some ⟨b, off, none⟩)) w K := Dp Tryd.underlying72 rfl H3 ho h hk
theorem Dj {w : MA} {K : MB -> MA -> Prop} (hk : ∀ w', iD w' w.heap.size [(.int .u32 0), (.int .u32 0), (.int .u32 0)] -> gA w w' nQ -> w'.heap.size = w.heap.size + 1 -> K (.pointer (some ⟨w.heap.size, 0, none⟩)) w') : dQ pg (oS 72) w K := A2 (i := Tryd.t72) H3 rfl hk
theorem aI (n0 : Int) (n1 : Int) (n2 : Int) (w : MA) : (hX 72 [(0, (.int .u32 n0)), (1, (.int .u32 n1)), (2, (.int .u32 n2))]).run pg w = .ok (.value (.agg #[(.int .u32 n0), (.int .u32 n1), (.int .u32 n2)])) w := by kernel_rfl
theorem Ct {b off : Nat} {cs : List MB} {w : MA} {xs : Array MB} {K : MB -> MA -> Prop} (ho : iD w b cs) (hs : xs.size = 3) (hv : ∀ x ∈ xs.toList, one x = true) (h : off + 3 <= cs.length) (hk : ∀ w', iD w' b (gD cs off xs.toList) -> gA w w' (fun x => x = b) -> w'.heap.size = w.heap.size -> K undef w') : dQ pg (fZ 72 (.pointer (some ⟨b, off, none⟩)) (.agg xs)) w K := yO (v := .agg xs) H3 ho hs hv h hk
theorem jY {b off : Nat} {cs : List MB} {w : MA} (ho : iD w b cs) (h : off + 10 <= cs.length) {K : MB -> Prop} (hk : K (.agg ((cs.drop off).take 10).toArray)) : D9 pg 80 (.pointer (some ⟨b, off, none⟩)) w K := Dp Tryd.underlying80 rfl GL ho h hk
theorem bE  (w : MA) : (hX 80 []).run pg w = .ok (.value (.agg #[(.slice none 0 0), (.int .i64 0), (.slice none 0 0), (.int .i64 0), (.slice none 0 0), (.int .i64 0), (.slice none 0 0), (.int .u32 0), (.int .u32 0), (.int .u32 0)])) w := by kernel_rfl
theorem HZ : (pg).info? 90 = some Tryd.t90 := by kernel_rfl
theorem vD {w : MA} {K : MB -> MA -> Prop} (hk : ∀ w', iD w' w.heap.size [(.bool false), (.int .i64 0), (.int .i64 0)] -> gA w w' nQ -> w'.heap.size = w.heap.size + 1 -> K (.pointer (some ⟨w.heap.size, 0, none⟩)) w') : dQ pg (oS 90) w K := A2 (i := Tryd.t90) HZ rfl hk
theorem pI {b off : Nat} {cs : List MB} {w : MA} {xs : Array MB} {K : MB -> MA -> Prop} (ho : iD w b cs) (hs : xs.size = 3) (hv : ∀ x ∈ xs.toList, one x = true) (h : off + 3 <= cs.length) (hk : ∀ w', iD w' b (gD cs off xs.toList) -> gA w w' (fun x => x = b) -> w'.heap.size = w.heap.size -> K undef w') : dQ pg (fZ 90 (.pointer (some ⟨b, off, none⟩)) (.agg xs)) w K := yO (v := .agg xs) HZ ho hs hv h hk
theorem aT (b o : Nat) (w : MA) : (fF 90 (.pointer (some ⟨b, o, none⟩)) 2).run pg w = .ok (.value (.pointer (some ⟨b, o + 2, none⟩))) w := jM (i := 2) Tryd.underlying90 rfl DP (by decide) _
theorem aS (b o : Nat) (w : MA) : (fF 90 (.pointer (some ⟨b, o, none⟩)) 1).run pg w = .ok (.value (.pointer (some ⟨b, o + 1, none⟩))) w := jM (i := 1) Tryd.underlying90 rfl DP (by decide) _
theorem aR (b o : Nat) (w : MA) : (fF 90 (.pointer (some ⟨b, o, none⟩)) 0).run pg w = .ok (.value (.pointer (some ⟨b, o, none⟩))) w := jM (i := 0) Tryd.underlying90 rfl IY (by decide) _
theorem KR : (pg).info? 9 = some Tryd.t9 := by kernel_rfl
theorem aA (b o : Nat) (w : MA) : (fF 58 (.pointer (some ⟨b, o, none⟩)) 0).run pg w = .ok (.value (.pointer (some ⟨b, o, none⟩))) w := jM (i := 0) Tryd.underlying58 rfl KR (by decide) _
theorem dC (x : Addr) (w : MA) : (fM 9 (.pointer (some x))).run pg w = Gn (w.cell? x) w (HE pg 9 x w) := EN Tryd.underlying9 rfl x w
theorem cK {k : IntKind} {hi : Int} (x : ByteArray) (w : MA) (h0 : 0 <= hi) (h1 : hi <= x.size) : (hJ 9 (.string x) none (some (.int k hi)) none).run pg w = .ok (.value (.string (x.extract 0 hi.toNat))) w := FQ Tryd.underlying9  x h0 h1
theorem Aa {b off : Nat} {cs : List MB} {w : MA} (ho : iD w b cs) (h : off + 3 <= cs.length) {K : MB -> Prop} (hk : K (.agg ((cs.drop off).take 3).toArray)) : D9 pg 90 (.pointer (some ⟨b, off, none⟩)) w K := Dp Tryd.underlying90 rfl HZ ho h hk
theorem bP  (w : MA) : (hX 90 []).run pg w = .ok (.value (.agg #[(.bool false), (.int .i64 0), (.int .i64 0)])) w := by kernel_rfl
theorem aO (b0 : Bool) (n1 : Int) (n2 : Int) (w : MA) : (hX 90 [(0, (.bool b0)), (1, (.int .i64 n1)), (2, (.int .i64 n2))]).run pg w = .ok (.value (.agg #[(.bool b0), (.int .i64 n1), (.int .i64 n2)])) w := by kernel_rfl
theorem cW {k : IntKind} (a : Int) (w : MA) : (jV 35 3 (.int k a)).run pg w = .ok (.value (.int .i64 (IntKind.i64.wrap a))) w := rX Tryd.underlying35 Tryd.underlying3
theorem AM {ty : TypeId} {w : MA} {b off dl c : Nat} {cs : List MB} (ho : iD w b cs) (hl : off + dl <= cs.length) {v : MB} {l : List MB} (h : Sl w v l) (hv : ∀ x ∈ l, one x = true) {K : MB -> MA -> Prop} (hk : ∀ w', iD w' b (gD cs off (l.take (min l.length dl))) -> gA w w' (fun x => x = b) -> w'.heap.size = w.heap.size -> K (.int .i64 (min l.length dl : Nat)) w') : dQ pg (nR .copy #[22, 22] ty [.slice (some ⟨b, off, none⟩) dl c, v]) w K := HQ Tryd.underlying22 Cm rfl ho hl h hv hk
theorem bW {k : IntKind} (a : Int) (w : MA) : (jV 35 70 (.int k a)).run pg w = .ok (.value (.int .u32 (IntKind.u32.wrap a))) w := rX Tryd.underlying35 Tryd.underlying70
theorem bV {k : IntKind} (a : Int) (w : MA) : (jV 70 35 (.int k a)).run pg w = .ok (.value (.int .u64 (IntKind.u64.wrap a))) w := rX Tryd.underlying70 Tryd.underlying35
theorem cF (H2 Iy HJ Kr : MB) (w : MA) : (hX 138 [(0, (.agg #[H2, Iy, HJ, Kr]))]).run pg w = .ok (.value (.agg #[H2, Iy, HJ, Kr, (.int .u8 0), (.int .u8 0), (.int .u8 0), (.int .u8 0), (.int .u8 0), (.int .u8 0), (.int .u8 0), (.int .u8 0), (.int .u8 0), (.int .u8 0), (.int .u8 0), (.int .u8 0), (.int .u8 0), (.int .u8 0), (.int .u8 0), (.int .u8 0), (.int .u8 0), (.int .u8 0), (.int .u8 0), (.int .u8 0), (.int .u8 0), (.int .u8 0), (.int .u8 0), (.int .u8 0), (.int .u8 0), (.int .u8 0), (.int .u8 0), (.int .u8 0), (.int .u8 0), (.int .u8 0), (.int .u8 0), (.int .u8 0), (.int .i64 0), (.int .u64 0)])) w := by kernel_rfl
theorem bQ {ox oy : Operand} (x : Option Addr) (w : MA) : (fD .eql 106 ox oy (.pointer x) (.pointer none)).run pg w = .ok (.value (.bool x.isNone)) w := HF Tryd.underlying106 x
theorem bO (b o : Nat) (w : MA) : (fF 138 (.pointer (some ⟨b, o, none⟩)) 3).run pg w = .ok (.value (.pointer (some ⟨b, o + 37, none⟩))) w := jM (i := 3) Tryd.underlying138 rfl DK (by decide) _
theorem JA : (pg).info? 136 = some Tryd.t136 := by kernel_rfl
theorem bK (b o : Nat) (w : MA) : (fF 138 (.pointer (some ⟨b, o, none⟩)) 1).run pg w = .ok (.value (.pointer (some ⟨b, o + 4, none⟩))) w := jM (i := 1) Tryd.underlying138 rfl JA (by decide) _
theorem cI (b o : Nat) (w : MA) : (fF 138 (.pointer (some ⟨b, o, none⟩)) 2).run pg w = .ok (.value (.pointer (some ⟨b, o + 36, none⟩))) w := jM (i := 2) Tryd.underlying138 rfl DP (by decide) _
theorem bF {k : IntKind} {lo : Int} (b o : Nat) (w : MA) (h0 : 0 <= lo) (h1 : lo <= 32) : (hJ 136 (.pointer (some ⟨b, o, none⟩)) (some (.int k lo)) none none).run pg w = .ok (.value (.slice (some (rZ ⟨b, o, none⟩ 32 (lo.toNat) 1)) (32 - lo.toNat) (32 - lo.toNat))) w := Fc Tryd.underlying136 Cm _ h0 (by simpa using h1)
theorem cB (b o : Nat) (w : MA) : (fF 138 (.pointer (some ⟨b, o, none⟩)) 0).run pg w = .ok (.value (.pointer (some ⟨b, o, none⟩))) w := jM (i := 0) Tryd.underlying138 rfl Ju (by decide) _
theorem bA {k k' : IntKind} {lo hi : Int} (b o : Nat) (w : MA) (h0 : 0 <= lo) (h1 : lo <= hi) (h2 : hi <= 32) : (hJ 136 (.pointer (some ⟨b, o, none⟩)) (some (.int k lo)) (some (.int k' hi)) none).run pg w = .ok (.value (.slice (some (rZ ⟨b, o, none⟩ 32 (lo.toNat) 1)) (hi.toNat - lo.toNat) (32 - lo.toNat))) w := DZ Tryd.underlying136 Cm _ h0 h1 (by simpa using h2)
theorem bG {k : IntKind} {hi : Int} (b o : Nat) (w : MA) (h0 : 0 <= hi) (h1 : hi <= 32) : (hJ 136 (.pointer (some ⟨b, o, none⟩)) none (some (.int k hi)) none).run pg w = .ok (.value (.slice (some (rZ ⟨b, o, none⟩ 32 (0) 1)) (hi.toNat - 0) (32 - 0))) w := Fw Tryd.underlying136 Cm _ h0 (by simpa using h1)
theorem bM {k : IntKind} (a : Int) (w : MA) : (jV 70 40 (.int k a)).run pg w = .ok (.value (.int .u64 (IntKind.u64.wrap a))) w := rX Tryd.underlying70 Tryd.underlying40
theorem bJ {k : IntKind} (a : Int) (w : MA) : (jV 40 70 (.int k a)).run pg w = .ok (.value (.int .u32 (IntKind.u32.wrap a))) w := rX Tryd.underlying40 Tryd.underlying70
theorem DQ {b off : Nat} {cs : List MB} {w : MA} (ho : iD w b cs) (h : off + 4 <= cs.length) : (fM 49 (.pointer (some ⟨b, off, none⟩))).run pg w = .ok (.value (.agg ((cs.drop off).take 4).toArray)) w := EF Tryd.underlying49 rfl Ju ho h
theorem cA {k : IntKind} {a : Int} (cs : Array MB) (w : MA) (h0 : 0 <= a) (h1 : a < 4) : (CH 49 (.agg cs) (.int k a)).run pg w = Gn cs[a.toNat]? w (J0 pg 49 cs k a w) := II Tryd.underlying49 Tryd.underlying40 rfl DK rfl cs h0 (by simpa using h1)
end Go.Proofs.YthohephggmkeeaaDoor
namespace Go.Pu
def BL (p : Int) : Int := if p < 0 then 1 else p
def fits : Int -> List Int -> Bool
 | left, [] => left == 0
 | left, p :: r => if p < -1 ∨ left < BL p then false else fits (left - BL p) r
def Fv (ps : List Int) : Int := (ps.map BL).sum
def Jr (log : Int) (ps : List Int) : Bool := decide (5 <= log /\ log <= 15 /\ 1 <= ps.length /\ ps.length <= 256 /\ ps.getLast? ≠ some 0)
def Kd (log : Int) (ps : List Int) : Bool := Jr log ps && fits (2 ^ log.toNat) ps
theorem Ew (p : Int) (ps : List Int) : Fv (p :: ps) = BL p + Fv ps := by simp [Fv]
theorem D7 {p : Int} (h : -1 <= p) : 0 <= BL p := by unfold BL; split <;> omega
theorem FC {ps : List Int} (h : ∀ p ∈ ps, -1 <= p) : 0 <= Fv ps := by
 induction ps with
 | nil => simp [Fv]
 | cons p r ih =>
   rw [Ew]
   have := D7 (h p (by simp))
   have := ih fun q hq => h q (Lx _ hq)
   omega
theorem FJ : ∀ {ps : List Int} {left : Int}, fits left ps = true ↔ (∀ p ∈ ps, -1 <= p) /\ Fv ps = left
 | [], left => by simp [fits, Fv]; constructor <;> intro h <;> omega
 | p :: r, left => by
   rw [fits, Ew]
   by_cases h : p < -1 ∨ left < BL p
   .rw [if_pos h]
    constructor
    .intro h; cases h
    .rintro ⟨h1, h2⟩
     have hp := h1 p (by simp)
     have := FC (ps := r) fun q hq => h1 q (Lx _ hq)
     omega
   .rw [if_neg h, FJ]
    constructor
    .rintro ⟨h1, h2⟩
     exact ⟨fun q hq => by rcases L5.1 hq with rfl | hq; · omega
                           .exact h1 q hq, by omega⟩
    .rintro ⟨h1, h2⟩
     exact ⟨fun q hq => h1 q (Lx _ hq), by omega⟩
structure KU (log : Nat) (ps : List Int) : Prop where
 log5 : 5 <= log
 log15 : log <= 15
 len1 : 1 <= ps.length
 len256 : ps.length <= 256
 last : ps.getLast? ≠ some 0
 low : ∀ p ∈ ps, -1 <= p
 sum : Fv ps = 2 ^ log
theorem KU.b {log : Nat} {ps : List Int} (h : KU log ps) : Kd log ps = true := by
 unfold Kd Jr
 simp only [Lo, decide_eq_true_eq]
 have h1 := h.log5
 have h2 := h.log15
 refine ⟨⟨by omega, by omega, h.len1, h.len256, h.last⟩, ?_⟩
 rw [FJ, Lk]
 exact ⟨h.low, h.sum⟩
def pos (n j : Nat) : Nat := (j * (n / 2 + n / 8 + 3)) % n
end Go.Pu
namespace Go.En
open Go
section
variable {P : Program} {w : MA} {t e : TypeId}
theorem Fs {i : TypeInfo} (hu : P.underlying t = some (.slice e)) (hi : P.info? e = some i)
 {K : MB -> MA -> Prop} (hk : ∀ w', iD w' w.heap.size [] -> gA w w' nQ -> w'.heap.size = w.heap.size + 1 -> K (.slice (some ⟨w.heap.size, 0, none⟩) 0 0) w') :
 dQ P (hZ t 0 []) w K := by
 have : (hZ t 0 []).run P w = .ok (.value (.slice (some ⟨w.heap.size, 0, none⟩) 0 0)) (w.alloc (.cells ([] : List MB).toArray e)) := by
  unfold hZ; rw [kM]
  have h1 : ¬ (0 > 2 ^ 24) := by omega
  have e : ∀ f : Nat -> MB, Array.map f (Array.range 0) = #[] := fun f => by simp
  simp only [Instr.buildSlice, underlying, pure_bind, Sem.run_bind, run_program, Result.andThen_ok, hu, Sem.run_pure, gY hi, Nat.zero_mul, h1, if_false, if_true, newRow, run_newObj, Instr.fill, e]
  rfl
 unfold dQ
 rw [this]
 exact hk _ (iD.alloc _ _ _) (gA.alloc _ _ _) (by simp)
def At (v : MB) (b : Nat) : Prop := ∀ M : Nat -> Prop, ¬ M b -> ¬ C9 v M
theorem At.nil (c b : Nat) (a : Option Addr) : At (.slice a 0 c) b := fun M h => by unfold C9; split <;> simp_all
theorem At.at (b o n c : Nat) : At (.slice (some ⟨b, o, none⟩) n c) b := fun M h => by
 unfold C9; split
 .rename_i x m _ e
  obtain ⟨rfl, _⟩ : (⟨b, o, none⟩ : Addr) = x /\ _ := by simpa using e
  exact h
 .simp
end
end Go.En
namespace Go.Proofs.YthohephggmkeeaaDoor
open Go Go.En Go.Pu
set_option maxRecDepth 4000
theorem JS {w : MA} {v : MB} {l : List UInt8} (h : Bs w v l) (h0 : 0 < l.length) : ∃ b off c, v = .slice (some ⟨b, off, none⟩) l.length c /\ l.length <= c /\ ∀ i, (h : i < l.length) -> w.cell? ⟨b, off + i, none⟩ = some (.int .u8 (l[i].toNat : Nat)) := by
 obtain ⟨b, off, c, rfl, hc, hcell⟩ := h.openV (by simpa using h0)
 refine ⟨b, off, c, by rw [Lq], by simpa using hc, fun i hi => ?_⟩
 have := hcell i (by simpa using hi)
 simpa [rE] using this
theorem I1 {v : MB} {l : List UInt8} {w : MA} (h : Bs w v l) (hl : l.length <= 1000000000) :
 fI pg lF #[v] w (fun r w' => CW w' w.heap.size 1 r l.length (l.map rE) /\ gA w w' nQ) := by
 refine zL ?_
 have h1 := h
 obtain ⟨a, n, c, rfl, hn, hc, hh⟩ := h
 rw [Lq] at hn
 unfold vS nW
 cases a with
 | none =>
   have h0 : l = [] := by
    cases l with
    | nil => rfl
    | cons x l => obtain ⟨b, off, h, _⟩ := hh (by simp at hn; omega); cases h
   subst h0
   simp (disch := omega) only [dQ, bZ, Lj, cQ, dI]
   exact ⟨CW.nil _ _ _, gA.refl _ _⟩
 | some x =>
   simp (disch := omega) only [dQ, bZ, Li, cQ, cY]
   refine Fs Tryd.underlying22 Cm fun w1 o1 x1 s1 => ?_
   have hcl1 := (h1.ext x1 (jX _)).cl
   rw [Lq] at hcl1
   have hos : CW w1 w.heap.size 1 (.slice (some ⟨w.heap.size, 0, none⟩) 0 0) 0 [] := ⟨rfl, .inr ⟨_, 0, [], rfl, LB _, o1, rfl, LB _⟩⟩
   refine Av hos hcl1 (Gb _) x1.size (by omega) fun v3 w3 o3 x3 => ?_
   rw [Ln, Ms] at o3
   exact ⟨o3, x1.trans x3 fun b hb h => Nat.not_le_of_lt hb h⟩
def JR (v : MB) (lo hi : Nat) : Prop := ∀ M : Nat -> Prop, (∀ b, lo <= b -> b < hi -> ¬ M b) -> ¬ C9 v M
theorem CW.atI {w : MA} {base sz n : Nat} {v : MB} {l : List MB} (h : CW w base sz v n l) : JR v base w.heap.size := by
 intro M hM
 rcases h.2 with ⟨rfl, rfl⟩ | ⟨b, c, rest, rfl, h2, h3, h4, h5⟩
 .exact fun h => h
 .exact At.at b 0 n c M (hM b h2 h3.lt)
end Go.Proofs.YthohephggmkeeaaDoor
namespace Go.Pu
open Go Go.En
def J7 (c : UInt8) : List Bool := (List.range 8).map c.toNat.testBit
def Jq : List UInt8 -> List Bool
 | [] => []
 | c :: l => J7 c ++ Jq l
theorem JQ {x i : Nat} (h : x < 2 ^ i) (b : Nat) : x ||| (b * 2 ^ i) = x + 2 ^ i * b := by
 rw [Nat.or_comm, Nat.mul_comm b, <- Nat.two_pow_add_eq_or_of_lt h b, Nat.add_comm]
theorem IT {a b : Nat} (ha : a < 2 ^ 64) (hb : b < 2 ^ 64) : J4 .u64 (a : Int) (b : Int) = ((a ||| b : Nat) : Int) := by
 have h := Nat.or_lt_two_pow ha hb
 unfold J4
 have e : IntKind.u64.bits = 64 := rfl
 rw [e, BitVec.ofInt_natCast, BitVec.ofInt_natCast, BitVec.toNat_or, BitVec.toNat_ofNat, BitVec.toNat_ofNat, L8 ha, L8 hb]
 exact dX (by omega) (by have : ((a ||| b : Nat) : Int) < ((2 ^ 64 : Nat) : Int) := by exact_mod_cast h
                         omega)
end Go.Pu
namespace Go.Proofs.YthohephggmkeeaaDoor
open Go Go.En Go.Pu
set_option maxRecDepth 4000
def KQ (w : MA) (lo hi : Nat) (l : List UInt8) (st : Nat) : Prop := ∃ v, iD w hi [v, .int .i64 st] /\ Bs w v l /\ JR v lo hi
theorem KQ.ext {w w' : MA} {lo hi st : Nat} {l : List UInt8} {M : Nat -> Prop} (h : KQ w lo hi l st) (hx : gA w w' M) (hM : ∀ b, lo <= b -> b <= hi -> ¬ M b) (hlh : lo <= hi) : KQ w' lo hi l st := by
 obtain ⟨v, h1, h2, h3⟩ := h
 exact ⟨v, h1.ext hx (hM _ hlh (LB _)), h2.ext hx (h3 M fun b hb hh => hM b hb (by omega)), h3⟩
theorem JR.sub {a : Option Addr} {n c m c' k sz lo hi : Nat} (h : JR (.slice a n c) lo hi) (hm : m <= n) : JR (.slice (iC a c k sz) m c') lo hi := by
 intro M hM hin
 cases m with
 | zero => unfold C9 at hin; split at hin <;> simp_all
 | succ m =>
   obtain ⟨n', rfl⟩ : ∃ n', n = n' + 1 := ⟨n - 1, by omega⟩
   have h1 := h M hM
   cases a with
   | none => unfold iC at hin; split at hin <;> exact hin
   | some x =>
     unfold iC at hin
     have h2 : M x.block := by
      split at hin
      .exact hin
      .rw [LH] at hin
       have e : (x.add (k * sz)).block = x.block := by unfold Addr.add; split <;> rfl
       have h3 : M (x.add (k * sz)).block := hin
       rwa [e] at h3
     exact h1 h2
end Go.Proofs.YthohephggmkeeaaDoor
namespace Go.Pu
def lB : List UInt8 -> Nat
 | [] => 0
 | c :: l => c.toNat + 256 * lB l
theorem vW : ∀ l : List UInt8, lB l < 256 ^ l.length
 | [] => by simp [lB]
 | c :: l => by
   have := vW l
   have hc := c.toNat_lt
   rw [lB, LA, Nat.pow_succ]; omega
theorem Eu (c : UInt8) : ∀ l : List UInt8, lB (l ++ [c]) = lB l + 256 ^ l.length * c.toNat
 | [] => by simp [lB]
 | d :: l => by
   rw [Md, lB, Eu c l, lB, LA, Nat.pow_succ, Nat.mul_add, Mn, Nat.mul_comm (256 ^ l.length) 256, Nat.mul_assoc]
theorem IG (i : Nat) : 256 ^ i = 2 ^ (8 * i) := by rw [Nat.pow_mul]
theorem Jj (l : List UInt8) (c : UInt8) : lB l ||| (c.toNat * 2 ^ (8 * l.length)) = lB (l ++ [c]) := by
 have := vW l
 rw [IG] at this
 rw [JQ this, Eu, IG]
end Go.Pu
namespace Go.Proofs.YthohephggmkeeaaDoor
open Go Go.En Go.Pu
set_option maxRecDepth 4000
def Gk (v : MB) (S : Nat -> Prop) : Prop := ∀ M : Nat -> Prop, (∀ b, S b -> ¬ M b) -> ¬ C9 v M
theorem JR.toS {v : MB} {lo hi : Nat} {S : Nat -> Prop} (h : JR v lo hi) (hS : ∀ b, lo <= b -> b < hi -> S b) : Gk v S := fun M hM => h M fun b h1 h2 => hM b (hS b h1 h2)
theorem Gk.mono {v : MB} {S T : Nat -> Prop} (h : Gk v S) (hT : ∀ b, S b -> T b) : Gk v T := fun M hM => h M fun b hb => hM b (hT b hb)
theorem Gk.nil (S : Nat -> Prop) : Gk (.slice none 0 0) S := fun M _ h => h
theorem Gk.sub {a : Option Addr} {n c m c' k mx sz : Nat} {S : Nat -> Prop} (h : Gk (.slice a n c) S) (hm : m <= n) : Gk (.slice (iC a mx k sz) m c') S := by
 intro M hM hin
 cases m with
 | zero => unfold C9 at hin; split at hin <;> simp_all
 | succ m =>
   obtain ⟨n', rfl⟩ : ∃ n', n = n' + 1 := ⟨n - 1, by omega⟩
   have h1 := h M hM
   cases a with
   | none => unfold iC at hin; split at hin <;> exact hin
   | some x =>
     unfold iC at hin
     have h2 : M x.block := by
      split at hin
      .exact hin
      .rw [LH] at hin
       have e : (x.add (k * sz)).block = x.block := by unfold Addr.add; split <;> rfl
       have h3 : M (x.add (k * sz)).block := hin
       rwa [e] at h3
     exact h1 h2
theorem Kk {w : MA} {a : Option Addr} {n c : Nat} {l : List MB} (h : Sl w (.slice a n c) l) {k : Nat} (hk : k <= n) : Sl w (.slice (iC a k 0 1) (k - 0) (k - 0)) (l.take k) := by
 obtain ⟨a', n', c', e, hn, hc, h⟩ := h
 cases e
 refine ⟨_, _, _, rfl, by rw [Lt]; omega, LB _, fun h0 => ?_⟩
 obtain ⟨b, off, rfl, h2⟩ := h (by omega)
 have hs : iC (some ⟨b, off, none⟩) k 0 1 = some ⟨b, off + 0 * 1, none⟩ := by unfold iC; rw [if_neg (by omega)] <;> rfl
 refine ⟨b, off, by rw [hs]; simp, fun i hi => ?_⟩
 rw [Mc (by omega)]
 exact h2 i (by omega)
def zJ (w : MA) (lo hi p : Nat) (l : List UInt8) (e : Int) : Prop := lo <= p /\ p < hi /\ ∃ v, iD w p [v, .int .i64 e] /\ Bs w v l /\ Gk v (fun b => lo <= b /\ b < hi /\ b ≠ p)
theorem zJ.ext {w w' : MA} {lo hi p : Nat} {l : List UInt8} {e : Int} {M : Nat -> Prop} (h : zJ w lo hi p l e) (x : gA w w' M) (hM : ∀ b, lo <= b -> b < hi -> ¬ M b) : zJ w' lo hi p l e := by
 obtain ⟨h0, h0', v, h1, h2, h3⟩ := h
 exact ⟨h0, h0', v, h1.ext x (hM _ h0 h0'), h2.ext x (h3 M fun b hb => hM b hb.1 hb.2.1), h3⟩
theorem zJ.lt {w : MA} {lo hi p : Nat} {l : List UInt8} {e : Int} (h : zJ w lo hi p l e) : p < w.heap.size := by
 obtain ⟨_, _, v, h1, _⟩ := h; exact h1.lt
theorem sX {v : MB} {l : List UInt8} {w : MA} (h : Bs w v l) (hl : l.length <= 1000000000) :
 fI pg iF #[v] w (fun r w' => ∃ p, r = .pointer (some ⟨p, 0, none⟩) /\ zJ w' w.heap.size w'.heap.size p l 0 /\ gA w w' nQ) := by
 refine Ao ?_
 unfold yP oU
 refine (I1 h hl).mono ?_
 rintro r w1 ⟨ho, x1⟩
 have hat := CW.atI ho
 have hs := ho.sl
 obtain ⟨va, vc, rfl⟩ := ho.len
 simp (disch := omega) only [dQ, aX, cQ]
 refine Dn fun w2 o2 x2 s2 => ?_
 have o2 : iD w2 w1.heap.size [.slice va l.length vc, .int .i64 0] := o2
 have hz := o2.lt
 exact ⟨w1.heap.size, rfl, ⟨x1.size, hz, _, o2, hs.ext x2 (jX _), hat.toS fun b h1 h2 => ⟨h1, by omega, by omega⟩⟩, x1.seq x2⟩
def tE (l : List UInt8) (e : Int) (n : Nat) : List UInt8 × List UInt8 × Int := if e ≠ 0 then ([], l, e) else if l.length < n then ([], l, 10) else (l.take n, l.drop n, 0)
theorem EW {lo hi p n : Nat} {l : List UInt8} {e : Int} {w : MA} (h : zJ w lo hi p l e) (hl : l.length <= 1000000000) (hn : n <= 1000000000) :
 fI pg jO #[.pointer (some ⟨p, 0, none⟩), .int .i64 n, .bool true] w (fun r w' => Bs w' r (tE l e n).1 /\ Gk r (fun b => lo <= b /\ b < hi /\ b ≠ p) /\ zJ w' lo hi p (tE l e n).2.1 (tE l e n).2.2 /\ gA w w' (fun y => y = p)) := by
 refine yL ?_
 unfold uG mQ
 have h' := h
 obtain ⟨h0, h0', v, o, hb, hat⟩ := h'
 obtain ⟨va, vc, rfl, hvc⟩ := hb.len
 rw [Lq] at hb hat o hvc
 have c0 := o.cell (off := 0)
 have c1 := o.cell (off := 1)
 simp only [Lf, Lg] at c0 c1
 by_cases he : e = 0
 rotate_left
 .have n1 : (e != 0) = true := by simpa using he
  have ht : tE l e n = ([], l, e) := by unfold tE; rw [if_pos he]
  rw [ht]
  simp (disch := omega) only [dQ, dZ, eB, Lm, cQ, aW, Ln, aV, cS, cY, cJ, c1, dH, eA, n1, dI]
  exact ⟨Sl.nil _, Gk.nil _, h, gA.refl _ _⟩
 subst he
 have n1 : ((0 : Int) != 0) = false := rfl
 by_cases hsh : l.length < n
 .have d1 : decide ((l.length : Int) < (n : Int)) = true := by simp; omega
  have ht : tE l 0 n = ([], l, 10) := by unfold tE; rw [if_neg (by decide), if_pos hsh]
  rw [ht]
  simp (disch := omega) only [dQ, dZ, eB, Lm, cQ, aW, Ln, aV, cS, cY, cJ, c1, dH, eA, n1, c0, cR, eH, d1, dI]
  refine ER o rfl (by simp) fun w1 o1 x1 s1 => ?_
  simp only [Ls, Lu] at o1
  exact ⟨Sl.nil _, Gk.nil _, ⟨h0, h0', _, o1, hb.ext x1 (hat _ fun b hb => hb.2.2), hat⟩, x1⟩
 .have d1 : decide ((l.length : Int) < (n : Int)) = false := by simp; omega
  have ht : tE l 0 n = (l.take n, l.drop n, 0) := by unfold tE; rw [if_neg (by decide), if_neg hsh]
  rw [ht]
  simp (disch := omega) only [dQ, dZ, eB, Lm, cQ, aW, Ln, aV, cS, cY, cJ, c1, dH, eA, n1, c0, cR, eH, d1, bT, Lk, bS]
  refine C8 o rfl (by simp [one]) fun w1 o1 x1 s1 => ?_
  simp only [Ls, Lu] at o1
  have hbn : Bs w (.slice (iC va n 0 1) (n - 0) (n - 0)) (l.take n) := by
   have := Kk hb (k := n) (by omega)
   rwa [<- Mw] at this
  have hbd : Bs w (.slice (iC va vc n 1) (l.length - n) (vc - n)) (l.drop n) := by
   have := hb.drop' (k := n) (by omega)
   rwa [<- Mx] at this
  have hn1 := hat.sub (mx := n) (k := 0) (sz := 1) (m := n - 0) (c' := n - 0) (by omega)
  have hn2 := hat.sub (mx := vc) (k := n) (sz := 1) (m := l.length - n) (c' := vc - n) (by omega)
  exact ⟨hbn.ext x1 (hn1 _ fun b hb => hb.2.2), hn1, ⟨h0, h0', _, o1, hbd.ext x1 (hn2 _ fun b hb => hb.2.2), hn2⟩, x1⟩
theorem AJ {lo hi p : Nat} {l : List UInt8} {e : Int} {w : MA} (h : zJ w lo hi p l e) :
 fI pg hP #[.pointer (some ⟨p, 0, none⟩)] w (fun r w' => r = .int .i64 l.length /\ w' = w) := by
 refine yT ?_
 unfold uO mZ
 obtain ⟨h0, h0', v, o, hb, hat⟩ := h
 obtain ⟨va, vc, rfl, hvc⟩ := hb.len
 rw [Lq] at hb hat o hvc
 have c0 := o.cell (off := 0)
 simp only [Lf, Lg] at c0
 simp (disch := omega) only [dQ, aM, Li, dZ, cQ, aV, cS, and_true, c0, dH, cR, cY]
theorem vN {lo hi p : Nat} {l : List UInt8} {e : Int} {w : MA} (h : zJ w lo hi p l e) :
 fI pg fX #[.pointer (some ⟨p, 0, none⟩)] w (fun r w' => r = .int .i64 e /\ w' = w) := by
 refine zF ?_
 unfold wA oB
 obtain ⟨h0, h0', v, o, hb, hat⟩ := h
 have c1 := o.cell (off := 1)
 simp only [Lf, Lg] at c1
 simp (disch := omega) only [dQ, aM, Li, dZ, cQ, aW, Ln, cJ, and_true, c1, dH, cY]
theorem CE {lo hi p n : Nat} {l : List UInt8} {e : Int} {w : MA} (h : zJ w lo hi p l e) (hl : l.length <= 1000000000) (hn : n <= 1000000000) :
 fI pg iJ #[.pointer (some ⟨p, 0, none⟩), .int .i64 n] w (fun r w' => Bs w' r (tE l e n).1 /\ Gk r (fun b => lo <= b /\ b < hi /\ b ≠ p) /\ zJ w' lo hi p (tE l e n).2.1 (tE l e n).2.2 /\ gA w w' (fun y => y = p)) := by
 refine xD ?_
 unfold tU lZ
 have d1 : decide ((0 : Int) <= (n : Int)) = true := by simp
 simp (disch := omega) only [dQ, aM, Li, eC, d1, cQ, cY]
 refine (EW h hl hn).mono ?_
 rintro r w1 hr
 exact hr
theorem nX {lo hi p n : Nat} {l : List UInt8} {e : Int} {w : MA} (h : zJ w lo hi p l e) (hl : l.length <= 1000000000) (hn : 1 <= n /\ n <= 8) :
 fI pg fP #[.pointer (some ⟨p, 0, none⟩), .int .i64 n] w (fun r w' => r = .int .u64 (lB (tE l e n).1 : Nat) /\ zJ w' lo hi p (tE l e n).2.1 (tE l e n).2.2 /\ gA w w' (fun y => y = p)) := by
 refine vF ?_
 unfold sW lO lJ lL lP lM
 have d1 : decide ((1 : Int) <= (n : Int)) = true := by simp; omega
 have d2 : decide ((n : Int) <= 8) = true := by simp; omega
 simp (disch := omega) only [dQ, aM, Li, eC, d1, cQ, dS, dR, if_true, dN, eI, d2, cY]
 refine (EW h hl (by omega)).mono ?_
 rintro r w1 ⟨hb, hat, hr, x1⟩
 obtain ⟨t, ht⟩ : ∃ t, t = (tE l e n).1 := ⟨_, rfl⟩
 have htl : t.length <= 8 := by
  rw [ht]; unfold tE
  split
  .simp
  .split
   .simp
   .simp; omega
 rw [<- ht] at hb ⊢
 obtain ⟨va, vc, rfl, hvc⟩ := hb.len
 rw [Lq] at hb hvc hat
 simp (disch := omega) only [Lq, cR, cQ]
 unfold lK lV
 refine iW.rule (fun m s w' => ∃ i : Nat, m = t.length - i /\ i <= t.length /\ s = (.int .u64 (lB (t.take i) : Nat), .int .i64 i) /\ w' = w1) t.length ⟨0, rfl, by omega, rfl, rfl⟩ ?_
 rintro m s w2 ⟨i, rfl, hi, rfl, hw⟩
 rw [hw]; clear hw w2
 unfold jS
 by_cases hlt : i < t.length
 .have d3 : decide ((i : Int) < (t.length : Int)) = true := by simp; omega
  obtain ⟨c, hc⟩ : ∃ c, c = t[i]'hlt := ⟨_, rfl⟩
  have htk : t.take (i + 1) = t.take i ++ [c] := by rw [List.take_add_one, Lr hlt, <- hc] <;> rfl
  have hor := Jj (t.take i) c
  rw [<- htk, Lt, LW (by omega)] at hor
  have hcl : c.toNat < 256 := UInt8.toNat_lt c
  obtain ⟨b, off, c', hv, hcc, hcell⟩ := hb.openV (by rw [Lq]; omega)
  have g1 := hcell i (by rw [Lq]; exact hlt)
  rw [Lq] at hv
  cases hv
  rw [List.getElem_map, <- hc] at g1
  simp only [rE] at g1
  generalize c.toNat = cx at *
  have hp : 2 ^ (8 * i) <= 2 ^ 56 := L1 (by omega) (by omega)
  have hm : cx * 2 ^ (8 * i) <= 255 * 2 ^ 56 := Nat.mul_le_mul (by omega) hp
  have hb0 := vW (t.take i)
  have hb1 := vW (t.take (i + 1))
  rw [Lt, LW (by omega)] at hb0 hb1
  have hq : 256 ^ i <= 256 ^ 7 := L1 (by omega) (by omega)
  have e0 : ((8 : Int) * (i : Int)) = ((8 * i : Nat) : Int) := by omega
  have e5 : IntKind.u64.wrap ((cx : Int) * 2 ^ (min (8 * i) IntKind.u64.bits)) = ((cx * 2 ^ (8 * i) : Nat) : Int) := by
   rw [show min (8 * i) IntKind.u64.bits = 8 * i from LW (by have : IntKind.u64.bits = 64 := rfl
                                                             omega)]
   have e : (cx : Int) * 2 ^ (8 * i) = ((cx * 2 ^ (8 * i) : Nat) : Int) := by simp
   rw [e]
   exact dX (by omega) (by omega)
  have e6 := IT (a := lB (t.take i)) (b := cx * 2 ^ (8 * i)) (by omega) (by omega)
  rw [hor] at e6
  have e7 : IntKind.u64.wrap (cx : Int) = (cx : Int) := dX (by omega) (by omega)
  simp (disch := omega) only [dQ, eE, d3, cV, Lk, eF, e0, dY, eD, cQ, cU, dX, dJ, g1, dH, bN, e7, eJ, e5, fH, e6, and_true, dI]
  exact ⟨t.length - (i + 1), by omega, i + 1, rfl, by omega, rfl⟩
 .have d3 : decide ((i : Int) < (t.length : Int)) = false := by simp; omega
  obtain rfl : i = t.length := by omega
  simp (disch := omega) only [dQ, eE, d3, eF, dY, eD, cQ, cU, dX, cY]
  unfold jR
  rw [List.take_length]
  exact ⟨rfl, hr, x1⟩
def Ey (s : List UInt8 × Int) (n : Nat) : List UInt8 × Int := ((tE s.1 s.2 n).2.1, (tE s.1 s.2 n).2.2)
def F3 (s : List UInt8 × Int) (n : Nat) : Nat := lB (tE s.1 s.2 n).1
structure FH where
 window : Nat
 size : Nat
 known : Bool
 sum : Bool
def HX (w : Nat) : Nat := 2 ^ (10 + w / 8) + 2 ^ (10 + w / 8) / 8 * (w % 8)
def Bv (d : Nat) : Bool := d / 32 % 2 == 1
def GQ (d : Nat) : Nat := if d % 4 = 3 then 4 else d % 4
def Cf (d : Nat) : Nat := if d / 64 = 0 then (if Bv d then 1 else 0) else 2 ^ (d / 64)
def He (s : List UInt8 × Int) (n : Nat) : List UInt8 × Int := if 0 < n then Ey s n else s
def Es (s : List UInt8 × Int) (n : Nat) : Nat := if 0 < n then F3 s n else 0
def J5 (s1 : List UInt8 × Int) (d : Nat) : List UInt8 × Int := if Bv d then s1 else Ey s1 1
def Dw (L : Nat) (s4 : List UInt8 × Int) (dict : Nat) (h : FH) : Except Int (FH × Nat) :=
 if s4.2 ≠ 0 then .error s4.2 else if dict ≠ 0 then .error 14 else .ok (h, L - s4.1.length)
def Jf (d x : Nat) : Nat := if Cf d = 2 then x + 256 else x
def EB (L : Nat) (s1 : List UInt8 × Int) (d : Nat) : Except Int (FH × Nat) :=
 Dw L (He (He (J5 s1 d) (GQ d)) (Cf d)) (Es (J5 s1 d) (GQ d))
  ⟨if Bv d then Jf d (Es (He (J5 s1 d) (GQ d)) (Cf d)) else HX (F3 s1 1), Jf d (Es (He (J5 s1 d) (GQ d)) (Cf d)), decide (0 < Cf d), d / 4 % 2 == 1⟩
def Bi (l : List UInt8) : Except Int (FH × Nat) :=
 if (Ey (l, 0) 1).2 ≠ 0 then .error (Ey (l, 0) 1).2 else if F3 (l, 0) 1 / 8 % 2 = 1 then .error 11 else EB l.length (Ey (l, 0) 1) (F3 (l, 0) 1)
def KE (h : FH) : MB := .agg #[.int .u64 (h.window : Nat), .int .u64 (h.size : Nat), .bool h.known, .bool h.sum]
def IM : Except Int (FH × Nat) -> MB
 | .error e => .tuple #[KE ⟨0, 0, false, false⟩, .int .i64 0, .int .i64 e]
 | .ok (h, n) => .tuple #[KE h, .int .i64 (n : Nat), .int .i64 0]
def yJ (h : FH) : List MB := [.int .u64 (h.window : Nat), .int .u64 (h.size : Nat), .bool h.known, .bool h.sum]
theorem EX {RR : MB -> MA -> Prop} {v : MB} {L lo hi pr ph pt dict : Nat} {l : List UInt8} {e : Int} {h : FH} {z : FH} {w : MA} (hr : zJ w lo hi pr l e) (hl : l.length <= 1000000) (hv : ∃ a c, v = .slice a L c) (hL : l.length <= L) (hL2 : L <= 1000000) (oh : iD w ph (yJ h)) (ot : iD w pt (yJ z)) (hne : ph ≠ pt) (hpt : ¬ (lo <= pt /\ pt < hi))
 (hk : ∀ w', gA w w' (fun y => y = pt) -> RR (IM (Dw L (l, e) dict h)) w') :
 pF RR v (.pointer (some ⟨pt, 0, none⟩)) (.pointer (some ⟨pr, 0, none⟩)) (.pointer (some ⟨ph, 0, none⟩)) (.int .u64 (dict : Nat)) w := by
 unfold pF
 obtain ⟨a, c, rfl⟩ := hv
 refine (vN hr).mono ?_
 rintro r w1 ⟨rfl, rfl⟩
 unfold Dw at hk
 by_cases he : e = 0
 .subst he
  have n0 : ((0 : Int) != 0) = false := rfl
  simp only [ne_eq, not_true, if_false] at hk
  by_cases hd : dict = 0
  .subst hd
   have n1 : (((0 : Nat) : Int) != 0) = false := rfl
   simp only [ne_eq, not_true, if_false] at hk
   have hq := Cy (off := 0) (iQ oh) (by simp [yJ])
   simp only [yJ, LF, Lz, LG] at hq
   simp (disch := omega) only [dQ, fE, cQ, stepR_skip, eD, eQ, eF, eX, eY, eP, fH, eK, dK, eJ, eT, fB, eA, eE, eI, eH, eC, fA, eU, eB, dR, eS, eL, dZ, gT, gQ, gM, gS, gO, gN, gU, gP, gR, dH, Result.ok.injEq, Next.value.injEq, true_and, and_true, dY, dX, eN, eZ, eM, fG, Lk, dS, dT, dV, dW, dN, dL, dO, dM, dI, cY, if_true, if_false, Lh, Ln, Li, Lj, Lm, Ll, Lg, Lf, cR, cM, cH, bY, cV, dJ, bU, bX, cS, cN, cO, dE, cL, dD, dG, dU, dB, cD, bH, bR, aU, aE, aH, dF, aL, cG, dA, cZ, bN, aK, bC, aZ, cP, aC, aX, aM, aV, cU, aW, cJ, bS, aF, aG, aJ, dP, aP, aN, bD, aQ, cC, aD, bZ, bT, bL, bB, aY, cX, aI, bE, aT, aS, aR, aA, dC, cK, bP, aO, cW, bW, bV, cF, bQ, bO, bK, cI, bF, cB, bA, bG, bM, bJ, cA, n0, n1, hq]
   refine (AJ (hr.ext (gA.dr w1 nQ) (fun _ _ _ h => h))).mono ?_
   rintro r w2 ⟨rfl, rfl⟩
   have e1 : (L : Int) - (l.length : Int) = ((L - l.length : Nat) : Int) := by omega
   simp (disch := omega) only [dQ, fE, cQ, stepR_skip, eD, eQ, eF, eX, eY, eP, fH, eK, dK, eJ, eT, fB, eA, eE, eI, eH, eC, fA, eU, eB, dR, eS, eL, dZ, gT, gQ, gM, gS, gO, gN, gU, gP, gR, dH, Result.ok.injEq, Next.value.injEq, true_and, and_true, dY, dX, eN, eZ, eM, fG, Lk, dS, dT, dV, dW, dN, dL, dO, dM, dI, cY, if_true, if_false, Lh, Ln, Li, Lj, Lm, Ll, Lg, Lf, cR, cM, cH, bY, cV, dJ, bU, bX, cS, cN, cO, dE, cL, dD, dG, dU, dB, cD, bH, bR, aU, aE, aH, dF, aL, cG, dA, cZ, bN, aK, bC, aZ, cP, aC, aX, aM, aV, cU, aW, cJ, bS, aF, aG, aJ, dP, aP, aN, bD, aQ, cC, aD, bZ, bT, bL, bB, aY, cX, aI, bE, aT, aS, aR, aA, dC, cK, bP, aO, cW, bW, bV, cF, bQ, bO, bK, cI, bF, cB, bA, bG, bM, bJ, cA, hq, e1]
   refine iR (iQ ot) rfl (by simp [one]) (by simp [yJ]) fun w3 o3 x3 s3 => ?_
   try simp (disch := omega) only [dQ, fE, cQ, stepR_skip, eD, eQ, eF, eX, eY, eP, fH, eK, dK, eJ, eT, fB, eA, eE, eI, eH, eC, fA, eU, eB, dR, eS, eL, dZ, gT, gQ, gM, gS, gO, gN, gU, gP, gR, dH, Result.ok.injEq, Next.value.injEq, true_and, and_true, dY, dX, eN, eZ, eM, fG, Lk, dS, dT, dV, dW, dN, dL, dO, dM, dI, cY, if_true, if_false, Lh, Ln, Li, Lj, Lm, Ll, Lg, Lf, cR, cM, cH, bY, cV, dJ, bU, bX, cS, cN, cO, dE, cL, dD, dG, dU, dB, cD, bH, bR, aU, aE, aH, dF, aL, cG, dA, cZ, bN, aK, bC, aZ, cP, aC, aX, aM, aV, cU, aW, cJ, bS, aF, aG, aJ, dP, aP, aN, bD, aQ, cC, aD, bZ, bT, bL, bB, aY, cX, aI, bE, aT, aS, aR, aA, dC, cK, bP, aO, cW, bW, bV, cF, bQ, bO, bK, cI, bF, cB, bA, bG, bM, bJ, cA, e1]
   refine lQ o3 (by simp [gD, yJ]) ?_
   simp only [gD, yJ, Ls, Lu, LF, Lz, LG]
   exact hk w3 ((gA.dr w1 _).seq x3)
  .have n1 : ((dict : Int) != 0) = true := by simp; omega
   rw [if_pos hd] at hk
   simp (disch := omega) only [dQ, fE, cQ, stepR_skip, eD, eQ, eF, eX, eY, eP, fH, eK, dK, eJ, eT, fB, eA, eE, eI, eH, eC, fA, eU, eB, dR, eS, eL, dZ, gT, gQ, gM, gS, gO, gN, gU, gP, gR, dH, Result.ok.injEq, Next.value.injEq, true_and, and_true, dY, dX, eN, eZ, eM, fG, Lk, dS, dT, dV, dW, dN, dL, dO, dM, dI, cY, if_true, if_false, Lh, Ln, Li, Lj, Lm, Ll, Lg, Lf, cR, cM, cH, bY, cV, dJ, bU, bX, cS, cN, cO, dE, cL, dD, dG, dU, dB, cD, bH, bR, aU, aE, aH, dF, aL, cG, dA, cZ, bN, aK, bC, aZ, cP, aC, aX, aM, aV, cU, aW, cJ, bS, aF, aG, aJ, dP, aP, aN, bD, aQ, cC, aD, bZ, bT, bL, bB, aY, cX, aI, bE, aT, aS, aR, aA, dC, cK, bP, aO, cW, bW, bV, cF, bQ, bO, bK, cI, bF, cB, bA, bG, bM, bJ, cA, n0, n1]
   refine iR ot rfl (by simp [one]) (by simp [yJ]) fun w3 o3 x3 s3 => ?_
   refine lQ o3 (by simp [gD, yJ]) ?_
   simp only [gD, yJ, Ls, Lu, LF, Lz, LG]
   exact hk w3 x3
 .have n0 : (e != 0) = true := by simp [he]
  rw [if_pos he] at hk
  simp (disch := omega) only [dQ, fE, cQ, stepR_skip, eD, eQ, eF, eX, eY, eP, fH, eK, dK, eJ, eT, fB, eA, eE, eI, eH, eC, fA, eU, eB, dR, eS, eL, dZ, gT, gQ, gM, gS, gO, gN, gU, gP, gR, dH, Result.ok.injEq, Next.value.injEq, true_and, and_true, dY, dX, eN, eZ, eM, fG, Lk, dS, dT, dV, dW, dN, dL, dO, dM, dI, cY, if_true, if_false, Lh, Ln, Li, Lj, Lm, Ll, Lg, Lf, cR, cM, cH, bY, cV, dJ, bU, bX, cS, cN, cO, dE, cL, dD, dG, dU, dB, cD, bH, bR, aU, aE, aH, dF, aL, cG, dA, cZ, bN, aK, bC, aZ, cP, aC, aX, aM, aV, cU, aW, cJ, bS, aF, aG, aJ, dP, aP, aN, bD, aQ, cC, aD, bZ, bT, bL, bB, aY, cX, aI, bE, aT, aS, aR, aA, dC, cK, bP, aO, cW, bW, bV, cF, bQ, bO, bK, cI, bF, cB, bA, bG, bM, bJ, cA, n0]
  refine (vN hr).mono ?_
  rintro r w2 ⟨rfl, rfl⟩
  refine iR ot rfl (by simp [one]) (by simp [yJ]) fun w3 o3 x3 s3 => ?_
  refine lQ o3 (by simp [gD, yJ]) ?_
  simp only [gD, yJ, Ls, Lu, LF, Lz, LG]
  exact hk w3 x3
theorem Fz {RR : MB -> MA -> Prop} {v : MB} {L lo hi pr ph pt dict : Nat} {l : List UInt8} {e : Int} {h : FH} {z : FH} {o : Bool} {w : MA} (hr : zJ w lo hi pr l e) (hl : l.length <= 1000000) (hv : ∃ a c, v = .slice a L c) (hL : l.length <= L) (hL2 : L <= 1000000) (oh : iD w ph (yJ h)) (ot : iD w pt (yJ z)) (hne : ph ≠ pt) (hpt : ¬ (lo <= pt /\ pt < hi)) (hph : ¬ (lo <= ph /\ ph < hi))
 (hk : ∀ w', gA w w' (fun y => y = pt ∨ y = ph) -> RR (IM (Dw L (l, e) dict ⟨if o then h.size else h.window, h.size, h.known, h.sum⟩)) w') :
 sO RR v (.pointer (some ⟨pt, 0, none⟩)) (.pointer (some ⟨pr, 0, none⟩)) (.pointer (some ⟨ph, 0, none⟩)) (.bool o) (.int .u64 (dict : Nat)) w := by
 unfold sO wP
 cases o with
 | false =>
   simp (disch := omega) only [dQ, fE, cQ, stepR_skip, eD, eQ, eF, eX, eY, eP, fH, eK, dK, eJ, eT, fB, eA, eE, eI, eH, eC, fA, eU, eB, dR, eS, eL, dZ, gT, gQ, gM, gS, gO, gN, gU, gP, gR, dH, Result.ok.injEq, Next.value.injEq, true_and, and_true, dY, dX, eN, eZ, eM, fG, Lk, dS, dT, dV, dW, dN, dL, dO, dM, dI, cY, if_true, if_false, Lh, Ln, Li, Lj, Lm, Ll, Lg, Lf, cR, cM, cH, bY, cV, dJ, bU, bX, cS, cN, cO, dE, cL, dD, dG, dU, dB, cD, bH, bR, aU, aE, aH, dF, aL, cG, dA, cZ, bN, aK, bC, aZ, cP, aC, aX, aM, aV, cU, aW, cJ, bS, aF, aG, aJ, dP, aP, aN, bD, aQ, cC, aD, bZ, bT, bL, bB, aY, cX, aI, bE, aT, aS, aR, aA, dC, cK, bP, aO, cW, bW, bV, cF, bQ, bO, bK, cI, bF, cB, bA, bG, bM, bJ, cA]
   exact EX hr hl hv hL hL2 oh ot hne hpt fun w' x => hk w' (x.mono fun _ _ h => .inl h)
 | true =>
   have c1 := oh.cell (off := 1)
   simp only [yJ, Lf, Lg] at c1
   simp (disch := omega) only [dQ, fE, cQ, stepR_skip, eD, eQ, eF, eX, eY, eP, fH, eK, dK, eJ, eT, fB, eA, eE, eI, eH, eC, fA, eU, eB, dR, eS, eL, dZ, gT, gQ, gM, gS, gO, gN, gU, gP, gR, dH, Result.ok.injEq, Next.value.injEq, true_and, and_true, dY, dX, eN, eZ, eM, fG, Lk, dS, dT, dV, dW, dN, dL, dO, dM, dI, cY, if_true, if_false, Lh, Ln, Li, Lj, Lm, Ll, Lg, Lf, cR, cM, cH, bY, cV, dJ, bU, bX, cS, cN, cO, dE, cL, dD, dG, dU, dB, cD, bH, bR, aU, aE, aH, dF, aL, cG, dA, cZ, bN, aK, bC, aZ, cP, aC, aX, aM, aV, cU, aW, cJ, bS, aF, aG, aJ, dP, aP, aN, bD, aQ, cC, aD, bZ, bT, bL, bB, aY, cX, aI, bE, aT, aS, aR, aA, dC, cK, bP, aO, cW, bW, bV, cF, bQ, bO, bK, cI, bF, cB, bA, bG, bM, bJ, cA, c1]
   refine tZ oh rfl (by simp [yJ]) fun w1 o1 x1 s1 => ?_
   refine EX (h := ⟨h.size, h.size, h.known, h.sum⟩) (hr.ext x1 fun y h1 h2 h3 => hph (h3 ▸ ⟨h1, h2⟩)) hl hv hL hL2 o1 (ot.ext x1 (fun e => hne e.symm)) hne hpt fun w' x => hk w' ((x1.mono fun _ _ h => .inr h).seq (x.mono fun _ _ h => .inl h))
theorem FX {RR : MB -> MA -> Prop} {v : MB} {L lo hi pr ph pt dict n : Nat} {l : List UInt8} {e : Int} {h : FH} {z : FH} {o : Bool} {w : MA} (hn : n = 2 -> h.size < 65536) (hr : zJ w lo hi pr l e) (hl : l.length <= 1000000) (hv : ∃ a c, v = .slice a L c) (hL : l.length <= L) (hL2 : L <= 1000000) (oh : iD w ph (yJ h)) (ot : iD w pt (yJ z)) (hne : ph ≠ pt) (hpt : ¬ (lo <= pt /\ pt < hi)) (hph : ¬ (lo <= ph /\ ph < hi))
 (hk : ∀ w', gA w w' (fun y => y = pt ∨ y = ph) -> RR (IM (Dw L (l, e) dict ⟨if o then (if n = 2 then h.size + 256 else h.size) else h.window, if n = 2 then h.size + 256 else h.size, h.known, h.sum⟩)) w') :
 sI RR v (.pointer (some ⟨pt, 0, none⟩)) (.pointer (some ⟨pr, 0, none⟩)) (.pointer (some ⟨ph, 0, none⟩)) (.bool o) (.int .u64 (dict : Nat)) (.int .i64 (n : Nat)) w := by
 unfold sI xT
 by_cases h2 : n = 2
 .have n1 : ((n : Int) == 2) = true := by rw [h2] <;> rfl
  simp only [h2, if_true] at hk
  have hs := hn h2
  have c1 := oh.cell (off := 1)
  simp only [yJ, Lf, Lg] at c1
  have e1 : (h.size : Int) + 256 = ((h.size + 256 : Nat) : Int) := by omega
  simp (disch := omega) only [dQ, fE, cQ, stepR_skip, eD, eQ, eF, eX, eY, eP, fH, eK, dK, eJ, eT, fB, eA, eE, eI, eH, eC, fA, eU, eB, dR, eS, eL, dZ, gT, gQ, gM, gS, gO, gN, gU, gP, gR, dH, Result.ok.injEq, Next.value.injEq, true_and, and_true, dY, dX, eN, eZ, eM, fG, Lk, dS, dT, dV, dW, dN, dL, dO, dM, dI, cY, if_true, if_false, Lh, Ln, Li, Lj, Lm, Ll, Lg, Lf, cR, cM, cH, bY, cV, dJ, bU, bX, cS, cN, cO, dE, cL, dD, dG, dU, dB, cD, bH, bR, aU, aE, aH, dF, aL, cG, dA, cZ, bN, aK, bC, aZ, cP, aC, aX, aM, aV, cU, aW, cJ, bS, aF, aG, aJ, dP, aP, aN, bD, aQ, cC, aD, bZ, bT, bL, bB, aY, cX, aI, bE, aT, aS, aR, aA, dC, cK, bP, aO, cW, bW, bV, cF, bQ, bO, bK, cI, bF, cB, bA, bG, bM, bJ, cA, n1, c1, e1]
  refine tZ oh rfl (by simp [yJ]) fun w1 o1 x1 s1 => ?_
  refine Fz (h := ⟨h.window, h.size + 256, h.known, h.sum⟩) (hr.ext x1 fun y h1 h2 h3 => hph (h3 ▸ ⟨h1, h2⟩)) hl hv hL hL2 o1 (ot.ext x1 (fun e => hne e.symm)) hne hpt hph fun w' x => hk w' ((x1.mono fun _ _ h => .inr h).seq x)
 .have n1 : ((n : Int) == 2) = false := by simp; omega
  simp only [if_neg h2] at hk
  simp (disch := omega) only [dQ, fE, cQ, stepR_skip, eD, eQ, eF, eX, eY, eP, fH, eK, dK, eJ, eT, fB, eA, eE, eI, eH, eC, fA, eU, eB, dR, eS, eL, dZ, gT, gQ, gM, gS, gO, gN, gU, gP, gR, dH, Result.ok.injEq, Next.value.injEq, true_and, and_true, dY, dX, eN, eZ, eM, fG, Lk, dS, dT, dV, dW, dN, dL, dO, dM, dI, cY, if_true, if_false, Lh, Ln, Li, Lj, Lm, Ll, Lg, Lf, cR, cM, cH, bY, cV, dJ, bU, bX, cS, cN, cO, dE, cL, dD, dG, dU, dB, cD, bH, bR, aU, aE, aH, dF, aL, cG, dA, cZ, bN, aK, bC, aZ, cP, aC, aX, aM, aV, cU, aW, cJ, bS, aF, aG, aJ, dP, aP, aN, bD, aQ, cC, aD, bZ, bT, bL, bB, aY, cX, aI, bE, aT, aS, aR, aA, dC, cK, bP, aO, cW, bW, bV, cF, bQ, bO, bK, cI, bF, cB, bA, bG, bM, bJ, cA, n1]
  exact Fz hr hl hv hL hL2 oh ot hne hpt hph hk
theorem Ie {RR : MB -> MA -> Prop} {v : MB} {L lo hi pr ph pt dict n : Nat} {s : List UInt8 × Int} {h : FH} {z : FH} {o : Bool} {w : MA} (hn8 : n <= 8) (hn : n = 2 -> h.size < 65536) (hk0 : h.known = false) (hs0 : h.size = 0) (hr : zJ w lo hi pr s.1 s.2) (hl : s.1.length <= 1000000) (hv : ∃ a c, v = .slice a L c) (hL : s.1.length <= L) (hL2 : L <= 1000000) (oh : iD w ph (yJ h)) (ot : iD w pt (yJ z)) (hne : ph ≠ pt) (hpt : ¬ (lo <= pt /\ pt < hi)) (hph : ¬ (lo <= ph /\ ph < hi)) (hpr : lo <= pr /\ pr < hi)
 (hk : ∀ w', gA w w' (fun y => y = pt ∨ y = ph ∨ y = pr) -> RR (IM (Dw L (He s n) dict ⟨if o then (if n = 2 then Es s n + 256 else Es s n) else h.window, if n = 2 then Es s n + 256 else Es s n, decide (0 < n), h.sum⟩)) w') :
 pH RR v (.pointer (some ⟨pt, 0, none⟩)) (.pointer (some ⟨pr, 0, none⟩)) (.pointer (some ⟨ph, 0, none⟩)) (.bool o) (.int .u64 (dict : Nat)) (.int .i64 (n : Nat)) w := by
 unfold pH xC
 by_cases h0 : 0 < n
 .have d1 : decide ((n : Int) > 0) = true := decide_eq_true (by omega)
  have d2 : decide ((0 : Int) < (n : Int)) = true := decide_eq_true (by omega)
  unfold He Es at hk
  simp only [if_pos h0, decide_eq_true h0] at hk
  have hlt : F3 s n < 256 ^ n := by
   unfold F3 tE
   split
   .simp [lB]; exact Nat.pow_pos (by omega)
   .split
    .simp [lB]; exact Nat.pow_pos (by omega)
    .have := vW (s.1.take n)
     rw [Lt, LW (by omega)] at this
     exact this
  have hle : (Ey s n).1.length <= s.1.length := by
   unfold Ey tE
   split
   .exact LB _
   .split
    .exact LB _
    .simp only [Lv]; omega
  simp (disch := omega) only [dQ, fE, cQ, stepR_skip, eD, eQ, eF, eX, eY, eP, fH, eK, dK, eJ, eT, fB, eA, eE, eI, eH, eC, fA, eU, eB, dR, eS, eL, dZ, gT, gQ, gM, gS, gO, gN, gU, gP, gR, dH, Result.ok.injEq, Next.value.injEq, true_and, and_true, dY, dX, eN, eZ, eM, fG, Lk, dS, dT, dV, dW, dN, dL, dO, dM, dI, cY, if_true, if_false, Lh, Ln, Li, Lj, Lm, Ll, Lg, Lf, cR, cM, cH, bY, cV, dJ, bU, bX, cS, cN, cO, dE, cL, dD, dG, dU, dB, cD, bH, bR, aU, aE, aH, dF, aL, cG, dA, cZ, bN, aK, bC, aZ, cP, aC, aX, aM, aV, cU, aW, cJ, bS, aF, aG, aJ, dP, aP, aN, bD, aQ, cC, aD, bZ, bT, bL, bB, aY, cX, aI, bE, aT, aS, aR, aA, dC, cK, bP, aO, cW, bW, bV, cF, bQ, bO, bK, cI, bF, cB, bA, bG, bM, bJ, cA, d1, d2]
  refine (nX hr (by omega) ⟨h0, hn8⟩).mono ?_
  rintro r w1 ⟨rfl, hr1, x1⟩
  have oh1 := oh.ext x1 (fun e => hph (e ▸ hpr))
  have ot1 := ot.ext x1 (fun e => hpt (e ▸ hpr))
  refine tZ oh1 rfl (by simp [yJ]) fun w2 o2 x2 s2 => ?_
  refine Jd (off := 2) o2 rfl (by simp [yJ]) fun w3 o3 x3 s3 => ?_
  have x23 := x2.seq x3
  refine FX (h := ⟨h.window, F3 s n, true, h.sum⟩) (l := (Ey s n).1) (e := (Ey s n).2) (fun h2 => by rw [h2] at hlt; rw [h2]; simpa using hlt) (hr1.ext x23 fun y h1 h2 h3 => hph (h3 ▸ ⟨h1, h2⟩)) (by omega) hv (by omega) hL2 o3 (ot1.ext x23 (fun e => hne e.symm)) hne hpt hph fun w' x => hk w' (((x1.mono fun _ _ h => .inr (.inr h)).seq (x23.mono fun _ _ h => .inr (.inl h))).seq (x.mono fun _ _ h => h.elim .inl fun h => .inr (.inl h)))
 .have d1 : decide ((n : Int) > 0) = false := decide_eq_false (by omega)
  have d2 : decide ((0 : Int) < (n : Int)) = false := decide_eq_false (by omega)
  unfold He Es at hk
  simp only [if_neg h0, decide_eq_false h0] at hk
  simp (disch := omega) only [dQ, fE, cQ, stepR_skip, eD, eQ, eF, eX, eY, eP, fH, eK, dK, eJ, eT, fB, eA, eE, eI, eH, eC, fA, eU, eB, dR, eS, eL, dZ, gT, gQ, gM, gS, gO, gN, gU, gP, gR, dH, Result.ok.injEq, Next.value.injEq, true_and, and_true, dY, dX, eN, eZ, eM, fG, Lk, dS, dT, dV, dW, dN, dL, dO, dM, dI, cY, if_true, if_false, Lh, Ln, Li, Lj, Lm, Ll, Lg, Lf, cR, cM, cH, bY, cV, dJ, bU, bX, cS, cN, cO, dE, cL, dD, dG, dU, dB, cD, bH, bR, aU, aE, aH, dF, aL, cG, dA, cZ, bN, aK, bC, aZ, cP, aC, aX, aM, aV, cU, aW, cJ, bS, aF, aG, aJ, dP, aP, aN, bD, aQ, cC, aD, bZ, bT, bL, bB, aY, cX, aI, bE, aT, aS, aR, aA, dC, cK, bP, aO, cW, bW, bV, cF, bQ, bO, bK, cI, bF, cB, bA, bG, bM, bJ, cA, d1, d2]
  refine FX (h := h) (l := s.1) (e := s.2) hn hr hl hv hL hL2 oh ot hne hpt hph fun w' x => ?_
  have := hk w' (x.mono fun _ _ h => h.elim .inl fun h => .inr (.inl h))
  rw [hs0, hk0]
  exact this
theorem Ft {RR : MB -> MA -> Prop} {v : MB} {L lo hi pr ph pt dict d : Nat} {s : List UInt8 × Int} {h : FH} {z : FH} {w : MA} (hd : d < 256) (hk0 : h.known = false) (hs0 : h.size = 0) (hr : zJ w lo hi pr s.1 s.2) (hl : s.1.length <= 1000000) (hv : ∃ a c, v = .slice a L c) (hL : s.1.length <= L) (hL2 : L <= 1000000) (oh : iD w ph (yJ h)) (ot : iD w pt (yJ z)) (hne : ph ≠ pt) (hpt : ¬ (lo <= pt /\ pt < hi)) (hph : ¬ (lo <= ph /\ ph < hi)) (hpr : lo <= pr /\ pr < hi)
 (hk : ∀ w', gA w w' (fun y => y = pt ∨ y = ph ∨ y = pr) -> RR (IM (Dw L (He s (Cf d)) dict ⟨if Bv d then Jf d (Es s (Cf d)) else h.window, Jf d (Es s (Cf d)), decide (0 < Cf d), h.sum⟩)) w') :
 pG RR v (.pointer (some ⟨pt, 0, none⟩)) (.pointer (some ⟨pr, 0, none⟩)) (.int .i64 (d : Nat)) (.pointer (some ⟨ph, 0, none⟩)) (.bool (Bv d)) (.int .u64 (dict : Nat)) w := by
 unfold pG xQ
 have main : ∀ n : Nat, n = Cf d -> pH RR v (.pointer (some ⟨pt, 0, none⟩)) (.pointer (some ⟨pr, 0, none⟩)) (.pointer (some ⟨ph, 0, none⟩)) (.bool (Bv d)) (.int .u64 (dict : Nat)) (.int .i64 (n : Nat)) w := by
  rintro n rfl
  refine Ie (h := h) (s := s) ?_ (fun _ => by omega) hk0 hs0 hr hl hv hL hL2 oh ot hne hpt hph hpr fun w' x => ?_
  .unfold Cf
   have : d / 64 = 0 ∨ d / 64 = 1 ∨ d / 64 = 2 ∨ d / 64 = 3 := by omega
   rcases this with h | h | h | h <;> rw [h] <;> simp
   split <;> omega
  .have := hk w' x
   unfold Jf at this
   exact this
 have h4 : d / 64 = 0 ∨ d / 64 = 1 ∨ d / 64 = 2 ∨ d / 64 = 3 := by omega
 have e6 : (d : Int).fdiv (2 ^ min (Int.toNat 6) IntKind.i64.bits) = ((d / 64 : Nat) : Int) := by
  have : (2 : Int) ^ min (Int.toNat 6) IntKind.i64.bits = 64 := by decide
  rw [this, LX _ (by omega)]; omega
 rcases h4 with h4 | h4 | h4 | h4 <;> rw [h4] at e6
 .cases ho : Bv d with
  | true =>
    have e : 1 = Cf d := by unfold Cf; rw [h4, ho] <;> rfl
    have := main 1 e
    rw [ho] at this
    simp (disch := omega) only [dQ, fE, cQ, stepR_skip, eD, eQ, eF, eX, eY, eP, fH, eK, dK, eJ, eT, fB, eA, eE, eI, eH, eC, fA, eU, eB, dR, eS, eL, dZ, gT, gQ, gM, gS, gO, gN, gU, gP, gR, dH, Result.ok.injEq, Next.value.injEq, true_and, and_true, dY, dX, eN, eZ, eM, fG, Lk, dS, dT, dV, dW, dN, dL, dO, dM, dI, cY, if_true, if_false, Lh, Ln, Li, Lj, Lm, Ll, Lg, Lf, cR, cM, cH, bY, cV, dJ, bU, bX, cS, cN, cO, dE, cL, dD, dG, dU, dB, cD, bH, bR, aU, aE, aH, dF, aL, cG, dA, cZ, bN, aK, bC, aZ, cP, aC, aX, aM, aV, cU, aW, cJ, bS, aF, aG, aJ, dP, aP, aN, bD, aQ, cC, aD, bZ, bT, bL, bB, aY, cX, aI, bE, aT, aS, aR, aA, dC, cK, bP, aO, cW, bW, bV, cF, bQ, bO, bK, cI, bF, cB, bA, bG, bM, bJ, cA, e6, h4]
    exact this
  | false =>
    have e : 0 = Cf d := by unfold Cf; rw [h4, ho] <;> rfl
    have := main 0 e
    rw [ho] at this
    simp (disch := omega) only [dQ, fE, cQ, stepR_skip, eD, eQ, eF, eX, eY, eP, fH, eK, dK, eJ, eT, fB, eA, eE, eI, eH, eC, fA, eU, eB, dR, eS, eL, dZ, gT, gQ, gM, gS, gO, gN, gU, gP, gR, dH, Result.ok.injEq, Next.value.injEq, true_and, and_true, dY, dX, eN, eZ, eM, fG, Lk, dS, dT, dV, dW, dN, dL, dO, dM, dI, cY, if_true, if_false, Lh, Ln, Li, Lj, Lm, Ll, Lg, Lf, cR, cM, cH, bY, cV, dJ, bU, bX, cS, cN, cO, dE, cL, dD, dG, dU, dB, cD, bH, bR, aU, aE, aH, dF, aL, cG, dA, cZ, bN, aK, bC, aZ, cP, aC, aX, aM, aV, cU, aW, cJ, bS, aF, aG, aJ, dP, aP, aN, bD, aQ, cC, aD, bZ, bT, bL, bB, aY, cX, aI, bE, aT, aS, aR, aA, dC, cK, bP, aO, cW, bW, bV, cF, bQ, bO, bK, cI, bF, cB, bA, bG, bM, bJ, cA, e6, h4]
    exact this
 .have e : 2 = Cf d := by unfold Cf; rw [h4] <;> rfl
  simp (disch := omega) only [dQ, fE, cQ, stepR_skip, eD, eQ, eF, eX, eY, eP, fH, eK, dK, eJ, eT, fB, eA, eE, eI, eH, eC, fA, eU, eB, dR, eS, eL, dZ, gT, gQ, gM, gS, gO, gN, gU, gP, gR, dH, Result.ok.injEq, Next.value.injEq, true_and, and_true, dY, dX, eN, eZ, eM, fG, Lk, dS, dT, dV, dW, dN, dL, dO, dM, dI, cY, if_true, if_false, Lh, Ln, Li, Lj, Lm, Ll, Lg, Lf, cR, cM, cH, bY, cV, dJ, bU, bX, cS, cN, cO, dE, cL, dD, dG, dU, dB, cD, bH, bR, aU, aE, aH, dF, aL, cG, dA, cZ, bN, aK, bC, aZ, cP, aC, aX, aM, aV, cU, aW, cJ, bS, aF, aG, aJ, dP, aP, aN, bD, aQ, cC, aD, bZ, bT, bL, bB, aY, cX, aI, bE, aT, aS, aR, aA, dC, cK, bP, aO, cW, bW, bV, cF, bQ, bO, bK, cI, bF, cB, bA, bG, bM, bJ, cA, e6, h4]
  cases ho : Bv d <;> (simp (disch := omega) only [dQ, fE, cQ, stepR_skip, eD, eQ, eF, eX, eY, eP, fH, eK, dK, eJ, eT, fB, eA, eE, eI, eH, eC, fA, eU, eB, dR, eS, eL, dZ, gT, gQ, gM, gS, gO, gN, gU, gP, gR, dH, Result.ok.injEq, Next.value.injEq, true_and, and_true, dY, dX, eN, eZ, eM, fG, Lk, dS, dT, dV, dW, dN, dL, dO, dM, dI, cY, if_true, if_false, Lh, Ln, Li, Lj, Lm, Ll, Lg, Lf, cR, cM, cH, bY, cV, dJ, bU, bX, cS, cN, cO, dE, cL, dD, dG, dU, dB, cD, bH, bR, aU, aE, aH, dF, aL, cG, dA, cZ, bN, aK, bC, aZ, cP, aC, aX, aM, aV, cU, aW, cJ, bS, aF, aG, aJ, dP, aP, aN, bD, aQ, cC, aD, bZ, bT, bL, bB, aY, cX, aI, bE, aT, aS, aR, aA, dC, cK, bP, aO, cW, bW, bV, cF, bQ, bO, bK, cI, bF, cB, bA, bG, bM, bJ, cA]; rw [<- ho]; exact main 2 e)
 .have e : 4 = Cf d := by unfold Cf; rw [h4] <;> rfl
  simp (disch := omega) only [dQ, fE, cQ, stepR_skip, eD, eQ, eF, eX, eY, eP, fH, eK, dK, eJ, eT, fB, eA, eE, eI, eH, eC, fA, eU, eB, dR, eS, eL, dZ, gT, gQ, gM, gS, gO, gN, gU, gP, gR, dH, Result.ok.injEq, Next.value.injEq, true_and, and_true, dY, dX, eN, eZ, eM, fG, Lk, dS, dT, dV, dW, dN, dL, dO, dM, dI, cY, if_true, if_false, Lh, Ln, Li, Lj, Lm, Ll, Lg, Lf, cR, cM, cH, bY, cV, dJ, bU, bX, cS, cN, cO, dE, cL, dD, dG, dU, dB, cD, bH, bR, aU, aE, aH, dF, aL, cG, dA, cZ, bN, aK, bC, aZ, cP, aC, aX, aM, aV, cU, aW, cJ, bS, aF, aG, aJ, dP, aP, aN, bD, aQ, cC, aD, bZ, bT, bL, bB, aY, cX, aI, bE, aT, aS, aR, aA, dC, cK, bP, aO, cW, bW, bV, cF, bQ, bO, bK, cI, bF, cB, bA, bG, bM, bJ, cA, e6, h4]
  cases ho : Bv d <;> (simp (disch := omega) only [dQ, fE, cQ, stepR_skip, eD, eQ, eF, eX, eY, eP, fH, eK, dK, eJ, eT, fB, eA, eE, eI, eH, eC, fA, eU, eB, dR, eS, eL, dZ, gT, gQ, gM, gS, gO, gN, gU, gP, gR, dH, Result.ok.injEq, Next.value.injEq, true_and, and_true, dY, dX, eN, eZ, eM, fG, Lk, dS, dT, dV, dW, dN, dL, dO, dM, dI, cY, if_true, if_false, Lh, Ln, Li, Lj, Lm, Ll, Lg, Lf, cR, cM, cH, bY, cV, dJ, bU, bX, cS, cN, cO, dE, cL, dD, dG, dU, dB, cD, bH, bR, aU, aE, aH, dF, aL, cG, dA, cZ, bN, aK, bC, aZ, cP, aC, aX, aM, aV, cU, aW, cJ, bS, aF, aG, aJ, dP, aP, aN, bD, aQ, cC, aD, bZ, bT, bL, bB, aY, cX, aI, bE, aT, aS, aR, aA, dC, cK, bP, aO, cW, bW, bV, cF, bQ, bO, bK, cI, bF, cB, bA, bG, bM, bJ, cA]; rw [<- ho]; exact main 4 e)
 .have e : 8 = Cf d := by unfold Cf; rw [h4] <;> rfl
  simp (disch := omega) only [dQ, fE, cQ, stepR_skip, eD, eQ, eF, eX, eY, eP, fH, eK, dK, eJ, eT, fB, eA, eE, eI, eH, eC, fA, eU, eB, dR, eS, eL, dZ, gT, gQ, gM, gS, gO, gN, gU, gP, gR, dH, Result.ok.injEq, Next.value.injEq, true_and, and_true, dY, dX, eN, eZ, eM, fG, Lk, dS, dT, dV, dW, dN, dL, dO, dM, dI, cY, if_true, if_false, Lh, Ln, Li, Lj, Lm, Ll, Lg, Lf, cR, cM, cH, bY, cV, dJ, bU, bX, cS, cN, cO, dE, cL, dD, dG, dU, dB, cD, bH, bR, aU, aE, aH, dF, aL, cG, dA, cZ, bN, aK, bC, aZ, cP, aC, aX, aM, aV, cU, aW, cJ, bS, aF, aG, aJ, dP, aP, aN, bD, aQ, cC, aD, bZ, bT, bL, bB, aY, cX, aI, bE, aT, aS, aR, aA, dC, cK, bP, aO, cW, bW, bV, cF, bQ, bO, bK, cI, bF, cB, bA, bG, bM, bJ, cA, e6, h4]
  cases ho : Bv d <;> (simp (disch := omega) only [dQ, fE, cQ, stepR_skip, eD, eQ, eF, eX, eY, eP, fH, eK, dK, eJ, eT, fB, eA, eE, eI, eH, eC, fA, eU, eB, dR, eS, eL, dZ, gT, gQ, gM, gS, gO, gN, gU, gP, gR, dH, Result.ok.injEq, Next.value.injEq, true_and, and_true, dY, dX, eN, eZ, eM, fG, Lk, dS, dT, dV, dW, dN, dL, dO, dM, dI, cY, if_true, if_false, Lh, Ln, Li, Lj, Lm, Ll, Lg, Lf, cR, cM, cH, bY, cV, dJ, bU, bX, cS, cN, cO, dE, cL, dD, dG, dU, dB, cD, bH, bR, aU, aE, aH, dF, aL, cG, dA, cZ, bN, aK, bC, aZ, cP, aC, aX, aM, aV, cU, aW, cJ, bS, aF, aG, aJ, dP, aP, aN, bD, aQ, cC, aD, bZ, bT, bL, bB, aY, cX, aI, bE, aT, aS, aR, aA, dC, cK, bP, aO, cW, bW, bV, cF, bQ, bO, bK, cI, bF, cB, bA, bG, bM, bJ, cA]; rw [<- ho]; exact main 8 e)
theorem Jo {d : Nat} (h : d < 256) : tC .i64 (d : Int) 3 = ((d % 4 : Nat) : Int) /\ (tC .i64 (d : Int) 4 != 0) = (d / 4 % 2 == 1) /\ (tC .i64 (d : Int) 8 != 0) = (d / 8 % 2 == 1) /\ (tC .i64 (d : Int) 32 != 0) = (d / 32 % 2 == 1) := by
 have : ∀ k : Fin 256, tC .i64 (k.val : Int) 3 = ((k.val % 4 : Nat) : Int) /\ (tC .i64 (k.val : Int) 4 != 0) = (k.val / 4 % 2 == 1) /\ (tC .i64 (k.val : Int) 8 != 0) = (k.val / 8 % 2 == 1) /\ (tC .i64 (k.val : Int) 32 != 0) = (k.val / 32 % 2 == 1) := by decide +kernel
 exact this ⟨d, h⟩
theorem KO (x : Nat) (h : x < 256) : IntKind.u64.wrap (IntKind.u64.wrap (1 * 2 ^ min (10 + ((x / 8 : Nat) : Int)).toNat IntKind.u64.bits) + IntKind.u64.wrap (IntKind.u64.wrap ((IntKind.u64.wrap (1 * 2 ^ min (10 + ((x / 8 : Nat) : Int)).toNat IntKind.u64.bits)).tdiv 8) * tC IntKind.u64 (x : Int) 7)) = ((HX x : Nat) : Int) := by
 have : ∀ k : Fin 256, IntKind.u64.wrap (IntKind.u64.wrap (1 * 2 ^ min (10 + ((k.val / 8 : Nat) : Int)).toNat IntKind.u64.bits) + IntKind.u64.wrap (IntKind.u64.wrap ((IntKind.u64.wrap (1 * 2 ^ min (10 + ((k.val / 8 : Nat) : Int)).toNat IntKind.u64.bits)).tdiv 8) * tC IntKind.u64 (k.val : Int) 7)) = ((HX k.val : Nat) : Int) := by decide +kernel
 exact this ⟨x, h⟩
theorem H8 {x : Nat} {w : MA} (h : x < 256) : fI pg qT #[.int .u64 (x : Nat)] w (fun r w' => r = .int .u64 (HX x : Nat) /\ w' = w) := by
 refine B7 ?_
 unfold BV tM
 have e0 : (x : Int).fdiv (2 ^ min (Int.toNat 3) IntKind.u64.bits) = ((x / 8 : Nat) : Int) := by
  have : (2 : Int) ^ min (Int.toNat 3) IntKind.u64.bits = 8 := by decide
  rw [this, LX _ (by omega)]; omega
 simp (disch := omega) only [dQ, fE, cQ, stepR_skip, eD, eQ, eF, eX, eY, eP, fH, eK, dK, eJ, eT, fB, eA, eE, eI, eH, eC, fA, eU, eB, dR, eS, eL, dZ, gT, gQ, gM, gS, gO, gN, gU, gP, gR, dH, Result.ok.injEq, Next.value.injEq, true_and, and_true, dY, dX, eN, eZ, eM, fG, Lk, dS, dT, dV, dW, dN, dL, dO, dM, dI, cY, if_true, if_false, Lh, Ln, Li, Lj, Lm, Ll, Lg, Lf, cR, cM, cH, bY, cV, dJ, bU, bX, cS, cN, cO, dE, cL, dD, dG, dU, dB, cD, bH, bR, aU, aE, aH, dF, aL, cG, dA, cZ, bN, aK, bC, aZ, cP, aC, aX, aM, aV, cU, aW, cJ, bS, aF, aG, aJ, dP, aP, aN, bD, aQ, cC, aD, bZ, bT, bL, bB, aY, cX, aI, bE, aT, aS, aR, aA, dC, cK, bP, aO, cW, bW, bV, cF, bQ, bO, bK, cI, bF, cB, bA, bG, bM, bJ, cA, e0]
 rw [KO x h]
theorem Ev {RR : MB -> MA -> Prop} {v : MB} {L lo hi pr ph pt d : Nat} {s : List UInt8 × Int} {h : FH} {z : FH} {w : MA} (hd : d < 256) (hk0 : h.known = false) (hs0 : h.size = 0) (hr : zJ w lo hi pr s.1 s.2) (hl : s.1.length <= 1000000) (hv : ∃ a c, v = .slice a L c) (hL : s.1.length <= L) (hL2 : L <= 1000000) (oh : iD w ph (yJ h)) (ot : iD w pt (yJ z)) (hne : ph ≠ pt) (hpt : ¬ (lo <= pt /\ pt < hi)) (hph : ¬ (lo <= ph /\ ph < hi)) (hpr : lo <= pr /\ pr < hi)
 (hk : ∀ w', gA w w' (fun y => y = pt ∨ y = ph ∨ y = pr) -> RR (IM (Dw L (He (He s (GQ d)) (Cf d)) (Es s (GQ d)) ⟨if Bv d then Jf d (Es (He s (GQ d)) (Cf d)) else h.window, Jf d (Es (He s (GQ d)) (Cf d)), decide (0 < Cf d), h.sum⟩)) w') :
 qY RR v (.pointer (some ⟨pt, 0, none⟩)) (.pointer (some ⟨pr, 0, none⟩)) (.int .i64 (d : Nat)) (.pointer (some ⟨ph, 0, none⟩)) (.bool (Bv d)) w := by
 unfold qY uC
 obtain ⟨b3, _⟩ := Jo hd
 have main : ∀ n : Nat, n <= 8 -> 0 < n -> GQ d = n -> fI pg fP #[.pointer (some ⟨pr, 0, none⟩), .int .i64 n] w (fun t50 w1 => pG RR v (.pointer (some ⟨pt, 0, none⟩)) (.pointer (some ⟨pr, 0, none⟩)) (.int .i64 (d : Nat)) (.pointer (some ⟨ph, 0, none⟩)) (.bool (Bv d)) t50 w1) := by
  intro n hn h0 e
  rw [e] at hk
  unfold He at hk
  unfold Es at hk
  rw [if_pos h0, if_pos h0] at hk
  have hle : (Ey s n).1.length <= s.1.length := by
   unfold Ey tE
   split
   .exact LB _
   .split
    .exact LB _
    .simp only [Lv]; omega
  refine (nX hr (by omega) ⟨h0, hn⟩).mono ?_
  rintro r w1 ⟨rfl, hr1, x1⟩
  exact Ft (s := Ey s n) (dict := F3 s n) hd hk0 hs0 hr1 (by omega) hv (by omega) hL2 (oh.ext x1 (fun e => hph (e ▸ hpr))) (ot.ext x1 (fun e => hpt (e ▸ hpr))) hne hpt hph hpr fun w' x => hk w' ((x1.mono fun _ _ h => .inr (.inr h)).seq x)
 have h4 : d % 4 = 0 ∨ d % 4 = 1 ∨ d % 4 = 2 ∨ d % 4 = 3 := by omega
 rcases h4 with h4 | h4 | h4 | h4 <;> rw [h4] at b3
 .have e : GQ d = 0 := by unfold GQ; rw [h4] <;> rfl
  have n1 : decide ((0 : Int) > 0) = false := rfl
  simp (disch := omega) only [dQ, fE, cQ, stepR_skip, eD, eQ, eF, eX, eY, eP, fH, eK, dK, eJ, eT, fB, eA, eE, eI, eH, eC, fA, eU, eB, dR, eS, eL, dZ, gT, gQ, gM, gS, gO, gN, gU, gP, gR, dH, Result.ok.injEq, Next.value.injEq, true_and, and_true, dY, dX, eN, eZ, eM, fG, Lk, dS, dT, dV, dW, dN, dL, dO, dM, dI, cY, if_true, if_false, Lh, Ln, Li, Lj, Lm, Ll, Lg, Lf, cR, cM, cH, bY, cV, dJ, bU, bX, cS, cN, cO, dE, cL, dD, dG, dU, dB, cD, bH, bR, aU, aE, aH, dF, aL, cG, dA, cZ, bN, aK, bC, aZ, cP, aC, aX, aM, aV, cU, aW, cJ, bS, aF, aG, aJ, dP, aP, aN, bD, aQ, cC, aD, bZ, bT, bL, bB, aY, cX, aI, bE, aT, aS, aR, aA, dC, cK, bP, aO, cW, bW, bV, cF, bQ, bO, bK, cI, bF, cB, bA, bG, bM, bJ, cA, b3, n1]
  refine Ft (s := s) (dict := 0) hd hk0 hs0 hr hl hv hL hL2 oh ot hne hpt hph hpr fun w' x => ?_
  have := hk w' x
  rw [e] at this
  exact this
 .have n1 : decide ((1 : Int) > 0) = true := rfl
  have n2 : decide ((0 : Int) < 1) = true := rfl
  simp (disch := omega) only [dQ, fE, cQ, stepR_skip, eD, eQ, eF, eX, eY, eP, fH, eK, dK, eJ, eT, fB, eA, eE, eI, eH, eC, fA, eU, eB, dR, eS, eL, dZ, gT, gQ, gM, gS, gO, gN, gU, gP, gR, dH, Result.ok.injEq, Next.value.injEq, true_and, and_true, dY, dX, eN, eZ, eM, fG, Lk, dS, dT, dV, dW, dN, dL, dO, dM, dI, cY, if_true, if_false, Lh, Ln, Li, Lj, Lm, Ll, Lg, Lf, cR, cM, cH, bY, cV, dJ, bU, bX, cS, cN, cO, dE, cL, dD, dG, dU, dB, cD, bH, bR, aU, aE, aH, dF, aL, cG, dA, cZ, bN, aK, bC, aZ, cP, aC, aX, aM, aV, cU, aW, cJ, bS, aF, aG, aJ, dP, aP, aN, bD, aQ, cC, aD, bZ, bT, bL, bB, aY, cX, aI, bE, aT, aS, aR, aA, dC, cK, bP, aO, cW, bW, bV, cF, bQ, bO, bK, cI, bF, cB, bA, bG, bM, bJ, cA, b3, n1, n2]
  exact main 1 (by omega) (by omega) (by unfold GQ; rw [h4] <;> rfl)
 .have n1 : decide ((2 : Int) > 0) = true := rfl
  have n2 : decide ((0 : Int) < 2) = true := rfl
  simp (disch := omega) only [dQ, fE, cQ, stepR_skip, eD, eQ, eF, eX, eY, eP, fH, eK, dK, eJ, eT, fB, eA, eE, eI, eH, eC, fA, eU, eB, dR, eS, eL, dZ, gT, gQ, gM, gS, gO, gN, gU, gP, gR, dH, Result.ok.injEq, Next.value.injEq, true_and, and_true, dY, dX, eN, eZ, eM, fG, Lk, dS, dT, dV, dW, dN, dL, dO, dM, dI, cY, if_true, if_false, Lh, Ln, Li, Lj, Lm, Ll, Lg, Lf, cR, cM, cH, bY, cV, dJ, bU, bX, cS, cN, cO, dE, cL, dD, dG, dU, dB, cD, bH, bR, aU, aE, aH, dF, aL, cG, dA, cZ, bN, aK, bC, aZ, cP, aC, aX, aM, aV, cU, aW, cJ, bS, aF, aG, aJ, dP, aP, aN, bD, aQ, cC, aD, bZ, bT, bL, bB, aY, cX, aI, bE, aT, aS, aR, aA, dC, cK, bP, aO, cW, bW, bV, cF, bQ, bO, bK, cI, bF, cB, bA, bG, bM, bJ, cA, b3, n1, n2]
  exact main 2 (by omega) (by omega) (by unfold GQ; rw [h4] <;> rfl)
 .have n1 : decide ((4 : Int) > 0) = true := rfl
  have n2 : decide ((0 : Int) < 4) = true := rfl
  simp (disch := omega) only [dQ, fE, cQ, stepR_skip, eD, eQ, eF, eX, eY, eP, fH, eK, dK, eJ, eT, fB, eA, eE, eI, eH, eC, fA, eU, eB, dR, eS, eL, dZ, gT, gQ, gM, gS, gO, gN, gU, gP, gR, dH, Result.ok.injEq, Next.value.injEq, true_and, and_true, dY, dX, eN, eZ, eM, fG, Lk, dS, dT, dV, dW, dN, dL, dO, dM, dI, cY, if_true, if_false, Lh, Ln, Li, Lj, Lm, Ll, Lg, Lf, cR, cM, cH, bY, cV, dJ, bU, bX, cS, cN, cO, dE, cL, dD, dG, dU, dB, cD, bH, bR, aU, aE, aH, dF, aL, cG, dA, cZ, bN, aK, bC, aZ, cP, aC, aX, aM, aV, cU, aW, cJ, bS, aF, aG, aJ, dP, aP, aN, bD, aQ, cC, aD, bZ, bT, bL, bB, aY, cX, aI, bE, aT, aS, aR, aA, dC, cK, bP, aO, cW, bW, bV, cF, bQ, bO, bK, cI, bF, cB, bA, bG, bM, bJ, cA, b3, n1, n2]
  exact main 4 (by omega) (by omega) (by unfold GQ; rw [h4] <;> rfl)
theorem HN (s : List UInt8 × Int) (n : Nat) : (Ey s n).1.length <= s.1.length := by
 unfold Ey tE
 split
 .exact LB _
 .split
  .exact LB _
  .simp only [Lv]; omega
theorem DA (s : List UInt8 × Int) (n : Nat) : F3 s n < 256 ^ n := by
 unfold F3 tE
 split
 .simp [lB]; exact Nat.pow_pos (by omega)
 .split
  .simp [lB]; exact Nat.pow_pos (by omega)
  .have := vW (s.1.take n)
   rw [Lt, LW (by omega)] at this
   exact this
theorem Fb {v : MB} {l : List UInt8} {w : MA} (hb : Bs w v l) (hl : l.length <= 1000000) : fI pg tX #[v] w (fun r w' => r = IM (Bi l) /\ gA w w' nQ) := by
 refine Dh ?_
 unfold DJ uQ uP
 refine pQ fun w1 o1 x1 s1 => ?_
 obtain ⟨pt, hpt⟩ : ∃ p, p = w.heap.size := ⟨_, rfl⟩
 rw [<- hpt] at o1 ⊢
 have hz1 := o1.lt
 have hb1 := hb.ext x1 (jX _)
 obtain ⟨va, vc, hv, _⟩ := hb.len
 rw [Lq] at hv
 refine (sX hb1 (by omega)).mono ?_
 rintro r w2 ⟨pr, rfl, hr, x2⟩
 have o2 := o1.ext x2 (fun h => h)
 have hpr : w1.heap.size <= pr /\ pr < w2.heap.size := ⟨hr.1, hr.2.1⟩
 refine (nX (n := 1) hr (by omega) ⟨by omega, by omega⟩).mono ?_
 rintro r w3 ⟨rfl, hr3, x3⟩
 have e1 : (lB (tE l 0 1).1) = F3 (l, 0) 1 := rfl
 have e2 : (tE l 0 1).2.1 = (Ey (l, 0) 1).1 := rfl
 have e3 : (tE l 0 1).2.2 = (Ey (l, 0) 1).2 := rfl
 rw [e2, e3] at hr3
 rw [e1]
 have o3 := o2.ext x3 (by intro h; omega)
 obtain ⟨d, hd⟩ : ∃ d, d = F3 (l, 0) 1 := ⟨_, rfl⟩
 obtain ⟨s, hs⟩ : ∃ s, s = Ey (l, 0) 1 := ⟨_, rfl⟩
 have hdl : d < 256 := by have := DA (l, 0) 1; omega
 have hsl : s.1.length <= l.length := by have := HN (l, 0) 1; rw [hs]; exact this
 rw [<- hd]
 rw [<- hs] at hr3
 have hfr : Bi l = if s.2 ≠ 0 then .error s.2 else if d / 8 % 2 = 1 then .error 11 else EB l.length s d := by unfold Bi; rw [<- hd, <- hs]
 rw [hfr]
 obtain ⟨b3, b4, b8, b32⟩ := Jo hdl
 have wd : IntKind.i64.wrap (d : Int) = d := dY (by omega) (by omega)
 simp (disch := omega) only [dQ, fE, cQ, stepR_skip, eD, eQ, eF, eX, eY, eP, fH, eK, dK, eJ, eT, fB, eA, eE, eI, eH, eC, fA, eU, eB, dR, eS, eL, dZ, gT, gQ, gM, gS, gO, gN, gU, gP, gR, dH, Result.ok.injEq, Next.value.injEq, true_and, and_true, dY, dX, eN, eZ, eM, fG, Lk, dS, dT, dV, dW, dN, dL, dO, dM, dI, cY, if_true, if_false, Lh, Ln, Li, Lj, Lm, Ll, Lg, Lf, cR, cM, cH, bY, cV, dJ, bU, bX, cS, cN, cO, dE, cL, dD, dG, dU, dB, cD, bH, bR, aU, aE, aH, dF, aL, cG, dA, cZ, bN, aK, bC, aZ, cP, aC, aX, aM, aV, cU, aW, cJ, bS, aF, aG, aJ, dP, aP, aN, bD, aQ, cC, aD, bZ, bT, bL, bB, aY, cX, aI, bE, aT, aS, aR, aA, dC, cK, bP, aO, cW, bW, bV, cF, bQ, bO, bK, cI, bF, cB, bA, bG, bM, bJ, cA, wd]
 refine (vN hr3).mono ?_
 rintro r w4 ⟨rfl, h4⟩
 rw [h4]; clear h4 w4
 have x03 : gA w w3 nQ := x1.trans (x2.trans x3 fun y hy h => by have := x2.size; omega) fun y hy h => h
 by_cases he : s.2 = 0
 rotate_left
 .have n0 : (s.2 != 0) = true := by simp [he]
  rw [if_pos he]
  simp (disch := omega) only [dQ, fE, cQ, stepR_skip, eD, eQ, eF, eX, eY, eP, fH, eK, dK, eJ, eT, fB, eA, eE, eI, eH, eC, fA, eU, eB, dR, eS, eL, dZ, gT, gQ, gM, gS, gO, gN, gU, gP, gR, dH, Result.ok.injEq, Next.value.injEq, true_and, and_true, dY, dX, eN, eZ, eM, fG, Lk, dS, dT, dV, dW, dN, dL, dO, dM, dI, cY, if_true, if_false, Lh, Ln, Li, Lj, Lm, Ll, Lg, Lf, cR, cM, cH, bY, cV, dJ, bU, bX, cS, cN, cO, dE, cL, dD, dG, dU, dB, cD, bH, bR, aU, aE, aH, dF, aL, cG, dA, cZ, bN, aK, bC, aZ, cP, aC, aX, aM, aV, cU, aW, cJ, bS, aF, aG, aJ, dP, aP, aN, bD, aQ, cC, aD, bZ, bT, bL, bB, aY, cX, aI, bE, aT, aS, aR, aA, dC, cK, bP, aO, cW, bW, bV, cF, bQ, bO, bK, cI, bF, cB, bA, bG, bM, bJ, cA, n0]
  refine (vN hr3).mono ?_
  rintro r w4 ⟨rfl, h4⟩
  rw [h4]; clear h4 w4
  refine iR o3 rfl (by simp [one]) (by simp) fun w5 o5 x5 s5 => ?_
  refine lQ o5 (by simp [gD]) ?_
  simp only [gD, Ls, Lu, LF, Lz, LG]
  exact ⟨rfl, x03.trans x5 fun y hy h => by omega⟩
 have n0 : (s.2 != 0) = false := by simp [he]
 rw [if_neg (by simpa using he)]
 by_cases h8 : d / 8 % 2 = 1
 .have n8 : (d / 8 % 2 == 1) = true := by simp [h8]
  rw [if_pos h8]
  rw [n8] at b8
  simp (disch := omega) only [dQ, fE, cQ, stepR_skip, eD, eQ, eF, eX, eY, eP, fH, eK, dK, eJ, eT, fB, eA, eE, eI, eH, eC, fA, eU, eB, dR, eS, eL, dZ, gT, gQ, gM, gS, gO, gN, gU, gP, gR, dH, Result.ok.injEq, Next.value.injEq, true_and, and_true, dY, dX, eN, eZ, eM, fG, Lk, dS, dT, dV, dW, dN, dL, dO, dM, dI, cY, if_true, if_false, Lh, Ln, Li, Lj, Lm, Ll, Lg, Lf, cR, cM, cH, bY, cV, dJ, bU, bX, cS, cN, cO, dE, cL, dD, dG, dU, dB, cD, bH, bR, aU, aE, aH, dF, aL, cG, dA, cZ, bN, aK, bC, aZ, cP, aC, aX, aM, aV, cU, aW, cJ, bS, aF, aG, aJ, dP, aP, aN, bD, aQ, cC, aD, bZ, bT, bL, bB, aY, cX, aI, bE, aT, aS, aR, aA, dC, cK, bP, aO, cW, bW, bV, cF, bQ, bO, bK, cI, bF, cB, bA, bG, bM, bJ, cA, n0, b8]
  refine iR o3 rfl (by simp [one]) (by simp) fun w5 o5 x5 s5 => ?_
  refine lQ o5 (by simp [gD]) ?_
  simp only [gD, Ls, Lu, LF, Lz, LG]
  exact ⟨rfl, x03.trans x5 fun y hy h => by omega⟩
 have n8 : (d / 8 % 2 == 1) = false := by simp [h8]
 rw [if_neg h8]
 rw [n8] at b8
 obtain ⟨RR, hRR⟩ : ∃ RR : MB -> MA -> Prop, RR = fun r w' => r = IM (EB l.length s d) /\ gA w w' nQ := ⟨_, rfl⟩
 rw [<- hRR]
 have e32 : (d / 32 % 2 == 1) = Bv d := rfl
 rw [e32] at b32
 simp (disch := omega) only [dQ, fE, cQ, stepR_skip, eD, eQ, eF, eX, eY, eP, fH, eK, dK, eJ, eT, fB, eA, eE, eI, eH, eC, fA, eU, eB, dR, eS, eL, dZ, gT, gQ, gM, gS, gO, gN, gU, gP, gR, dH, Result.ok.injEq, Next.value.injEq, true_and, and_true, dY, dX, eN, eZ, eM, fG, Lk, dS, dT, dV, dW, dN, dL, dO, dM, dI, cY, if_true, if_false, Lh, Ln, Li, Lj, Lm, Ll, Lg, Lf, cR, cM, cH, bY, cV, dJ, bU, bX, cS, cN, cO, dE, cL, dD, dG, dU, dB, cD, bH, bR, aU, aE, aH, dF, aL, cG, dA, cZ, bN, aK, bC, aZ, cP, aC, aX, aM, aV, cU, aW, cJ, bS, aF, aG, aJ, dP, aP, aN, bD, aQ, cC, aD, bZ, bT, bL, bB, aY, cX, aI, bE, aT, aS, aR, aA, dC, cK, bP, aO, cW, bW, bV, cF, bQ, bO, bK, cI, bF, cB, bA, bG, bM, bJ, cA, n0, b8, b4]
 refine pQ fun w5 o5 x5 s5 => ?_
 obtain ⟨ph, hph⟩ : ∃ p, p = w3.heap.size := ⟨_, rfl⟩
 rw [<- hph] at o5 ⊢
 have hz3 := x2.size
 have hz4 := x3.size
 refine iR o5 rfl (by simp [one]) (by simp) fun w6 o6 x6 s6 => ?_
 simp only [gD, Ls, Lu] at o6
 have x36 : gA w3 w6 nQ := x5.new x6 (by omega)
 have x06 : gA w w6 nQ := x03.trans x36 fun y hy h => h
 have hr6 := hr3.ext x36 (fun _ _ _ h => h)
 have o36 := o3.ext x36 (fun h => h)
 have oh6 : iD w6 ph (yJ ⟨0, 0, false, d / 4 % 2 == 1⟩) := o6
 have ot6 : iD w6 pt (yJ ⟨0, 0, false, false⟩) := o36
 rw [b32]
 cases ho : Bv d with
 | true =>
   simp (disch := omega) only [dQ, fE, cQ, stepR_skip, eD, eQ, eF, eX, eY, eP, fH, eK, dK, eJ, eT, fB, eA, eE, eI, eH, eC, fA, eU, eB, dR, eS, eL, dZ, gT, gQ, gM, gS, gO, gN, gU, gP, gR, dH, Result.ok.injEq, Next.value.injEq, true_and, and_true, dY, dX, eN, eZ, eM, fG, Lk, dS, dT, dV, dW, dN, dL, dO, dM, dI, cY, if_true, if_false, Lh, Ln, Li, Lj, Lm, Ll, Lg, Lf, cR, cM, cH, bY, cV, dJ, bU, bX, cS, cN, cO, dE, cL, dD, dG, dU, dB, cD, bH, bR, aU, aE, aH, dF, aL, cG, dA, cZ, bN, aK, bC, aZ, cP, aC, aX, aM, aV, cU, aW, cJ, bS, aF, aG, aJ, dP, aP, aN, bD, aQ, cC, aD, bZ, bT, bL, bB, aY, cX, aI, bE, aT, aS, aR, aA, dC, cK, bP, aO, cW, bW, bV, cF, bQ, bO, bK, cI, bF, cB, bA, bG, bM, bJ, cA]
   rw [<- ho]
   refine Ev (L := l.length) (s := s) hdl rfl rfl hr6 (by omega) ⟨_, _, hv⟩ hsl (by omega) oh6 ot6 (by omega) (by omega) (by omega) hpr fun w' x => ?_
   rw [hRR]
   refine ⟨?_, x06.trans x fun y hy h => by omega⟩
   unfold EB J5
   rw [ho]
   rfl
 | false =>
   simp (disch := omega) only [dQ, fE, cQ, stepR_skip, eD, eQ, eF, eX, eY, eP, fH, eK, dK, eJ, eT, fB, eA, eE, eI, eH, eC, fA, eU, eB, dR, eS, eL, dZ, gT, gQ, gM, gS, gO, gN, gU, gP, gR, dH, Result.ok.injEq, Next.value.injEq, true_and, and_true, dY, dX, eN, eZ, eM, fG, Lk, dS, dT, dV, dW, dN, dL, dO, dM, dI, cY, if_true, if_false, Lh, Ln, Li, Lj, Lm, Ll, Lg, Lf, cR, cM, cH, bY, cV, dJ, bU, bX, cS, cN, cO, dE, cL, dD, dG, dU, dB, cD, bH, bR, aU, aE, aH, dF, aL, cG, dA, cZ, bN, aK, bC, aZ, cP, aC, aX, aM, aV, cU, aW, cJ, bS, aF, aG, aJ, dP, aP, aN, bD, aQ, cC, aD, bZ, bT, bL, bB, aY, cX, aI, bE, aT, aS, aR, aA, dC, cK, bP, aO, cW, bW, bV, cF, bQ, bO, bK, cI, bF, cB, bA, bG, bM, bJ, cA]
   refine (nX (n := 1) hr6 (by omega) ⟨by omega, by omega⟩).mono ?_
   rintro r w7 ⟨rfl, hr7, x7⟩
   have e1 : (lB (tE s.1 s.2 1).1) = F3 s 1 := rfl
   have e2 : (tE s.1 s.2 1).2.1 = (Ey s 1).1 := rfl
   have e3 : (tE s.1 s.2 1).2.2 = (Ey s 1).2 := rfl
   rw [e2, e3] at hr7
   rw [e1]
   refine (H8 (by have := DA s 1; omega)).mono ?_
   rintro r w8 ⟨rfl, h4⟩
   rw [h4]; clear h4 w8
   have oh7 := oh6.ext x7 (by intro h; omega)
   have ot7 := ot6.ext x7 (by intro h; omega)
   refine tZ (off := 0) oh7 rfl (by simp [yJ]) fun w9 o9 x9 s9 => ?_
   simp only [yJ, Ls, Lu] at o9
   have oh9 : iD w9 ph (yJ ⟨HX (F3 s 1), 0, false, d / 4 % 2 == 1⟩) := o9
   have x69 : gA w6 w9 (fun y => y = pr ∨ y = ph) := (x7.mono fun _ _ h => .inl h).seq (x9.mono fun _ _ h => .inr h)
   have hle := HN s 1
   rw [<- ho]
   refine Ev (L := l.length) (s := Ey s 1) hdl rfl rfl (hr7.ext x9 fun y h1 h2 h => by omega) (by omega) ⟨_, _, hv⟩ (by omega) (by omega) oh9 (ot7.ext x9 (by omega)) (by omega) (by omega) (by omega) hpr fun w' x => ?_
   rw [hRR]
   refine ⟨?_, (x06.trans x69 fun y hy h => by omega).trans x fun y hy h => by omega⟩
   unfold EB J5
   rw [ho]
   rfl
theorem Kc (n : Nat) : n &&& 3 = n % 4 := L2 n 2
theorem J8 (n : Nat) : n &&& 1 = n % 2 := L2 n 1
theorem Jy {x : Nat} (h : x < 2 ^ 62) : tC .i64 (x : Int) 3 = ((x % 4 : Nat) : Int) := by
 unfold tC
 have e1 : (BitVec.ofInt IntKind.i64.bits (x : Int) &&& BitVec.ofInt IntKind.i64.bits 3).toNat = x % 4 := by
  rw [BitVec.toNat_and]
  simp only [IntKind.bits, BitVec.toNat_ofInt]
  have h1 : ((x : Int) % ((2 ^ 64 : Nat) : Int)).toNat = x := by omega
  have h2 : ((3 : Int) % ((2 ^ 64 : Nat) : Int)).toNat = 3 := by decide
  rw [h1, h2, Kc]
 rw [e1]
 exact dY (by omega) (by omega)
theorem JN {x : Nat} (h : x < 2 ^ 62) : tC .i64 (x : Int) 1 = ((x % 2 : Nat) : Int) := by
 unfold tC
 have e1 : (BitVec.ofInt IntKind.i64.bits (x : Int) &&& BitVec.ofInt IntKind.i64.bits 1).toNat = x % 2 := by
  rw [BitVec.toNat_and]
  simp only [IntKind.bits, BitVec.toNat_ofInt]
  have h1 : ((x : Int) % ((2 ^ 64 : Nat) : Int)).toNat = x := by omega
  have h2 : ((1 : Int) % ((2 ^ 64 : Nat) : Int)).toNat = 1 := by decide
  rw [h1, h2, J8]
 rw [e1]
 exact dY (by omega) (by omega)
def KT (x : Nat) : MB := .agg #[.bool (x % 2 == 1), .int .i64 (x / 2 % 4 : Nat), .int .i64 (x / 8 : Nat)]
def KI (l : List UInt8) : MB := if lB l / 2 % 4 = 3 then .tuple #[.agg #[.bool false, .int .i64 0, .int .i64 0], .int .i64 11] else .tuple #[KT (lB l), .int .i64 0]
theorem FB {v : MB} {l : List UInt8} {w : MA} (hb : Bs w v l) (hl : l.length = 3) : fI pg nM #[v] w (fun r w' => r = KI l /\ gA w w' nQ) := by
 refine AD ?_
 unfold Ac qB
 refine vD fun w1 o1 x1 s1 => ?_
 obtain ⟨pt, hpt⟩ : ∃ p, p = w.heap.size := ⟨_, rfl⟩
 rw [<- hpt] at o1 ⊢
 have hz1 := o1.lt
 have hb1 := hb.ext x1 (jX _)
 refine (sX hb1 (by omega)).mono ?_
 rintro r w2 ⟨pr, rfl, hr, x2⟩
 have o2 := o1.ext x2 (fun h => h)
 have hpr : w1.heap.size <= pr /\ pr < w2.heap.size := ⟨hr.1, hr.2.1⟩
 refine (nX (n := 3) hr (by omega) ⟨by omega, by omega⟩).mono ?_
 rintro r w3 ⟨rfl, hr3, x3⟩
 have o3 := o2.ext x3 (by intro h; omega)
 have e1 : tE l 0 3 = (l, [], 0) := by
  unfold tE
  rw [if_neg (by decide), if_neg (by omega), LD (by omega), Mv (by omega)]
 rw [e1] at hr3 ⊢
 have hlt : lB l < 2 ^ 24 := by have := vW l; rw [hl] at this; omega
 unfold KI
 obtain ⟨x, hx⟩ : ∃ x, x = lB l := ⟨_, rfl⟩
 rw [<- hx] at hlt ⊢
 have wd : IntKind.i64.wrap (x : Int) = x := dY (by omega) (by omega)
 have s1 : (x : Int).fdiv (2 ^ min (Int.toNat 1) IntKind.i64.bits) = ((x / 2 : Nat) : Int) := by
  have : (2 : Int) ^ min (Int.toNat 1) IntKind.i64.bits = 2 := by decide
  rw [this, LX _ (by omega)]; omega
 have s3 : (x : Int).fdiv (2 ^ min (Int.toNat 3) IntKind.i64.bits) = ((x / 8 : Nat) : Int) := by
  have : (2 : Int) ^ min (Int.toNat 3) IntKind.i64.bits = 8 := by decide
  rw [this, LX _ (by omega)]; omega
 have a3 := Jy (x := x / 2) (by omega)
 have a1 := JN (x := x) (by omega)
 have n0 : ((0 : Int) != 0) = false := rfl
 have x03 : gA w w3 nQ := x1.trans (x2.trans x3 fun y hy h => by have := x2.size; omega) fun y hy h => h
 simp (disch := omega) only [dQ, fE, cQ, stepR_skip, eD, eQ, eF, eX, eY, eP, fH, eK, dK, eJ, eT, fB, eA, eE, eI, eH, eC, fA, eU, eB, dR, eS, eL, dZ, gT, gQ, gM, gS, gO, gN, gU, gP, gR, dH, Result.ok.injEq, Next.value.injEq, true_and, and_true, dY, dX, eN, eZ, eM, fG, Lk, dS, dT, dV, dW, dN, dL, dO, dM, dI, cY, if_true, if_false, Lh, Ln, Li, Lj, Lm, Ll, Lg, Lf, cR, cM, cH, bY, cV, dJ, bU, bX, cS, cN, cO, dE, cL, dD, dG, dU, dB, cD, bH, bR, aU, aE, aH, dF, aL, cG, dA, cZ, bN, aK, bC, aZ, cP, aC, aX, aM, aV, cU, aW, cJ, bS, aF, aG, aJ, dP, aP, aN, bD, aQ, cC, aD, bZ, bT, bL, bB, aY, cX, aI, bE, aT, aS, aR, aA, dC, cK, bP, aO, cW, bW, bV, cF, bQ, bO, bK, cI, bF, cB, bA, bG, bM, bJ, cA, wd]
 refine (vN hr3).mono ?_
 rintro r w4 ⟨rfl, h4⟩
 rw [h4]; clear h4 w4
 by_cases h3 : x / 2 % 4 = 3
 .have d1 : decide (((x / 2 % 4 : Nat) : Int) > 2) = true := decide_eq_true (by omega)
  have d2 : decide ((2 : Int) < ((x / 2 % 4 : Nat) : Int)) = true := decide_eq_true (by omega)
  rw [if_pos h3]
  simp (disch := omega) only [dQ, fE, cQ, stepR_skip, eD, eQ, eF, eX, eY, eP, fH, eK, dK, eJ, eT, fB, eA, eE, eI, eH, eC, fA, eU, eB, dR, eS, eL, dZ, gT, gQ, gM, gS, gO, gN, gU, gP, gR, dH, Result.ok.injEq, Next.value.injEq, true_and, and_true, dY, dX, eN, eZ, eM, fG, Lk, dS, dT, dV, dW, dN, dL, dO, dM, dI, cY, if_true, if_false, Lh, Ln, Li, Lj, Lm, Ll, Lg, Lf, cR, cM, cH, bY, cV, dJ, bU, bX, cS, cN, cO, dE, cL, dD, dG, dU, dB, cD, bH, bR, aU, aE, aH, dF, aL, cG, dA, cZ, bN, aK, bC, aZ, cP, aC, aX, aM, aV, cU, aW, cJ, bS, aF, aG, aJ, dP, aP, aN, bD, aQ, cC, aD, bZ, bT, bL, bB, aY, cX, aI, bE, aT, aS, aR, aA, dC, cK, bP, aO, cW, bW, bV, cF, bQ, bO, bK, cI, bF, cB, bA, bG, bM, bJ, cA, n0, s1, a3, d1, d2]
  refine pI o3 rfl (by simp [one]) (by simp) fun w5 o5 x5 s5 => ?_
  refine Aa o5 (by simp [gD]) ?_
  simp only [gD, Ls, Lu, LF, Lz, LG]
  exact ⟨trivial, x03.trans x5 fun y hy h => by omega⟩
 .have d1 : decide (((x / 2 % 4 : Nat) : Int) > 2) = false := decide_eq_false (by omega)
  have d2 : decide ((2 : Int) < ((x / 2 % 4 : Nat) : Int)) = false := decide_eq_false (by omega)
  have e5 : (((x % 2 : Nat) : Int) == 1) = (x % 2 == 1) := by
   have : x % 2 = 0 ∨ x % 2 = 1 := by omega
   rcases this with h | h <;> rw [h] <;> rfl
  rw [if_neg h3]
  simp (disch := omega) only [dQ, fE, cQ, stepR_skip, eD, eQ, eF, eX, eY, eP, fH, eK, dK, eJ, eT, fB, eA, eE, eI, eH, eC, fA, eU, eB, dR, eS, eL, dZ, gT, gQ, gM, gS, gO, gN, gU, gP, gR, dH, Result.ok.injEq, Next.value.injEq, true_and, and_true, dY, dX, eN, eZ, eM, fG, Lk, dS, dT, dV, dW, dN, dL, dO, dM, dI, cY, if_true, if_false, Lh, Ln, Li, Lj, Lm, Ll, Lg, Lf, cR, cM, cH, bY, cV, dJ, bU, bX, cS, cN, cO, dE, cL, dD, dG, dU, dB, cD, bH, bR, aU, aE, aH, dF, aL, cG, dA, cZ, bN, aK, bC, aZ, cP, aC, aX, aM, aV, cU, aW, cJ, bS, aF, aG, aJ, dP, aP, aN, bD, aQ, cC, aD, bZ, bT, bL, bB, aY, cX, aI, bE, aT, aS, aR, aA, dC, cK, bP, aO, cW, bW, bV, cF, bQ, bO, bK, cI, bF, cB, bA, bG, bM, bJ, cA, n0, s1, a3, d1, d2, a1, s3, e5]
  refine pI o3 rfl (by simp [one]) (by simp) fun w5 o5 x5 s5 => ?_
  refine Aa o5 (by simp [gD]) ?_
  simp only [gD, Ls, Lu, LF, Lz, LG]
  exact ⟨rfl, x03.trans x5 fun y hy h => by omega⟩
end Go.Proofs.YthohephggmkeeaaDoor
namespace Go.Proofs.YthohephggmkeeaaDoor
open Go Go.En Go.Pu
theorem HM {x n m : Nat} (h : m = n) : (x : Int).fdiv (2 ^ m) = ((x / 2 ^ n : Nat) : Int) := by
 subst h
 rw [LX _ (by exact_mod_cast Nat.zero_le _)]
 push_cast
 rfl
theorem JY {x n : Nat} (h : n <= 64) : (x : Int).fdiv (2 ^ min n IntKind.u64.bits) = ((x / 2 ^ n : Nat) : Int) := HM (by have : IntKind.u64.bits = 64 := rfl; omega)
theorem F5 {x n : Nat} (hx : x < 2 ^ 63) (hn : n <= 62) : tC .u64 (x : Int) ((2 ^ n - 1 : Nat) : Int) = ((x % 2 ^ n : Nat) : Int) := by
 have hp : 2 ^ n <= 2 ^ 62 := L1 (by omega) hn
 unfold tC
 have e : IntKind.u64.bits = 64 := rfl
 rw [e, BitVec.ofInt_natCast, BitVec.ofInt_natCast, BitVec.toNat_and, BitVec.toNat_ofNat, BitVec.toNat_ofNat, L8 (by omega), L8 (by omega), L2]
 have := Nat.mod_le x (2 ^ n)
 exact dX (by omega) (by omega)
end Go.Proofs.YthohephggmkeeaaDoor
namespace Go.Proofs.YthohephggmkeeaaDoor
open Go Go.En Go.Pu
set_option maxRecDepth 4000
theorem I4 {n : Nat} {w : MA} (hn : n <= 131072) :
 fI pg nO #[.int .u64 1, .int .u64 n] w (fun r w' => r = .tuple #[.int .u64 0, .int .u64 n] /\ gA w w' nQ) := by
 refine AO ?_
 unfold zY pY
 have a1 : tC .u64 1 4294967295 = 1 := by decide
 have a2 : tC .u64 (n : Int) 4294967295 = n := by
  have := F5 (x := n) (n := 32) (by omega) (by omega)
  rw [L8 (by omega)] at this
  exact this
 have a0 : tC .u64 0 4294967295 = 0 := by decide
 have s1 : (1 : Int).fdiv (2 ^ min 32 IntKind.u64.bits) = 0 := by decide
 have s0 : (0 : Int).fdiv (2 ^ min 32 IntKind.u64.bits) = 0 := by decide
 have s2 : (n : Int).fdiv (2 ^ min 32 IntKind.u64.bits) = 0 := by
  rw [JY (by omega), Nat.div_eq_of_lt (by omega)] <;> rfl
 have t32 : (32 : Int).toNat = 32 := rfl
 have w0 : IntKind.u64.wrap 0 = 0 := rfl
 have w1 : IntKind.u64.wrap (n : Int) = n := dX (by omega) (by omega)
 simp (disch := omega) only [dQ, fE, cQ, stepR_skip, eD, eQ, eF, eX, eY, eP, fH, eK, dK, eJ, eT, fB, eA, eE, eI, eH, eC, fA, eU, eB, dR, eS, eL, dZ, gT, gQ, gM, gS, gO, gN, gU, gP, gR, dH, Result.ok.injEq, Next.value.injEq, true_and, and_true, dY, dX, eN, eZ, eM, fG, Lk, dS, dT, dV, dW, dN, dL, dO, dM, dI, cY, if_true, if_false, Lh, Ln, Li, Lj, Lm, Ll, Lg, Lf, cR, cM, cH, bY, cV, dJ, bU, bX, cS, cN, cO, dE, cL, dD, dG, dU, dB, cD, bH, bR, aU, aE, aH, dF, aL, cG, dA, cZ, bN, aK, bC, aZ, cP, aC, aX, aM, aV, cU, aW, cJ, bS, aF, aG, aJ, dP, aP, aN, bD, aQ, cC, aD, bZ, bT, bL, bB, aY, cX, aI, bE, aT, aS, aR, aA, dC, cK, bP, aO, cW, bW, bV, cF, bQ, bO, bK, cI, bF, cB, bA, bG, bM, bJ, cA, a1, a2, a0, s1, s2, s0, t32, w0, w1, Int.one_mul, Int.zero_mul, Int.mul_zero, Int.add_zero, Int.zero_add]
 exact gA.refl _ _
theorem Kl {n : Nat} {w : MA} (hn : n <= 131072) :
 fI pg pO #[.int .u64 1, .int .u64 n] w (fun r w' => r = .tuple #[.int .u64 0, .int .u64 n] /\ gA w w' nQ) := by
 refine BB ?_
 unfold Bl rW
 simp (disch := omega) only [dQ, fE, cQ, stepR_skip, eD, eQ, eF, eX, eY, eP, fH, eK, dK, eJ, eT, fB, eA, eE, eI, eH, eC, fA, eU, eB, dR, eS, eL, dZ, gT, gQ, gM, gS, gO, gN, gU, gP, gR, dH, Result.ok.injEq, Next.value.injEq, true_and, and_true, dY, dX, eN, eZ, eM, fG, Lk, dS, dT, dV, dW, dN, dL, dO, dM, dI, cY, if_true, if_false, Lh, Ln, Li, Lj, Lm, Ll, Lg, Lf, cR, cM, cH, bY, cV, dJ, bU, bX, cS, cN, cO, dE, cL, dD, dG, dU, dB, cD, bH, bR, aU, aE, aH, dF, aL, cG, dA, cZ, bN, aK, bC, aZ, cP, aC, aX, aM, aV, cU, aW, cJ, bS, aF, aG, aJ, dP, aP, aN, bD, aQ, cC, aD, bZ, bT, bL, bB, aY, cX, aI, bE, aT, aS, aR, aA, dC, cK, bP, aO, cW, bW, bV, cF, bQ, bO, bK, cI, bF, cB, bA, bG, bM, bJ, cA]
 refine (I4 hn).mono ?_
 rintro r w1 ⟨rfl, x1⟩
 simp (disch := omega) only [dQ, fE, cQ, stepR_skip, eD, eQ, eF, eX, eY, eP, fH, eK, dK, eJ, eT, fB, eA, eE, eI, eH, eC, fA, eU, eB, dR, eS, eL, dZ, gT, gQ, gM, gS, gO, gN, gU, gP, gR, dH, Result.ok.injEq, Next.value.injEq, true_and, and_true, dY, dX, eN, eZ, eM, fG, Lk, dS, dT, dV, dW, dN, dL, dO, dM, dI, cY, if_true, if_false, Lh, Ln, Li, Lj, Lm, Ll, Lg, Lf, cR, cM, cH, bY, cV, dJ, bU, bX, cS, cN, cO, dE, cL, dD, dG, dU, dB, cD, bH, bR, aU, aE, aH, dF, aL, cG, dA, cZ, bN, aK, bC, aZ, cP, aC, aX, aM, aV, cU, aW, cJ, bS, aF, aG, aJ, dP, aP, aN, bD, aQ, cC, aD, bZ, bT, bL, bB, aY, cX, aI, bE, aT, aS, aR, aA, dC, cK, bP, aO, cW, bW, bV, cF, bQ, bO, bK, cI, bF, cB, bA, bG, bM, bJ, cA]
 exact x1
theorem JZ {z v : MB} {i n : Nat} (hi : i <= n) : gD (List.replicate i v ++ List.replicate (n - i) z) i ((List.replicate i v).take (min i (n - i))) = List.replicate (i + min i (n - i)) v ++ List.replicate (n - (i + min i (n - i))) z := by
 have e : (List.replicate i v).take (min i (n - i)) = List.replicate (min i (n - i)) v := by
  rw [List.take_replicate]; congr 1; omega
 rw [e]
 generalize hm : min i (n - i) = m
 have hm2 : i + m <= n := by omega
 clear hm e
 induction m generalizing i with
 | zero => simp [gD]
 | succ m ih =>
   rw [List.replicate_succ]
   simp only [gD]
   rw [show (List.replicate i v ++ List.replicate (n - i) z).set i v = List.replicate (i + 1) v ++ List.replicate (n - (i + 1)) z from ?_]
   .rw [ih (i := i + 1) (by omega) (by omega), show i + 1 + m = i + (m + 1) from by omega]
   .rw [LO _ _ (by simp), LU, Nat.sub_self, show n - i = (n - (i + 1)) + 1 from by omega, List.replicate_succ, Ls, List.replicate_succ', L3]
    rfl
theorem Hn {c : UInt8} {n p : Nat} {w3 : MA} {RR : MB -> MA -> Prop} (hn : n <= 131072) (o3 : iD w3 p (List.replicate (min 1 n) (rE c) ++ List.replicate (n - min 1 n) (.int .u8 0)))
 (hk : ∀ w4, iD w4 p (List.replicate n (rE c)) -> gA w3 w4 (fun y => y = p) -> RR (.slice (some ⟨p, 0, none⟩) n n) w4) :
 kL RR (.slice (some ⟨p, 0, none⟩) n n) (.int .i64 (min 1 n : Nat)) w3 := by
 unfold kL nF nI
 refine iW.rule (fun m (t : MB) w' => ∃ i : Nat, m = n - i /\ t = .int .i64 i /\ i <= n /\ (1 <= i ∨ n = 0) /\ iD w' p (List.replicate i (rE c) ++ List.replicate (n - i) (.int .u8 0)) /\ gA w3 w' (fun y => y = p)) (n - min 1 n)
  ⟨min 1 n, rfl, rfl, by omega, by omega, o3, gA.refl _ _⟩ ?_
 rintro m t w4 ⟨i, rfl, rfl, hi, h0, o4, x4⟩
 unfold kJ
 by_cases hlt : i < n
 .have d5 : decide ((i : Int) < (n : Int)) = true := by simp; omega
  have q1 : (i : Int).toNat = i := Lk _
  have s1 : iC (some (⟨p, 0, none⟩ : Addr)) n i 1 = some ⟨p, 0 + i, none⟩ := DU (by omega)
  have s2 : iC (some (⟨p, 0, none⟩ : Addr)) n 0 1 = some ⟨p, 0 + 0, none⟩ := DU (by omega)
  simp (disch := omega) only [dQ, fE, cQ, stepR_skip, eD, eQ, eF, eX, eY, eP, fH, eK, dK, eJ, eT, fB, eA, eE, eI, eH, eC, fA, eU, eB, dR, eS, eL, dZ, gT, gQ, gM, gS, gO, gN, gU, gP, gR, dH, Result.ok.injEq, Next.value.injEq, true_and, and_true, dY, dX, eN, eZ, eM, fG, Lk, dS, dT, dV, dW, dN, dL, dO, dM, dI, cY, if_true, if_false, Lh, Ln, Li, Lj, Lm, Ll, Lg, Lf, cR, cM, cH, bY, cV, dJ, bU, bX, cS, cN, cO, dE, cL, dD, dG, dU, dB, cD, bH, bR, aU, aE, aH, dF, aL, cG, dA, cZ, bN, aK, bC, aZ, cP, aC, aX, aM, aV, cU, aW, cJ, bS, aF, aG, aJ, dP, aP, aN, bD, aQ, cC, aD, bZ, bT, bL, bB, aY, cX, aI, bE, aT, aS, aR, aA, dC, cK, bP, aO, cW, bW, bV, cF, bQ, bO, bK, cI, bF, cB, bA, bG, bM, bJ, cA, d5, q1, s1, s2, Nat.sub_zero]
  have hs : Bs (dr w4) (.slice (some ⟨p, 0, none⟩) i n) (List.replicate i c) := by
   have := (iQ o4).bs (off := 0) (c := n) (l := List.replicate i c) (by simp; omega) (fun j hj => by
    rw [LU] at hj
    rw [Ln, LJ (by simp; omega)]
    simp [List.getElem?_replicate, hj])
   rw [LU] at this
   exact this
  refine AM (off := i) (dl := n - i) (iQ o4) (by simp) hs (by simp [one, rE]) fun w5 o5 x5 s5 => ?_
  have hm5 : (List.map rE (List.replicate i c)).length = i := by simp
  rw [hm5, List.map_replicate, JZ hi] at o5
  rw [hm5]
  have e5 : (i : Int) + ((min i (n - i) : Nat) : Int) = ((i + min i (n - i) : Nat) : Int) := by omega
  have wi5 : IntKind.i64.wrap ((i + min i (n - i) : Nat) : Int) = ((i + min i (n - i) : Nat) : Int) := dY (by omega) (by omega)
  simp (disch := omega) only [dQ, fE, cQ, stepR_skip, eD, eQ, eF, eX, eY, eP, fH, eK, dK, eJ, eT, fB, eA, eE, eI, eH, eC, fA, eU, eB, dR, eS, eL, dZ, gT, gQ, gM, gS, gO, gN, gU, gP, gR, dH, Result.ok.injEq, Next.value.injEq, true_and, and_true, dY, dX, eN, eZ, eM, fG, Lk, dS, dT, dV, dW, dN, dL, dO, dM, dI, cY, if_true, if_false, Lh, Ln, Li, Lj, Lm, Ll, Lg, Lf, cR, cM, cH, bY, cV, dJ, bU, bX, cS, cN, cO, dE, cL, dD, dG, dU, dB, cD, bH, bR, aU, aE, aH, dF, aL, cG, dA, cZ, bN, aK, bC, aZ, cP, aC, aX, aM, aV, cU, aW, cJ, bS, aF, aG, aJ, dP, aP, aN, bD, aQ, cC, aD, bZ, bT, bL, bB, aY, cX, aI, bE, aT, aS, aR, aA, dC, cK, bP, aO, cW, bW, bV, cF, bQ, bO, bK, cI, bF, cB, bA, bG, bM, bJ, cA, e5, wi5]
  exact ⟨n - (i + min i (n - i)), by omega, i + min i (n - i), rfl, rfl, by omega, by omega, o5, x4.seq ((gA.dr w4 _).seq x5)⟩
 .have d5 : decide ((i : Int) < (n : Int)) = false := by simp; omega
  have hin : i = n := by omega
  rw [hin, Nat.sub_self, List.replicate_zero, Mz] at o4
  simp (disch := omega) only [dQ, fE, cQ, stepR_skip, eD, eQ, eF, eX, eY, eP, fH, eK, dK, eJ, eT, fB, eA, eE, eI, eH, eC, fA, eU, eB, dR, eS, eL, dZ, gT, gQ, gM, gS, gO, gN, gU, gP, gR, dH, Result.ok.injEq, Next.value.injEq, true_and, and_true, dY, dX, eN, eZ, eM, fG, Lk, dS, dT, dV, dW, dN, dL, dO, dM, dI, cY, if_true, if_false, Lh, Ln, Li, Lj, Lm, Ll, Lg, Lf, cR, cM, cH, bY, cV, dJ, bU, bX, cS, cN, cO, dE, cL, dD, dG, dU, dB, cD, bH, bR, aU, aE, aH, dF, aL, cG, dA, cZ, bN, aK, bC, aZ, cP, aC, aX, aM, aV, cU, aW, cJ, bS, aF, aG, aJ, dP, aP, aN, bD, aQ, cC, aD, bZ, bT, bL, bB, aY, cX, aI, bE, aT, aS, aR, aA, dC, cK, bP, aO, cW, bW, bV, cF, bQ, bO, bK, cI, bF, cB, bA, bG, bM, bJ, cA, d5]
  unfold kI
  exact hk w4 o4 x4
theorem Ib {v : MB} {c : UInt8} {n : Nat} {w : MA} (h : Bs w v [c]) (hn : n <= 131072) :
 fI pg kX #[v, .int .i64 n] w (fun r w' => CW w' w.heap.size 1 r n (List.replicate n (rE c)) /\ gA w w' nQ) := by
 refine yS ?_
 obtain ⟨RR, hRR⟩ : ∃ RR : MB -> MA -> Prop, RR = fun r w' => CW w' w.heap.size 1 r n (List.replicate n (rE c)) /\ gA w w' nQ := ⟨_, rfl⟩
 rw [<- hRR]
 obtain ⟨b, off, cap, rfl, hc, hcell⟩ := JS h (by simp)
 have hl1 : ([c] : List UInt8).length = 1 := rfl
 rw [hl1] at *
 have d0 : decide ((n : Int) < 0) = false := decide_eq_false (by omega)
 have e1 : ((1 : Nat) : Int) = 1 := rfl
 have wn : IntKind.u64.wrap (n : Int) = n := dX (by omega) (by omega)
 have w1 : IntKind.u64.wrap 1 = 1 := rfl
 unfold uD mH mJ
 simp (disch := omega) only [dQ, fE, cQ, stepR_skip, eD, eQ, eF, eX, eY, eP, fH, eK, dK, eJ, eT, fB, eA, eE, eI, eH, eC, fA, eU, eB, dR, eS, eL, dZ, gT, gQ, gM, gS, gO, gN, gU, gP, gR, dH, Result.ok.injEq, Next.value.injEq, true_and, and_true, dY, dX, eN, eZ, eM, fG, Lk, dS, dT, dV, dW, dN, dL, dO, dM, dI, cY, if_true, if_false, Lh, Ln, Li, Lj, Lm, Ll, Lg, Lf, cR, cM, cH, bY, cV, dJ, bU, bX, cS, cN, cO, dE, cL, dD, dG, dU, dB, cD, bH, bR, aU, aE, aH, dF, aL, cG, dA, cZ, bN, aK, bC, aZ, cP, aC, aX, aM, aV, cU, aW, cJ, bS, aF, aG, aJ, dP, aP, aN, bD, aQ, cC, aD, bZ, bT, bL, bB, aY, cX, aI, bE, aT, aS, aR, aA, dC, cK, bP, aO, cW, bW, bV, cF, bQ, bO, bK, cI, bF, cB, bA, bG, bM, bJ, cA, d0]
 unfold nD nG
 simp (disch := omega) only [dQ, fE, cQ, stepR_skip, eD, eQ, eF, eX, eY, eP, fH, eK, dK, eJ, eT, fB, eA, eE, eI, eH, eC, fA, eU, eB, dR, eS, eL, dZ, gT, gQ, gM, gS, gO, gN, gU, gP, gR, dH, Result.ok.injEq, Next.value.injEq, true_and, and_true, dY, dX, eN, eZ, eM, fG, Lk, dS, dT, dV, dW, dN, dL, dO, dM, dI, cY, if_true, if_false, Lh, Ln, Li, Lj, Lm, Ll, Lg, Lf, cR, cM, cH, bY, cV, dJ, bU, bX, cS, cN, cO, dE, cL, dD, dG, dU, dB, cD, bH, bR, aU, aE, aH, dF, aL, cG, dA, cZ, bN, aK, bC, aZ, cP, aC, aX, aM, aV, cU, aW, cJ, bS, aF, aG, aJ, dP, aP, aN, bD, aQ, cC, aD, bZ, bT, bL, bB, aY, cX, aI, bE, aT, aS, aR, aA, dC, cK, bP, aO, cW, bW, bV, cF, bQ, bO, bK, cI, bF, cB, bA, bG, bM, bJ, cA, e1, wn, w1]
 refine (Kl hn).mono ?_
 rintro r w1 ⟨rfl, x1⟩
 have d1 : decide ((0 : Int) > 0) = false := rfl
 have d2 : decide ((n : Int) > 9223372036854775807) = false := decide_eq_false (by omega)
 have d3 : decide ((9223372036854775807 : Int) < (n : Int)) = false := decide_eq_false (by omega)
 have d4 : decide ((0 : Int) < 0) = false := rfl
 simp (disch := omega) only [dQ, fE, cQ, stepR_skip, eD, eQ, eF, eX, eY, eP, fH, eK, dK, eJ, eT, fB, eA, eE, eI, eH, eC, fA, eU, eB, dR, eS, eL, dZ, gT, gQ, gM, gS, gO, gN, gU, gP, gR, dH, Result.ok.injEq, Next.value.injEq, true_and, and_true, dY, dX, eN, eZ, eM, fG, Lk, dS, dT, dV, dW, dN, dL, dO, dM, dI, cY, if_true, if_false, Lh, Ln, Li, Lj, Lm, Ll, Lg, Lf, cR, cM, cH, bY, cV, dJ, bU, bX, cS, cN, cO, dE, cL, dD, dG, dU, dB, cD, bH, bR, aU, aE, aH, dF, aL, cG, dA, cZ, bN, aK, bC, aZ, cP, aC, aX, aM, aV, cU, aW, cJ, bS, aF, aG, aJ, dP, aP, aN, bD, aQ, cC, aD, bZ, bT, bL, bB, aY, cX, aI, bE, aT, aS, aR, aA, dC, cK, bP, aO, cW, bW, bV, cF, bQ, bO, bK, cI, bF, cB, bA, bG, bM, bJ, cA, d1, d2, d3, d4]
 unfold mO nA
 have wi : IntKind.i64.wrap (n : Int) = n := dY (by omega) (by omega)
 simp (disch := omega) only [dQ, fE, cQ, stepR_skip, eD, eQ, eF, eX, eY, eP, fH, eK, dK, eJ, eT, fB, eA, eE, eI, eH, eC, fA, eU, eB, dR, eS, eL, dZ, gT, gQ, gM, gS, gO, gN, gU, gP, gR, dH, Result.ok.injEq, Next.value.injEq, true_and, and_true, dY, dX, eN, eZ, eM, fG, Lk, dS, dT, dV, dW, dN, dL, dO, dM, dI, cY, if_true, if_false, Lh, Ln, Li, Lj, Lm, Ll, Lg, Lf, cR, cM, cH, bY, cV, dJ, bU, bX, cS, cN, cO, dE, cL, dD, dG, dU, dB, cD, bH, bR, aU, aE, aH, dF, aL, cG, dA, cZ, bN, aK, bC, aZ, cP, aC, aX, aM, aV, cU, aW, cJ, bS, aF, aG, aJ, dP, aP, aN, bD, aQ, cC, aD, bZ, bT, bL, bB, aY, cX, aI, bE, aT, aS, aR, aA, dC, cK, bP, aO, cW, bW, bV, cF, bQ, bO, bK, cI, bF, cB, bA, bG, bM, bJ, cA, wi]
 refine Fo (by omega) (by omega) fun w2 o2 x2 s2 => ?_
 simp only [Lk] at o2 ⊢
 have z1 := x1.size
 have z2 := x2.size
 have x02 := x1.seq x2
 have h2 := h.ext x02 (jX _)
 obtain ⟨p, hp⟩ : ∃ p, p = w1.heap.size := ⟨_, rfl⟩
 rw [<- hp] at o2 ⊢
 refine AM (off := 0) o2 (by simp) h2 (by simp [one, rE]) fun w3 o3 x3 s3 => ?_
 have hmn : min (List.map rE [c]).length n = min 1 n := rfl
 rw [hmn] at o3 ⊢
 have hs3 : gD (List.replicate n (Value.int .u8 0)) 0 ((List.map rE [c]).take (min 1 n)) = List.replicate (min 1 n) (rE c) ++ List.replicate (n - min 1 n) (.int .u8 0) := by
  rcases Nat.eq_zero_or_pos n with rfl | hp
  .rfl
  .rw [show min 1 n = 1 from by omega]
   obtain ⟨m, rfl⟩ : ∃ m, n = m + 1 := ⟨n - 1, by omega⟩
   rfl
 rw [hs3] at o3
 have x13 : gA w1 w3 nQ := x2.new x3 (by omega)
 have x03 := x1.seq x13
 refine Hn hn o3 fun w4 o4 x4 => ?_
 have z4 := x4.size
 have x04 : gA w w4 nQ := x03.trans x4 fun y hy h => by omega
 rw [hRR]
 exact ⟨⟨by rw [LU, L9], .inr ⟨p, n, [], rfl, by omega, by rw [Mz]; exact o4, by rw [Mz, LU, L9], LB _⟩⟩, x04⟩
end Go.Proofs.YthohephggmkeeaaDoor
namespace Go.Pu
open Go Go.En
structure KL (B : List Bool) (l : List UInt8) : Prop where
 len : l.length = (B.length + 7) / 8
 bits : Jq l = B ++ List.replicate (8 * l.length - B.length) false
end Go.Pu
namespace Go.Proofs.YthohephggmkeeaaDoor
open Go Go.En Go.Pu
set_option maxRecDepth 4000
theorem It {w w' : MA} {S M : Nat -> Prop} {sz n : Nat} {v : MB} {l : List MB} (h : vV w S sz v n l) (hx : gA w w' M) (hM : ∀ b, S b -> ¬ M b) : vV w' S sz v n l := by
 refine ⟨h.1, ?_⟩
 rcases h.2 with h2 | ⟨b, c, rest, h1, h2, h3, h4, h5⟩
 .exact .inl h2
 .exact .inr ⟨b, c, rest, h1, h2, h3.ext hx (hM b h2), h4, h5⟩
def Wr (w : MA) (lo p : Nat) (B : List Bool) : Prop := lo <= p /\ ∃ v bytes, iD w p [v, .int .i64 B.length] /\ vV w (fun b => lo <= b /\ b ≠ p) 1 v bytes.length (bytes.map rE) /\ KL B bytes
theorem Wr.ext {w w' : MA} {lo p : Nat} {B : List Bool} {M : Nat -> Prop} (h : Wr w lo p B) (hx : gA w w' M) (hM : ∀ b, lo <= b -> ¬ M b) : Wr w' lo p B := by
 obtain ⟨h0, v, bytes, h1, h2, h3⟩ := h
 exact ⟨h0, v, bytes, h1.ext hx (hM _ h0), It h2 hx fun b hb => hM b hb.1, h3⟩
def Cw (w : MA) (p : Nat) (S : Nat -> Prop) (l : List UInt8) : Prop := ¬ S p /\ ∃ v, iD w p [v] /\ vV w S 1 v l.length (l.map rE)
theorem Cw.ext {w w' : MA} {p : Nat} {S M : Nat -> Prop} {l : List UInt8} (h : Cw w p S l) (x : gA w w' M) (hp : ¬ M p) (hM : ∀ b, S b -> ¬ M b) : Cw w' p S l := by
 obtain ⟨h0, v, h1, h2⟩ := h
 exact ⟨h0, v, h1.ext x hp, It h2 x hM⟩
theorem Cw.lt {w : MA} {p : Nat} {S : Nat -> Prop} {l : List UInt8} (h : Cw w p S l) : p < w.heap.size := by
 obtain ⟨_, v, h1, _⟩ := h; exact h1.lt
theorem EO {w : MA} {S : Nat -> Prop} {n : Nat} {v : MB} {l : List MB} (o3 : vV w S 1 v n l) : Sl w v l := by
 have : CW w 0 1 v n l := ⟨o3.1, by
  rcases o3.2 with h | ⟨b, c, rest, g1, g2, g3⟩
  .exact .inl h
  .exact .inr ⟨b, c, rest, g1, by omega, g3⟩⟩
 exact this.sl
end Go.Proofs.YthohephggmkeeaaDoor
namespace Go.En
open Go
theorem vV.ext {w w' : MA} {S M : Nat -> Prop} {sz n : Nat} {v : MB} {l : List MB} (h : vV w S sz v n l) (hx : gA w w' M) (hM : ∀ b, S b -> ¬ M b) : vV w' S sz v n l := by
 refine ⟨h.1, ?_⟩
 rcases h.2 with h2 | ⟨b, c, rest, h1, h2, h3, h4, h5⟩
 .exact .inl h2
 .exact .inr ⟨b, c, rest, h1, h2, h3.ext hx (hM b h2), h4, h5⟩
theorem CW.ne {w : MA} {base p sz n : Nat} {v : MB} {l : List MB} (h : CW w base sz v n l) (hp : w.heap.size <= p) : vV w (fun b => base <= b /\ b ≠ p) sz v n l := by
 refine ⟨h.1, ?_⟩
 rcases h.2 with h2 | ⟨b, c, rest, h1, h2, h3, h4, h5⟩
 .exact .inl h2
 .have := h3.lt
  exact .inr ⟨b, c, rest, h1, ⟨h2, by omega⟩, h3, h4, h5⟩
theorem vV.len {w : MA} {S : Nat -> Prop} {sz n : Nat} {v : MB} {l : List MB} (h : vV w S sz v n l) : ∃ a c, v = .slice a n c := by
 rcases h.2 with ⟨h1, rfl⟩ | ⟨b, c, rest, h1, _⟩
 .exact ⟨_, _, h1⟩
 .exact ⟨_, _, h1⟩
end Go.En
namespace Go.Proofs.YthohephggmkeeaaDoor
open Go Go.En Go.Pu
set_option maxRecDepth 4000
theorem sY {w : MA} {S T : Nat -> Prop} {sz n : Nat} {v : MB} {l : List MB} (h : vV w S sz v n l) (hT : ∀ b, S b -> b < w.heap.size -> T b) : vV w T sz v n l := by
 refine ⟨h.1, ?_⟩
 rcases h.2 with h2 | ⟨b, c, rest, h1, h2, h3, h4, h5⟩
 .exact .inl h2
 .exact .inr ⟨b, c, rest, h1, hT b h2 h3.lt, h3, h4, h5⟩
def tY : MB := .slice none 0 0
theorem Du {p pr lo hi n : Nat} {cs : List MB} {l : List UInt8} {w : MA} (o : iD w p cs) (c0 : cs[0]? = some (.pointer (some ⟨pr, 0, none⟩))) (hr : zJ w lo hi pr l 0) (hl : l.length <= 1000000) (hn : n <= 1000000) :
 fI pg iT #[.pointer (some ⟨p, 0, none⟩), .int .i64 (n : Nat)] w (fun r w' => (l.length < n /\ r = .tuple #[tY, .int .i64 10] /\ w' = w) ∨ (n <= l.length /\ ∃ v, r = .tuple #[v, .int .i64 0] /\ Bs w' v (l.take n) /\ Gk v (fun b => lo <= b /\ b < hi /\ b ≠ pr) /\ zJ w' lo hi pr (l.drop n) 0 /\ gA w w' (fun y => y = pr))) := by
 refine yD ?_
 unfold vA nB
 have c := o.cell (off := 0)
 rw [c0] at c
 simp (disch := omega) only [dQ, fE, cQ, stepR_skip, eD, eQ, eF, eX, eY, eP, fH, eK, dK, eJ, eT, fB, eA, eE, eI, eH, eC, fA, eU, eB, dR, eS, eL, dZ, gT, gQ, gM, gS, gO, gN, gU, gP, gR, dH, Result.ok.injEq, Next.value.injEq, true_and, and_true, dY, dX, eN, eZ, eM, fG, Lk, dS, dT, dV, dW, dN, dL, dO, dM, dI, cY, if_true, if_false, Lh, Ln, Li, Lj, Lm, Ll, Lg, Lf, cR, cM, cH, bY, cV, dJ, bU, bX, cS, cN, cO, dE, cL, dD, dG, dU, dB, cD, bH, bR, aU, aE, aH, dF, aL, cG, dA, cZ, bN, aK, bC, aZ, cP, aC, aX, aM, aV, cU, aW, cJ, bS, aF, aG, aJ, dP, aP, aN, bD, aQ, cC, aD, bZ, bT, bL, bB, aY, cX, aI, bE, aT, aS, aR, aA, dC, cK, bP, aO, cW, bW, bV, cF, bQ, bO, bK, cI, bF, cB, bA, bG, bM, bJ, cA, c]
 refine (AJ hr).mono ?_
 rintro r w1 ⟨rfl, h1⟩
 rw [h1]; clear h1 w1
 by_cases h : l.length < n
 .have d1 : decide ((n : Int) > (l.length : Int)) = true := decide_eq_true (by omega)
  have d2 : decide ((l.length : Int) < (n : Int)) = true := decide_eq_true (by omega)
  simp (disch := omega) only [dQ, fE, cQ, stepR_skip, eD, eQ, eF, eX, eY, eP, fH, eK, dK, eJ, eT, fB, eA, eE, eI, eH, eC, fA, eU, eB, dR, eS, eL, dZ, gT, gQ, gM, gS, gO, gN, gU, gP, gR, dH, Result.ok.injEq, Next.value.injEq, true_and, and_true, dY, dX, eN, eZ, eM, fG, Lk, dS, dT, dV, dW, dN, dL, dO, dM, dI, cY, if_true, if_false, Lh, Ln, Li, Lj, Lm, Ll, Lg, Lf, cR, cM, cH, bY, cV, dJ, bU, bX, cS, cN, cO, dE, cL, dD, dG, dU, dB, cD, bH, bR, aU, aE, aH, dF, aL, cG, dA, cZ, bN, aK, bC, aZ, cP, aC, aX, aM, aV, cU, aW, cJ, bS, aF, aG, aJ, dP, aP, aN, bD, aQ, cC, aD, bZ, bT, bL, bB, aY, cX, aI, bE, aT, aS, aR, aA, dC, cK, bP, aO, cW, bW, bV, cF, bQ, bO, bK, cI, bF, cB, bA, bG, bM, bJ, cA, d1, d2]
  exact .inl ⟨h, rfl⟩
 .have d1 : decide ((n : Int) > (l.length : Int)) = false := decide_eq_false (by omega)
  have d2 : decide ((l.length : Int) < (n : Int)) = false := decide_eq_false (by omega)
  simp (disch := omega) only [dQ, fE, cQ, stepR_skip, eD, eQ, eF, eX, eY, eP, fH, eK, dK, eJ, eT, fB, eA, eE, eI, eH, eC, fA, eU, eB, dR, eS, eL, dZ, gT, gQ, gM, gS, gO, gN, gU, gP, gR, dH, Result.ok.injEq, Next.value.injEq, true_and, and_true, dY, dX, eN, eZ, eM, fG, Lk, dS, dT, dV, dW, dN, dL, dO, dM, dI, cY, if_true, if_false, Lh, Ln, Li, Lj, Lm, Ll, Lg, Lf, cR, cM, cH, bY, cV, dJ, bU, bX, cS, cN, cO, dE, cL, dD, dG, dU, dB, cD, bH, bR, aU, aE, aH, dF, aL, cG, dA, cZ, bN, aK, bC, aZ, cP, aC, aX, aM, aV, cU, aW, cJ, bS, aF, aG, aJ, dP, aP, aN, bD, aQ, cC, aD, bZ, bT, bL, bB, aY, cX, aI, bE, aT, aS, aR, aA, dC, cK, bP, aO, cW, bW, bV, cF, bQ, bO, bK, cI, bF, cB, bA, bG, bM, bJ, cA, d1, d2, c]
  refine (CE hr (by omega) (by omega)).mono ?_
  have ht : tE l 0 n = (l.take n, l.drop n, 0) := by unfold tE; rw [if_neg (by decide), if_neg h]
  rw [ht]
  rintro r w1 ⟨h1, h2, h3, h4⟩
  exact .inr ⟨by omega, r, rfl, h1, h2, h3, h4⟩
def gZ : List MB := [tY, .int .i64 0, tY, .int .i64 0, tY, .int .i64 0, tY, .int .u32 0, .int .u32 0, .int .u32 0]
def gL : List MB := [tY, .int .i64 0, tY, .int .i64 0, tY, .int .i64 0, tY, .int .u32 1, .int .u32 4, .int .u32 8]
def KB : MB := .agg #[.slice none 0 0, .int .i64 0, .slice none 0 0, .int .i64 0, .slice none 0 0, .int .i64 0, .slice none 0 0, .int .u32 0, .int .u32 0, .int .u32 0]
def Ko : MB := .agg #[.slice none 0 0, .int .i64 0, .slice none 0 0, .int .i64 0, .slice none 0 0, .int .i64 0, .slice none 0 0, .int .u32 1, .int .u32 4, .int .u32 8]
def bx (l : List UInt8) : Nat := lB (l.take 3)
def zV (l : List UInt8) : Nat := bx l / 2 % 4
def AL (l : List UInt8) : Nat := bx l / 8
def DL (l : List UInt8) : Nat := if zV l = 1 then 1 else AL l
def HU (l : List UInt8) : List UInt8 := if zV l = 1 then List.replicate (AL l) ((l.drop 3).headD 0) else (l.drop 3).take (AL l)
def D8 (l all : List UInt8) (win room : Nat) : Option (Except Int (List UInt8 × List UInt8 × Bool)) :=
 if l.length < 3 then some (.error 10) else if zV l = 3 then some (.error 11) else if min win 131072 < AL l then some (.error 12)
 else if zV l = 2 then none else if l.length - 3 < DL l then some (.error 10)
 else if room < all.length + (HU l).length then some (.error 12) else some (.ok (all ++ HU l, l.drop (3 + DL l), bx l % 2 == 1))
theorem Hu {RR : MB -> MA -> Prop} {p pg6 pt9 px most n : Nat} {L : Bool} {vo va x1 x2 : MB} {N : Nat} {cs : List MB} {w : MA}
 (o : iD w p cs) (k2 : cs[2]? = some (.int .i64 (most : Nat))) (k3 : cs[3]? = some vo) (hvo : ∃ a c, vo = .slice a n c) (hva : ∃ a c, va = .slice a N c) (og : iD w pg6 gL) (ot : iD w pt9 gZ) (hne : pg6 ≠ pt9) (hpx : px ≠ pt9)
 (ox : iD w px [.bool L, x1, x2]) (hn : n <= 2000000) (hN : N <= 4000000) (hmost : most <= 2000000)
 (hk : ∀ w', gA w w' (fun y => y = pt9) -> RR (if most < n + N then .tuple #[tY, KB, .bool false, .int .i64 12] else .tuple #[va, Ko, .bool L, .int .i64 0]) w') :
 iK RR (.pointer (some ⟨p, 0, none⟩)) va (.pointer (some ⟨pg6, 0, none⟩)) (.pointer (some ⟨pt9, 0, none⟩)) (.pointer (some ⟨px, 0, none⟩)) w := by
 unfold iK
 obtain ⟨a, c, rfl⟩ := hvo
 obtain ⟨a', c', rfl⟩ := hva
 have e2 := (iQ o).cell (off := 2)
 have e3 := (iQ o).cell (off := 3)
 have f2 := o.cell (off := 2)
 have f3 := o.cell (off := 3)
 have g2 := (iQ (iQ o)).cell (off := 2)
 have g3 := (iQ (iQ o)).cell (off := 3)
 rw [k2] at e2 f2 g2
 rw [k3] at e3 f3 g3
 by_cases h : most < n + N
 .have d1 : decide ((n : Int) + (N : Int) > (most : Int)) = true := decide_eq_true (by omega)
  have d2 : decide ((most : Int) < (n : Int) + (N : Int)) = true := decide_eq_true (by omega)
  rw [if_pos h] at hk
  simp (disch := omega) only [dQ, fE, cQ, stepR_skip, eD, eQ, eF, eX, eY, eP, fH, eK, dK, eJ, eT, fB, eA, eE, eI, eH, eC, fA, eU, eB, dR, eS, eL, dZ, gT, gQ, gM, gS, gO, gN, gU, gP, gR, dH, Result.ok.injEq, Next.value.injEq, true_and, and_true, dY, dX, eN, eZ, eM, fG, Lk, dS, dT, dV, dW, dN, dL, dO, dM, dI, cY, if_true, if_false, Lh, Ln, Li, Lj, Lm, Ll, Lg, Lf, cR, cM, cH, bY, cV, dJ, bU, bX, cS, cN, cO, dE, cL, dD, dG, dU, dB, cD, bH, bR, aU, aE, aH, dF, aL, cG, dA, cZ, bN, aK, bC, aZ, cP, aC, aX, aM, aV, cU, aW, cJ, bS, aF, aG, aJ, dP, aP, aN, bD, aQ, cC, aD, bZ, bT, bL, bB, aY, cX, aI, bE, aT, aS, aR, aA, dC, cK, bP, aO, cW, bW, bV, cF, bQ, bO, bK, cI, bF, cB, bA, bG, bM, bJ, cA, e2, e3, f2, f3, g2, g3, d1, d2]
  refine iI (iQ ot) rfl (by simp [one]) (by simp [gZ]) fun w1 o1 x1 s1 => ?_
  refine jY o1 (by simp [gD, gZ]) ?_
  simp only [gD, gZ, Ls, Lu, LF, Lz, LG]
  exact hk w1 ((gA.dr w _).seq x1)
 .have d1 : decide ((n : Int) + (N : Int) > (most : Int)) = false := decide_eq_false (by omega)
  have d2 : decide ((most : Int) < (n : Int) + (N : Int)) = false := decide_eq_false (by omega)
  rw [if_neg h] at hk
  have hg := sE (off := 0) (iQ og) (by simp [gL])
  have hg2 := sE (off := 0) (iQ (iQ og)) (by simp [gL])
  simp only [gL, LF, Lz, LG] at hg hg2
  have b0 := (iQ ox).cell (off := 0)
  have b1 := (iQ (iQ ox)).cell (off := 0)
  simp only [Lf] at b0 b1
  simp (disch := omega) only [dQ, fE, cQ, stepR_skip, eD, eQ, eF, eX, eY, eP, fH, eK, dK, eJ, eT, fB, eA, eE, eI, eH, eC, fA, eU, eB, dR, eS, eL, dZ, gT, gQ, gM, gS, gO, gN, gU, gP, gR, dH, Result.ok.injEq, Next.value.injEq, true_and, and_true, dY, dX, eN, eZ, eM, fG, Lk, dS, dT, dV, dW, dN, dL, dO, dM, dI, cY, if_true, if_false, Lh, Ln, Li, Lj, Lm, Ll, Lg, Lf, cR, cM, cH, bY, cV, dJ, bU, bX, cS, cN, cO, dE, cL, dD, dG, dU, dB, cD, bH, bR, aU, aE, aH, dF, aL, cG, dA, cZ, bN, aK, bC, aZ, cP, aC, aX, aM, aV, cU, aW, cJ, bS, aF, aG, aJ, dP, aP, aN, bD, aQ, cC, aD, bZ, bT, bL, bB, aY, cX, aI, bE, aT, aS, aR, aA, dC, cK, bP, aO, cW, bW, bV, cF, bQ, bO, bK, cI, bF, cB, bA, bG, bM, bJ, cA, e2, e3, f2, f3, g2, g3, d1, d2, hg, hg2, b0, b1]
  refine iI (iQ (iQ ot)) rfl (by simp [one, tY]) (by simp [gZ]) fun w1 o1 x1 s1 => ?_
  have ox1 := (iQ (iQ ox)).ext x1 hpx
  have b2 := ox1.cell (off := 0)
  simp only [Lf] at b2
  try simp (disch := omega) only [dQ, fE, cQ, stepR_skip, eD, eQ, eF, eX, eY, eP, fH, eK, dK, eJ, eT, fB, eA, eE, eI, eH, eC, fA, eU, eB, dR, eS, eL, dZ, gT, gQ, gM, gS, gO, gN, gU, gP, gR, dH, Result.ok.injEq, Next.value.injEq, true_and, and_true, dY, dX, eN, eZ, eM, fG, Lk, dS, dT, dV, dW, dN, dL, dO, dM, dI, cY, if_true, if_false, Lh, Ln, Li, Lj, Lm, Ll, Lg, Lf, cR, cM, cH, bY, cV, dJ, bU, bX, cS, cN, cO, dE, cL, dD, dG, dU, dB, cD, bH, bR, aU, aE, aH, dF, aL, cG, dA, cZ, bN, aK, bC, aZ, cP, aC, aX, aM, aV, cU, aW, cJ, bS, aF, aG, aJ, dP, aP, aN, bD, aQ, cC, aD, bZ, bT, bL, bB, aY, cX, aI, bE, aT, aS, aR, aA, dC, cK, bP, aO, cW, bW, bV, cF, bQ, bO, bK, cI, bF, cB, bA, bG, bM, bJ, cA, b2]
  refine jY o1 (by simp [gD, gZ]) ?_
  simp only [gD, gZ, Ls, Lu, LF, Lz, LG]
  exact hk w1 (((gA.dr w _).seq (gA.dr _ _)).seq x1)
theorem Kx {S : Nat -> Prop} {v x : MB} {l m : List UInt8} {w : MA} (h : vV w S 1 v l.length (l.map rE)) (hx : Bs w x m) (hb : ∀ b, w.heap.size <= b -> S b) (hn : l.length + m.length <= 100000000) {K : MB -> MA -> Prop}
 (hk : ∀ v' w', vV w' S 1 v' (l ++ m).length ((l ++ m).map rE) -> gA w w' S -> K v' w') : dQ pg (nR .append #[22, 22] 22 [v, x]) w K := by
 have hcl : Cl w 1 x m.length (m.map rE) := by have := hx.cl; rwa [Lq] at this
 refine AR (m := m.length) (news := m.map rE) (i := Tryd.t5) Tryd.underlying22 Tryd.underlying22 Cm rfl rfl rfl h hcl (Gb _) hb (by omega) (by rw [show Tryd.t5.bytes = 1 from rfl]; omega) (by decide) fun v3 w3 o3 x3 => ?_
 refine hk v3 w3 ?_ x3
 rw [Lw, List.map_append]
 exact o3
theorem G0 {RR : MB -> MA -> Prop} {p pr pg6 pt9 px lo hi most n k sz need wv bv : Nat} {L : Bool} {A : Nat -> Prop} {vo va : MB} {all l made : List UInt8} {cs : List MB} {w : MA}
 (o : iD w p cs) (k0 : cs[0]? = some (.pointer (some ⟨pr, 0, none⟩))) (k2 : cs[2]? = some (.int .i64 (most : Nat))) (k3 : cs[3]? = some vo) (hvo : ∃ a c, vo = .slice a n c) (og : iD w pg6 gL) (ot : iD w pt9 gZ) (ox : iD w px [.bool L, .int .i64 (k : Nat), .int .i64 (sz : Nat)])
 (hr : zJ w lo hi pr l 0) (ha : vV w A 1 va all.length (all.map rE)) (hA : ∀ b, A b -> b ≠ p /\ ¬ (lo <= b /\ b < hi) /\ b ≠ pg6 /\ b ≠ pt9 /\ b ≠ px) (hAn : ∀ b, w.heap.size <= b -> A b)
 (hne : pg6 ≠ pt9) (hpx : px ≠ pt9) (q1 : ¬ (lo <= p /\ p < hi)) (q2 : ¬ (lo <= pg6 /\ pg6 < hi)) (q3 : ¬ (lo <= pt9 /\ pt9 < hi)) (q4 : ¬ (lo <= px /\ px < hi)) (hk01 : k = 0 ∨ k = 1) (hsz : sz <= 131072) (hn : n <= 2000000) (hl : l.length <= 1000000) (hall : all.length <= 2000000) (hmost : most <= 2000000)
 (hneed : need = if k = 1 then 1 else sz) (hmade : made = if k = 1 then List.replicate sz (l.headD 0) else l.take sz)
 (hk1 : l.length < need -> ∀ w', gA w w' (fun y => y = pt9) -> RR (.tuple #[tY, KB, .bool false, .int .i64 10]) w')
 (hk2 : need <= l.length -> most < n + (all.length + made.length) -> ∀ w', gA w w' (fun y => A y ∨ y = pr ∨ y = pt9) -> RR (.tuple #[tY, KB, .bool false, .int .i64 12]) w')
 (hk3 : need <= l.length -> ¬ most < n + (all.length + made.length) -> ∀ w' va', vV w' A 1 va' (all ++ made).length ((all ++ made).map rE) -> zJ w' lo hi pr (l.drop need) 0 -> gA w w' (fun y => A y ∨ y = pr ∨ y = pt9) -> RR (.tuple #[va', Ko, .bool L, .int .i64 0]) w') :
 jE RR (.pointer (some ⟨p, 0, none⟩)) va (.int .u64 (wv : Nat)) (.pointer (some ⟨pg6, 0, none⟩)) (.pointer (some ⟨pt9, 0, none⟩)) (.int .i64 (bv : Nat)) (.pointer (some ⟨px, 0, none⟩)) (.int .i64 (need : Nat)) w := by
 have hneed2 : need <= 131072 := by rw [hneed]; split <;> omega
 unfold jE mW
 refine (Du o k0 hr hl (by omega)).mono ?_
 rintro r w1 (⟨h1, rfl, h2⟩ | ⟨h1, v, rfl, hb1, hat, hr1, x1⟩)
 .rw [h2]; clear h2 w1
  have n1 : ((10 : Int) != 0) = true := rfl
  unfold tY
  simp (disch := omega) only [dQ, fE, cQ, stepR_skip, eD, eQ, eF, eX, eY, eP, fH, eK, dK, eJ, eT, fB, eA, eE, eI, eH, eC, fA, eU, eB, dR, eS, eL, dZ, gT, gQ, gM, gS, gO, gN, gU, gP, gR, dH, Result.ok.injEq, Next.value.injEq, true_and, and_true, dY, dX, eN, eZ, eM, fG, Lk, dS, dT, dV, dW, dN, dL, dO, dM, dI, cY, if_true, if_false, Lh, Ln, Li, Lj, Lm, Ll, Lg, Lf, cR, cM, cH, bY, cV, dJ, bU, bX, cS, cN, cO, dE, cL, dD, dG, dU, dB, cD, bH, bR, aU, aE, aH, dF, aL, cG, dA, cZ, bN, aK, bC, aZ, cP, aC, aX, aM, aV, cU, aW, cJ, bS, aF, aG, aJ, dP, aP, aN, bD, aQ, cC, aD, bZ, bT, bL, bB, aY, cX, aI, bE, aT, aS, aR, aA, dC, cK, bP, aO, cW, bW, bV, cF, bQ, bO, bK, cI, bF, cB, bA, bG, bM, bJ, cA, n1]
  refine iI ot rfl (by simp [one]) (by simp [gZ]) fun w1 o1 x1 s1 => ?_
  refine jY o1 (by simp [gD, gZ]) ?_
  simp only [gD, gZ, Ls, Lu, LF, Lz, LG]
  exact hk1 h1 w1 x1
 have n1 : ((0 : Int) != 0) = false := rfl
 have hpr : lo <= pr /\ pr < hi := ⟨hr.1, hr.2.1⟩
 have ox1 := ox.ext x1 (fun e => q4 (e ▸ hpr))
 have og1 := og.ext x1 (fun e => q2 (e ▸ hpr))
 have ot1 := ot.ext x1 (fun e => q3 (e ▸ hpr))
 have o1 := o.ext x1 (fun e => q1 (e ▸ hpr))
 have ha1 := ha.ext x1 (fun b hb e => (hA b hb).2.1 (e ▸ hpr))
 have z1 := x1.size
 have c1 := ox1.cell (off := 1)
 have c2 := ox1.cell (off := 2)
 simp only [Lf, Lg] at c1 c2
 have fin : ∀ (m' : List UInt8) (v' : MB) (w2 : MA), m' = made -> vV w2 A 1 v' (all ++ m').length ((all ++ m').map rE) -> gA w1 w2 A -> iK RR (.pointer (some ⟨p, 0, none⟩)) v' (.pointer (some ⟨pg6, 0, none⟩)) (.pointer (some ⟨pt9, 0, none⟩)) (.pointer (some ⟨px, 0, none⟩)) w2 := by
  rintro m' v' w2 rfl o2 x2
  have hlen := o2.len
  refine Hu (n := n) (N := (all ++ m').length) (L := L) (o1.ext x2 fun h => (hA p h).1 rfl) k2 k3 hvo hlen (og1.ext x2 fun h => (hA _ h).2.2.1 rfl) (ot1.ext x2 fun h => (hA _ h).2.2.2.1 rfl) hne hpx (ox1.ext x2 fun h => (hA _ h).2.2.2.2 rfl) (by omega) ?_ hmost fun w' x => ?_
  .have : m'.length <= 131072 := by
    rw [hmade]; split
    .rw [LU]; exact hsz
    .rw [Lt]; omega
   rw [Lw]; omega
  .rw [Lw]
   have xx : gA w w' (fun y => A y ∨ y = pr ∨ y = pt9) := (((x1.mono fun _ _ h => .inr (.inl h)).seq (x2.mono fun _ _ h => .inl h))).seq (x.mono fun _ _ h => .inr (.inr h))
   by_cases hm : most < n + (all.length + m'.length)
   .rw [if_pos hm]; exact hk2 h1 hm w' xx
   .rw [if_neg hm]
    refine hk3 h1 hm w' v' (o2.ext x fun b hb e => (hA b hb).2.2.2.1 e) ((hr1.ext x2 fun b h1 h2 h3 => (hA b h3).2.1 ⟨h1, h2⟩).ext x fun b h1 h2 h3 => q3 (h3 ▸ ⟨h1, h2⟩)) xx
 rcases hk01 with rfl | rfl
 .have e0 : (((0 : Nat) : Int) == 0) = true := rfl
  simp only [show ¬ ((0 : Nat) = 1) from by decide, if_false] at hneed hmade
  simp (disch := omega) only [dQ, fE, cQ, stepR_skip, eD, eQ, eF, eX, eY, eP, fH, eK, dK, eJ, eT, fB, eA, eE, eI, eH, eC, fA, eU, eB, dR, eS, eL, dZ, gT, gQ, gM, gS, gO, gN, gU, gP, gR, dH, Result.ok.injEq, Next.value.injEq, true_and, and_true, dY, dX, eN, eZ, eM, fG, Lk, dS, dT, dV, dW, dN, dL, dO, dM, dI, cY, if_true, if_false, Lh, Ln, Li, Lj, Lm, Ll, Lg, Lf, cR, cM, cH, bY, cV, dJ, bU, bX, cS, cN, cO, dE, cL, dD, dG, dU, dB, cD, bH, bR, aU, aE, aH, dF, aL, cG, dA, cZ, bN, aK, bC, aZ, cP, aC, aX, aM, aV, cU, aW, cJ, bS, aF, aG, aJ, dP, aP, aN, bD, aQ, cC, aD, bZ, bT, bL, bB, aY, cX, aI, bE, aT, aS, aR, aA, dC, cK, bP, aO, cW, bW, bV, cF, bQ, bO, bK, cI, bF, cB, bA, bG, bM, bJ, cA, n1, c1, e0]
  refine Kx ha1 hb1 (fun b hb => hAn b (by omega)) (by rw [Lt]; omega) fun v' w2 o2 x2 => ?_
  exact fin _ v' w2 (by rw [hmade, hneed]) o2 x2
 .have e0 : (((1 : Nat) : Int) == 0) = false := rfl
  have e1 : (((1 : Nat) : Int) == 1) = true := rfl
  simp only [if_true] at hneed hmade
  subst hneed
  simp (disch := omega) only [dQ, fE, cQ, stepR_skip, eD, eQ, eF, eX, eY, eP, fH, eK, dK, eJ, eT, fB, eA, eE, eI, eH, eC, fA, eU, eB, dR, eS, eL, dZ, gT, gQ, gM, gS, gO, gN, gU, gP, gR, dH, Result.ok.injEq, Next.value.injEq, true_and, and_true, dY, dX, eN, eZ, eM, fG, Lk, dS, dT, dV, dW, dN, dL, dO, dM, dI, cY, if_true, if_false, Lh, Ln, Li, Lj, Lm, Ll, Lg, Lf, cR, cM, cH, bY, cV, dJ, bU, bX, cS, cN, cO, dE, cL, dD, dG, dU, dB, cD, bH, bR, aU, aE, aH, dF, aL, cG, dA, cZ, bN, aK, bC, aZ, cP, aC, aX, aM, aV, cU, aW, cJ, bS, aF, aG, aJ, dP, aP, aN, bD, aQ, cC, aD, bZ, bT, bL, bB, aY, cX, aI, bE, aT, aS, aR, aA, dC, cK, bP, aO, cW, bW, bV, cF, bQ, bO, bK, cI, bF, cB, bA, bG, bM, bJ, cA, n1, c1, e0, e1, c2]
  obtain ⟨c, t, hct⟩ : ∃ c t, l = c :: t := by
   cases l with
   | nil => simp at h1
   | cons c t => exact ⟨c, t, rfl⟩
  have e4 : l.take 1 = [c] := by rw [hct] <;> rfl
  rw [e4] at hb1
  refine (Ib hb1 hsz).mono ?_
  rintro r w2 ⟨o2, x2⟩
  have z2 := x2.size
  have hbr : Bs w2 r (List.replicate sz c) := by
   unfold Bs
   rw [List.map_replicate]
   exact o2.sl
  refine Kx (ha1.ext x2 fun _ _ h => h) hbr (fun b hb => hAn b (by omega)) (by rw [LU]; omega) fun v' w3 o3 x3 => ?_
  exact fin _ v' w3 (by rw [hmade, hct] <;> rfl) o3 ((x2.mono fun _ _ h => h.elim).seq x3)
def Jt (lo hi pr : Nat) (A : Nat -> Prop) (w : MA) (r : MB) (w' : MA) : Except Int (List UInt8 × List UInt8 × Bool) -> Prop
 | .error e => r = .tuple #[tY, KB, .bool false, .int .i64 e] /\ gA w w' (fun y => A y ∨ y = pr)
 | .ok (a, l, b) => ∃ v, r = .tuple #[v, Ko, .bool b, .int .i64 0] /\ vV w' A 1 v a.length (a.map rE) /\ zJ w' lo hi pr l 0 /\ gA w w' (fun y => A y ∨ y = pr)
theorem Il {p pr lo hi most n win : Nat} {A : Nat -> Prop} {vo va : MB} {all l : List UInt8} {cs : List MB} {w : MA} {m : Except Int (List UInt8 × List UInt8 × Bool)}
 (o : iD w p cs) (k0 : cs[0]? = some (.pointer (some ⟨pr, 0, none⟩))) (k2 : cs[2]? = some (.int .i64 (most : Nat))) (k3 : cs[3]? = some vo) (hvo : ∃ a c, vo = .slice a n c)
 (hr : zJ w lo hi pr l 0) (ha : vV w A 1 va all.length (all.map rE)) (hA : ∀ b, A b -> b ≠ p /\ ¬ (lo <= b /\ b < hi)) (hAn : ∀ b, w.heap.size <= b -> A b) (hhi : hi <= w.heap.size)
 (q1 : ¬ (lo <= p /\ p < hi)) (hn : n <= most) (hl : l.length <= 1000000) (hall : all.length <= 2000000) (hmost : most <= 2000000)
 (hm : D8 l all win (most - n) = some m) :
 fI pg kZ #[.pointer (some ⟨p, 0, none⟩), va, Ko, .int .u64 (win : Nat)] w (fun r w' => Jt lo hi pr A w r w' m) := by
 refine yF ?_
 obtain ⟨RR, hRR⟩ : ∃ RR : MB -> MA -> Prop, RR = fun r w' => Jt lo hi pr A w r w' m := ⟨_, rfl⟩
 rw [<- hRR]
 unfold uH mX mP
 refine Dn fun w1 o1 x1 s1 => ?_
 have o1 : iD w1 w.heap.size gL := o1
 obtain ⟨p6, hp6⟩ : ∃ p, p = w.heap.size := ⟨_, rfl⟩
 rw [<- hp6] at o1 ⊢
 refine zZ fun w2 o2 x2 s2 => ?_
 have o2 : iD w2 w1.heap.size gZ := o2
 obtain ⟨p9, hp9⟩ : ∃ p, p = w1.heap.size := ⟨_, rfl⟩
 rw [<- hp9] at o2 ⊢
 have z1 := o1.lt
 have z2 := o2.lt
 have x12 := x1.seq x2
 have og2 := o1.ext x2 (fun h => h)
 have hmn : (if (131072 : Int) < (win : Int) then (131072 : Int) else (win : Int)) = ((min win 131072 : Nat) : Int) := by
  split <;> omega
 have hw : IntKind.i64.wrap ((min win 131072 : Nat) : Int) = ((min win 131072 : Nat) : Int) := dY (by omega) (by omega)
 simp (disch := omega) only [dQ, fE, cQ, stepR_skip, eD, eQ, eF, eX, eY, eP, fH, eK, dK, eJ, eT, fB, eA, eE, eI, eH, eC, fA, eU, eB, dR, eS, eL, dZ, gT, gQ, gM, gS, gO, gN, gU, gP, gR, dH, Result.ok.injEq, Next.value.injEq, true_and, and_true, dY, dX, eN, eZ, eM, fG, Lk, dS, dT, dV, dW, dN, dL, dO, dM, dI, cY, if_true, if_false, Lh, Ln, Li, Lj, Lm, Ll, Lg, Lf, cR, cM, cH, bY, cV, dJ, bU, bX, cS, cN, cO, dE, cL, dD, dG, dU, dB, cD, bH, bR, aU, aE, aH, dF, aL, cG, dA, cZ, bN, aK, bC, aZ, cP, aC, aX, aM, aV, cU, aW, cJ, bS, aF, aG, aJ, dP, aP, aN, bD, aQ, cC, aD, bZ, bT, bL, bB, aY, cX, aI, bE, aT, aS, aR, aA, dC, cK, bP, aO, cW, bW, bV, cF, bQ, bO, bK, cI, bF, cB, bA, bG, bM, bJ, cA, hmn, hw]
 refine (Du (n := 3) (o.ext x12 (fun h => h)) k0 (hr.ext x12 (fun _ _ _ h => h)) hl (by omega)).mono ?_
 unfold D8 at hm
 rintro r w3 (⟨h1, rfl, h2⟩ | ⟨h1, v, rfl, hb1, hat, hr1, x3⟩)
 .rw [h2]; clear h2 w3
  rw [if_pos h1] at hm
  cases hm
  have n1 : ((10 : Int) != 0) = true := rfl
  unfold tY
  simp (disch := omega) only [dQ, fE, cQ, stepR_skip, eD, eQ, eF, eX, eY, eP, fH, eK, dK, eJ, eT, fB, eA, eE, eI, eH, eC, fA, eU, eB, dR, eS, eL, dZ, gT, gQ, gM, gS, gO, gN, gU, gP, gR, dH, Result.ok.injEq, Next.value.injEq, true_and, and_true, dY, dX, eN, eZ, eM, fG, Lk, dS, dT, dV, dW, dN, dL, dO, dM, dI, cY, if_true, if_false, Lh, Ln, Li, Lj, Lm, Ll, Lg, Lf, cR, cM, cH, bY, cV, dJ, bU, bX, cS, cN, cO, dE, cL, dD, dG, dU, dB, cD, bH, bR, aU, aE, aH, dF, aL, cG, dA, cZ, bN, aK, bC, aZ, cP, aC, aX, aM, aV, cU, aW, cJ, bS, aF, aG, aJ, dP, aP, aN, bD, aQ, cC, aD, bZ, bT, bL, bB, aY, cX, aI, bE, aT, aS, aR, aA, dC, cK, bP, aO, cW, bW, bV, cF, bQ, bO, bK, cI, bF, cB, bA, bG, bM, bJ, cA, n1]
  refine iI o2 rfl (by simp [one]) (by simp [gZ]) fun w3 o3 x3 s3 => ?_
  refine jY o3 (by simp [gD, gZ]) ?_
  simp only [gD, gZ, Ls, Lu, LF, Lz, LG]
  rw [hRR]
  exact ⟨rfl, (x12.mono fun _ _ h => h.elim).trans x3 fun y hy h => by omega⟩
 rw [if_neg (by omega)] at hm
 have n0 : ((0 : Int) != 0) = false := rfl
 have hpr : lo <= pr /\ pr < hi := ⟨hr.1, hr.2.1⟩
 have og3 := og2.ext x3 (by intro h; omega)
 have ot3 := o2.ext x3 (by intro h; omega)
 have o3 := (o.ext x12 (fun h => h)).ext x3 (fun e => q1 (e ▸ hpr))
 have ha3 := (ha.ext x12 (fun _ _ h => h)).ext x3 (fun b hb e => (hA b hb).2 (e ▸ hpr))
 simp (disch := omega) only [dQ, fE, cQ, stepR_skip, eD, eQ, eF, eX, eY, eP, fH, eK, dK, eJ, eT, fB, eA, eE, eI, eH, eC, fA, eU, eB, dR, eS, eL, dZ, gT, gQ, gM, gS, gO, gN, gU, gP, gR, dH, Result.ok.injEq, Next.value.injEq, true_and, and_true, dY, dX, eN, eZ, eM, fG, Lk, dS, dT, dV, dW, dN, dL, dO, dM, dI, cY, if_true, if_false, Lh, Ln, Li, Lj, Lm, Ll, Lg, Lf, cR, cM, cH, bY, cV, dJ, bU, bX, cS, cN, cO, dE, cL, dD, dG, dU, dB, cD, bH, bR, aU, aE, aH, dF, aL, cG, dA, cZ, bN, aK, bC, aZ, cP, aC, aX, aM, aV, cU, aW, cJ, bS, aF, aG, aJ, dP, aP, aN, bD, aQ, cC, aD, bZ, bT, bL, bB, aY, cX, aI, bE, aT, aS, aR, aA, dC, cK, bP, aO, cW, bW, bV, cF, bQ, bO, bK, cI, bF, cB, bA, bG, bM, bJ, cA, n0]
 refine (FB hb1 (by rw [Lt]; omega)).mono ?_
 rintro r w4 ⟨rfl, x4⟩
 have e0 : lB (l.take 3) = bx l := rfl
 unfold KI
 rw [e0]
 have ek : bx l / 2 % 4 = zV l := rfl
 rw [ek]
 have og4 := og3.ext x4 (fun h => h)
 have ot4 := ot3.ext x4 (fun h => h)
 have zz3 := x3.size
 have zz4 := x4.size
 by_cases h3 : zV l = 3
 .rw [if_pos h3]
  rw [if_pos h3] at hm
  cases hm
  have n1 : ((11 : Int) != 0) = true := rfl
  simp (disch := omega) only [dQ, fE, cQ, stepR_skip, eD, eQ, eF, eX, eY, eP, fH, eK, dK, eJ, eT, fB, eA, eE, eI, eH, eC, fA, eU, eB, dR, eS, eL, dZ, gT, gQ, gM, gS, gO, gN, gU, gP, gR, dH, Result.ok.injEq, Next.value.injEq, true_and, and_true, dY, dX, eN, eZ, eM, fG, Lk, dS, dT, dV, dW, dN, dL, dO, dM, dI, cY, if_true, if_false, Lh, Ln, Li, Lj, Lm, Ll, Lg, Lf, cR, cM, cH, bY, cV, dJ, bU, bX, cS, cN, cO, dE, cL, dD, dG, dU, dB, cD, bH, bR, aU, aE, aH, dF, aL, cG, dA, cZ, bN, aK, bC, aZ, cP, aC, aX, aM, aV, cU, aW, cJ, bS, aF, aG, aJ, dP, aP, aN, bD, aQ, cC, aD, bZ, bT, bL, bB, aY, cX, aI, bE, aT, aS, aR, aA, dC, cK, bP, aO, cW, bW, bV, cF, bQ, bO, bK, cI, bF, cB, bA, bG, bM, bJ, cA, n1]
  refine vD fun w5 o5 x5 s5 => ?_
  refine pI o5 rfl (by simp [one]) (by simp) fun w6 o6 x6 s6 => ?_
  have x46 : gA w4 w6 nQ := x5.new x6 (by omega)
  have ot6 := ot4.ext x46 (fun h => h)
  try simp (disch := omega) only [dQ, fE, cQ, stepR_skip, eD, eQ, eF, eX, eY, eP, fH, eK, dK, eJ, eT, fB, eA, eE, eI, eH, eC, fA, eU, eB, dR, eS, eL, dZ, gT, gQ, gM, gS, gO, gN, gU, gP, gR, dH, Result.ok.injEq, Next.value.injEq, true_and, and_true, dY, dX, eN, eZ, eM, fG, Lk, dS, dT, dV, dW, dN, dL, dO, dM, dI, cY, if_true, if_false, Lh, Ln, Li, Lj, Lm, Ll, Lg, Lf, cR, cM, cH, bY, cV, dJ, bU, bX, cS, cN, cO, dE, cL, dD, dG, dU, dB, cD, bH, bR, aU, aE, aH, dF, aL, cG, dA, cZ, bN, aK, bC, aZ, cP, aC, aX, aM, aV, cU, aW, cJ, bS, aF, aG, aJ, dP, aP, aN, bD, aQ, cC, aD, bZ, bT, bL, bB, aY, cX, aI, bE, aT, aS, aR, aA, dC, cK, bP, aO, cW, bW, bV, cF, bQ, bO, bK, cI, bF, cB, bA, bG, bM, bJ, cA, n1]
  refine iI ot6 rfl (by simp [one]) (by simp [gZ]) fun w7 o7 x7 s7 => ?_
  refine jY o7 (by simp [gD, gZ]) ?_
  simp only [gD, gZ, Ls, Lu, LF, Lz, LG]
  rw [hRR]
  exact ⟨rfl, ((x12.mono fun _ _ h => h.elim).seq ((x3.mono fun _ _ h => .inr h).seq ((x4.seq x46).mono fun _ _ h => h.elim))).trans x7 fun y hy h => by omega⟩
 rw [if_neg h3]
 rw [if_neg h3] at hm
 unfold KT
 rw [ek]
 have es : bx l / 8 = AL l := rfl
 rw [es]
 simp (disch := omega) only [dQ, fE, cQ, stepR_skip, eD, eQ, eF, eX, eY, eP, fH, eK, dK, eJ, eT, fB, eA, eE, eI, eH, eC, fA, eU, eB, dR, eS, eL, dZ, gT, gQ, gM, gS, gO, gN, gU, gP, gR, dH, Result.ok.injEq, Next.value.injEq, true_and, and_true, dY, dX, eN, eZ, eM, fG, Lk, dS, dT, dV, dW, dN, dL, dO, dM, dI, cY, if_true, if_false, Lh, Ln, Li, Lj, Lm, Ll, Lg, Lf, cR, cM, cH, bY, cV, dJ, bU, bX, cS, cN, cO, dE, cL, dD, dG, dU, dB, cD, bH, bR, aU, aE, aH, dF, aL, cG, dA, cZ, bN, aK, bC, aZ, cP, aC, aX, aM, aV, cU, aW, cJ, bS, aF, aG, aJ, dP, aP, aN, bD, aQ, cC, aD, bZ, bT, bL, bB, aY, cX, aI, bE, aT, aS, aR, aA, dC, cK, bP, aO, cW, bW, bV, cF, bQ, bO, bK, cI, bF, cB, bA, bG, bM, bJ, cA, n0]
 refine vD fun w5 o5 x5 s5 => ?_
 obtain ⟨px, hpx⟩ : ∃ p, p = w4.heap.size := ⟨_, rfl⟩
 rw [<- hpx] at o5 ⊢
 refine pI o5 rfl (by simp [one]) (by simp) fun w6 o6 x6 s6 => ?_
 simp only [gD, Ls, Lu] at o6
 have x46 : gA w4 w6 nQ := x5.new x6 (by omega)
 have c1 := o6.cell (off := 1)
 have c2 := o6.cell (off := 2)
 simp only [Lf, Lg] at c1 c2
 have og6 := og4.ext x46 (fun h => h)
 have ot6 := ot4.ext x46 (fun h => h)
 have z5 := o5.lt
 by_cases hb : min win 131072 < AL l
 .rw [if_pos hb] at hm
  cases hm
  have d1 : decide (((AL l : Nat) : Int) > ((min win 131072 : Nat) : Int)) = true := decide_eq_true (by omega)
  have d2 : decide (((min win 131072 : Nat) : Int) < ((AL l : Nat) : Int)) = true := decide_eq_true (by omega)
  simp (disch := omega) only [dQ, fE, cQ, stepR_skip, eD, eQ, eF, eX, eY, eP, fH, eK, dK, eJ, eT, fB, eA, eE, eI, eH, eC, fA, eU, eB, dR, eS, eL, dZ, gT, gQ, gM, gS, gO, gN, gU, gP, gR, dH, Result.ok.injEq, Next.value.injEq, true_and, and_true, dY, dX, eN, eZ, eM, fG, Lk, dS, dT, dV, dW, dN, dL, dO, dM, dI, cY, if_true, if_false, Lh, Ln, Li, Lj, Lm, Ll, Lg, Lf, cR, cM, cH, bY, cV, dJ, bU, bX, cS, cN, cO, dE, cL, dD, dG, dU, dB, cD, bH, bR, aU, aE, aH, dF, aL, cG, dA, cZ, bN, aK, bC, aZ, cP, aC, aX, aM, aV, cU, aW, cJ, bS, aF, aG, aJ, dP, aP, aN, bD, aQ, cC, aD, bZ, bT, bL, bB, aY, cX, aI, bE, aT, aS, aR, aA, dC, cK, bP, aO, cW, bW, bV, cF, bQ, bO, bK, cI, bF, cB, bA, bG, bM, bJ, cA, n0, c1, c2, d1, d2]
  refine iI ot6 rfl (by simp [one]) (by simp [gZ]) fun w7 o7 x7 s7 => ?_
  refine jY o7 (by simp [gD, gZ]) ?_
  simp only [gD, gZ, Ls, Lu, LF, Lz, LG]
  rw [hRR]
  exact ⟨rfl, ((x12.mono fun _ _ h => h.elim).seq ((x3.mono fun _ _ h => .inr h).seq ((x4.seq x46).mono fun _ _ h => h.elim))).trans x7 fun y hy h => by omega⟩
 rw [if_neg hb] at hm
 have d1 : decide (((AL l : Nat) : Int) > ((min win 131072 : Nat) : Int)) = false := decide_eq_false (by omega)
 have d2 : decide (((min win 131072 : Nat) : Int) < ((AL l : Nat) : Int)) = false := decide_eq_false (by omega)
 have hk2' : zV l ≠ 2 := by
  intro h
  rw [if_pos h] at hm
  cases hm
 rw [if_neg hk2'] at hm
 have hk01 : zV l = 0 ∨ zV l = 1 := by
  have : zV l < 4 := Nat.mod_lt _ (by omega)
  omega
 have x02 : gA w w2 nQ := x12
 have x06 : gA w w6 (fun y => y = pr) := ((x02.mono fun _ _ h => h.elim).seq x3).seq ((x4.seq x46).mono fun _ _ h => h.elim)
 have ha' : vV w (fun b => A b /\ b ≠ p6 /\ b ≠ p9 /\ b ≠ px) 1 va all.length (all.map rE) := sY ha fun b hb h1 => by
  have := x1.size
  have := x2.size
  exact ⟨hb, by omega, by omega, by omega⟩
 have ha6 := ha'.ext x06 fun b hb e => (hA b hb.1).2 (e ▸ hpr)
 have hr6 := (hr1.ext x4 fun _ _ _ h => h).ext x46 fun _ _ _ h => h
 have o6' := (o3.ext x4 fun h => h).ext x46 fun h => h
 have e8 : (l.drop 3).headD 0 = (l.drop 3).headD 0 := rfl
 have hld : (l.drop 3).length = l.length - 3 := Lv
 have main : jE RR (.pointer (some ⟨p, 0, none⟩)) va (.int .u64 (win : Nat)) (.pointer (some ⟨p6, 0, none⟩)) (.pointer (some ⟨p9, 0, none⟩)) (.int .i64 (min win 131072 : Nat)) (.pointer (some ⟨px, 0, none⟩)) (.int .i64 (DL l : Nat)) w6 := by
  have hz0 := o.lt
  refine G0 (made := HU l) (L := bx l % 2 == 1) (A := fun b => A b /\ b ≠ p6 /\ b ≠ p9 /\ b ≠ px) o6' k0 k2 k3 hvo og6 ot6 o6 hr6 ha6 ?_ ?_ (by omega) (by omega) q1 (by omega) (by omega) (by omega) hk01 (by omega) (by omega) (by omega) hall hmost rfl rfl ?_ ?_ ?_
  .intro b hb
   exact ⟨(hA b hb.1).1, (hA b hb.1).2, hb.2.1, hb.2.2.1, hb.2.2.2⟩
  .intro b hb
   exact ⟨hAn b (by omega), by omega, by omega, by omega⟩
  .intro h w' x
   rw [if_pos (by omega)] at hm
   cases hm
   rw [hRR]
   exact ⟨rfl, (x06.mono fun _ _ h => .inr h).trans x fun y hy h => by omega⟩
  .intro h h2 w' h5
   rw [if_neg (by omega), if_pos (by omega)] at hm
   cases hm
   rw [hRR]
   refine ⟨rfl, (x06.mono fun _ _ h => .inr h).trans h5 fun y hy h => ?_⟩
   rcases h with h | h | h
   .exact .inl h.1
   .exact .inr h
   .omega
  .intro h h2 w' va' h3 h4 h5
   rw [if_neg (by omega), if_neg (by omega)] at hm
   cases hm
   rw [hRR]
   rw [List.drop_drop] at h4
   refine ⟨va', rfl, sY h3 fun b hb _ => hb.1, h4, (x06.mono fun _ _ h => .inr h).trans h5 fun y hy h => ?_⟩
   rcases h with h | h | h
   .exact .inl h.1
   .exact .inr h
   .omega
 rcases hk01 with h | h
 .have e1 : DL l = AL l := by unfold DL; rw [if_neg (by omega)]
  have e2 : (((zV l : Nat) : Int) == 1) = false := by rw [h] <;> rfl
  rw [e1] at main
  simp (disch := omega) only [dQ, fE, cQ, stepR_skip, eD, eQ, eF, eX, eY, eP, fH, eK, dK, eJ, eT, fB, eA, eE, eI, eH, eC, fA, eU, eB, dR, eS, eL, dZ, gT, gQ, gM, gS, gO, gN, gU, gP, gR, dH, Result.ok.injEq, Next.value.injEq, true_and, and_true, dY, dX, eN, eZ, eM, fG, Lk, dS, dT, dV, dW, dN, dL, dO, dM, dI, cY, if_true, if_false, Lh, Ln, Li, Lj, Lm, Ll, Lg, Lf, cR, cM, cH, bY, cV, dJ, bU, bX, cS, cN, cO, dE, cL, dD, dG, dU, dB, cD, bH, bR, aU, aE, aH, dF, aL, cG, dA, cZ, bN, aK, bC, aZ, cP, aC, aX, aM, aV, cU, aW, cJ, bS, aF, aG, aJ, dP, aP, aN, bD, aQ, cC, aD, bZ, bT, bL, bB, aY, cX, aI, bE, aT, aS, aR, aA, dC, cK, bP, aO, cW, bW, bV, cF, bQ, bO, bK, cI, bF, cB, bA, bG, bM, bJ, cA, n0, c1, c2, d1, d2, e2]
  exact main
 .have e1 : DL l = 1 := by unfold DL; rw [if_pos (by omega)]
  have e2 : (((zV l : Nat) : Int) == 1) = true := by rw [h] <;> rfl
  rw [e1] at main
  simp (disch := omega) only [dQ, fE, cQ, stepR_skip, eD, eQ, eF, eX, eY, eP, fH, eK, dK, eJ, eT, fB, eA, eE, eI, eH, eC, fA, eU, eB, dR, eS, eL, dZ, gT, gQ, gM, gS, gO, gN, gU, gP, gR, dH, Result.ok.injEq, Next.value.injEq, true_and, and_true, dY, dX, eN, eZ, eM, fG, Lk, dS, dT, dV, dW, dN, dL, dO, dM, dI, cY, if_true, if_false, Lh, Ln, Li, Lj, Lm, Ll, Lg, Lf, cR, cM, cH, bY, cV, dJ, bU, bX, cS, cN, cO, dE, cL, dD, dG, dU, dB, cD, bH, bR, aU, aE, aH, dF, aL, cG, dA, cZ, bN, aK, bC, aZ, cP, aC, aX, aM, aV, cU, aW, cJ, bS, aF, aG, aJ, dP, aP, aN, bD, aQ, cC, aD, bZ, bT, bL, bB, aY, cX, aI, bE, aT, aS, aR, aA, dC, cK, bP, aO, cW, bW, bV, cF, bQ, bO, bK, cI, bF, cB, bA, bG, bM, bJ, cA, n0, c1, c2, d1, d2, e2]
  exact main
end Go.Proofs.YthohephggmkeeaaDoor
namespace Go.Proofs.YthohephggmkeeaaDoor
open Go Go.En
set_option maxRecDepth 4000
def Gi (x : Int) (k : Nat) : Int := J4 .u64 (IntKind.u64.wrap (x * 2 ^ k)) (x.fdiv (2 ^ (64 - k)))
def Hs (v x : Int) : Int := IntKind.u64.wrap (Gi (IntKind.u64.wrap (v + IntKind.u64.wrap (x * 14029467366897019727))) 31 * 11400714785074694791)
theorem Ku : ∀ k : Fin 64, tC .u64 (k.val : Int) 63 = (k.val : Int) := by decide
theorem Kh : ∀ k : Fin 64, IntKind.u64.wrap (64 - (k.val : Int)) = 64 - (k.val : Int) := by decide
theorem Cb (x : Int) (k : Nat) (hk : k < 64) (w : MA) :
 fI pg gH #[.int .u64 x, .int .i64 (k : Int)] w (fun v w' => v = .int .u64 (Gi x k) /\ w' = w) := by
 refine tW ?_
 have h1 := Ku ⟨k, hk⟩
 have h2 := Kh ⟨k, hk⟩
 simp only at h1 h2
 have e1 : min k IntKind.u64.bits = k := by simp only [IntKind.bits]; omega
 have e2 : min (64 - (k : Int)).toNat IntKind.u64.bits = 64 - k := by simp only [IntKind.bits]; omega
 simp (disch := omega) only [rB, kQ, dQ, fE, cQ, stepR_skip, eD, eQ, eF, eX, eY, eP, fH, eK, dK, eJ, eT, fB, eA, eE, eI, eH, eC, fA, eU, eB, dR, eS, eL, dZ, gT, gQ, gM, gS, gO, gN, gU, gP, gR, dH, Result.ok.injEq, Next.value.injEq, true_and, and_true, dY, dX, eN, eZ, eM, fG, Lk, dS, dT, dV, dW, dN, dL, dO, dM, dI, cY, if_true, if_false, Lh, Ln, Li, Lj, Lm, Ll, Lg, Lf, cR, cM, cH, bY, cV, dJ, bU, bX, cS, cN, cO, dE, cL, dD, dG, dU, dB, cD, bH, bR, aU, aE, aH, dF, aL, cG, dA, cZ, bN, aK, bC, aZ, cP, aC, aX, aM, aV, cU, aW, cJ, bS, aF, aG, aJ, dP, aP, aN, bD, aQ, cC, aD, bZ, bT, bL, bB, aY, cX, aI, bE, aT, aS, aR, aA, dC, cK, bP, aO, cW, bW, bV, cF, bQ, bO, bK, cI, bF, cB, bA, bG, bM, bJ, cA, h1, h2, e1, e2, Gi]
theorem CT (v x : Int) (w : MA) :
 fI pg qL #[.int .u64 v, .int .u64 x] w (fun r w' => r = .int .u64 (Hs v x) /\ w' = w) := by
 refine DG ?_
 simp (disch := omega) only [Ee, zM, dQ, fE, cQ, stepR_skip, eD, eQ, eF, eX, eY, eP, fH, eK, dK, eJ, eT, fB, eA, eE, eI, eH, eC, fA, eU, eB, dR, eS, eL, dZ, gT, gQ, gM, gS, gO, gN, gU, gP, gR, dH, Result.ok.injEq, Next.value.injEq, true_and, and_true, dY, dX, eN, eZ, eM, fG, Lk, dS, dT, dV, dW, dN, dL, dO, dM, dI, cY, if_true, if_false, Lh, Ln, Li, Lj, Lm, Ll, Lg, Lf, cR, cM, cH, bY, cV, dJ, bU, bX, cS, cN, cO, dE, cL, dD, dG, dU, dB, cD, bH, bR, aU, aE, aH, dF, aL, cG, dA, cZ, bN, aK, bC, aZ, cP, aC, aX, aM, aV, cU, aW, cJ, bS, aF, aG, aJ, dP, aP, aN, bD, aQ, cC, aD, bZ, bT, bL, bB, aY, cX, aI, bE, aT, aS, aR, aA, dC, cK, bP, aO, cW, bW, bV, cF, bQ, bO, bK, cI, bF, cB, bA, bG, bM, bJ, cA]
 refine (Cb _ 31 (by omega) w).mono ?_
 rintro r w' ⟨rfl, rfl⟩
 simp (disch := omega) only [dQ, fE, cQ, stepR_skip, eD, eQ, eF, eX, eY, eP, fH, eK, dK, eJ, eT, fB, eA, eE, eI, eH, eC, fA, eU, eB, dR, eS, eL, dZ, gT, gQ, gM, gS, gO, gN, gU, gP, gR, dH, Result.ok.injEq, Next.value.injEq, true_and, and_true, dY, dX, eN, eZ, eM, fG, Lk, dS, dT, dV, dW, dN, dL, dO, dM, dI, cY, if_true, if_false, Lh, Ln, Li, Lj, Lm, Ll, Lg, Lf, cR, cM, cH, bY, cV, dJ, bU, bX, cS, cN, cO, dE, cL, dD, dG, dU, dB, cD, bH, bR, aU, aE, aH, dF, aL, cG, dA, cZ, bN, aK, bC, aZ, cP, aC, aX, aM, aV, cU, aW, cJ, bS, aF, aG, aJ, dP, aP, aN, bD, aQ, cC, aD, bZ, bT, bL, bB, aY, cX, aI, bE, aT, aS, aR, aA, dC, cK, bP, aO, cW, bW, bV, cF, bQ, bO, bK, cI, bF, cB, bA, bG, bM, bJ, cA, Hs]
def rP : List UInt8 -> Int
 | [] => 0
 | c :: l => (c.toNat : Int) + 256 * rP l
theorem B2 : ∀ l, 0 <= rP l
 | [] => by simp [rP]
 | c :: l => by have := B2 l; simp only [rP]; omega
theorem F1 (l : List UInt8) (c : UInt8) : rP (l ++ [c]) = rP l + (c.toNat : Int) * 256 ^ l.length := by
 induction l with
 | nil => simp [rP]
 | cons a l ih => simp only [Md, rP, ih, LA, Int.pow_succ, Int.mul_add]; rw [Int.mul_comm (256 : Int) (_ * _), Int.mul_assoc]; omega
theorem FM : ∀ l : List UInt8, rP l < 256 ^ l.length
 | [] => by simp [rP]
 | c :: l => by
   have := FM l
   have hc : c.toNat < 256 := c.toNat_lt
   simp only [rP, LA, Int.pow_succ]; omega
theorem Dl {α : Type} {l : List α} {k : Nat} (h : k < l.length) : l.take (k + 1) = l.take k ++ [l[k]] := by
 rw [List.take_succ_eq_append_getElem h]
theorem Im {x : Int} {c k : Nat} (hk : k < 8) (hx0 : 0 <= x) (hx : x < 256 ^ k) (hc : c < 256) :
 J4 .u64 x (IntKind.u64.wrap ((c : Int) * 2 ^ (8 * k))) = x + (c : Int) * 256 ^ k := by
 obtain ⟨m, rfl⟩ := Int.eq_ofNat_of_zero_le hx0
 have e256 : (256 : Nat) ^ k = 2 ^ (8 * k) := by rw [show (256 : Nat) = 2 ^ 8 from rfl, <- Nat.pow_mul]
 have hm : m < 2 ^ (8 * k) := by rw [<- e256]; exact_mod_cast hx
 have hle : c * 2 ^ (8 * k) + 2 ^ (8 * k) <= 2 ^ 64 := by
  have h1 : (c + 1) * 2 ^ (8 * k) <= 256 * 2 ^ (8 * k) := Nat.mul_le_mul_right _ (by omega)
  have h2 : (256 : Nat) * 2 ^ (8 * k) = 2 ^ (8 * k + 8) := by rw [Nat.pow_add, Nat.mul_comm]
  have h3 : (2 : Nat) ^ (8 * k + 8) <= 2 ^ 64 := L1 (by omega) (by omega)
  rw [Mo] at h1; omega
 have hpos : 0 < 2 ^ (8 * k) := Nat.pow_pos (by omega)
 have w : IntKind.u64.wrap ((c : Int) * 2 ^ (8 * k)) = ((c * 2 ^ (8 * k) : Nat) : Int) := by
  have : ((c : Int) * 2 ^ (8 * k)) = ((c * 2 ^ (8 * k) : Nat) : Int) := by push_cast; rfl
  rw [this]; exact dX (by omega) (by omega)
 rw [w]
 have b1 : (BitVec.ofInt 64 (m : Int) ||| BitVec.ofInt 64 ((c * 2 ^ (8 * k) : Nat) : Int)).toNat = m + c * 2 ^ (8 * k) := by
  rw [BitVec.toNat_or]
  simp only [BitVec.toNat_ofInt]
  have e1 : (((m : Int) % ((2 ^ 64 : Nat) : Int)).toNat) = m := by omega
  have e2 : ((((c * 2 ^ (8 * k) : Nat) : Int) % ((2 ^ 64 : Nat) : Int)).toNat) = c * 2 ^ (8 * k) := by omega
  rw [e1, e2, Nat.or_comm, Nat.mul_comm c, <- Nat.two_pow_add_eq_or_of_lt hm]
  omega
 show IntKind.u64.wrap ((BitVec.ofInt 64 (m : Int) ||| BitVec.ofInt 64 ((c * 2 ^ (8 * k) : Nat) : Int)).toNat : Int) = _
 rw [b1]
 have : ((m + c * 2 ^ (8 * k) : Nat) : Int) = (m : Int) + (c : Int) * 256 ^ k := by
  rw [<- e256]; push_cast; rfl
 rw [<- this]
 exact dX (by omega) (by omega)
theorem BR (v : MB) (l : List UInt8) (w : MA) (h : Bs w v l) (hl : l.length <= 8) :
 fI pg oI #[v] w (fun r w' => r = .int .u64 (rP l) /\ w' = w) := by
 obtain ⟨a, n, c, rfl, hn, hc, hcell⟩ := h
 rw [Lq] at hn
 subst hn
 refine Dg ?_
 simp (disch := omega) only [DR, sH, xL, xP, wR, xJ, wJ, xH, wT, dQ, fE, cQ, stepR_skip, eD, eQ, eF, eX, eY, eP, fH, eK, dK, eJ, eT, fB, eA, eE, eI, eH, eC, fA, eU, eB, dR, eS, eL, dZ, gT, gQ, gM, gS, gO, gN, gU, gP, gR, dH, Result.ok.injEq, Next.value.injEq, true_and, and_true, dY, dX, eN, eZ, eM, fG, Lk, dS, dT, dV, dW, dN, dL, dO, dM, dI, cY, if_true, if_false, Lh, Ln, Li, Lj, Lm, Ll, Lg, Lf, cR, cM, cH, bY, cV, dJ, bU, bX, cS, cN, cO, dE, cL, dD, dG, dU, dB, cD, bH, bR, aU, aE, aH, dF, aL, cG, dA, cZ, bN, aK, bC, aZ, cP, aC, aX, aM, aV, cU, aW, cJ, bS, aF, aG, aJ, dP, aP, aN, bD, aQ, cC, aD, bZ, bT, bL, bB, aY, cX, aI, bE, aT, aS, aR, aA, dC, cK, bP, aO, cW, bW, bV, cF, bQ, bO, bK, cI, bF, cB, bA, bG, bM, bJ, cA]
 refine iW.rule (fun n t w' => ∃ k : Nat, n = l.length - k /\ k <= l.length /\ t = (.int .u64 (rP (l.take k)), .int .i64 (k : Int)) /\ w' = w) l.length ⟨0, rfl, Nat.zero_le _, rfl, rfl⟩ ?_
 rintro n t w' ⟨k, rfl, hk, rfl, rfl⟩
 by_cases hlt : k < l.length
 .obtain ⟨b, off, rfl, hcell'⟩ := hcell (by omega)
  have hcl := hcell' k hlt
  rw [L4, Lr hlt, LH] at hcl
  have hb : (l[k].toNat) < 256 := l[k].toNat_lt
  have hd : decide ((k : Int) < (l.length : Int)) = true := by simpa using hlt
  have e1 : min (8 * (k : Int)).toNat IntKind.u64.bits = 8 * k := by simp only [IntKind.bits]; omega
  simp (disch := omega) only [pE, dQ, fE, cQ, stepR_skip, eD, eQ, eF, eX, eY, eP, fH, eK, dK, eJ, eT, fB, eA, eE, eI, eH, eC, fA, eU, eB, dR, eS, eL, dZ, gT, gQ, gM, gS, gO, gN, gU, gP, gR, dH, Result.ok.injEq, Next.value.injEq, true_and, and_true, dY, dX, eN, eZ, eM, fG, Lk, dS, dT, dV, dW, dN, dL, dO, dM, dI, cY, if_true, if_false, Lh, Ln, Li, Lj, Lm, Ll, Lg, Lf, cR, cM, cH, bY, cV, dJ, bU, bX, cS, cN, cO, dE, cL, dD, dG, dU, dB, cD, bH, bR, aU, aE, aH, dF, aL, cG, dA, cZ, bN, aK, bC, aZ, cP, aC, aX, aM, aV, cU, aW, cJ, bS, aF, aG, aJ, dP, aP, aN, bD, aQ, cC, aD, bZ, bT, bL, bB, aY, cX, aI, bE, aT, aS, aR, aA, dC, cK, bP, aO, cW, bW, bV, cF, bQ, bO, bK, cI, bF, cB, bA, bG, bM, bJ, cA, hd, dI, hcl, rE, e1]
  have hlen : (l.take k).length = k := by simp; omega
  have hx := FM (l.take k)
  rw [hlen] at hx
  refine ⟨l.length - (k + 1), by omega, k + 1, rfl, by omega, ?_⟩
  rw [Im (by omega) (B2 _) hx hb, Dl hlt, F1, hlen]
  rfl
 .have hd : decide ((k : Int) < (l.length : Int)) = false := by simpa using hlt
  simp (disch := omega) only [pE, dQ, fE, cQ, stepR_skip, eD, eQ, eF, eX, eY, eP, fH, eK, dK, eJ, eT, fB, eA, eE, eI, eH, eC, fA, eU, eB, dR, eS, eL, dZ, gT, gQ, gM, gS, gO, gN, gU, gP, gR, dH, Result.ok.injEq, Next.value.injEq, true_and, and_true, dY, dX, eN, eZ, eM, fG, Lk, dS, dT, dV, dW, dN, dL, dO, dM, dI, cY, if_true, if_false, Lh, Ln, Li, Lj, Lm, Ll, Lg, Lf, cR, cM, cH, bY, cV, dJ, bU, bX, cS, cN, cO, dE, cL, dD, dG, dU, dB, cD, bH, bR, aU, aE, aH, dF, aL, cG, dA, cZ, bN, aK, bC, aZ, cP, aC, aX, aM, aV, cU, aW, cJ, bS, aF, aG, aJ, dP, aP, aN, bD, aQ, cC, aD, bZ, bT, bL, bB, aY, cX, aI, bE, aT, aS, aR, aA, dC, cK, bP, aO, cW, bW, bV, cF, bQ, bO, bK, cI, bF, cB, bA, bG, bM, bJ, cA, hd, cY]
  rw [LD (by omega)]
def Ks : List Int := [IntKind.u64.wrap (11400714785074694791 + 14029467366897019727), 14029467366897019727, 0, IntKind.u64.wrap (0 - 11400714785074694791)]
def AS (vs : List Int) (s : List UInt8) (i : Nat) : List Int := vs.mapIdx fun j v => if j < i then Hs v (rP ((s.drop (8 * j)).take 8)) else v
def Bc : Nat -> List UInt8 -> List Int
 | 0, _ => Ks
 | k + 1, L => AS (Bc k L) ((L.drop (32 * k)).take 32) 4
theorem lW (vs : List Int) (s : List UInt8) (i : Nat) : (AS vs s i).length = vs.length := by simp [AS]
theorem nY : ∀ k L, (Bc k L).length = 4
 | 0, _ => rfl
 | k + 1, L => by rw [Bc, lW, nY k L]
theorem G3 (vs : List Int) (s : List UInt8) : AS vs s 0 = vs := by
 apply List.ext_getElem
 .simp [AS]
 .intro i h1 h2; simp [AS]
theorem IL (vs : List Int) (s : List UInt8) (i : Nat) (h : i < vs.length) : (AS vs s i)[i]? = some vs[i] := by
 rw [Lr (by rw [lW]; exact h)]; simp [AS]
theorem ID (vs : List Int) (s : List UInt8) (i : Nat) (h : i < vs.length) : (AS vs s i).set i (Hs vs[i] (rP ((s.drop (8 * i)).take 8))) = AS vs s (i + 1) := by
 apply List.ext_getElem
 .simp [AS]
 .intro j h1 h2
  rw [List.getElem_set]
  simp only [AS, List.getElem_mapIdx]
  by_cases hij : i = j
  .subst hij; simp
  .simp only [hij, if_false]
   by_cases hj : j < i
   .rw [if_pos hj, if_pos (by omega)]
   .rw [if_neg hj, if_neg (by omega)]
theorem CY : ∀ k (L M : List UInt8), 32 * k <= L.length -> Bc k (L ++ M) = Bc k L
 | 0, _, _, _ => rfl
 | k + 1, L, M, h => by
   rw [Bc, Bc, CY k L M (by omega)]
   congr 1
   rw [List.drop_append_of_le_length (by omega), L6 (by rw [Lv]; omega)]
def fU (vs : List Int) (kept : List UInt8) (n all : Nat) : List MB := vs.map (Value.int .u64) ++ (kept.map rE ++ [.int .i64 (n : Int), .int .u64 (all : Int)])
theorem jZ {vs : List Int} {kept : List UInt8} {n all : Nat} (h1 : vs.length = 4) (h2 : kept.length = 32) : (fU vs kept n all).length = 38 := by
 simp [fU, h1, h2]
theorem C3 {vs : List Int} {kept : List UInt8} {n all : Nat} (i : Nat) (h : i < vs.length) : (fU vs kept n all)[i]? = some (.int .u64 vs[i]) := by
 unfold fU; rw [LJ (by simpa using h)]; simp [h]
theorem AB {vs : List Int} {kept : List UInt8} {n all : Nat} (h1 : vs.length = 4) (i : Nat) (h : i < kept.length) : (fU vs kept n all)[4 + i]? = some (rE kept[i]) := by
 unfold fU
 rw [LY (by simp [h1]), Lq, h1, Nat.add_sub_cancel_left, LJ (by simpa using h)]; simp [h]
theorem vT {vs : List Int} {kept : List UInt8} {n all : Nat} (h1 : vs.length = 4) (h2 : kept.length = 32) : (fU vs kept n all)[36]? = some (.int .i64 (n : Int)) := by
 unfold fU
 rw [LY (by simp [h1]), Lq, h1, LY (by simp [h2]), Lq, h2] <;> rfl
theorem sP {vs : List Int} {kept : List UInt8} {n all : Nat} (h1 : vs.length = 4) (h2 : kept.length = 32) : (fU vs kept n all)[37]? = some (.int .u64 (all : Int)) := by
 unfold fU
 rw [LY (by simp [h1]), Lq, h1, LY (by simp [h2]), Lq, h2] <;> rfl
theorem Dk {vs : List Int} {kept : List UInt8} {n all : Nat} (i : Nat) (x : Int) (h : i < vs.length) : (fU vs kept n all).set i (.int .u64 x) = fU (vs.set i x) kept n all := by
 unfold fU; rw [List.set_append_left _ _ (by simpa using h), List.map_set]
theorem zW {vs : List Int} {kept : List UInt8} {n all : Nat} (h1 : vs.length = 4) (h2 : kept.length = 32) (m : Nat) : (fU vs kept n all).set 36 (.int .i64 (m : Int)) = fU vs kept m all := by
 unfold fU
 rw [LO _ _ (by simp [h1]), Lq, h1, LO _ _ (by simp [h2]), Lq, h2] <;> rfl
theorem BU {vs : List Int} {kept : List UInt8} {n all : Nat} (h1 : vs.length = 4) (h2 : kept.length = 32) (m : Nat) : (fU vs kept n all).set 37 (.int .u64 (m : Int)) = fU vs kept n m := by
 unfold fU
 rw [LO _ _ (by simp [h1]), Lq, h1, LO _ _ (by simp [h2]), Lq, h2] <;> rfl
def zD (l : List UInt8) (o : Nat) (x : List UInt8) : List UInt8 := l.take o ++ x ++ l.drop (o + x.length)
theorem Ed {l : List UInt8} {o : Nat} {x : List UInt8} (h : o + x.length <= l.length) : (zD l o x).length = l.length := by
 simp [zD]; omega
theorem G6 {l : List UInt8} {o : Nat} {c : UInt8} {x : List UInt8} (h : o + (x.length + 1) <= l.length) : zD (l.set o c) (o + 1) x = zD l o (c :: x) := by
 unfold zD
 rw [List.take_set, List.drop_set_of_lt (by omega)]
 have e : (l.take (o + 1)).set o c = l.take o ++ [c] := by
  rw [List.take_succ_eq_append_getElem (by omega), LO _ _ (by simp; omega)]
  simp only [Lt]
  rw [show o - min o l.length = 0 from by omega] <;> rfl
 rw [e]
 simp only [L3, List.singleton_append, LA, Md, Ms]
 rw [show o + 1 + x.length = o + (x.length + 1) from by omega]
theorem DO {vs : List Int} {n all : Nat} (h1 : vs.length = 4) : ∀ (x kept : List UInt8) (o : Nat), o + x.length <= kept.length →
 gD (fU vs kept n all) (4 + o) (x.map rE) = fU vs (zD kept o x) n all := by
 intro x
 induction x with
 | nil => intro kept o _; simp [gD, zD]
 | cons c x ih =>
   intro kept o h
   rw [LA] at h
   have e : (fU vs kept n all).set (4 + o) (rE c) = fU vs (kept.set o c) n all := by
    unfold fU
    rw [LO _ _ (by simp [h1]), Lq, h1, Nat.add_sub_cancel_left, List.set_append_left _ _ (by simp; omega), List.map_set]
   rw [List.map_cons, gD, e, Mn, ih _ _ (by simp; omega), G6 (by omega)]
def GS (w : MA) (b : Nat) (L : List UInt8) (all : Nat) : Prop :=
 ∃ kept, kept.length = 32 /\ kept.take (L.length % 32) = L.drop (32 * (L.length / 32)) /\ iD w b (fU (Bc (L.length / 32) L) kept (L.length % 32) all)
abbrev CD (w : MA) (b : Nat) (L : List UInt8) : Prop := GS w b L L.length
theorem Jk (w : MA) : fI pg A3 #[] w (fun v w' => v = .pointer (some ⟨w.heap.size, 0, none⟩) /\ CD w' w.heap.size [] /\ gA w w' nQ) := by
 refine ET ?_
 simp (disch := omega) only [GP, BF, dQ, fE, cQ, stepR_skip, eD, eQ, eF, eX, eY, eP, fH, eK, dK, eJ, eT, fB, eA, eE, eI, eH, eC, fA, eU, eB, dR, eS, eL, dZ, gT, gQ, gM, gS, gO, gN, gU, gP, gR, dH, Result.ok.injEq, Next.value.injEq, true_and, and_true, dY, dX, eN, eZ, eM, fG, Lk, dS, dT, dV, dW, dN, dL, dO, dM, dI, cY, if_true, if_false, Lh, Ln, Li, Lj, Lm, Ll, Lg, Lf, cR, cM, cH, bY, cV, dJ, bU, bX, cS, cN, cO, dE, cL, dD, dG, dU, dB, cD, bH, bR, aU, aE, aH, dF, aL, cG, dA, cZ, bN, aK, bC, aZ, cP, aC, aX, aM, aV, cU, aW, cJ, bS, aF, aG, aJ, dP, aP, aN, bD, aQ, cC, aD, bZ, bT, bL, bB, aY, cX, aI, bE, aT, aS, aR, aA, dC, cK, bP, aO, cW, bW, bV, cF, bQ, bO, bK, cI, bF, cB, bA, bG, bM, bJ, cA]
 refine Dn fun w1 o1 x1 s1 => ⟨rfl, ⟨List.replicate 32 0, rfl, rfl, ?_⟩, x1⟩
 exact o1
theorem Cj {w : MA} {b : Nat} {cs : List MB} (h : iD w b cs) : iD (dr w) b cs := h.ext (gA.dr w nQ) (fun h => h)
theorem EC (w0 : MA) (b : Nat) (vs : List Int) (kept : List UInt8) (all : Nat) (h1 : vs.length = 4) (h2 : kept.length = 32) (v : MB) (R : MB -> MB -> MA -> Prop)
 (hR : ∀ w', iD w' b (fU (AS vs kept 4) kept 32 all) -> gA w0 w' (fun x => x = b) -> R (.pointer (some ⟨b, 0, none⟩)) v w') (w : MA) (ho : iD w b (fU vs kept 32 all)) (hx : gA w0 w (fun x => x = b)) :
 nK R (.pointer (some ⟨b, 0, none⟩)) v w := by
 simp (disch := omega) only [nK, qW, rH, qO]
 refine iW.rule (fun n t w' => ∃ i : Nat, i <= 4 /\ n = 4 - i /\ t = .int .i64 (i : Int) /\ iD w' b (fU (AS vs kept i) kept 32 all) /\ gA w0 w' (fun x => x = b)) 4
  ⟨0, by omega, rfl, rfl, by rw [G3]; exact ho, hx⟩ ?_
 rintro n t w' ⟨i, hi, rfl, rfl, ho, hx⟩
 by_cases hlt : i < 4
 .have hd : decide ((i : Int) < 4) = true := by simp; omega
  have hod := Cj ho
  have hv := IL vs kept i (by omega)
  have hc : (fU (AS vs kept i) kept 32 all)[i]? = some (.int .u64 vs[i]) := by
   rw [C3 i (by rw [lW]; omega)]
   rw [Lr (by rw [lW]; omega)] at hv
   rw [LP hv]
  have t1 : (8 * (i : Int)).toNat = 8 * i := by omega
  have t2 : (8 * (i : Int) + 8).toNat = 8 * i + 8 := by omega
  simp (disch := omega) only [kT, dQ, fE, cQ, stepR_skip, eD, eQ, eF, eX, eY, eP, fH, eK, dK, eJ, eT, fB, eA, eE, eI, eH, eC, fA, eU, eB, dR, eS, eL, dZ, gT, gQ, gM, gS, gO, gN, gU, gP, gR, dH, Result.ok.injEq, Next.value.injEq, true_and, and_true, dY, dX, eN, eZ, eM, fG, Lk, dS, dT, dV, dW, dN, dL, dO, dM, dI, cY, if_true, if_false, Lh, Ln, Li, Lj, Lm, Ll, Lg, Lf, cR, cM, cH, bY, cV, dJ, bU, bX, cS, cN, cO, dE, cL, dD, dG, dU, dB, cD, bH, bR, aU, aE, aH, dF, aL, cG, dA, cZ, bN, aK, bC, aZ, cP, aC, aX, aM, aV, cU, aW, cJ, bS, aF, aG, aJ, dP, aP, aN, bD, aQ, cC, aD, bZ, bT, bL, bB, aY, cX, aI, bE, aT, aS, aR, aA, dC, cK, bP, aO, cW, bW, bV, cF, bQ, bO, bK, cI, bF, cB, bA, bG, bM, bJ, cA, hd, hod.cell, hc, t1, t2, Bu (show 8 * i ≠ 32 by omega)]
  have hs : ((kept.drop (8 * i)).take 8).length = 8 := by rw [Lt, Lv]; omega
  have hbs : Bs (dr w') (.slice (some ⟨b, 4 + 8 * i, none⟩) (8 * i + 8 - 8 * i) (32 - 8 * i)) ((kept.drop (8 * i)).take 8) := by
   rw [show 8 * i + 8 - 8 * i = ((kept.drop (8 * i)).take 8).length from by omega]
   refine hod.bs (by omega) fun j hj => ?_
   rw [Mn, AB (by rw [lW]; exact h1) (8 * i + j) (by omega)]
   simp
  refine (BR _ _ _ hbs (by omega)).mono ?_
  rintro r w1 ⟨rfl, rfl⟩
  simp (disch := omega) only [dQ, fE, cQ, stepR_skip, eD, eQ, eF, eX, eY, eP, fH, eK, dK, eJ, eT, fB, eA, eE, eI, eH, eC, fA, eU, eB, dR, eS, eL, dZ, gT, gQ, gM, gS, gO, gN, gU, gP, gR, dH, Result.ok.injEq, Next.value.injEq, true_and, and_true, dY, dX, eN, eZ, eM, fG, Lk, dS, dT, dV, dW, dN, dL, dO, dM, dI, cY, if_true, if_false, Lh, Ln, Li, Lj, Lm, Ll, Lg, Lf, cR, cM, cH, bY, cV, dJ, bU, bX, cS, cN, cO, dE, cL, dD, dG, dU, dB, cD, bH, bR, aU, aE, aH, dF, aL, cG, dA, cZ, bN, aK, bC, aZ, cP, aC, aX, aM, aV, cU, aW, cJ, bS, aF, aG, aJ, dP, aP, aN, bD, aQ, cC, aD, bZ, bT, bL, bB, aY, cX, aI, bE, aT, aS, aR, aA, dC, cK, bP, aO, cW, bW, bV, cF, bQ, bO, bK, cI, bF, cB, bA, bG, bM, bJ, cA, hod.cell, hc]
  refine (CT _ _ _).mono ?_
  rintro r w1 ⟨rfl, rfl⟩
  refine tZ hod rfl (by rw [jZ (by rw [lW]; exact h1) h2]; omega) fun w2 o2 x2 s2 => ?_
  rw [Dk i _ (by rw [lW]; omega), ID vs kept i (by omega)] at o2
  exact ⟨4 - (i + 1), by omega, i + 1, by omega, rfl, rfl, o2, (hx.seq (gA.dr _ _)).seq x2⟩
 .have : i = 4 := by omega
  subst this
  have hd : decide (((4 : Nat) : Int) < 4) = false := by simp
  simp (disch := omega) only [kT, dQ, fE, cQ, stepR_skip, eD, eQ, eF, eX, eY, eP, fH, eK, dK, eJ, eT, fB, eA, eE, eI, eH, eC, fA, eU, eB, dR, eS, eL, dZ, gT, gQ, gM, gS, gO, gN, gU, gP, gR, dH, Result.ok.injEq, Next.value.injEq, true_and, and_true, dY, dX, eN, eZ, eM, fG, Lk, dS, dT, dV, dW, dN, dL, dO, dM, dI, cY, if_true, if_false, Lh, Ln, Li, Lj, Lm, Ll, Lg, Lf, cR, cM, cH, bY, cV, dJ, bU, bX, cS, cN, cO, dE, cL, dD, dG, dU, dB, cD, bH, bR, aU, aE, aH, dF, aL, cG, dA, cZ, bN, aK, bC, aZ, cP, aC, aX, aM, aV, cU, aW, cJ, bS, aF, aG, aJ, dP, aP, aN, bD, aQ, cC, aD, bZ, bT, bL, bB, aY, cX, aI, bE, aT, aS, aR, aA, dC, cK, bP, aO, cW, bW, bV, cF, bQ, bO, bK, cI, bF, cB, bA, bG, bM, bJ, cA, hd]
  exact hR _ ho hx
theorem ED (w0 : MA) (b : Nat) (L l : List UInt8) (_hlen : L.length + l.length <= 1099511627776) (R : MA -> Prop)
 (hR : ∀ w', GS w' b (L ++ l) (L.length + l.length) -> gA w0 w' (fun x => x = b) -> R w') (v : MB) (w : MA)
 (h : GS w b L (L.length + l.length)) (hv : Bs w v l) (hb : ¬ C9 v (fun x => x = b)) (hx : gA w0 w (fun x => x = b)) :
 mB R (.pointer (some ⟨b, 0, none⟩)) v w := by
 unfold mB
 refine iW.rule (fun n t w' => ∃ m : Nat, m <= l.length /\ n = l.length - m /\ Bs w' t (l.drop m) /\ ¬ C9 t (fun x => x = b) /\ GS w' b (L ++ l.take m) (L.length + l.length) /\ gA w0 w' (fun x => x = b)) l.length
  ⟨0, by omega, rfl, hv, hb, by simpa using h, hx⟩ ?_
 rintro n t w' ⟨m, hm, rfl, hv, hb, ⟨kept, h2, hk, ho⟩, hx⟩
 have hv' := hv
 obtain ⟨a, n, c, rfl, hn, hc, hcell⟩ := hv'
 rw [Lq, Lv] at hn
 by_cases hlt : m < l.length
 .obtain ⟨b', o', rfl, hcell'⟩ := hcell (by omega)
  have hd : decide ((0 : Int) < (n : Int)) = true := by simp; omega
  have hM : (L ++ l.take m).length = L.length + m := by simp; omega
  rw [hM] at hk ho
  obtain ⟨q, hq⟩ : ∃ q, q = (L.length + m) / 32 := ⟨_, rfl⟩
  obtain ⟨r, hr⟩ : ∃ r, r = (L.length + m) % 32 := ⟨_, rfl⟩
  rw [<- hq, <- hr] at hk ho
  have hqr : L.length + m = 32 * q + r /\ r < 32 := by omega
  have h1 : (Bc q (L ++ l.take m)).length = 4 := nY _ _
  have hod := Cj ho
  have t1 : (r : Int).toNat = r := by omega
  simp (disch := omega) only [jK, kE, kD, mI, kA, kV, kY, nN, jQ, dQ, fE, cQ, stepR_skip, eD, eQ, eF, eX, eY, eP, fH, eK, dK, eJ, eT, fB, eA, eE, eI, eH, eC, fA, eU, eB, dR, eS, eL, dZ, gT, gQ, gM, gS, gO, gN, gU, gP, gR, dH, Result.ok.injEq, Next.value.injEq, true_and, and_true, dY, dX, eN, eZ, eM, fG, Lk, dS, dT, dV, dW, dN, dL, dO, dM, dI, cY, if_true, if_false, Lh, Ln, Li, Lj, Lm, Ll, Lg, Lf, cR, cM, cH, bY, cV, dJ, bU, bX, cS, cN, cO, dE, cL, dD, dG, dU, dB, cD, bH, bR, aU, aE, aH, dF, aL, cG, dA, cZ, bN, aK, bC, aZ, cP, aC, aX, aM, aV, cU, aW, cJ, bS, aF, aG, aJ, dP, aP, aN, bD, aQ, cC, aD, bZ, bT, bL, bB, aY, cX, aI, bE, aT, aS, aR, aA, dC, cK, bP, aO, cW, bW, bV, cF, bQ, bO, bK, cI, bF, cB, bA, bG, bM, bJ, cA, hd, hod.cell, vT h1 h2, Bu (show r ≠ 32 by omega)]
  have hvd : Bs (dr w') (.slice (some ⟨b', o', none⟩) n c) (l.drop m) := hv.ext (gA.dr w' nQ) (by unfold C9 nQ; split <;> simp)
  refine AM hod (by rw [jZ h1 h2]; omega) hvd (Gb _) fun w1 o1 x1 s1 => ?_
  obtain ⟨u, hu⟩ : ∃ u, u = min n (32 - r) := ⟨_, rfl⟩
  have hlm : (List.map rE (l.drop m)).length = n := by rw [Lq, Lv, hn]
  rw [hlm] at o1 ⊢
  rw [<- hu] at o1 ⊢
  have hu1 : u <= n /\ u <= 32 - r /\ (u = n ∨ u = 32 - r) := by omega
  have hul : ((l.drop m).take u).length = u := by rw [Lt, Lv]; omega
  rw [<- Mw, DO h1 _ _ _ (by omega)] at o1
  obtain ⟨kept1, hk1⟩ : ∃ x, x = zD kept r ((l.drop m).take u) := ⟨_, rfl⟩
  rw [<- hk1] at o1
  have h21 : kept1.length = 32 := by rw [hk1, Ed (by omega)]; exact h2
  simp (disch := omega) only [dQ, fE, cQ, stepR_skip, eD, eQ, eF, eX, eY, eP, fH, eK, dK, eJ, eT, fB, eA, eE, eI, eH, eC, fA, eU, eB, dR, eS, eL, dZ, gT, gQ, gM, gS, gO, gN, gU, gP, gR, dH, Result.ok.injEq, Next.value.injEq, true_and, and_true, dY, dX, eN, eZ, eM, fG, Lk, dS, dT, dV, dW, dN, dL, dO, dM, dI, cY, if_true, if_false, Lh, Ln, Li, Lj, Lm, Ll, Lg, Lf, cR, cM, cH, bY, cV, dJ, bU, bX, cS, cN, cO, dE, cL, dD, dG, dU, dB, cD, bH, bR, aU, aE, aH, dF, aL, cG, dA, cZ, bN, aK, bC, aZ, cP, aC, aX, aM, aV, cU, aW, cJ, bS, aF, aG, aJ, dP, aP, aN, bD, aQ, cC, aD, bZ, bT, bL, bB, aY, cX, aI, bE, aT, aS, aR, aA, dC, cK, bP, aO, cW, bW, bV, cF, bQ, bO, bK, cI, bF, cB, bA, bG, bM, bJ, cA, o1.cell, vT h1 h21]
  refine EP o1 rfl (by rw [jZ h1 h21]; omega) fun w2 o2 x2 s2 => ?_
  rw [<- Int.natCast_add, zW h1 h21] at o2
  have hx2 : gA w' w2 (fun x => x = b) := ((gA.dr w' _).seq x1).seq x2
  have hv2 := hv.ext hx2 hb
  have hv3 := hv2.drop hu1.1
  have hb3 := Hx (k := u) hb (by omega) (n - u)
  rw [<- Mx, List.drop_drop] at hv3
  have hM2 : L ++ l.take (m + u) = (L ++ l.take m) ++ (l.drop m).take u := by rw [L3, List.take_add]
  have hacc : Bc q (L ++ l.take (m + u)) = Bc q (L ++ l.take m) := by rw [hM2]; exact CY _ _ _ (by omega)
  have hlen2 : (L ++ l.take (m + u)).length = L.length + (m + u) := by simp; omega
  have hkeep : kept1.take (r + u) = (L ++ l.take (m + u)).drop (32 * q) := by
   rw [hk1, hM2, List.drop_append_of_le_length (by omega), <- hk]
   unfold zD
   rw [L6 (by simp; omega), LD (by simp; omega)]
  rw [<- hacc] at o2
  simp (disch := omega) only [dQ, fE, cQ, stepR_skip, eD, eQ, eF, eX, eY, eP, fH, eK, dK, eJ, eT, fB, eA, eE, eI, eH, eC, fA, eU, eB, dR, eS, eL, dZ, gT, gQ, gM, gS, gO, gN, gU, gP, gR, dH, Result.ok.injEq, Next.value.injEq, true_and, and_true, dY, dX, eN, eZ, eM, fG, Lk, dS, dT, dV, dW, dN, dL, dO, dM, dI, cY, if_true, if_false, Lh, Ln, Li, Lj, Lm, Ll, Lg, Lf, cR, cM, cH, bY, cV, dJ, bU, bX, cS, cN, cO, dE, cL, dD, dG, dU, dB, cD, bH, bR, aU, aE, aH, dF, aL, cG, dA, cZ, bN, aK, bC, aZ, cP, aC, aX, aM, aV, cU, aW, cJ, bS, aF, aG, aJ, dP, aP, aN, bD, aQ, cC, aD, bZ, bT, bL, bB, aY, cX, aI, bE, aT, aS, aR, aA, dC, cK, bP, aO, cW, bW, bV, cF, bQ, bO, bK, cI, bF, cB, bA, bG, bM, bJ, cA, o2.cell, vT (nY _ _) h21]
  by_cases hfull : r + u = 32
  .have he : (((r + u : Nat) : Int) == 32) = true := by rw [hfull] <;> rfl
   rw [he]
   simp (disch := omega) only [dQ, fE, cQ, stepR_skip, eD, eQ, eF, eX, eY, eP, fH, eK, dK, eJ, eT, fB, eA, eE, eI, eH, eC, fA, eU, eB, dR, eS, eL, dZ, gT, gQ, gM, gS, gO, gN, gU, gP, gR, dH, Result.ok.injEq, Next.value.injEq, true_and, and_true, dY, dX, eN, eZ, eM, fG, Lk, dS, dT, dV, dW, dN, dL, dO, dM, dI, cY, if_true, if_false, Lh, Ln, Li, Lj, Lm, Ll, Lg, Lf, cR, cM, cH, bY, cV, dJ, bU, bX, cS, cN, cO, dE, cL, dD, dG, dU, dB, cD, bH, bR, aU, aE, aH, dF, aL, cG, dA, cZ, bN, aK, bC, aZ, cP, aC, aX, aM, aV, cU, aW, cJ, bS, aF, aG, aJ, dP, aP, aN, bD, aQ, cC, aD, bZ, bT, bL, bB, aY, cX, aI, bE, aT, aS, aR, aA, dC, cK, bP, aO, cW, bW, bV, cF, bQ, bO, bK, cI, bF, cB, bA, bG, bM, bJ, cA]
   rw [hfull] at o2 hkeep
   have h11 := nY q (L ++ l.take (m + u))
   refine EC w2 b _ kept1 _ h11 h21 _ _ (fun w3 o3 x3 => ?_) w2 o2 (gA.refl _ _)
   have h13 : (AS (Bc q (L ++ l.take (m + u))) kept1 4).length = 4 := by rw [lW]; exact h11
   simp (disch := omega) only [jK, kE, kD, mI, kA, kV, kY, nN, jQ, dQ, fE, cQ, stepR_skip, eD, eQ, eF, eX, eY, eP, fH, eK, dK, eJ, eT, fB, eA, eE, eI, eH, eC, fA, eU, eB, dR, eS, eL, dZ, gT, gQ, gM, gS, gO, gN, gU, gP, gR, dH, Result.ok.injEq, Next.value.injEq, true_and, and_true, dY, dX, eN, eZ, eM, fG, Lk, dS, dT, dV, dW, dN, dL, dO, dM, dI, cY, if_true, if_false, Lh, Ln, Li, Lj, Lm, Ll, Lg, Lf, cR, cM, cH, bY, cV, dJ, bU, bX, cS, cN, cO, dE, cL, dD, dG, dU, dB, cD, bH, bR, aU, aE, aH, dF, aL, cG, dA, cZ, bN, aK, bC, aZ, cP, aC, aX, aM, aV, cU, aW, cJ, bS, aF, aG, aJ, dP, aP, aN, bD, aQ, cC, aD, bZ, bT, bL, bB, aY, cX, aI, bE, aT, aS, aR, aA, dC, cK, bP, aO, cW, bW, bV, cF, bQ, bO, bK, cI, bF, cB, bA, bG, bM, bJ, cA]
   refine EP o3 rfl (by rw [jZ h13 h21]; omega) fun w4 o4 x4 s4 => ?_
   have o4 : iD w4 b ((fU (AS (Bc q (L ++ l.take (m + u))) kept1 4) kept1 32 (L.length + l.length)).set 36 (.int .i64 ((0 : Nat) : Int))) := o4
   rw [zW h13 h21] at o4
   have hx4 := x3.seq x4
   have hkk : kept1 = (L ++ l.take (m + u)).drop (32 * q) := by rw [<- hkeep, LD (by omega)]
   refine ⟨l.length - (m + u), by omega, m + u, by omega, rfl, hv3.ext hx4 hb3, hb3, ⟨kept1, h21, ?_, ?_⟩, (hx.seq hx2).seq hx4⟩
   .have z : (L ++ l.take (m + u)).drop (32 * ((L.length + (m + u)) / 32)) = [] := List.drop_eq_nil_of_le (by rw [hlen2]; omega)
    have z1 : (L.length + (m + u)) % 32 = 0 := by omega
    rw [hlen2, z, z1] <;> rfl
   .have z1 : (L.length + (m + u)) % 32 = 0 := by omega
    have z2 : (L.length + (m + u)) / 32 = q + 1 := by omega
    have z3 : kept1.take 32 = kept1 := LD (by omega)
    rw [hlen2, z1, z2, Bc, <- hkk, z3]
    exact o4
  .have he : (((r + u : Nat) : Int) == 32) = false := by rw [beq_eq_false_iff_ne]; omega
   rw [he]
   simp (disch := omega) only [dQ, fE, cQ, stepR_skip, eD, eQ, eF, eX, eY, eP, fH, eK, dK, eJ, eT, fB, eA, eE, eI, eH, eC, fA, eU, eB, dR, eS, eL, dZ, gT, gQ, gM, gS, gO, gN, gU, gP, gR, dH, Result.ok.injEq, Next.value.injEq, true_and, and_true, dY, dX, eN, eZ, eM, fG, Lk, dS, dT, dV, dW, dN, dL, dO, dM, dI, cY, if_true, if_false, Lh, Ln, Li, Lj, Lm, Ll, Lg, Lf, cR, cM, cH, bY, cV, dJ, bU, bX, cS, cN, cO, dE, cL, dD, dG, dU, dB, cD, bH, bR, aU, aE, aH, dF, aL, cG, dA, cZ, bN, aK, bC, aZ, cP, aC, aX, aM, aV, cU, aW, cJ, bS, aF, aG, aJ, dP, aP, aN, bD, aQ, cC, aD, bZ, bT, bL, bB, aY, cX, aI, bE, aT, aS, aR, aA, dC, cK, bP, aO, cW, bW, bV, cF, bQ, bO, bK, cI, bF, cB, bA, bG, bM, bJ, cA]
   refine ⟨l.length - (m + u), by omega, m + u, by omega, rfl, hv3, hb3, ⟨kept1, h21, ?_, ?_⟩, hx.seq hx2⟩
   .rw [hlen2, show (L.length + (m + u)) % 32 = r + u from by omega, show (L.length + (m + u)) / 32 = q from by omega]; exact hkeep
   .rw [hlen2, show (L.length + (m + u)) % 32 = r + u from by omega, show (L.length + (m + u)) / 32 = q from by omega]; exact o2
 .have hd : decide ((0 : Int) < (n : Int)) = false := by simp; omega
  simp (disch := omega) only [jK, kE, kD, mI, kA, kV, kY, nN, jQ, dQ, fE, cQ, stepR_skip, eD, eQ, eF, eX, eY, eP, fH, eK, dK, eJ, eT, fB, eA, eE, eI, eH, eC, fA, eU, eB, dR, eS, eL, dZ, gT, gQ, gM, gS, gO, gN, gU, gP, gR, dH, Result.ok.injEq, Next.value.injEq, true_and, and_true, dY, dX, eN, eZ, eM, fG, Lk, dS, dT, dV, dW, dN, dL, dO, dM, dI, cY, if_true, if_false, Lh, Ln, Li, Lj, Lm, Ll, Lg, Lf, cR, cM, cH, bY, cV, dJ, bU, bX, cS, cN, cO, dE, cL, dD, dG, dU, dB, cD, bH, bR, aU, aE, aH, dF, aL, cG, dA, cZ, bN, aK, bC, aZ, cP, aC, aX, aM, aV, cU, aW, cJ, bS, aF, aG, aJ, dP, aP, aN, bD, aQ, cC, aD, bZ, bT, bL, bB, aY, cX, aI, bE, aT, aS, aR, aA, dC, cK, bP, aO, cW, bW, bV, cF, bQ, bO, bK, cI, bF, cB, bA, bG, bM, bJ, cA, hd]
  refine hR _ ⟨kept, h2, ?_, ?_⟩ hx
  .have e : l.take m = l := LD (by omega)
   rw [e] at hk; exact hk
  .have e : l.take m = l := LD (by omega)
   rw [e] at ho; exact ho
theorem HB (b : Nat) (L l : List UInt8) (hlen : L.length + l.length <= 1099511627776) (v : MB) (w : MA) (h : CD w b L) (hv : Bs w v l) (hb : ¬ C9 v (fun x => x = b)) :
 fI pg oL #[.pointer (some ⟨b, 0, none⟩), v] w (fun r w' => r = .tuple #[] /\ CD w' b (L ++ l) /\ gA w w' (fun x => x = b)) := by
 refine Be ?_
 obtain ⟨kept, h2, hk, ho⟩ := h
 have h1 := nY (L.length / 32) L
 have hv' := hv
 obtain ⟨a, n, c, rfl, hn, hc, hcell⟩ := hv'
 rw [Lq] at hn
 simp (disch := omega) only [AU, qC, pU, pV, dQ, fE, cQ, stepR_skip, eD, eQ, eF, eX, eY, eP, fH, eK, dK, eJ, eT, fB, eA, eE, eI, eH, eC, fA, eU, eB, dR, eS, eL, dZ, gT, gQ, gM, gS, gO, gN, gU, gP, gR, dH, Result.ok.injEq, Next.value.injEq, true_and, and_true, dY, dX, eN, eZ, eM, fG, Lk, dS, dT, dV, dW, dN, dL, dO, dM, dI, cY, if_true, if_false, Lh, Ln, Li, Lj, Lm, Ll, Lg, Lf, cR, cM, cH, bY, cV, dJ, bU, bX, cS, cN, cO, dE, cL, dD, dG, dU, dB, cD, bH, bR, aU, aE, aH, dF, aL, cG, dA, cZ, bN, aK, bC, aZ, cP, aC, aX, aM, aV, cU, aW, cJ, bS, aF, aG, aJ, dP, aP, aN, bD, aQ, cC, aD, bZ, bT, bL, bB, aY, cX, aI, bE, aT, aS, aR, aA, dC, cK, bP, aO, cW, bW, bV, cF, bQ, bO, bK, cI, bF, cB, bA, bG, bM, bJ, cA, ho.cell, sP h1 h2]
 refine tZ ho rfl (by rw [jZ h1 h2]; omega) fun w1 o1 x1 s1 => ?_
 rw [<- Int.natCast_add, hn, BU h1 h2] at o1
 refine ED w b L l hlen _ (fun w' hh hx => ⟨?_, hx⟩) _ w1 ⟨kept, h2, hk, o1⟩ (hv.ext x1 hb) hb x1
 unfold CD; rw [Lw]; exact hh
def jA (vs : List Int) : Nat -> Int
 | 0 => 0
 | i + 1 => IntKind.u64.wrap (jA vs i + Gi (vs.getD i 0) ([1, 7, 12, 18].getD i 0))
def jB (vs : List Int) : Nat -> Int
 | 0 => jA vs 4
 | i + 1 => IntKind.u64.wrap (IntKind.u64.wrap (BS .u64 (jB vs i) (Hs 0 (vs.getD i 0)) * 11400714785074694791) + 9650029242287828579)
def FW (L : List UInt8) : Int := if L.length < 32 then 2870177450012600261 else jB (Bc (L.length / 32) L) 4
def HG (x : Int) : Int :=
 let y1 := IntKind.u64.wrap (BS .u64 x (x.fdiv (2 ^ min (33 : Int).toNat IntKind.u64.bits)) * 14029467366897019727)
 let y2 := IntKind.u64.wrap (BS .u64 y1 (y1.fdiv (2 ^ min (29 : Int).toNat IntKind.u64.bits)) * 1609587929392839161)
 BS .u64 y2 (y2.fdiv (2 ^ min (32 : Int).toNat IntKind.u64.bits))
def Kn (x m : Int) : Int := IntKind.u64.wrap (IntKind.u64.wrap (Gi (BS .u64 x (Hs 0 m)) 27 * 11400714785074694791) + 9650029242287828579)
def Jw (x m : Int) : Int := IntKind.u64.wrap (IntKind.u64.wrap (Gi (BS .u64 x (IntKind.u64.wrap (m * 11400714785074694791))) 23 * 14029467366897019727) + 1609587929392839161)
def Kp (x : Int) (c : UInt8) : Int := IntKind.u64.wrap (Gi (BS .u64 x (IntKind.u64.wrap ((c.toNat : Int) * 2870177450012600261))) 11 * 11400714785074694791)
def e8 (x : Int) (B : List UInt8) : Nat -> Int
 | 0 => x
 | j + 1 => Kn (e8 x B j) (rP ((B.drop (8 * j)).take 8))
def e1 (x : Int) (B : List UInt8) : Nat -> Int
 | 0 => x
 | j + 1 => Kp (e1 x B j) (B.getD j 0)
def Co (x : Int) (C : List UInt8) : Int × List UInt8 := if 4 <= C.length then (Jw x (rP (C.take 4)), C.drop 4) else (x, C)
def H6 (x : Int) (B : List UInt8) : Int :=
 let r := Co (e8 x B (B.length / 8)) (B.drop (8 * (B.length / 8)))
 e1 r.1 r.2 r.2.length
def JC (L : List UInt8) : Int := HG (H6 (IntKind.u64.wrap (FW L + (L.length : Int))) (L.drop (32 * (L.length / 32))))
theorem Gl (b : Nat) (L : List UInt8) (hlen : L.length <= 1099511627776) (w : MA) (h : CD w b L) :
 fI pg nP #[.pointer (some ⟨b, 0, none⟩)] w (fun r w' => r = .int .u64 (FW L) /\ w' = w) := by
 refine AG ?_
 obtain ⟨kept, h2, hk, ho⟩ := h
 have h1 := nY (L.length / 32) L
 by_cases hs : L.length < 32
 .have hd : decide ((L.length : Int) < 32) = true := by simp; omega
  simp (disch := omega) only [tK, lI, lH, dQ, fE, cQ, stepR_skip, eD, eQ, eF, eX, eY, eP, fH, eK, dK, eJ, eT, fB, eA, eE, eI, eH, eC, fA, eU, eB, dR, eS, eL, dZ, gT, gQ, gM, gS, gO, gN, gU, gP, gR, dH, Result.ok.injEq, Next.value.injEq, true_and, and_true, dY, dX, eN, eZ, eM, fG, Lk, dS, dT, dV, dW, dN, dL, dO, dM, dI, cY, if_true, if_false, Lh, Ln, Li, Lj, Lm, Ll, Lg, Lf, cR, cM, cH, bY, cV, dJ, bU, bX, cS, cN, cO, dE, cL, dD, dG, dU, dB, cD, bH, bR, aU, aE, aH, dF, aL, cG, dA, cZ, bN, aK, bC, aZ, cP, aC, aX, aM, aV, cU, aW, cJ, bS, aF, aG, aJ, dP, aP, aN, bD, aQ, cC, aD, bZ, bT, bL, bB, aY, cX, aI, bE, aT, aS, aR, aA, dC, cK, bP, aO, cW, bW, bV, cF, bQ, bO, bK, cI, bF, cB, bA, bG, bM, bJ, cA, ho.cell, sP h1 h2, hd, FW, hs]
 .have hd : decide ((L.length : Int) < 32) = false := by simp; omega
  obtain ⟨vs, hvs⟩ : ∃ vs, vs = Bc (L.length / 32) L := ⟨_, rfl⟩
  have hH : FW L = jB vs 4 := by rw [hvs]; unfold FW; rw [if_neg hs]
  rw [hH]
  rw [<- hvs] at ho h1
  clear hvs hH
  simp (disch := omega) only [tK, mD, pZ, pW, qA, pS, pX, qD, oQ, oX, oT, oR, lH, lI, dQ, fE, cQ, stepR_skip, eD, eQ, eF, eX, eY, eP, fH, eK, dK, eJ, eT, fB, eA, eE, eI, eH, eC, fA, eU, eB, dR, eS, eL, dZ, gT, gQ, gM, gS, gO, gN, gU, gP, gR, dH, Result.ok.injEq, Next.value.injEq, true_and, and_true, dY, dX, eN, eZ, eM, fG, Lk, dS, dT, dV, dW, dN, dL, dO, dM, dI, cY, if_true, if_false, Lh, Ln, Li, Lj, Lm, Ll, Lg, Lf, cR, cM, cH, bY, cV, dJ, bU, bX, cS, cN, cO, dE, cL, dD, dG, dU, dB, cD, bH, bR, aU, aE, aH, dF, aL, cG, dA, cZ, bN, aK, bC, aZ, cP, aC, aX, aM, aV, cU, aW, cJ, bS, aF, aG, aJ, dP, aP, aN, bD, aQ, cC, aD, bZ, bT, bL, bB, aY, cX, aI, bE, aT, aS, aR, aA, dC, cK, bP, aO, cW, bW, bV, cF, bQ, bO, bK, cI, bF, cB, bA, bG, bM, bJ, cA, ho.cell, sP h1 h2, hd]
  refine iW.rule (fun n t w' => ∃ i : Nat, i <= 4 /\ n = 4 - i /\ t = (.int .u64 (jA vs i), .int .i64 (i : Int)) /\ w' = w) 4 ⟨0, by omega, rfl, rfl, rfl⟩ ?_
  rintro n t w' ⟨i, hi, rfl, rfl, rfl⟩
  by_cases hlt : i < 4
  .have hd : decide ((i : Int) < 4) = true := by simp; omega
   have hv := C3 (vs := vs) (kept := kept) (n := L.length % 32) (all := L.length) i (by omega)
   have hg : (#[Value.int .i64 1, .int .i64 7, .int .i64 12, .int .i64 18] : Array MB)[i]? = some (.int .i64 (([1, 7, 12, 18].getD i 0 : Nat) : Int)) := by
    have : i = 0 ∨ i = 1 ∨ i = 2 ∨ i = 3 := by omega
    rcases this with rfl | rfl | rfl | rfl <;> rfl
   have ht : [1, 7, 12, 18].getD i 0 < 64 := by
    have : i = 0 ∨ i = 1 ∨ i = 2 ∨ i = 3 := by omega
    rcases this with rfl | rfl | rfl | rfl <;> decide
   simp (disch := omega) only [kC, dQ, fE, cQ, stepR_skip, eD, eQ, eF, eX, eY, eP, fH, eK, dK, eJ, eT, fB, eA, eE, eI, eH, eC, fA, eU, eB, dR, eS, eL, dZ, gT, gQ, gM, gS, gO, gN, gU, gP, gR, dH, Result.ok.injEq, Next.value.injEq, true_and, and_true, dY, dX, eN, eZ, eM, fG, Lk, dS, dT, dV, dW, dN, dL, dO, dM, dI, cY, if_true, if_false, Lh, Ln, Li, Lj, Lm, Ll, Lg, Lf, cR, cM, cH, bY, cV, dJ, bU, bX, cS, cN, cO, dE, cL, dD, dG, dU, dB, cD, bH, bR, aU, aE, aH, dF, aL, cG, dA, cZ, bN, aK, bC, aZ, cP, aC, aX, aM, aV, cU, aW, cJ, bS, aF, aG, aJ, dP, aP, aN, bD, aQ, cC, aD, bZ, bT, bL, bB, aY, cX, aI, bE, aT, aS, aR, aA, dC, cK, bP, aO, cW, bW, bV, cF, bQ, bO, bK, cI, bF, cB, bA, bG, bM, bJ, cA, hd, hg, ho.cell, hv]
   refine (Cb _ _ ht _).mono ?_
   rintro r w1 ⟨rfl, rfl⟩
   simp (disch := omega) only [dQ, fE, cQ, stepR_skip, eD, eQ, eF, eX, eY, eP, fH, eK, dK, eJ, eT, fB, eA, eE, eI, eH, eC, fA, eU, eB, dR, eS, eL, dZ, gT, gQ, gM, gS, gO, gN, gU, gP, gR, dH, Result.ok.injEq, Next.value.injEq, true_and, and_true, dY, dX, eN, eZ, eM, fG, Lk, dS, dT, dV, dW, dN, dL, dO, dM, dI, cY, if_true, if_false, Lh, Ln, Li, Lj, Lm, Ll, Lg, Lf, cR, cM, cH, bY, cV, dJ, bU, bX, cS, cN, cO, dE, cL, dD, dG, dU, dB, cD, bH, bR, aU, aE, aH, dF, aL, cG, dA, cZ, bN, aK, bC, aZ, cP, aC, aX, aM, aV, cU, aW, cJ, bS, aF, aG, aJ, dP, aP, aN, bD, aQ, cC, aD, bZ, bT, bL, bB, aY, cX, aI, bE, aT, aS, aR, aA, dC, cK, bP, aO, cW, bW, bV, cF, bQ, bO, bK, cI, bF, cB, bA, bG, bM, bJ, cA]
   refine ⟨4 - (i + 1), by omega, i + 1, by omega, rfl, ?_⟩
   have hvd : vs.getD i 0 = vs[i]'(by omega) := by rw [LN, Lr (by omega)] <;> rfl
   rw [jA, hvd]
   rfl
  .have : i = 4 := by omega
   subst this
   have hd : decide (((4 : Nat) : Int) < 4) = false := by simp
   have ha := DQ (off := 0) ho (by rw [jZ h1 h2]; omega)
   have hb : ((fU vs kept (L.length % 32) L.length).drop 0).take 4 = vs.map (Value.int .u64) := by
    rw [LF]; unfold fU; rw [L6 (by simp; omega), LD (by simp; omega)]
   rw [hb] at ha
   simp (disch := omega) only [kC, dQ, fE, cQ, stepR_skip, eD, eQ, eF, eX, eY, eP, fH, eK, dK, eJ, eT, fB, eA, eE, eI, eH, eC, fA, eU, eB, dR, eS, eL, dZ, gT, gQ, gM, gS, gO, gN, gU, gP, gR, dH, Result.ok.injEq, Next.value.injEq, true_and, and_true, dY, dX, eN, eZ, eM, fG, Lk, dS, dT, dV, dW, dN, dL, dO, dM, dI, cY, if_true, if_false, Lh, Ln, Li, Lj, Lm, Ll, Lg, Lf, cR, cM, cH, bY, cV, dJ, bU, bX, cS, cN, cO, dE, cL, dD, dG, dU, dB, cD, bH, bR, aU, aE, aH, dF, aL, cG, dA, cZ, bN, aK, bC, aZ, cP, aC, aX, aM, aV, cU, aW, cJ, bS, aF, aG, aJ, dP, aP, aN, bD, aQ, cC, aD, bZ, bT, bL, bB, aY, cX, aI, bE, aT, aS, aR, aA, dC, cK, bP, aO, cW, bW, bV, cF, bQ, bO, bK, cI, bF, cB, bA, bG, bM, bJ, cA, hd, ha]
   refine iW.rule (fun n t w2 => ∃ i : Nat, i <= 4 /\ n = 4 - i /\ t = (.int .u64 (jB vs i), .int .i64 (i : Int)) /\ w2 = w') 4 ⟨0, by omega, rfl, rfl, rfl⟩ ?_
   rintro n t w2 ⟨i, hi, rfl, rfl, rfl⟩
   by_cases hlt : i < 4
   .have hd : decide ((i : Int) < 4) = true := by simp; omega
    have hg : ((vs.map (Value.int .u64)).toArray)[i]? = some (.int .u64 (vs[i]'(by omega))) := by simp [show i < vs.length by omega]
    simp (disch := omega) only [kB, dQ, fE, cQ, stepR_skip, eD, eQ, eF, eX, eY, eP, fH, eK, dK, eJ, eT, fB, eA, eE, eI, eH, eC, fA, eU, eB, dR, eS, eL, dZ, gT, gQ, gM, gS, gO, gN, gU, gP, gR, dH, Result.ok.injEq, Next.value.injEq, true_and, and_true, dY, dX, eN, eZ, eM, fG, Lk, dS, dT, dV, dW, dN, dL, dO, dM, dI, cY, if_true, if_false, Lh, Ln, Li, Lj, Lm, Ll, Lg, Lf, cR, cM, cH, bY, cV, dJ, bU, bX, cS, cN, cO, dE, cL, dD, dG, dU, dB, cD, bH, bR, aU, aE, aH, dF, aL, cG, dA, cZ, bN, aK, bC, aZ, cP, aC, aX, aM, aV, cU, aW, cJ, bS, aF, aG, aJ, dP, aP, aN, bD, aQ, cC, aD, bZ, bT, bL, bB, aY, cX, aI, bE, aT, aS, aR, aA, dC, cK, bP, aO, cW, bW, bV, cF, bQ, bO, bK, cI, bF, cB, bA, bG, bM, bJ, cA, hd, hg]
    refine (CT _ _ _).mono ?_
    rintro r w1 ⟨rfl, rfl⟩
    simp (disch := omega) only [dQ, fE, cQ, stepR_skip, eD, eQ, eF, eX, eY, eP, fH, eK, dK, eJ, eT, fB, eA, eE, eI, eH, eC, fA, eU, eB, dR, eS, eL, dZ, gT, gQ, gM, gS, gO, gN, gU, gP, gR, dH, Result.ok.injEq, Next.value.injEq, true_and, and_true, dY, dX, eN, eZ, eM, fG, Lk, dS, dT, dV, dW, dN, dL, dO, dM, dI, cY, if_true, if_false, Lh, Ln, Li, Lj, Lm, Ll, Lg, Lf, cR, cM, cH, bY, cV, dJ, bU, bX, cS, cN, cO, dE, cL, dD, dG, dU, dB, cD, bH, bR, aU, aE, aH, dF, aL, cG, dA, cZ, bN, aK, bC, aZ, cP, aC, aX, aM, aV, cU, aW, cJ, bS, aF, aG, aJ, dP, aP, aN, bD, aQ, cC, aD, bZ, bT, bL, bB, aY, cX, aI, bE, aT, aS, aR, aA, dC, cK, bP, aO, cW, bW, bV, cF, bQ, bO, bK, cI, bF, cB, bA, bG, bM, bJ, cA]
    refine ⟨4 - (i + 1), by omega, i + 1, by omega, rfl, ?_⟩
    have hvd : vs.getD i 0 = vs[i]'(by omega) := by rw [LN, Lr (by omega)] <;> rfl
    rw [jB, hvd]
    rfl
   .have : i = 4 := by omega
    subst this
    have hd : decide (((4 : Nat) : Int) < 4) = false := by simp
    simp (disch := omega) only [kB, dQ, fE, cQ, stepR_skip, eD, eQ, eF, eX, eY, eP, fH, eK, dK, eJ, eT, fB, eA, eE, eI, eH, eC, fA, eU, eB, dR, eS, eL, dZ, gT, gQ, gM, gS, gO, gN, gU, gP, gR, dH, Result.ok.injEq, Next.value.injEq, true_and, and_true, dY, dX, eN, eZ, eM, fG, Lk, dS, dT, dV, dW, dN, dL, dO, dM, dI, cY, if_true, if_false, Lh, Ln, Li, Lj, Lm, Ll, Lg, Lf, cR, cM, cH, bY, cV, dJ, bU, bX, cS, cN, cO, dE, cL, dD, dG, dU, dB, cD, bH, bR, aU, aE, aH, dF, aL, cG, dA, cZ, bN, aK, bC, aZ, cP, aC, aX, aM, aV, cU, aW, cJ, bS, aF, aG, aJ, dP, aP, aN, bD, aQ, cC, aD, bZ, bT, bL, bB, aY, cX, aI, bE, aT, aS, aR, aA, dC, cK, bP, aO, cW, bW, bV, cF, bQ, bO, bK, cI, bF, cB, bA, bG, bM, bJ, cA, hd]
theorem Fq (w : MA) (R : MB -> MA -> Prop) (y : Int) (D : List UInt8) (v : MB) (hv : Bs w v D) (hD : D.length < 32) (hR : R (.int .u64 (HG (e1 y D D.length))) w) :
 pP R (.int .u64 y) v w := by
 have hv' := hv
 obtain ⟨a, n, c, rfl, hn, hc, hcell⟩ := hv'
 rw [Lq] at hn
 simp (disch := omega) only [pP, tL, tP, tN, tO, dQ, fE, cQ, stepR_skip, eD, eQ, eF, eX, eY, eP, fH, eK, dK, eJ, eT, fB, eA, eE, eI, eH, eC, fA, eU, eB, dR, eS, eL, dZ, gT, gQ, gM, gS, gO, gN, gU, gP, gR, dH, Result.ok.injEq, Next.value.injEq, true_and, and_true, dY, dX, eN, eZ, eM, fG, Lk, dS, dT, dV, dW, dN, dL, dO, dM, dI, cY, if_true, if_false, Lh, Ln, Li, Lj, Lm, Ll, Lg, Lf, cR, cM, cH, bY, cV, dJ, bU, bX, cS, cN, cO, dE, cL, dD, dG, dU, dB, cD, bH, bR, aU, aE, aH, dF, aL, cG, dA, cZ, bN, aK, bC, aZ, cP, aC, aX, aM, aV, cU, aW, cJ, bS, aF, aG, aJ, dP, aP, aN, bD, aQ, cC, aD, bZ, bT, bL, bB, aY, cX, aI, bE, aT, aS, aR, aA, dC, cK, bP, aO, cW, bW, bV, cF, bQ, bO, bK, cI, bF, cB, bA, bG, bM, bJ, cA]
 refine iW.rule (fun m t w' => ∃ j : Nat, j <= n /\ m = n - j /\ t = (.int .u64 (e1 y D j), .int .i64 (j : Int)) /\ w' = w) n ⟨0, by omega, rfl, rfl, rfl⟩ ?_
 rintro m t w' ⟨j, hj, rfl, rfl, rfl⟩
 by_cases hlt : j < n
 .obtain ⟨b, off, rfl, hcell'⟩ := hcell (by omega)
  have hcl := hcell' j hlt
  rw [L4, Lr (by omega), LH] at hcl
  have hb : (D[j]'(by omega)).toNat < 256 := UInt8.toNat_lt _
  have hd : decide ((j : Int) < (n : Int)) = true := by simpa using hlt
  simp (disch := omega) only [mM, dQ, fE, cQ, stepR_skip, eD, eQ, eF, eX, eY, eP, fH, eK, dK, eJ, eT, fB, eA, eE, eI, eH, eC, fA, eU, eB, dR, eS, eL, dZ, gT, gQ, gM, gS, gO, gN, gU, gP, gR, dH, Result.ok.injEq, Next.value.injEq, true_and, and_true, dY, dX, eN, eZ, eM, fG, Lk, dS, dT, dV, dW, dN, dL, dO, dM, dI, cY, if_true, if_false, Lh, Ln, Li, Lj, Lm, Ll, Lg, Lf, cR, cM, cH, bY, cV, dJ, bU, bX, cS, cN, cO, dE, cL, dD, dG, dU, dB, cD, bH, bR, aU, aE, aH, dF, aL, cG, dA, cZ, bN, aK, bC, aZ, cP, aC, aX, aM, aV, cU, aW, cJ, bS, aF, aG, aJ, dP, aP, aN, bD, aQ, cC, aD, bZ, bT, bL, bB, aY, cX, aI, bE, aT, aS, aR, aA, dC, cK, bP, aO, cW, bW, bV, cF, bQ, bO, bK, cI, bF, cB, bA, bG, bM, bJ, cA, hd, hcl, rE]
  refine (Cb _ 11 (by omega) _).mono ?_
  rintro r w1 ⟨rfl, rfl⟩
  simp (disch := omega) only [dQ, fE, cQ, stepR_skip, eD, eQ, eF, eX, eY, eP, fH, eK, dK, eJ, eT, fB, eA, eE, eI, eH, eC, fA, eU, eB, dR, eS, eL, dZ, gT, gQ, gM, gS, gO, gN, gU, gP, gR, dH, Result.ok.injEq, Next.value.injEq, true_and, and_true, dY, dX, eN, eZ, eM, fG, Lk, dS, dT, dV, dW, dN, dL, dO, dM, dI, cY, if_true, if_false, Lh, Ln, Li, Lj, Lm, Ll, Lg, Lf, cR, cM, cH, bY, cV, dJ, bU, bX, cS, cN, cO, dE, cL, dD, dG, dU, dB, cD, bH, bR, aU, aE, aH, dF, aL, cG, dA, cZ, bN, aK, bC, aZ, cP, aC, aX, aM, aV, cU, aW, cJ, bS, aF, aG, aJ, dP, aP, aN, bD, aQ, cC, aD, bZ, bT, bL, bB, aY, cX, aI, bE, aT, aS, aR, aA, dC, cK, bP, aO, cW, bW, bV, cF, bQ, bO, bK, cI, bF, cB, bA, bG, bM, bJ, cA]
  refine ⟨n - (j + 1), by omega, j + 1, by omega, rfl, ?_⟩
  have hg : D.getD j 0 = D[j]'(by omega) := by rw [LN, Lr (by omega)] <;> rfl
  rw [e1, hg]
  rfl
 .have hd : decide ((j : Int) < (n : Int)) = false := by simpa using hlt
  have : j = D.length := by omega
  subst this
  simp (disch := omega) only [mM, pR, dQ, fE, cQ, stepR_skip, eD, eQ, eF, eX, eY, eP, fH, eK, dK, eJ, eT, fB, eA, eE, eI, eH, eC, fA, eU, eB, dR, eS, eL, dZ, gT, gQ, gM, gS, gO, gN, gU, gP, gR, dH, Result.ok.injEq, Next.value.injEq, true_and, and_true, dY, dX, eN, eZ, eM, fG, Lk, dS, dT, dV, dW, dN, dL, dO, dM, dI, cY, if_true, if_false, Lh, Ln, Li, Lj, Lm, Ll, Lg, Lf, cR, cM, cH, bY, cV, dJ, bU, bX, cS, cN, cO, dE, cL, dD, dG, dU, dB, cD, bH, bR, aU, aE, aH, dF, aL, cG, dA, cZ, bN, aK, bC, aZ, cP, aC, aX, aM, aV, cU, aW, cJ, bS, aF, aG, aJ, dP, aP, aN, bD, aQ, cC, aD, bZ, bT, bL, bB, aY, cX, aI, bE, aT, aS, aR, aA, dC, cK, bP, aO, cW, bW, bV, cF, bQ, bO, bK, cI, bF, cB, bA, bG, bM, bJ, cA, hd]
  exact hR
theorem HY (w : MA) (R : MB -> MA -> Prop) (x : Int) (B : List UInt8) (v : MB) (hv : Bs w v B) (hB : B.length < 32) (hR : R (.int .u64 (HG (H6 x B))) w) :
 oN R (.int .u64 x) v w := by
 unfold oN sF rU
 refine iW.rule (fun n t w' => ∃ (j : Nat) (u : MB), 8 * j <= B.length /\ n = B.length - j /\ t = (.int .u64 (e8 x B j), u) /\ Bs w u (B.drop (8 * j)) /\ w' = w) B.length ⟨0, v, by omega, rfl, rfl, hv, rfl⟩ ?_
 rintro n t w' ⟨j, u, hj, rfl, rfl, hu, rfl⟩
 have hu' := hu
 obtain ⟨a, n, c, rfl, hn, hc, hcell⟩ := hu'
 rw [Lq, Lv] at hn
 by_cases h8 : 8 <= n
 .obtain ⟨b', o', rfl, _⟩ := hcell (by omega)
  have hd : decide ((8 : Int) <= (n : Int)) = true := by simp; omega
  have t8 : (8 : Int).toNat = 8 := rfl
  simp (disch := omega) only [lR, dQ, fE, cQ, stepR_skip, eD, eQ, eF, eX, eY, eP, fH, eK, dK, eJ, eT, fB, eA, eE, eI, eH, eC, fA, eU, eB, dR, eS, eL, dZ, gT, gQ, gM, gS, gO, gN, gU, gP, gR, dH, Result.ok.injEq, Next.value.injEq, true_and, and_true, dY, dX, eN, eZ, eM, fG, Lk, dS, dT, dV, dW, dN, dL, dO, dM, dI, cY, if_true, if_false, Lh, Ln, Li, Lj, Lm, Ll, Lg, Lf, cR, cM, cH, bY, cV, dJ, bU, bX, cS, cN, cO, dE, cL, dD, dG, dU, dB, cD, bH, bR, aU, aE, aH, dF, aL, cG, dA, cZ, bN, aK, bC, aZ, cP, aC, aX, aM, aV, cU, aW, cJ, bS, aF, aG, aJ, dP, aP, aN, bD, aQ, cC, aD, bZ, bT, bL, bB, aY, cX, aI, bE, aT, aS, aR, aA, dC, cK, bP, aO, cW, bW, bV, cF, bQ, bO, bK, cI, bF, cB, bA, bG, bM, bJ, cA, hd, t8]
  have hs := hu.take h8
  rw [<- Mw] at hs
  refine (BR _ _ _ hs (by rw [Lt]; omega)).mono ?_
  rintro r w1 ⟨rfl, rfl⟩
  refine (CT _ _ _).mono ?_
  rintro r w1 ⟨rfl, rfl⟩
  simp (disch := omega) only [dQ, fE, cQ, stepR_skip, eD, eQ, eF, eX, eY, eP, fH, eK, dK, eJ, eT, fB, eA, eE, eI, eH, eC, fA, eU, eB, dR, eS, eL, dZ, gT, gQ, gM, gS, gO, gN, gU, gP, gR, dH, Result.ok.injEq, Next.value.injEq, true_and, and_true, dY, dX, eN, eZ, eM, fG, Lk, dS, dT, dV, dW, dN, dL, dO, dM, dI, cY, if_true, if_false, Lh, Ln, Li, Lj, Lm, Ll, Lg, Lf, cR, cM, cH, bY, cV, dJ, bU, bX, cS, cN, cO, dE, cL, dD, dG, dU, dB, cD, bH, bR, aU, aE, aH, dF, aL, cG, dA, cZ, bN, aK, bC, aZ, cP, aC, aX, aM, aV, cU, aW, cJ, bS, aF, aG, aJ, dP, aP, aN, bD, aQ, cC, aD, bZ, bT, bL, bB, aY, cX, aI, bE, aT, aS, aR, aA, dC, cK, bP, aO, cW, bW, bV, cF, bQ, bO, bK, cI, bF, cB, bA, bG, bM, bJ, cA]
  refine (Cb _ 27 (by omega) _).mono ?_
  rintro r w1 ⟨rfl, rfl⟩
  simp (disch := omega) only [dQ, fE, cQ, stepR_skip, eD, eQ, eF, eX, eY, eP, fH, eK, dK, eJ, eT, fB, eA, eE, eI, eH, eC, fA, eU, eB, dR, eS, eL, dZ, gT, gQ, gM, gS, gO, gN, gU, gP, gR, dH, Result.ok.injEq, Next.value.injEq, true_and, and_true, dY, dX, eN, eZ, eM, fG, Lk, dS, dT, dV, dW, dN, dL, dO, dM, dI, cY, if_true, if_false, Lh, Ln, Li, Lj, Lm, Ll, Lg, Lf, cR, cM, cH, bY, cV, dJ, bU, bX, cS, cN, cO, dE, cL, dD, dG, dU, dB, cD, bH, bR, aU, aE, aH, dF, aL, cG, dA, cZ, bN, aK, bC, aZ, cP, aC, aX, aM, aV, cU, aW, cJ, bS, aF, aG, aJ, dP, aP, aN, bD, aQ, cC, aD, bZ, bT, bL, bB, aY, cX, aI, bE, aT, aS, aR, aA, dC, cK, bP, aO, cW, bW, bV, cF, bQ, bO, bK, cI, bF, cB, bA, bG, bM, bJ, cA, t8]
  have hs2 := hu.drop h8
  rw [<- Mx, List.drop_drop] at hs2
  exact ⟨B.length - (j + 1), by omega, j + 1, _, by omega, rfl, rfl, by rw [Nat.mul_add]; exact hs2⟩
 .have hd : decide ((8 : Int) <= (n : Int)) = false := by simp; omega
  have hj8 : j = B.length / 8 := by omega
  obtain ⟨C, hC⟩ : ∃ C, C = B.drop (8 * j) := ⟨_, rfl⟩
  have hCl : C.length = n := by rw [hC, Lv, hn]
  have htail : H6 x B = (let r := Co (e8 x B j) C; e1 r.1 r.2 r.2.length) := by rw [hC, hj8] <;> rfl
  rw [htail] at hR
  rw [<- hC] at hu
  simp (disch := omega) only [lR, dQ, fE, cQ, stepR_skip, eD, eQ, eF, eX, eY, eP, fH, eK, dK, eJ, eT, fB, eA, eE, eI, eH, eC, fA, eU, eB, dR, eS, eL, dZ, gT, gQ, gM, gS, gO, gN, gU, gP, gR, dH, Result.ok.injEq, Next.value.injEq, true_and, and_true, dY, dX, eN, eZ, eM, fG, Lk, dS, dT, dV, dW, dN, dL, dO, dM, dI, cY, if_true, if_false, Lh, Ln, Li, Lj, Lm, Ll, Lg, Lf, cR, cM, cH, bY, cV, dJ, bU, bX, cS, cN, cO, dE, cL, dD, dG, dU, dB, cD, bH, bR, aU, aE, aH, dF, aL, cG, dA, cZ, bN, aK, bC, aZ, cP, aC, aX, aM, aV, cU, aW, cJ, bS, aF, aG, aJ, dP, aP, aN, bD, aQ, cC, aD, bZ, bT, bL, bB, aY, cX, aI, bE, aT, aS, aR, aA, dC, cK, bP, aO, cW, bW, bV, cF, bQ, bO, bK, cI, bF, cB, bA, bG, bM, bJ, cA, hd]
  by_cases h4 : 4 <= n
  .obtain ⟨b', o', rfl, _⟩ := hcell (by omega)
   have hd : decide ((4 : Int) <= (n : Int)) = true := by simp; omega
   have t4 : (4 : Int).toNat = 4 := rfl
   have ha : Co (e8 x B j) C = (Jw (e8 x B j) (rP (C.take 4)), C.drop 4) := by unfold Co; rw [if_pos (by omega)]
   rw [ha] at hR
   simp (disch := omega) only [pL, pM, dQ, fE, cQ, stepR_skip, eD, eQ, eF, eX, eY, eP, fH, eK, dK, eJ, eT, fB, eA, eE, eI, eH, eC, fA, eU, eB, dR, eS, eL, dZ, gT, gQ, gM, gS, gO, gN, gU, gP, gR, dH, Result.ok.injEq, Next.value.injEq, true_and, and_true, dY, dX, eN, eZ, eM, fG, Lk, dS, dT, dV, dW, dN, dL, dO, dM, dI, cY, if_true, if_false, Lh, Ln, Li, Lj, Lm, Ll, Lg, Lf, cR, cM, cH, bY, cV, dJ, bU, bX, cS, cN, cO, dE, cL, dD, dG, dU, dB, cD, bH, bR, aU, aE, aH, dF, aL, cG, dA, cZ, bN, aK, bC, aZ, cP, aC, aX, aM, aV, cU, aW, cJ, bS, aF, aG, aJ, dP, aP, aN, bD, aQ, cC, aD, bZ, bT, bL, bB, aY, cX, aI, bE, aT, aS, aR, aA, dC, cK, bP, aO, cW, bW, bV, cF, bQ, bO, bK, cI, bF, cB, bA, bG, bM, bJ, cA, hd, t4]
   have hs := hu.take h4
   rw [<- Mw] at hs
   refine (BR _ _ _ hs (by rw [Lt]; omega)).mono ?_
   rintro r w1 ⟨rfl, rfl⟩
   simp (disch := omega) only [dQ, fE, cQ, stepR_skip, eD, eQ, eF, eX, eY, eP, fH, eK, dK, eJ, eT, fB, eA, eE, eI, eH, eC, fA, eU, eB, dR, eS, eL, dZ, gT, gQ, gM, gS, gO, gN, gU, gP, gR, dH, Result.ok.injEq, Next.value.injEq, true_and, and_true, dY, dX, eN, eZ, eM, fG, Lk, dS, dT, dV, dW, dN, dL, dO, dM, dI, cY, if_true, if_false, Lh, Ln, Li, Lj, Lm, Ll, Lg, Lf, cR, cM, cH, bY, cV, dJ, bU, bX, cS, cN, cO, dE, cL, dD, dG, dU, dB, cD, bH, bR, aU, aE, aH, dF, aL, cG, dA, cZ, bN, aK, bC, aZ, cP, aC, aX, aM, aV, cU, aW, cJ, bS, aF, aG, aJ, dP, aP, aN, bD, aQ, cC, aD, bZ, bT, bL, bB, aY, cX, aI, bE, aT, aS, aR, aA, dC, cK, bP, aO, cW, bW, bV, cF, bQ, bO, bK, cI, bF, cB, bA, bG, bM, bJ, cA]
   refine (Cb _ 23 (by omega) _).mono ?_
   rintro r w1 ⟨rfl, rfl⟩
   simp (disch := omega) only [dQ, fE, cQ, stepR_skip, eD, eQ, eF, eX, eY, eP, fH, eK, dK, eJ, eT, fB, eA, eE, eI, eH, eC, fA, eU, eB, dR, eS, eL, dZ, gT, gQ, gM, gS, gO, gN, gU, gP, gR, dH, Result.ok.injEq, Next.value.injEq, true_and, and_true, dY, dX, eN, eZ, eM, fG, Lk, dS, dT, dV, dW, dN, dL, dO, dM, dI, cY, if_true, if_false, Lh, Ln, Li, Lj, Lm, Ll, Lg, Lf, cR, cM, cH, bY, cV, dJ, bU, bX, cS, cN, cO, dE, cL, dD, dG, dU, dB, cD, bH, bR, aU, aE, aH, dF, aL, cG, dA, cZ, bN, aK, bC, aZ, cP, aC, aX, aM, aV, cU, aW, cJ, bS, aF, aG, aJ, dP, aP, aN, bD, aQ, cC, aD, bZ, bT, bL, bB, aY, cX, aI, bE, aT, aS, aR, aA, dC, cK, bP, aO, cW, bW, bV, cF, bQ, bO, bK, cI, bF, cB, bA, bG, bM, bJ, cA, t4]
   have hs2 := hu.drop h4
   rw [<- Mx] at hs2
   exact Fq _ _ _ _ _ hs2 (by rw [Lv]; omega) hR
  .have hd : decide ((4 : Int) <= (n : Int)) = false := by simp; omega
   have ha : Co (e8 x B j) C = (e8 x B j, C) := by unfold Co; rw [if_neg (by omega)]
   rw [ha] at hR
   simp (disch := omega) only [pL, pM, dQ, fE, cQ, stepR_skip, eD, eQ, eF, eX, eY, eP, fH, eK, dK, eJ, eT, fB, eA, eE, eI, eH, eC, fA, eU, eB, dR, eS, eL, dZ, gT, gQ, gM, gS, gO, gN, gU, gP, gR, dH, Result.ok.injEq, Next.value.injEq, true_and, and_true, dY, dX, eN, eZ, eM, fG, Lk, dS, dT, dV, dW, dN, dL, dO, dM, dI, cY, if_true, if_false, Lh, Ln, Li, Lj, Lm, Ll, Lg, Lf, cR, cM, cH, bY, cV, dJ, bU, bX, cS, cN, cO, dE, cL, dD, dG, dU, dB, cD, bH, bR, aU, aE, aH, dF, aL, cG, dA, cZ, bN, aK, bC, aZ, cP, aC, aX, aM, aV, cU, aW, cJ, bS, aF, aG, aJ, dP, aP, aN, bD, aQ, cC, aD, bZ, bT, bL, bB, aY, cX, aI, bE, aT, aS, aR, aA, dC, cK, bP, aO, cW, bW, bV, cF, bQ, bO, bK, cI, bF, cB, bA, bG, bM, bJ, cA, hd]
   exact Fq _ _ _ _ _ hu (by omega) hR
theorem IW (b : Nat) (L : List UInt8) (hlen : L.length <= 1099511627776) (w : MA) (h : CD w b L) :
 fI pg rC #[.pointer (some ⟨b, 0, none⟩)] w (fun r w' => r = .int .u64 (JC L) /\ gA w w' nQ) := by
 refine B5 ?_
 have h' := h
 obtain ⟨kept, h2, hk, ho⟩ := h'
 have h1 := nY (L.length / 32) L
 have hod := Cj ho
 simp (disch := omega) only [Ck, rY, rR, dQ, fE, cQ, stepR_skip, eD, eQ, eF, eX, eY, eP, fH, eK, dK, eJ, eT, fB, eA, eE, eI, eH, eC, fA, eU, eB, dR, eS, eL, dZ, gT, gQ, gM, gS, gO, gN, gU, gP, gR, dH, Result.ok.injEq, Next.value.injEq, true_and, and_true, dY, dX, eN, eZ, eM, fG, Lk, dS, dT, dV, dW, dN, dL, dO, dM, dI, cY, if_true, if_false, Lh, Ln, Li, Lj, Lm, Ll, Lg, Lf, cR, cM, cH, bY, cV, dJ, bU, bX, cS, cN, cO, dE, cL, dD, dG, dU, dB, cD, bH, bR, aU, aE, aH, dF, aL, cG, dA, cZ, bN, aK, bC, aZ, cP, aC, aX, aM, aV, cU, aW, cJ, bS, aF, aG, aJ, dP, aP, aN, bD, aQ, cC, aD, bZ, bT, bL, bB, aY, cX, aI, bE, aT, aS, aR, aA, dC, cK, bP, aO, cW, bW, bV, cF, bQ, bO, bK, cI, bF, cB, bA, bG, bM, bJ, cA]
 refine (Gl b L hlen (dr w) ⟨kept, h2, hk, hod⟩).mono ?_
 rintro r w1 ⟨rfl, rfl⟩
 have hod2 := Cj hod
 have hr : L.length % 32 < 32 := by omega
 have hbs : Bs (dr (dr w)) (.slice (some ⟨b, 4, none⟩) (L.length % 32 - 0) (32 - 0)) (L.drop (32 * (L.length / 32))) := by
  rw [<- hk]
  have e : (kept.take (L.length % 32)).length = L.length % 32 := by rw [Lt]; omega
  rw [show L.length % 32 - 0 = (kept.take (L.length % 32)).length from by omega]
  refine hod2.bs (by omega) fun j hj => ?_
  rw [AB h1 j (by omega)]
  simp
 have t0 : rZ ⟨b, 4, none⟩ 32 0 1 = ⟨b, 4, none⟩ := by rw [Bu (by omega)]
 simp (disch := omega) only [dQ, fE, cQ, stepR_skip, eD, eQ, eF, eX, eY, eP, fH, eK, dK, eJ, eT, fB, eA, eE, eI, eH, eC, fA, eU, eB, dR, eS, eL, dZ, gT, gQ, gM, gS, gO, gN, gU, gP, gR, dH, Result.ok.injEq, Next.value.injEq, true_and, and_true, dY, dX, eN, eZ, eM, fG, Lk, dS, dT, dV, dW, dN, dL, dO, dM, dI, cY, if_true, if_false, Lh, Ln, Li, Lj, Lm, Ll, Lg, Lf, cR, cM, cH, bY, cV, dJ, bU, bX, cS, cN, cO, dE, cL, dD, dG, dU, dB, cD, bH, bR, aU, aE, aH, dF, aL, cG, dA, cZ, bN, aK, bC, aZ, cP, aC, aX, aM, aV, cU, aW, cJ, bS, aF, aG, aJ, dP, aP, aN, bD, aQ, cC, aD, bZ, bT, bL, bB, aY, cX, aI, bE, aT, aS, aR, aA, dC, cK, bP, aO, cW, bW, bV, cF, bQ, bO, bK, cI, bF, cB, bA, bG, bM, bJ, cA, hod.cell, hod2.cell, sP h1 h2, vT h1 h2, t0]
 refine HY _ _ _ _ _ hbs (by rw [Lv]; omega) ⟨rfl, (gA.dr w _).seq (gA.dr _ _)⟩
theorem JW (L : List UInt8) (hlen : L.length <= 1099511627776) (v : MB) (w : MA) (hv : Bs w v L) :
 fI pg AI #[v] w (fun r w' => r = .int .u64 (JC L) /\ gA w w' nQ) := by
 refine EZ ?_
 simp (disch := omega) only [HV, CP, dQ, fE, cQ, stepR_skip, eD, eQ, eF, eX, eY, eP, fH, eK, dK, eJ, eT, fB, eA, eE, eI, eH, eC, fA, eU, eB, dR, eS, eL, dZ, gT, gQ, gM, gS, gO, gN, gU, gP, gR, dH, Result.ok.injEq, Next.value.injEq, true_and, and_true, dY, dX, eN, eZ, eM, fG, Lk, dS, dT, dV, dW, dN, dL, dO, dM, dI, cY, if_true, if_false, Lh, Ln, Li, Lj, Lm, Ll, Lg, Lf, cR, cM, cH, bY, cV, dJ, bU, bX, cS, cN, cO, dE, cL, dD, dG, dU, dB, cD, bH, bR, aU, aE, aH, dF, aL, cG, dA, cZ, bN, aK, bC, aZ, cP, aC, aX, aM, aV, cU, aW, cJ, bS, aF, aG, aJ, dP, aP, aN, bD, aQ, cC, aD, bZ, bT, bL, bB, aY, cX, aI, bE, aT, aS, aR, aA, dC, cK, bP, aO, cW, bW, bV, cF, bQ, bO, bK, cI, bF, cB, bA, bG, bM, bJ, cA]
 refine (Jk w).mono ?_
 rintro r w1 ⟨rfl, h1, x1⟩
 have hnb : ¬ C9 v (fun x => x = w.heap.size) := by
  intro hb
  refine hv.old ?_
  unfold C9 at *
  split at hb
  .omega
  .exact hb
 have hv1 := hv.ext x1 (by unfold C9 nQ; split <;> simp)
 refine (HB _ [] L (by simpa using hlen) v w1 h1 hv1 hnb).mono ?_
 rintro r w2 ⟨rfl, h2, x2⟩
 refine (IW _ L hlen w2 h2).mono ?_
 rintro r w3 ⟨rfl, x3⟩
 exact ⟨rfl, (x1.new x2 (LB _)).seq x3⟩
end Go.Proofs.YthohephggmkeeaaDoor
namespace Go.Proofs.YthohephggmkeeaaDoor
open Go Go.En Go.Pu
set_option maxRecDepth 4000
def XN (L : List UInt8) : Nat := (JC L).toNat
theorem Cv (a b : Int) : 0 <= BS .u64 a b /\ BS .u64 a b < 2 ^ 64 := by
 unfold BS
 have h : (BitVec.ofInt IntKind.u64.bits a ^^^ BitVec.ofInt IntKind.u64.bits b).toNat < 2 ^ 64 := BitVec.isLt _
 rw [dX (by omega) (by omega)]
 omega
theorem J9 (L : List UInt8) : XN L < 2 ^ 64 := by
 have := Cv
 unfold XN JC HG
 simp only []
 generalize IntKind.u64.wrap (BS .u64 (IntKind.u64.wrap _) _ * 1609587929392839161) = y
 have := Cv y (y.fdiv (2 ^ min (32 : Int).toNat IntKind.u64.bits))
 omega
theorem Kf (L : List UInt8) : JC L = (XN L : Int) := by
 have : 0 <= JC L := by
  unfold JC HG
  exact (Cv _ _).1
 unfold XN
 omega
theorem Kq {x : Nat} (h : x < 2 ^ 64) : tC .u64 (x : Int) 4294967295 = ((x % 2 ^ 32 : Nat) : Int) := by
 unfold tC
 have e : IntKind.u64.bits = 64 := rfl
 have e2 : (4294967295 : Int) = ((2 ^ 32 - 1 : Nat) : Int) := by decide
 rw [e2, e, BitVec.ofInt_natCast, BitVec.ofInt_natCast, BitVec.toNat_and, BitVec.toNat_ofNat, BitVec.toNat_ofNat, L8 h, L8 (by omega), L2]
 exact dX (by omega) (by omega)
def Hq (l all : List UInt8) : Except Int (List UInt8) := if l.length < 4 then .error 10 else if lB (l.take 4) ≠ XN all % 2 ^ 32 then .error 13 else .ok (l.drop 4)
def Ka (lo hi pr : Nat) (w : MA) (r : MB) (w' : MA) : Except Int (List UInt8) -> Prop
 | .error e => e ≠ 0 /\ r = .int .i64 e /\ gA w w' (fun y => y = pr)
 | .ok l => r = .int .i64 0 /\ zJ w' lo hi pr l 0 /\ gA w w' (fun y => y = pr)
theorem Hd {p pr lo hi : Nat} {va : MB} {all l : List UInt8} {cs : List MB} {w : MA} (o : iD w p cs) (k0 : cs[0]? = some (.pointer (some ⟨pr, 0, none⟩))) (hr : zJ w lo hi pr l 0) (ha : Bs w va all) (hv : ¬ C9 va (fun y => y = pr)) (hl : l.length <= 1000000) (hall : all.length <= 2000000) :
 fI pg jH #[.pointer (some ⟨p, 0, none⟩), va] w (fun r w' => Ka lo hi pr w r w' (Hq l all)) := by
 refine wC ?_
 unfold tQ mA
 refine (Du (n := 4) o k0 hr hl (by omega)).mono ?_
 unfold Hq
 rintro r w1 (⟨h1, rfl, h2⟩ | ⟨h1, v, rfl, hb1, hat, hr1, x1⟩)
 .rw [h2]; clear h2 w1
  have n1 : ((10 : Int) != 0) = true := rfl
  rw [if_pos h1]
  simp (disch := omega) only [dQ, fE, cQ, stepR_skip, eD, eQ, eF, eX, eY, eP, fH, eK, dK, eJ, eT, fB, eA, eE, eI, eH, eC, fA, eU, eB, dR, eS, eL, dZ, gT, gQ, gM, gS, gO, gN, gU, gP, gR, dH, Result.ok.injEq, Next.value.injEq, true_and, and_true, dY, dX, eN, eZ, eM, fG, Lk, dS, dT, dV, dW, dN, dL, dO, dM, dI, cY, if_true, if_false, Lh, Ln, Li, Lj, Lm, Ll, Lg, Lf, cR, cM, cH, bY, cV, dJ, bU, bX, cS, cN, cO, dE, cL, dD, dG, dU, dB, cD, bH, bR, aU, aE, aH, dF, aL, cG, dA, cZ, bN, aK, bC, aZ, cP, aC, aX, aM, aV, cU, aW, cJ, bS, aF, aG, aJ, dP, aP, aN, bD, aQ, cC, aD, bZ, bT, bL, bB, aY, cX, aI, bE, aT, aS, aR, aA, dC, cK, bP, aO, cW, bW, bV, cF, bQ, bO, bK, cI, bF, cB, bA, bG, bM, bJ, cA, n1]
  exact ⟨by decide, rfl, gA.refl _ _⟩
 rw [if_neg (by omega)]
 have n1 : ((0 : Int) != 0) = false := rfl
 simp (disch := omega) only [dQ, fE, cQ, stepR_skip, eD, eQ, eF, eX, eY, eP, fH, eK, dK, eJ, eT, fB, eA, eE, eI, eH, eC, fA, eU, eB, dR, eS, eL, dZ, gT, gQ, gM, gS, gO, gN, gU, gP, gR, dH, Result.ok.injEq, Next.value.injEq, true_and, and_true, dY, dX, eN, eZ, eM, fG, Lk, dS, dT, dV, dW, dN, dL, dO, dM, dI, cY, if_true, if_false, Lh, Ln, Li, Lj, Lm, Ll, Lg, Lf, cR, cM, cH, bY, cV, dJ, bU, bX, cS, cN, cO, dE, cL, dD, dG, dU, dB, cD, bH, bR, aU, aE, aH, dF, aL, cG, dA, cZ, bN, aK, bC, aZ, cP, aC, aX, aM, aV, cU, aW, cJ, bS, aF, aG, aJ, dP, aP, aN, bD, aQ, cC, aD, bZ, bT, bL, bB, aY, cX, aI, bE, aT, aS, aR, aA, dC, cK, bP, aO, cW, bW, bV, cF, bQ, bO, bK, cI, bF, cB, bA, bG, bM, bJ, cA, n1]
 refine (sX hb1 (by rw [Lt]; omega)).mono ?_
 rintro r w2 ⟨p2, rfl, hr2, x2⟩
 have z1 := x1.size
 have hz := hr.lt
 refine (nX (n := 4) hr2 (by rw [Lt]; omega) ⟨by omega, by omega⟩).mono ?_
 rintro r w3 ⟨rfl, hr3, x3⟩
 have ht : tE (l.take 4) 0 4 = (l.take 4, [], 0) := by
  unfold tE
  rw [if_neg (by decide), if_neg (by rw [Lt]; omega), LD (by rw [Lt]; omega), Mv (by rw [Lt]; omega)]
 rw [ht]
 have h2 : w1.heap.size <= p2 := hr2.1
 have x13 : gA w1 w3 nQ := x2.trans x3 fun y hy h => by omega
 refine (JW all (by omega) va w3 ((ha.ext x1 hv).ext x13 (jX _))).mono ?_
 rintro r w4 ⟨rfl, x4⟩
 rw [Kf]
 have a32 := Kq (J9 all)
 obtain ⟨q, hq⟩ : ∃ q, q = lB (l.take 4) := ⟨_, rfl⟩
 rw [<- hq]
 obtain ⟨q2, hq2⟩ : ∃ q, q = XN all % 2 ^ 32 := ⟨_, rfl⟩
 rw [<- hq2] at a32 ⊢
 by_cases he : q = q2
 .have n2 : ((q : Int) != (q2 : Int)) = false := by rw [he]; simp
  rw [if_neg (by simpa using he)]
  simp (disch := omega) only [dQ, fE, cQ, stepR_skip, eD, eQ, eF, eX, eY, eP, fH, eK, dK, eJ, eT, fB, eA, eE, eI, eH, eC, fA, eU, eB, dR, eS, eL, dZ, gT, gQ, gM, gS, gO, gN, gU, gP, gR, dH, Result.ok.injEq, Next.value.injEq, true_and, and_true, dY, dX, eN, eZ, eM, fG, Lk, dS, dT, dV, dW, dN, dL, dO, dM, dI, cY, if_true, if_false, Lh, Ln, Li, Lj, Lm, Ll, Lg, Lf, cR, cM, cH, bY, cV, dJ, bU, bX, cS, cN, cO, dE, cL, dD, dG, dU, dB, cD, bH, bR, aU, aE, aH, dF, aL, cG, dA, cZ, bN, aK, bC, aZ, cP, aC, aX, aM, aV, cU, aW, cJ, bS, aF, aG, aJ, dP, aP, aN, bD, aQ, cC, aD, bZ, bT, bL, bB, aY, cX, aI, bE, aT, aS, aR, aA, dC, cK, bP, aO, cW, bW, bV, cF, bQ, bO, bK, cI, bF, cB, bA, bG, bM, bJ, cA, a32, n2]
  exact ⟨rfl, (hr1.ext x13 fun _ _ _ h => h).ext x4 fun _ _ _ h => h, (x1.trans x13 fun _ _ h => h.elim).trans x4 fun _ _ h => h.elim⟩
 .have n2 : ((q : Int) != (q2 : Int)) = true := by simp; omega
  rw [if_pos he]
  simp (disch := omega) only [dQ, fE, cQ, stepR_skip, eD, eQ, eF, eX, eY, eP, fH, eK, dK, eJ, eT, fB, eA, eE, eI, eH, eC, fA, eU, eB, dR, eS, eL, dZ, gT, gQ, gM, gS, gO, gN, gU, gP, gR, dH, Result.ok.injEq, Next.value.injEq, true_and, and_true, dY, dX, eN, eZ, eM, fG, Lk, dS, dT, dV, dW, dN, dL, dO, dM, dI, cY, if_true, if_false, Lh, Ln, Li, Lj, Lm, Ll, Lg, Lf, cR, cM, cH, bY, cV, dJ, bU, bX, cS, cN, cO, dE, cL, dD, dG, dU, dB, cD, bH, bR, aU, aE, aH, dF, aL, cG, dA, cZ, bN, aK, bC, aZ, cP, aC, aX, aM, aV, cU, aW, cJ, bS, aF, aG, aJ, dP, aP, aN, bD, aQ, cC, aD, bZ, bT, bL, bB, aY, cX, aI, bE, aT, aS, aR, aA, dC, cK, bP, aO, cW, bW, bV, cF, bQ, bO, bK, cI, bF, cB, bA, bG, bM, bJ, cA, a32, n2]
  exact ⟨by decide, rfl, (x1.trans x13 fun _ _ h => h.elim).trans x4 fun _ _ h => h.elim⟩
def Cd (h : FH) (l all : List UInt8) : Except Int (List UInt8 × List UInt8) :=
 if h.known = true /\ all.length ≠ h.size then .error 11 else if h.sum = true then (match Hq l all with | .error e => .error e | .ok l' => .ok (all, l')) else .ok (all, l)
structure DM where
 l : List UInt8
 win : Nat
 most : Nat
 out : List UInt8
 fr : Nat
 sk : Nat
def lU (pr : Nat) (vo : MB) (m : DM) : List MB := [.pointer (some ⟨pr, 0, none⟩), .int .u64 (m.win : Nat), .int .i64 (m.most : Nat), vo, .int .i64 (m.fr : Nat), .int .i64 (m.sk : Nat)]
def I9 (w : MA) (base p : Nat) (m : DM) : Prop :=
 ∃ pr vo lo hi, ∃ O : Nat -> Prop, iD w p (lU pr vo m) /\ zJ w lo hi pr m.l 0 /\ vV w O 1 vo m.out.length (m.out.map rE) /\ base <= p /\ base <= lo /\ (∀ b, O b -> base <= b /\ b ≠ p /\ ¬ (lo <= b /\ b < hi)) /\ ¬ (lo <= p /\ p < hi) /\ hi <= w.heap.size
theorem IQ {w : MA} {S M : Nat -> Prop} {n : Nat} {v : MB} {l : List MB} (h : vV w S 1 v n l) (hM : ∀ b, S b -> ¬ M b) : ¬ C9 v M := by
 rcases h.2 with ⟨rfl, rfl⟩ | ⟨b, c, rest, rfl, h2, _⟩
 .exact fun h => h
 .have := hM b h2
  cases n <;> simp_all [C9]
def Ht (base p : Nat) (w : MA) (dm : DM) (r : MB) (w' : MA) : Except Int (List UInt8 × List UInt8) -> Prop
 | .error e => e ≠ 0 /\ r = .int .i64 e /\ gA w w' (fun y => base <= y)
 | .ok (all, l) => r = .int .i64 0 /\ I9 w' base p ⟨l, dm.win, dm.most, dm.out ++ all, dm.fr + 1, dm.sk⟩ /\ gA w w' (fun y => base <= y)
theorem Et {RR : MB -> MA -> Prop} {base p pr lo hi : Nat} {O : Nat -> Prop} {vo va : MB} {all : List UInt8} {m : DM} {w : MA}
 (o : iD w p (lU pr vo m)) (hr : zJ w lo hi pr m.l 0) (oo : vV w O 1 vo m.out.length (m.out.map rE)) (hp : base <= p) (hlo : base <= lo) (hO : ∀ b, O b -> base <= b /\ b ≠ p /\ ¬ (lo <= b /\ b < hi)) (q1 : ¬ (lo <= p /\ p < hi)) (hhi : hi <= w.heap.size)
 (ha : Bs w va all) (h1 : m.out.length <= 2000000) (h2 : all.length <= 2000000) (h3 : m.fr <= 2000000)
 (hk : ∀ w', I9 w' base p ⟨m.l, m.win, m.most, m.out ++ all, m.fr + 1, m.sk⟩ -> gA w w' (fun y => base <= y) -> RR (.int .i64 0) w') :
 iB RR (.pointer (some ⟨p, 0, none⟩)) va w := by
 unfold iB
 have hz := o.lt
 have c3 := o.cell (off := 3)
 simp only [lU, Lf, Lg] at c3
 simp (disch := omega) only [dQ, fE, cQ, stepR_skip, eD, eQ, eF, eX, eY, eP, fH, eK, dK, eJ, eT, fB, eA, eE, eI, eH, eC, fA, eU, eB, dR, eS, eL, dZ, gT, gQ, gM, gS, gO, gN, gU, gP, gR, dH, Result.ok.injEq, Next.value.injEq, true_and, and_true, dY, dX, eN, eZ, eM, fG, Lk, dS, dT, dV, dW, dN, dL, dO, dM, dI, cY, if_true, if_false, Lh, Ln, Li, Lj, Lm, Ll, Lg, Lf, cR, cM, cH, bY, cV, dJ, bU, bX, cS, cN, cO, dE, cL, dD, dG, dU, dB, cD, bH, bR, aU, aE, aH, dF, aL, cG, dA, cZ, bN, aK, bC, aZ, cP, aC, aX, aM, aV, cU, aW, cJ, bS, aF, aG, aJ, dP, aP, aN, bD, aQ, cC, aD, bZ, bT, bL, bB, aY, cX, aI, bE, aT, aS, aR, aA, dC, cK, bP, aO, cW, bW, bV, cF, bQ, bO, bK, cI, bF, cB, bA, bG, bM, bJ, cA, c3]
 refine Kx (S := fun b => O b ∨ w.heap.size <= b) (sY oo fun b h _ => .inl h) ha (fun b h => .inr h) (by omega) fun v' w1 o1 x1 => ?_
 have hp1 : ¬ (O p ∨ w.heap.size <= p) := by
  rintro (h | h)
  .exact (hO p h).2.1 rfl
  .omega
 have o2 := o.ext x1 hp1
 obtain ⟨a', c', hv'⟩ := o1.len
 try simp (disch := omega) only [dQ, fE, cQ, stepR_skip, eD, eQ, eF, eX, eY, eP, fH, eK, dK, eJ, eT, fB, eA, eE, eI, eH, eC, fA, eU, eB, dR, eS, eL, dZ, gT, gQ, gM, gS, gO, gN, gU, gP, gR, dH, Result.ok.injEq, Next.value.injEq, true_and, and_true, dY, dX, eN, eZ, eM, fG, Lk, dS, dT, dV, dW, dN, dL, dO, dM, dI, cY, if_true, if_false, Lh, Ln, Li, Lj, Lm, Ll, Lg, Lf, cR, cM, cH, bY, cV, dJ, bU, bX, cS, cN, cO, dE, cL, dD, dG, dU, dB, cD, bH, bR, aU, aE, aH, dF, aL, cG, dA, cZ, bN, aK, bC, aZ, cP, aC, aX, aM, aV, cU, aW, cJ, bS, aF, aG, aJ, dP, aP, aN, bD, aQ, cC, aD, bZ, bT, bL, bB, aY, cX, aI, bE, aT, aS, aR, aA, dC, cK, bP, aO, cW, bW, bV, cF, bQ, bO, bK, cI, bF, cB, bA, bG, bM, bJ, cA]
 refine C8 (off := 3) o2 (by rw [hv'] <;> rfl) (by simp [lU]) fun w3 o3 x3 s3 => ?_
 simp only [lU, Ls, Lu] at o3
 have c4 := o3.cell (off := 4)
 simp only [Lf, Lg] at c4
 have e4 : (m.fr : Int) + 1 = ((m.fr + 1 : Nat) : Int) := by omega
 have w4 : IntKind.i64.wrap ((m.fr + 1 : Nat) : Int) = ((m.fr + 1 : Nat) : Int) := dY (by omega) (by omega)
 simp (disch := omega) only [dQ, fE, cQ, stepR_skip, eD, eQ, eF, eX, eY, eP, fH, eK, dK, eJ, eT, fB, eA, eE, eI, eH, eC, fA, eU, eB, dR, eS, eL, dZ, gT, gQ, gM, gS, gO, gN, gU, gP, gR, dH, Result.ok.injEq, Next.value.injEq, true_and, and_true, dY, dX, eN, eZ, eM, fG, Lk, dS, dT, dV, dW, dN, dL, dO, dM, dI, cY, if_true, if_false, Lh, Ln, Li, Lj, Lm, Ll, Lg, Lf, cR, cM, cH, bY, cV, dJ, bU, bX, cS, cN, cO, dE, cL, dD, dG, dU, dB, cD, bH, bR, aU, aE, aH, dF, aL, cG, dA, cZ, bN, aK, bC, aZ, cP, aC, aX, aM, aV, cU, aW, cJ, bS, aF, aG, aJ, dP, aP, aN, bD, aQ, cC, aD, bZ, bT, bL, bB, aY, cX, aI, bE, aT, aS, aR, aA, dC, cK, bP, aO, cW, bW, bV, cF, bQ, bO, bK, cI, bF, cB, bA, bG, bM, bJ, cA, c4, e4, w4]
 refine EP (off := 4) o3 rfl (by simp) fun w5 o5 x5 s5 => ?_
 simp only [Ls, Lu] at o5
 have x35 := x3.seq x5
 have zz1 := x1.size
 have zz3 := x35.size
 have x05 : gA w w5 (fun y => O y ∨ w.heap.size <= y ∨ y = p) := (x1.mono fun y _ h => h.elim .inl fun h => .inr (.inl h)).seq (x35.mono fun y _ h => .inr (.inr h))
 refine hk w5 ⟨pr, v', lo, hi, fun b => (O b ∨ w.heap.size <= b), o5, ?_, o1.ext x35 ?_, hp, hlo, ?_, q1, by omega⟩ (x05.mono ?_)
 .refine hr.ext x05 fun b h1 h2 h => ?_
  rcases h with h | h | h
  .exact (hO b h).2.2 ⟨h1, h2⟩
  .omega
  .exact q1 (h ▸ ⟨h1, h2⟩)
 .intro b h e
  exact hp1 (e ▸ h)
 .rintro b (h | h)
  .exact hO b h
  .exact ⟨by omega, by omega, by omega⟩
 .rintro y hy (h | h | h)
  .exact (hO y h).1
  .omega
  .omega
theorem G1 {base p pr ph lo hi : Nat} {O A : Nat -> Prop} {vo va : MB} {all : List UInt8} {m dm : DM} {h : FH} {w0 w : MA}
 (hdm : dm.win = m.win /\ dm.most = m.most /\ dm.out = m.out /\ dm.fr = m.fr /\ dm.sk = m.sk) (hx : gA w0 w (fun y => base <= y))
 (o : iD w p (lU pr vo m)) (hr : zJ w lo hi pr m.l 0) (oo : vV w O 1 vo m.out.length (m.out.map rE)) (hp : base <= p) (hlo : base <= lo) (hO : ∀ b, O b -> base <= b /\ b ≠ p /\ ¬ (lo <= b /\ b < hi)) (q1 : ¬ (lo <= p /\ p < hi)) (hhi : hi <= w.heap.size)
 (oh : iD w ph (yJ h)) (ha : vV w A 1 va all.length (all.map rE)) (hA : ∀ b, A b -> ¬ (lo <= b /\ b < hi)) (h1 : m.out.length <= 2000000) (h2 : all.length <= 2000000) (h3 : m.fr <= 2000000) (hl : m.l.length <= 1000000) (hsz : h.size < 2 ^ 64) :
 jI (fun r w' => Ht base p w0 dm r w' (Cd h m.l all)) (.pointer (some ⟨p, 0, none⟩)) (.pointer (some ⟨ph, 0, none⟩)) va w := by
 obtain ⟨RR, hRR⟩ : ∃ RR : MB -> MA -> Prop, RR = fun r w' => Ht base p w0 dm r w' (Cd h m.l all) := ⟨_, rfl⟩
 rw [<- hRR]
 unfold jI mS
 have c2 := oh.cell (off := 2)
 have c1 := oh.cell (off := 1)
 have c3 := oh.cell (off := 3)
 simp only [yJ, Lf, Lg] at c1 c2 c3
 obtain ⟨a', c', hva⟩ := ha.len
 have hb : Bs w va all := EO ha
 have wl : IntKind.u64.wrap (all.length : Int) = all.length := dX (by omega) (by omega)
 have hpr : lo <= pr /\ pr < hi := ⟨hr.1, hr.2.1⟩
 have hnp : ¬ C9 va (fun y => y = pr) := IQ ha fun b hb e => hA b hb (e ▸ hpr)
 have fin : ¬ (h.known = true /\ all.length ≠ h.size) -> lC (.bool h.sum) (fI pg jH #[.pointer (some ⟨p, 0, none⟩), va] w fun t105 w => dQ pg (fD .neq 26 (.tmp 106) (.const (.int .i64 0)) t105 (.int .i64 0)) w fun t107 w => lC t107 (RR t105 w) (iB RR (.pointer (some ⟨p, 0, none⟩)) va w)) (iB RR (.pointer (some ⟨p, 0, none⟩)) va w) := by
  intro hn
  cases hs : h.sum with
  | false =>
    simp (disch := omega) only [dQ, fE, cQ, stepR_skip, eD, eQ, eF, eX, eY, eP, fH, eK, dK, eJ, eT, fB, eA, eE, eI, eH, eC, fA, eU, eB, dR, eS, eL, dZ, gT, gQ, gM, gS, gO, gN, gU, gP, gR, dH, Result.ok.injEq, Next.value.injEq, true_and, and_true, dY, dX, eN, eZ, eM, fG, Lk, dS, dT, dV, dW, dN, dL, dO, dM, dI, cY, if_true, if_false, Lh, Ln, Li, Lj, Lm, Ll, Lg, Lf, cR, cM, cH, bY, cV, dJ, bU, bX, cS, cN, cO, dE, cL, dD, dG, dU, dB, cD, bH, bR, aU, aE, aH, dF, aL, cG, dA, cZ, bN, aK, bC, aZ, cP, aC, aX, aM, aV, cU, aW, cJ, bS, aF, aG, aJ, dP, aP, aN, bD, aQ, cC, aD, bZ, bT, bL, bB, aY, cX, aI, bE, aT, aS, aR, aA, dC, cK, bP, aO, cW, bW, bV, cF, bQ, bO, bK, cI, bF, cB, bA, bG, bM, bJ, cA]
    refine Et o hr oo hp hlo hO q1 hhi hb h1 h2 h3 fun w' hd x => ?_
    rw [hRR]
    unfold Cd
    rw [if_neg hn, if_neg (by rw [hs]; simp)]
    refine ⟨rfl, ?_, hx.seq x⟩
    rw [hdm.1, hdm.2.1, hdm.2.2.1, hdm.2.2.2.1, hdm.2.2.2.2]
    exact hd
  | true =>
    simp (disch := omega) only [dQ, fE, cQ, stepR_skip, eD, eQ, eF, eX, eY, eP, fH, eK, dK, eJ, eT, fB, eA, eE, eI, eH, eC, fA, eU, eB, dR, eS, eL, dZ, gT, gQ, gM, gS, gO, gN, gU, gP, gR, dH, Result.ok.injEq, Next.value.injEq, true_and, and_true, dY, dX, eN, eZ, eM, fG, Lk, dS, dT, dV, dW, dN, dL, dO, dM, dI, cY, if_true, if_false, Lh, Ln, Li, Lj, Lm, Ll, Lg, Lf, cR, cM, cH, bY, cV, dJ, bU, bX, cS, cN, cO, dE, cL, dD, dG, dU, dB, cD, bH, bR, aU, aE, aH, dF, aL, cG, dA, cZ, bN, aK, bC, aZ, cP, aC, aX, aM, aV, cU, aW, cJ, bS, aF, aG, aJ, dP, aP, aN, bD, aQ, cC, aD, bZ, bT, bL, bB, aY, cX, aI, bE, aT, aS, aR, aA, dC, cK, bP, aO, cW, bW, bV, cF, bQ, bO, bK, cI, bF, cB, bA, bG, bM, bJ, cA]
    refine (Hd o (by rfl) hr hb hnp hl h2).mono ?_
    intro r w1 hs1
    have hdt : Cd h m.l all = match Hq m.l all with | .error e => .error e | .ok l' => .ok (all, l') := by
     unfold Cd
     rw [if_neg hn, if_pos hs]
     try rfl
    cases hd : Hq m.l all with
    | error e =>
      rw [hd] at hs1
      obtain ⟨he, rfl, x1⟩ := hs1
      have n1 : (e != 0) = true := by simp [he]
      simp (disch := omega) only [dQ, fE, cQ, stepR_skip, eD, eQ, eF, eX, eY, eP, fH, eK, dK, eJ, eT, fB, eA, eE, eI, eH, eC, fA, eU, eB, dR, eS, eL, dZ, gT, gQ, gM, gS, gO, gN, gU, gP, gR, dH, Result.ok.injEq, Next.value.injEq, true_and, and_true, dY, dX, eN, eZ, eM, fG, Lk, dS, dT, dV, dW, dN, dL, dO, dM, dI, cY, if_true, if_false, Lh, Ln, Li, Lj, Lm, Ll, Lg, Lf, cR, cM, cH, bY, cV, dJ, bU, bX, cS, cN, cO, dE, cL, dD, dG, dU, dB, cD, bH, bR, aU, aE, aH, dF, aL, cG, dA, cZ, bN, aK, bC, aZ, cP, aC, aX, aM, aV, cU, aW, cJ, bS, aF, aG, aJ, dP, aP, aN, bD, aQ, cC, aD, bZ, bT, bL, bB, aY, cX, aI, bE, aT, aS, aR, aA, dC, cK, bP, aO, cW, bW, bV, cF, bQ, bO, bK, cI, bF, cB, bA, bG, bM, bJ, cA, n1]
      rw [hRR, hdt, hd]
      exact ⟨he, rfl, hx.seq (x1.mono fun y _ h => by omega)⟩
    | ok l' =>
      rw [hd] at hs1
      obtain ⟨rfl, hr1, x1⟩ := hs1
      have n1 : ((0 : Int) != 0) = false := rfl
      simp (disch := omega) only [dQ, fE, cQ, stepR_skip, eD, eQ, eF, eX, eY, eP, fH, eK, dK, eJ, eT, fB, eA, eE, eI, eH, eC, fA, eU, eB, dR, eS, eL, dZ, gT, gQ, gM, gS, gO, gN, gU, gP, gR, dH, Result.ok.injEq, Next.value.injEq, true_and, and_true, dY, dX, eN, eZ, eM, fG, Lk, dS, dT, dV, dW, dN, dL, dO, dM, dI, cY, if_true, if_false, Lh, Ln, Li, Lj, Lm, Ll, Lg, Lf, cR, cM, cH, bY, cV, dJ, bU, bX, cS, cN, cO, dE, cL, dD, dG, dU, dB, cD, bH, bR, aU, aE, aH, dF, aL, cG, dA, cZ, bN, aK, bC, aZ, cP, aC, aX, aM, aV, cU, aW, cJ, bS, aF, aG, aJ, dP, aP, aN, bD, aQ, cC, aD, bZ, bT, bL, bB, aY, cX, aI, bE, aT, aS, aR, aA, dC, cK, bP, aO, cW, bW, bV, cF, bQ, bO, bK, cI, bF, cB, bA, bG, bM, bJ, cA, n1]
      have z1 := x1.size
      refine Et (m := ⟨l', m.win, m.most, m.out, m.fr, m.sk⟩) (o.ext x1 fun e => q1 (e ▸ hpr)) hr1 (oo.ext x1 fun b hb e => (hO b hb).2.2 (e ▸ hpr)) hp hlo hO q1 (by omega) (hb.ext x1 hnp) h1 h2 h3 fun w' hd' x => ?_
      rw [hRR, hdt, hd]
      refine ⟨rfl, ?_, hx.seq ((x1.mono fun y _ h => by omega).seq x)⟩
      rw [hdm.1, hdm.2.1, hdm.2.2.1, hdm.2.2.2.1, hdm.2.2.2.2]
      exact hd'
 cases hkn : h.known with
 | false =>
   rw [hkn] at c2
   have := fin (by rw [hkn]; simp)
   subst hva
   simp (disch := omega) only [dQ, fE, cQ, stepR_skip, eD, eQ, eF, eX, eY, eP, fH, eK, dK, eJ, eT, fB, eA, eE, eI, eH, eC, fA, eU, eB, dR, eS, eL, dZ, gT, gQ, gM, gS, gO, gN, gU, gP, gR, dH, Result.ok.injEq, Next.value.injEq, true_and, and_true, dY, dX, eN, eZ, eM, fG, Lk, dS, dT, dV, dW, dN, dL, dO, dM, dI, cY, if_true, if_false, Lh, Ln, Li, Lj, Lm, Ll, Lg, Lf, cR, cM, cH, bY, cV, dJ, bU, bX, cS, cN, cO, dE, cL, dD, dG, dU, dB, cD, bH, bR, aU, aE, aH, dF, aL, cG, dA, cZ, bN, aK, bC, aZ, cP, aC, aX, aM, aV, cU, aW, cJ, bS, aF, aG, aJ, dP, aP, aN, bD, aQ, cC, aD, bZ, bT, bL, bB, aY, cX, aI, bE, aT, aS, aR, aA, dC, cK, bP, aO, cW, bW, bV, cF, bQ, bO, bK, cI, bF, cB, bA, bG, bM, bJ, cA, c2, c3]
   exact this
 | true =>
   rw [hkn] at c2
   subst hva
   by_cases he : all.length = h.size
   .have n1 : ((all.length : Int) != (h.size : Int)) = false := by rw [he]; simp
    have := fin (by simp [he])
    simp (disch := omega) only [dQ, fE, cQ, stepR_skip, eD, eQ, eF, eX, eY, eP, fH, eK, dK, eJ, eT, fB, eA, eE, eI, eH, eC, fA, eU, eB, dR, eS, eL, dZ, gT, gQ, gM, gS, gO, gN, gU, gP, gR, dH, Result.ok.injEq, Next.value.injEq, true_and, and_true, dY, dX, eN, eZ, eM, fG, Lk, dS, dT, dV, dW, dN, dL, dO, dM, dI, cY, if_true, if_false, Lh, Ln, Li, Lj, Lm, Ll, Lg, Lf, cR, cM, cH, bY, cV, dJ, bU, bX, cS, cN, cO, dE, cL, dD, dG, dU, dB, cD, bH, bR, aU, aE, aH, dF, aL, cG, dA, cZ, bN, aK, bC, aZ, cP, aC, aX, aM, aV, cU, aW, cJ, bS, aF, aG, aJ, dP, aP, aN, bD, aQ, cC, aD, bZ, bT, bL, bB, aY, cX, aI, bE, aT, aS, aR, aA, dC, cK, bP, aO, cW, bW, bV, cF, bQ, bO, bK, cI, bF, cB, bA, bG, bM, bJ, cA, c2, c3, c1, wl, n1]
    exact this
   .have n1 : ((all.length : Int) != (h.size : Int)) = true := by simp; omega
    simp (disch := omega) only [dQ, fE, cQ, stepR_skip, eD, eQ, eF, eX, eY, eP, fH, eK, dK, eJ, eT, fB, eA, eE, eI, eH, eC, fA, eU, eB, dR, eS, eL, dZ, gT, gQ, gM, gS, gO, gN, gU, gP, gR, dH, Result.ok.injEq, Next.value.injEq, true_and, and_true, dY, dX, eN, eZ, eM, fG, Lk, dS, dT, dV, dW, dN, dL, dO, dM, dI, cY, if_true, if_false, Lh, Ln, Li, Lj, Lm, Ll, Lg, Lf, cR, cM, cH, bY, cV, dJ, bU, bX, cS, cN, cO, dE, cL, dD, dG, dU, dB, cD, bH, bR, aU, aE, aH, dF, aL, cG, dA, cZ, bN, aK, bC, aZ, cP, aC, aX, aM, aV, cU, aW, cJ, bS, aF, aG, aJ, dP, aP, aN, bD, aQ, cC, aD, bZ, bT, bL, bB, aY, cX, aI, bE, aT, aS, aR, aA, dC, cK, bP, aO, cW, bW, bV, cF, bQ, bO, bK, cI, bF, cB, bA, bG, bM, bJ, cA, c2, c3, c1, wl, n1]
    rw [hRR]
    unfold Cd
    rw [if_pos ⟨hkn, he⟩]
    exact ⟨by decide, rfl, hx⟩
def AT (h : FH) (room : Nat) : Nat -> List UInt8 -> List UInt8 -> Option (Except Int (List UInt8 × List UInt8))
 | 0, _, _ => none
 | f + 1, l, all => match D8 l all h.window room with
   | none => none
   | some (.error e) => some (.error e)
   | some (.ok (a, l', b)) => if h.known = true /\ h.size < a.length then some (.error 11) else if b then some (.ok (a, l')) else AT h room f l' a
def HP (h : FH) : Except Int (List UInt8 × List UInt8) -> Except Int (List UInt8 × List UInt8)
 | .error e => .error e
 | .ok (a, l') => Cd h l' a
theorem H4 {l all : List UInt8} {win room : Nat} {e : Int} (h : D8 l all win room = some (.error e)) : e ≠ 0 := by
 unfold D8 at h
 repeat' split at h
 all_goals first | (cases h; decide) | cases h
theorem GV {l all a l' : List UInt8} {win room : Nat} {b : Bool} (h : D8 l all win room = some (.ok (a, l', b))) : a.length <= room /\ l'.length <= l.length := by
 unfold D8 at h
 repeat' split at h
 all_goals first | cases h | skip
 rw [Lw, Lv]
 omega
theorem Hi {base p pr ph pq lo hi aB f : Nat} {O : Nat -> Prop} {vo va : MB} {all : List UInt8} {m dm : DM} {h : FH} {w0 w : MA} {mm : Except Int (List UInt8 × List UInt8)}
 (hdm : dm.win = m.win /\ dm.most = m.most /\ dm.out = m.out /\ dm.fr = m.fr /\ dm.sk = m.sk) (hx : gA w0 w (fun y => base <= y))
 (o : iD w p (lU pr vo m)) (hr : zJ w lo hi pr m.l 0) (oo : vV w O 1 vo m.out.length (m.out.map rE)) (hp : base <= p) (hlo : base <= lo) (hO : ∀ b, O b -> base <= b /\ b ≠ p /\ ¬ (lo <= b /\ b < hi) /\ b < aB) (hpq : base <= pq /\ pq ≠ p /\ pq ≠ ph /\ ¬ O pq) (q1 : ¬ (lo <= p /\ p < hi)) (q2 : ¬ (lo <= ph /\ ph < hi)) (q3 : ¬ (lo <= pq /\ pq < hi)) (hb : p < aB /\ ph < aB /\ pq < aB /\ hi <= aB /\ base <= aB /\ aB <= w.heap.size)
 (oh : iD w ph (yJ h)) (og : iD w pq gL) (ha : vV w (fun b => aB <= b) 1 va all.length (all.map rE)) (h1 : m.out.length <= m.most) (h2 : all.length <= 2000000) (h3 : m.fr <= 2000000) (hmost : m.most <= 2000000) (hl : m.l.length <= 1000000) (hsz : h.size < 2 ^ 64)
 (hm : AT h (m.most - m.out.length) f m.l all = some mm) :
 jG (fun r w' => Ht base p w0 dm r w' (HP h mm)) (.pointer (some ⟨p, 0, none⟩)) (.pointer (some ⟨ph, 0, none⟩)) (.pointer (some ⟨pq, 0, none⟩)) va w := by
 obtain ⟨RR, hRR⟩ : ∃ RR : MB -> MA -> Prop, RR = fun r w' => Ht base p w0 dm r w' (HP h mm) := ⟨_, rfl⟩
 rw [<- hRR]
 unfold jG nJ mV
 refine iW.rule (fun f (va : MB) w1 => ∃ all l, AT h (m.most - m.out.length) f l all = some mm /\ gA w w1 (fun y => aB <= y ∨ y = pr ∨ y = pq) /\ zJ w1 lo hi pr l 0 /\ vV w1 (fun b => aB <= b) 1 va all.length (all.map rE) /\ iD w1 pq gL /\ all.length <= 2000000 /\ l.length <= 1000000) f
  ⟨all, m.l, hm, gA.refl _ _, hr, ha, og, h2, hl⟩ ?_
 clear hm ha og hl h2 hr all
 rintro f va w1 ⟨all, l, hm, x1, hr, ha, og, h2, hl⟩
 have hpr : lo <= pr /\ pr < hi := ⟨hr.1, hr.2.1⟩
 have z1 := x1.size
 have hnp : ¬ (aB <= p ∨ p = pr ∨ p = pq) := by omega
 have hnh : ¬ (aB <= ph ∨ ph = pr ∨ ph = pq) := by omega
 have hnO : ∀ b, O b -> ¬ (aB <= b ∨ b = pr ∨ b = pq) := by
  rintro b hb (h | h | h)
  .have := (hO b hb).2.2.2; omega
  .exact (hO b hb).2.2.1 (h ▸ hpr)
  .exact hpq.2.2.2 (h ▸ hb)
 have o1 := o.ext x1 hnp
 have oh1 := oh.ext x1 hnh
 have oo1 := oo.ext x1 hnO
 cases f with
 | zero => cases hm
 | succ f =>
   rw [AT] at hm
   unfold kK
   have hg := sE (off := 0) og (by simp [gL])
   simp only [gL, LF, Lz, LG] at hg
   have c0 := oh1.cell (off := 0)
   have c1 := oh1.cell (off := 1)
   have c2 := oh1.cell (off := 2)
   simp only [yJ, Lf, Lg] at c0 c1 c2
   simp (disch := omega) only [dQ, fE, cQ, stepR_skip, eD, eQ, eF, eX, eY, eP, fH, eK, dK, eJ, eT, fB, eA, eE, eI, eH, eC, fA, eU, eB, dR, eS, eL, dZ, gT, gQ, gM, gS, gO, gN, gU, gP, gR, dH, Result.ok.injEq, Next.value.injEq, true_and, and_true, dY, dX, eN, eZ, eM, fG, Lk, dS, dT, dV, dW, dN, dL, dO, dM, dI, cY, if_true, if_false, Lh, Ln, Li, Lj, Lm, Ll, Lg, Lf, cR, cM, cH, bY, cV, dJ, bU, bX, cS, cN, cO, dE, cL, dD, dG, dU, dB, cD, bH, bR, aU, aE, aH, dF, aL, cG, dA, cZ, bN, aK, bC, aZ, cP, aC, aX, aM, aV, cU, aW, cJ, bS, aF, aG, aJ, dP, aP, aN, bD, aQ, cC, aD, bZ, bT, bL, bB, aY, cX, aI, bE, aT, aS, aR, aA, dC, cK, bP, aO, cW, bW, bV, cF, bQ, bO, bK, cI, bF, cB, bA, bG, bM, bJ, cA, hg, c0]
   obtain ⟨mb, hmb⟩ : ∃ mb, D8 l all h.window (m.most - m.out.length) = some mb := by
    cases hd : D8 l all h.window (m.most - m.out.length) with
    | none => rw [hd] at hm; cases hm
    | some mb => exact ⟨mb, rfl⟩
   rw [hmb] at hm
   refine (Il (n := m.out.length) (most := m.most) o1 rfl rfl rfl oo1.len hr ha (fun b h => ⟨by omega, by omega⟩) (fun b h => by omega) (by omega) q1 h1 hl h2 hmost hmb).mono ?_
   intro r w2 hb2
   cases mb with
   | error e =>
     have he := H4 hmb
     cases hm
     obtain ⟨rfl, x2⟩ := hb2
     have n1 : (e != 0) = true := by simp [he]
     unfold KB
     simp (disch := omega) only [dQ, fE, cQ, stepR_skip, eD, eQ, eF, eX, eY, eP, fH, eK, dK, eJ, eT, fB, eA, eE, eI, eH, eC, fA, eU, eB, dR, eS, eL, dZ, gT, gQ, gM, gS, gO, gN, gU, gP, gR, dH, Result.ok.injEq, Next.value.injEq, true_and, and_true, dY, dX, eN, eZ, eM, fG, Lk, dS, dT, dV, dW, dN, dL, dO, dM, dI, cY, if_true, if_false, Lh, Ln, Li, Lj, Lm, Ll, Lg, Lf, cR, cM, cH, bY, cV, dJ, bU, bX, cS, cN, cO, dE, cL, dD, dG, dU, dB, cD, bH, bR, aU, aE, aH, dF, aL, cG, dA, cZ, bN, aK, bC, aZ, cP, aC, aX, aM, aV, cU, aW, cJ, bS, aF, aG, aJ, dP, aP, aN, bD, aQ, cC, aD, bZ, bT, bL, bB, aY, cX, aI, bE, aT, aS, aR, aA, dC, cK, bP, aO, cW, bW, bV, cF, bQ, bO, bK, cI, bF, cB, bA, bG, bM, bJ, cA, n1]
     have og2 : iD w2 pq gL := og.ext x2 (by omega)
     refine iI og2 rfl (by simp [one]) (by simp [gL]) fun w3 o3 x3 s3 => ?_
     try simp (disch := omega) only [dQ, fE, cQ, stepR_skip, eD, eQ, eF, eX, eY, eP, fH, eK, dK, eJ, eT, fB, eA, eE, eI, eH, eC, fA, eU, eB, dR, eS, eL, dZ, gT, gQ, gM, gS, gO, gN, gU, gP, gR, dH, Result.ok.injEq, Next.value.injEq, true_and, and_true, dY, dX, eN, eZ, eM, fG, Lk, dS, dT, dV, dW, dN, dL, dO, dM, dI, cY, if_true, if_false, Lh, Ln, Li, Lj, Lm, Ll, Lg, Lf, cR, cM, cH, bY, cV, dJ, bU, bX, cS, cN, cO, dE, cL, dD, dG, dU, dB, cD, bH, bR, aU, aE, aH, dF, aL, cG, dA, cZ, bN, aK, bC, aZ, cP, aC, aX, aM, aV, cU, aW, cJ, bS, aF, aG, aJ, dP, aP, aN, bD, aQ, cC, aD, bZ, bT, bL, bB, aY, cX, aI, bE, aT, aS, aR, aA, dC, cK, bP, aO, cW, bW, bV, cF, bQ, bO, bK, cI, bF, cB, bA, bG, bM, bJ, cA, n1]
     rw [hRR]
     exact ⟨he, rfl, hx.seq ((((x1.mono fun y _ h => by omega).seq (x2.mono fun y _ h => by omega))).seq (x3.mono fun y _ h => by omega))⟩
   | ok t =>
     obtain ⟨a, l', b⟩ := t
     obtain ⟨v, rfl, o2, hr2, x2⟩ := hb2
     have hlen := GV hmb
     have n1 : ((0 : Int) != 0) = false := rfl
     have z2 := x2.size
     have og2 := og.ext x2 (by omega)
     obtain ⟨av, cv, hv⟩ := o2.len
     unfold Ko
     subst hv
     simp (disch := omega) only [dQ, fE, cQ, stepR_skip, eD, eQ, eF, eX, eY, eP, fH, eK, dK, eJ, eT, fB, eA, eE, eI, eH, eC, fA, eU, eB, dR, eS, eL, dZ, gT, gQ, gM, gS, gO, gN, gU, gP, gR, dH, Result.ok.injEq, Next.value.injEq, true_and, and_true, dY, dX, eN, eZ, eM, fG, Lk, dS, dT, dV, dW, dN, dL, dO, dM, dI, cY, if_true, if_false, Lh, Ln, Li, Lj, Lm, Ll, Lg, Lf, cR, cM, cH, bY, cV, dJ, bU, bX, cS, cN, cO, dE, cL, dD, dG, dU, dB, cD, bH, bR, aU, aE, aH, dF, aL, cG, dA, cZ, bN, aK, bC, aZ, cP, aC, aX, aM, aV, cU, aW, cJ, bS, aF, aG, aJ, dP, aP, aN, bD, aQ, cC, aD, bZ, bT, bL, bB, aY, cX, aI, bE, aT, aS, aR, aA, dC, cK, bP, aO, cW, bW, bV, cF, bQ, bO, bK, cI, bF, cB, bA, bG, bM, bJ, cA, n1]
     refine iI og2 rfl (by simp [one]) (by simp [gL]) fun w3 o3 x3 s3 => ?_
     simp only [gD, gL, Ls, Lu] at o3
     have x13 : gA w w3 (fun y => aB <= y ∨ y = pr ∨ y = pq) := (x1.seq (x2.mono fun y _ h => by omega)).seq (x3.mono fun y _ h => by omega)
     have oh3 := oh.ext x13 hnh
     have d0 := oh3.cell (off := 0)
     have d1 := oh3.cell (off := 1)
     have d2 := oh3.cell (off := 2)
     simp only [yJ, Lf, Lg] at d0 d1 d2
     have o3' := o.ext x13 hnp
     have hr3 := hr2.ext x3 (fun b h1 h2 h => by omega)
     have o2' := o2.ext x3 (fun b h1 h => by omega)
     have wl : IntKind.u64.wrap (a.length : Int) = a.length := dX (by omega) (by omega)
     have go : ¬ (h.known = true /\ h.size < a.length) -> lC (.bool b) (jI RR (.pointer (some ⟨p, 0, none⟩)) (.pointer (some ⟨ph, 0, none⟩)) (.slice av a.length cv) w3) (∃ KS, KS < f + 1 /\ ∃ all l, AT h (m.most - m.out.length) KS l all = some mm /\ gA w w3 (fun y => aB <= y ∨ y = pr ∨ y = pq) /\ zJ w3 lo hi pr l 0 /\ vV w3 (fun b => aB <= b) 1 (.slice av a.length cv) all.length (all.map rE) /\ iD w3 pq gL /\ all.length <= 2000000 /\ l.length <= 1000000) := by
      intro hn
      simp only [if_neg hn] at hm
      cases b with
      | true =>
        cases hm
        simp (disch := omega) only [dQ, fE, cQ, stepR_skip, eD, eQ, eF, eX, eY, eP, fH, eK, dK, eJ, eT, fB, eA, eE, eI, eH, eC, fA, eU, eB, dR, eS, eL, dZ, gT, gQ, gM, gS, gO, gN, gU, gP, gR, dH, Result.ok.injEq, Next.value.injEq, true_and, and_true, dY, dX, eN, eZ, eM, fG, Lk, dS, dT, dV, dW, dN, dL, dO, dM, dI, cY, if_true, if_false, Lh, Ln, Li, Lj, Lm, Ll, Lg, Lf, cR, cM, cH, bY, cV, dJ, bU, bX, cS, cN, cO, dE, cL, dD, dG, dU, dB, cD, bH, bR, aU, aE, aH, dF, aL, cG, dA, cZ, bN, aK, bC, aZ, cP, aC, aX, aM, aV, cU, aW, cJ, bS, aF, aG, aJ, dP, aP, aN, bD, aQ, cC, aD, bZ, bT, bL, bB, aY, cX, aI, bE, aT, aS, aR, aA, dC, cK, bP, aO, cW, bW, bV, cF, bQ, bO, bK, cI, bF, cB, bA, bG, bM, bJ, cA]
        rw [hRR]
        exact G1 (m := ⟨l', m.win, m.most, m.out, m.fr, m.sk⟩) hdm (hx.seq (x13.mono fun y _ h => by omega)) o3' hr3 (oo.ext x13 hnO) hp hlo (fun b hb => ⟨(hO b hb).1, (hO b hb).2.1, (hO b hb).2.2.1⟩) q1 (by omega) oh3 o2' (fun b h => by omega) (show m.out.length <= 2000000 by omega) (by omega) h3 (show l'.length <= 1000000 by omega) hsz
      | false =>
        simp (disch := omega) only [dQ, fE, cQ, stepR_skip, eD, eQ, eF, eX, eY, eP, fH, eK, dK, eJ, eT, fB, eA, eE, eI, eH, eC, fA, eU, eB, dR, eS, eL, dZ, gT, gQ, gM, gS, gO, gN, gU, gP, gR, dH, Result.ok.injEq, Next.value.injEq, true_and, and_true, dY, dX, eN, eZ, eM, fG, Lk, dS, dT, dV, dW, dN, dL, dO, dM, dI, cY, if_true, if_false, Lh, Ln, Li, Lj, Lm, Ll, Lg, Lf, cR, cM, cH, bY, cV, dJ, bU, bX, cS, cN, cO, dE, cL, dD, dG, dU, dB, cD, bH, bR, aU, aE, aH, dF, aL, cG, dA, cZ, bN, aK, bC, aZ, cP, aC, aX, aM, aV, cU, aW, cJ, bS, aF, aG, aJ, dP, aP, aN, bD, aQ, cC, aD, bZ, bT, bL, bB, aY, cX, aI, bE, aT, aS, aR, aA, dC, cK, bP, aO, cW, bW, bV, cF, bQ, bO, bK, cI, bF, cB, bA, bG, bM, bJ, cA]
        exact ⟨f, by omega, a, l', hm, x13, hr3, o2', o3, by omega, by omega⟩
     cases hkn : h.known with
     | false =>
       rw [hkn] at d2
       have := go (by rw [hkn]; simp)
       simp (disch := omega) only [dQ, fE, cQ, stepR_skip, eD, eQ, eF, eX, eY, eP, fH, eK, dK, eJ, eT, fB, eA, eE, eI, eH, eC, fA, eU, eB, dR, eS, eL, dZ, gT, gQ, gM, gS, gO, gN, gU, gP, gR, dH, Result.ok.injEq, Next.value.injEq, true_and, and_true, dY, dX, eN, eZ, eM, fG, Lk, dS, dT, dV, dW, dN, dL, dO, dM, dI, cY, if_true, if_false, Lh, Ln, Li, Lj, Lm, Ll, Lg, Lf, cR, cM, cH, bY, cV, dJ, bU, bX, cS, cN, cO, dE, cL, dD, dG, dU, dB, cD, bH, bR, aU, aE, aH, dF, aL, cG, dA, cZ, bN, aK, bC, aZ, cP, aC, aX, aM, aV, cU, aW, cJ, bS, aF, aG, aJ, dP, aP, aN, bD, aQ, cC, aD, bZ, bT, bL, bB, aY, cX, aI, bE, aT, aS, aR, aA, dC, cK, bP, aO, cW, bW, bV, cF, bQ, bO, bK, cI, bF, cB, bA, bG, bM, bJ, cA, n1, d2]
       exact this
     | true =>
       rw [hkn] at d2
       by_cases hlt : h.size < a.length
       .have g1 : decide ((a.length : Int) > (h.size : Int)) = true := decide_eq_true (by omega)
        have g2 : decide ((h.size : Int) < (a.length : Int)) = true := decide_eq_true (by omega)
        simp only [if_pos (⟨hkn, hlt⟩ : h.known = true /\ h.size < a.length)] at hm
        cases hm
        simp (disch := omega) only [dQ, fE, cQ, stepR_skip, eD, eQ, eF, eX, eY, eP, fH, eK, dK, eJ, eT, fB, eA, eE, eI, eH, eC, fA, eU, eB, dR, eS, eL, dZ, gT, gQ, gM, gS, gO, gN, gU, gP, gR, dH, Result.ok.injEq, Next.value.injEq, true_and, and_true, dY, dX, eN, eZ, eM, fG, Lk, dS, dT, dV, dW, dN, dL, dO, dM, dI, cY, if_true, if_false, Lh, Ln, Li, Lj, Lm, Ll, Lg, Lf, cR, cM, cH, bY, cV, dJ, bU, bX, cS, cN, cO, dE, cL, dD, dG, dU, dB, cD, bH, bR, aU, aE, aH, dF, aL, cG, dA, cZ, bN, aK, bC, aZ, cP, aC, aX, aM, aV, cU, aW, cJ, bS, aF, aG, aJ, dP, aP, aN, bD, aQ, cC, aD, bZ, bT, bL, bB, aY, cX, aI, bE, aT, aS, aR, aA, dC, cK, bP, aO, cW, bW, bV, cF, bQ, bO, bK, cI, bF, cB, bA, bG, bM, bJ, cA, n1, d2, d1, wl, g1, g2]
        rw [hRR]
        exact ⟨by decide, rfl, hx.seq (x13.mono fun y _ h => by omega)⟩
       .have g1 : decide ((a.length : Int) > (h.size : Int)) = false := decide_eq_false (by omega)
        have g2 : decide ((h.size : Int) < (a.length : Int)) = false := decide_eq_false (by omega)
        have := go (by simp [hlt])
        simp (disch := omega) only [dQ, fE, cQ, stepR_skip, eD, eQ, eF, eX, eY, eP, fH, eK, dK, eJ, eT, fB, eA, eE, eI, eH, eC, fA, eU, eB, dR, eS, eL, dZ, gT, gQ, gM, gS, gO, gN, gU, gP, gR, dH, Result.ok.injEq, Next.value.injEq, true_and, and_true, dY, dX, eN, eZ, eM, fG, Lk, dS, dT, dV, dW, dN, dL, dO, dM, dI, cY, if_true, if_false, Lh, Ln, Li, Lj, Lm, Ll, Lg, Lf, cR, cM, cH, bY, cV, dJ, bU, bX, cS, cN, cO, dE, cL, dD, dG, dU, dB, cD, bH, bR, aU, aE, aH, dF, aL, cG, dA, cZ, bN, aK, bC, aZ, cP, aC, aX, aM, aV, cU, aW, cJ, bS, aF, aG, aJ, dP, aP, aN, bD, aQ, cC, aD, bZ, bT, bL, bB, aY, cX, aI, bE, aT, aS, aR, aA, dC, cK, bP, aO, cW, bW, bV, cF, bQ, bO, bK, cI, bF, cB, bA, bG, bM, bJ, cA, n1, d2, d1, wl, g1, g2]
        exact this
def F0 (l : List UInt8) (win room : Nat) : Option (Except Int (List UInt8 × List UInt8)) :=
 match Bi l with
 | .error e => some (.error e)
 | .ok (h, n) => if win < h.window ∨ (h.known = true /\ room < h.size) then some (.error 12) else match AT h room (l.length + 1) (l.drop n) [] with | none => none | some mm => some (HP h mm)
theorem Ic {L dict : Nat} {s : List UInt8 × Int} {h : FH} {e : Int} (hh : Dw L s dict h = .error e) : e ≠ 0 := by
 unfold Dw at hh
 split at hh
 .cases hh; assumption
 .split at hh
  .cases hh; decide
  .cases hh
theorem G9 {l : List UInt8} {e : Int} (h : Bi l = .error e) : e ≠ 0 := by
 unfold Bi at h
 split at h
 .cases h; assumption
 .split at h
  .cases h; decide
  .exact Ic h
theorem JI (s : List UInt8 × Int) (n : Nat) (hn : n <= 8) : Es s n < 2 ^ 64 := by
 unfold Es
 split
 .have := DA s n
  have h2 : 256 ^ n <= 256 ^ 8 := L1 (by omega) hn
  have h3 : (256 : Nat) ^ 8 = 2 ^ 64 := by decide
  omega
 .decide
theorem JX (s : List UInt8 × Int) (d : Nat) (hd : d < 256) : Jf d (Es s (Cf d)) < 2 ^ 64 := by
 have h4 : d / 64 = 0 ∨ d / 64 = 1 ∨ d / 64 = 2 ∨ d / 64 = 3 := by omega
 have h8 : Cf d <= 8 := by
  unfold Cf
  rcases h4 with h | h | h | h <;> rw [h] <;> simp
  split <;> omega
 have := JI s (Cf d) h8
 unfold Jf
 split
 .rename_i h2
  rw [h2] at this ⊢
  have h5 : Es s 2 < 65536 := by
   unfold Es
   rw [if_pos (by omega)]
   exact DA s 2
  omega
 .exact this
theorem Ih {l : List UInt8} {h : FH} {n : Nat} (hh : Bi l = .ok (h, n)) : h.size < 2 ^ 64 /\ n <= l.length := by
 unfold Bi at hh
 split at hh
 .cases hh
 .split at hh
  .cases hh
  .unfold EB Dw at hh
   split at hh
   .cases hh
   .split at hh
    .cases hh
    .cases hh
     have hd : F3 (l, 0) 1 < 256 := DA (l, 0) 1
     exact ⟨JX _ _ hd, by omega⟩
theorem Jg {w : MA} : fI pg mK #[] w (fun r w' => r = .agg #[.int .u32 1, .int .u32 4, .int .u32 8] /\ gA w w' nQ) := by
 refine BN ?_
 unfold Bh rS
 refine Dj fun w1 o1 x1 s1 => ?_
 try simp (disch := omega) only [dQ, fE, cQ, stepR_skip, eD, eQ, eF, eX, eY, eP, fH, eK, dK, eJ, eT, fB, eA, eE, eI, eH, eC, fA, eU, eB, dR, eS, eL, dZ, gT, gQ, gM, gS, gO, gN, gU, gP, gR, dH, Result.ok.injEq, Next.value.injEq, true_and, and_true, dY, dX, eN, eZ, eM, fG, Lk, dS, dT, dV, dW, dN, dL, dO, dM, dI, cY, if_true, if_false, Lh, Ln, Li, Lj, Lm, Ll, Lg, Lf, cR, cM, cH, bY, cV, dJ, bU, bX, cS, cN, cO, dE, cL, dD, dG, dU, dB, cD, bH, bR, aU, aE, aH, dF, aL, cG, dA, cZ, bN, aK, bC, aZ, cP, aC, aX, aM, aV, cU, aW, cJ, bS, aF, aG, aJ, dP, aP, aN, bD, aQ, cC, aD, bZ, bT, bL, bB, aY, cX, aI, bE, aT, aS, aR, aA, dC, cK, bP, aO, cW, bW, bV, cF, bQ, bO, bK, cI, bF, cB, bA, bG, bM, bJ, cA]
 refine Ct o1 rfl (by simp [one]) (by simp) fun w2 o2 x2 s2 => ?_
 refine CB o2 (by simp [gD]) ?_
 exact ⟨rfl, x1.new x2 (by omega)⟩
theorem HS {base p : Nat} {dm : DM} {w : MA} {mm : Except Int (List UInt8 × List UInt8)} (hd : I9 w base p dm) (h1 : dm.out.length <= dm.most) (h3 : dm.fr <= 2000000) (hmost : dm.most <= 2000000) (hl : dm.l.length <= 1000000)
 (hm : F0 dm.l dm.win (dm.most - dm.out.length) = some mm) :
 fI pg kU #[.pointer (some ⟨p, 0, none⟩)] w (fun r w' => Ht base p w dm r w' mm) := by
 refine yH ?_
 unfold vB mE mF lY rJ mY
 obtain ⟨RR, hRR⟩ : ∃ RR : MB -> MA -> Prop, RR = fun r w' => Ht base p w dm r w' mm := ⟨_, rfl⟩
 rw [<- hRR]
 obtain ⟨pr, vo, lo, hi, O, o, hr, oo, hp, hlo, hO, q1, hhi⟩ := hd
 have hpr : lo <= pr /\ pr < hi := ⟨hr.1, hr.2.1⟩
 have hzp := o.lt
 have hO1 : vV w (fun b => O b /\ b < w.heap.size) 1 vo dm.out.length (dm.out.map rE) := sY oo fun b h h2 => ⟨h, h2⟩
 have xd := gA.dr w nQ
 have zd := xd.size
 have c0 := (iQ o).cell (off := 0)
 simp only [lU, Lf] at c0
 simp (disch := omega) only [dQ, fE, cQ, stepR_skip, eD, eQ, eF, eX, eY, eP, fH, eK, dK, eJ, eT, fB, eA, eE, eI, eH, eC, fA, eU, eB, dR, eS, eL, dZ, gT, gQ, gM, gS, gO, gN, gU, gP, gR, dH, Result.ok.injEq, Next.value.injEq, true_and, and_true, dY, dX, eN, eZ, eM, fG, Lk, dS, dT, dV, dW, dN, dL, dO, dM, dI, cY, if_true, if_false, Lh, Ln, Li, Lj, Lm, Ll, Lg, Lf, cR, cM, cH, bY, cV, dJ, bU, bX, cS, cN, cO, dE, cL, dD, dG, dU, dB, cD, bH, bR, aU, aE, aH, dF, aL, cG, dA, cZ, bN, aK, bC, aZ, cP, aC, aX, aM, aV, cU, aW, cJ, bS, aF, aG, aJ, dP, aP, aN, bD, aQ, cC, aD, bZ, bT, bL, bB, aY, cX, aI, bE, aT, aS, aR, aA, dC, cK, bP, aO, cW, bW, bV, cF, bQ, bO, bK, cI, bF, cB, bA, bG, bM, bJ, cA, c0]
 refine (AJ (hr.ext xd (fun _ _ _ h => h))).mono ?_
 rintro r w1 ⟨rfl, hw1⟩
 rw [hw1]; clear hw1 w1
 have o := iQ o
 have hr := hr.ext xd (fun _ _ _ h => h)
 have hO1 := hO1.ext xd (fun _ _ h => h)
 obtain ⟨wd, hwd⟩ : ∃ x, x = dr w := ⟨_, rfl⟩
 rw [<- hwd] at o hr hO1 xd zd c0 ⊢
 simp (disch := omega) only [dQ, fE, cQ, stepR_skip, eD, eQ, eF, eX, eY, eP, fH, eK, dK, eJ, eT, fB, eA, eE, eI, eH, eC, fA, eU, eB, dR, eS, eL, dZ, gT, gQ, gM, gS, gO, gN, gU, gP, gR, dH, Result.ok.injEq, Next.value.injEq, true_and, and_true, dY, dX, eN, eZ, eM, fG, Lk, dS, dT, dV, dW, dN, dL, dO, dM, dI, cY, if_true, if_false, Lh, Ln, Li, Lj, Lm, Ll, Lg, Lf, cR, cM, cH, bY, cV, dJ, bU, bX, cS, cN, cO, dE, cL, dD, dG, dU, dB, cD, bH, bR, aU, aE, aH, dF, aL, cG, dA, cZ, bN, aK, bC, aZ, cP, aC, aX, aM, aV, cU, aW, cJ, bS, aF, aG, aJ, dP, aP, aN, bD, aQ, cC, aD, bZ, bT, bL, bB, aY, cX, aI, bE, aT, aS, aR, aA, dC, cK, bP, aO, cW, bW, bV, cF, bQ, bO, bK, cI, bF, cB, bA, bG, bM, bJ, cA, c0]
 refine (CE hr (by omega) (by omega)).mono ?_
 rintro rest w1 ⟨hb1, hat, hr1, x1⟩
 have ht : tE dm.l 0 dm.l.length = (dm.l, [], 0) := by
  unfold tE
  rw [if_neg (by decide), if_neg (by omega), LD (by omega), Mv (by omega)]
 rw [ht] at hb1 hr1
 have hb1 : Bs w1 rest dm.l := hb1
 clear hr1
 have o1 := o.ext x1 (fun e => q1 (e ▸ hpr))
 have oo1 : vV w1 (fun b => O b /\ b < w.heap.size) 1 vo dm.out.length (dm.out.map rE) := hO1.ext x1 fun b h e => (hO b h.1).2.2 (e ▸ hpr)
 have z1 := x1.size
 refine (Fb hb1 hl).mono ?_
 rintro r w2 ⟨rfl, x2⟩
 unfold F0 at hm
 have z2 := x2.size
 cases hf : Bi dm.l with
 | error e =>
   have he := G9 hf
   rw [hf] at hm
   cases hm
   have n1 : (e != 0) = true := by simp [he]
   unfold IM KE
   simp (disch := omega) only [dQ, fE, cQ, stepR_skip, eD, eQ, eF, eX, eY, eP, fH, eK, dK, eJ, eT, fB, eA, eE, eI, eH, eC, fA, eU, eB, dR, eS, eL, dZ, gT, gQ, gM, gS, gO, gN, gU, gP, gR, dH, Result.ok.injEq, Next.value.injEq, true_and, and_true, dY, dX, eN, eZ, eM, fG, Lk, dS, dT, dV, dW, dN, dL, dO, dM, dI, cY, if_true, if_false, Lh, Ln, Li, Lj, Lm, Ll, Lg, Lf, cR, cM, cH, bY, cV, dJ, bU, bX, cS, cN, cO, dE, cL, dD, dG, dU, dB, cD, bH, bR, aU, aE, aH, dF, aL, cG, dA, cZ, bN, aK, bC, aZ, cP, aC, aX, aM, aV, cU, aW, cJ, bS, aF, aG, aJ, dP, aP, aN, bD, aQ, cC, aD, bZ, bT, bL, bB, aY, cX, aI, bE, aT, aS, aR, aA, dC, cK, bP, aO, cW, bW, bV, cF, bQ, bO, bK, cI, bF, cB, bA, bG, bM, bJ, cA]
   refine pQ fun w3 o3 x3 s3 => ?_
   refine iR o3 rfl (by simp [one]) (by simp) fun w4 o4 x4 s4 => ?_
   simp (disch := omega) only [dQ, fE, cQ, stepR_skip, eD, eQ, eF, eX, eY, eP, fH, eK, dK, eJ, eT, fB, eA, eE, eI, eH, eC, fA, eU, eB, dR, eS, eL, dZ, gT, gQ, gM, gS, gO, gN, gU, gP, gR, dH, Result.ok.injEq, Next.value.injEq, true_and, and_true, dY, dX, eN, eZ, eM, fG, Lk, dS, dT, dV, dW, dN, dL, dO, dM, dI, cY, if_true, if_false, Lh, Ln, Li, Lj, Lm, Ll, Lg, Lf, cR, cM, cH, bY, cV, dJ, bU, bX, cS, cN, cO, dE, cL, dD, dG, dU, dB, cD, bH, bR, aU, aE, aH, dF, aL, cG, dA, cZ, bN, aK, bC, aZ, cP, aC, aX, aM, aV, cU, aW, cJ, bS, aF, aG, aJ, dP, aP, aN, bD, aQ, cC, aD, bZ, bT, bL, bB, aY, cX, aI, bE, aT, aS, aR, aA, dC, cK, bP, aO, cW, bW, bV, cF, bQ, bO, bK, cI, bF, cB, bA, bG, bM, bJ, cA, n1]
   rw [hRR]
   have x24 : gA w2 w4 nQ := x3.new x4 (by omega)
   exact ⟨he, rfl, (((xd.mono fun _ _ h => h.elim).seq (x1.mono fun y _ h => by omega)).seq ((x2.seq x24).mono fun _ _ h => h.elim))⟩
 | ok t =>
   obtain ⟨h, n⟩ := t
   have hok := Ih hf
   rw [hf] at hm
   have n1 : ((0 : Int) != 0) = false := rfl
   unfold IM KE
   simp (disch := omega) only [dQ, fE, cQ, stepR_skip, eD, eQ, eF, eX, eY, eP, fH, eK, dK, eJ, eT, fB, eA, eE, eI, eH, eC, fA, eU, eB, dR, eS, eL, dZ, gT, gQ, gM, gS, gO, gN, gU, gP, gR, dH, Result.ok.injEq, Next.value.injEq, true_and, and_true, dY, dX, eN, eZ, eM, fG, Lk, dS, dT, dV, dW, dN, dL, dO, dM, dI, cY, if_true, if_false, Lh, Ln, Li, Lj, Lm, Ll, Lg, Lf, cR, cM, cH, bY, cV, dJ, bU, bX, cS, cN, cO, dE, cL, dD, dG, dU, dB, cD, bH, bR, aU, aE, aH, dF, aL, cG, dA, cZ, bN, aK, bC, aZ, cP, aC, aX, aM, aV, cU, aW, cJ, bS, aF, aG, aJ, dP, aP, aN, bD, aQ, cC, aD, bZ, bT, bL, bB, aY, cX, aI, bE, aT, aS, aR, aA, dC, cK, bP, aO, cW, bW, bV, cF, bQ, bO, bK, cI, bF, cB, bA, bG, bM, bJ, cA]
   refine pQ fun w3 o3 x3 s3 => ?_
   obtain ⟨ph, hph⟩ : ∃ p, p = w2.heap.size := ⟨_, rfl⟩
   rw [<- hph] at o3 ⊢
   refine iR o3 rfl (by simp [one]) (by simp) fun w4 o4 x4 s4 => ?_
   simp only [gD, Ls, Lu] at o4
   have oh4 : iD w4 ph (yJ h) := o4
   have x24 : gA w2 w4 nQ := x3.new x4 (by omega)
   have x14 : gA w1 w4 nQ := x2.seq x24
   have hz3 := o4.lt
   obtain ⟨va, vc, hrest, hvc⟩ := hb1.len
   rw [Lq] at hrest hvc
   subst hrest
   have hb4 := hb1.ext x14 (jX _)
   have t0 : (n : Int).toNat = n := Lk _
   have hbd : Bs w4 (.slice (iC va vc n 1) (dm.l.length - n) (vc - n)) (dm.l.drop n) := by
    have := hb4.drop' (k := n) (by omega)
    rwa [<- Mx] at this
   simp (disch := omega) only [dQ, fE, cQ, stepR_skip, eD, eQ, eF, eX, eY, eP, fH, eK, dK, eJ, eT, fB, eA, eE, eI, eH, eC, fA, eU, eB, dR, eS, eL, dZ, gT, gQ, gM, gS, gO, gN, gU, gP, gR, dH, Result.ok.injEq, Next.value.injEq, true_and, and_true, dY, dX, eN, eZ, eM, fG, Lk, dS, dT, dV, dW, dN, dL, dO, dM, dI, cY, if_true, if_false, Lh, Ln, Li, Lj, Lm, Ll, Lg, Lf, cR, cM, cH, bY, cV, dJ, bU, bX, cS, cN, cO, dE, cL, dD, dG, dU, dB, cD, bH, bR, aU, aE, aH, dF, aL, cG, dA, cZ, bN, aK, bC, aZ, cP, aC, aX, aM, aV, cU, aW, cJ, bS, aF, aG, aJ, dP, aP, aN, bD, aQ, cC, aD, bZ, bT, bL, bB, aY, cX, aI, bE, aT, aS, aR, aA, dC, cK, bP, aO, cW, bW, bV, cF, bQ, bO, bK, cI, bF, cB, bA, bG, bM, bJ, cA, n1, t0]
   refine (sX hbd (by rw [Lv]; omega)).mono ?_
   rintro r w5 ⟨p5, rfl, hr5, x5⟩
   have z4 := x14.size
   have z5 := x5.size
   have o5 := (o1.ext x14 (fun h => h)).ext x5 (fun h => h)
   refine BE (off := 0) o5 rfl (by simp [lU]) fun w6 o6 x6 s6 => ?_
   simp only [lU, Ls] at o6
   have x46 : gA w4 w6 (fun y => y = p) := (x5.mono fun _ _ h => h.elim).seq x6
   have x06 : gA w w6 (fun y => base <= y) := ((((xd.mono fun _ _ h => h.elim).seq (x1.mono fun y _ h => by omega)).seq (x14.mono fun _ _ h => h.elim)).seq (x46.mono fun y _ h => by omega))
   have hphp : ph ≠ p := by omega
   have oh6 := oh4.ext x46 hphp
   have oo6 := (oo1.ext x14 fun _ _ h => h).ext x46 fun b h e => (hO b h.1).2.1 e
   have h5lo : w4.heap.size <= p5 /\ p5 < w5.heap.size := ⟨hr5.1, hr5.2.1⟩
   have hr6 := hr5.ext x6 (fun b h1 h2 h => by omega)
   have ch0 := oh6.cell (off := 0)
   have ch1 := oh6.cell (off := 1)
   have ch2 := oh6.cell (off := 2)
   have eh0 := (iQ oh6).cell (off := 0)
   have eh1 := (iQ oh6).cell (off := 1)
   have eh2 := (iQ oh6).cell (off := 2)
   simp only [yJ, Lf, Lg] at ch0 ch1 ch2 eh0 eh1 eh2
   have co1 := o6.cell (off := 1)
   have co2 := o6.cell (off := 2)
   have co3 := o6.cell (off := 3)
   have eo1 := (iQ o6).cell (off := 1)
   have eo2 := (iQ o6).cell (off := 2)
   have eo3 := (iQ o6).cell (off := 3)
   simp only [Lf, Lg] at co1 co2 co3 eo1 eo2 eo3
   obtain ⟨av, cv, hvo⟩ := oo6.len
   subst hvo
   have e9 : (dm.most : Int) - (dm.out.length : Int) = ((dm.most - dm.out.length : Nat) : Int) := by omega
   have w9 : IntKind.u64.wrap ((dm.most - dm.out.length : Nat) : Int) = ((dm.most - dm.out.length : Nat) : Int) := dX (by omega) (by omega)
   by_cases hbig : dm.win < h.window ∨ (h.known = true /\ dm.most - dm.out.length < h.size)
   .simp only [if_pos hbig] at hm
    cases hm
    have fin : RR (.int .i64 12) (dr w6) := by rw [hRR]; exact ⟨by decide, rfl, x06.seq (gA.dr w6 _)⟩
    by_cases hw : dm.win < h.window
    .have d1 : decide ((h.window : Int) > (dm.win : Int)) = true := decide_eq_true (by omega)
     have d2 : decide ((dm.win : Int) < (h.window : Int)) = true := decide_eq_true (by omega)
     have iu : jU undef true = false := rfl
     simp (disch := omega) only [dQ, fE, cQ, stepR_skip, eD, eQ, eF, eX, eY, eP, fH, eK, dK, eJ, eT, fB, eA, eE, eI, eH, eC, fA, eU, eB, dR, eS, eL, dZ, gT, gQ, gM, gS, gO, gN, gU, gP, gR, dH, Result.ok.injEq, Next.value.injEq, true_and, and_true, dY, dX, eN, eZ, eM, fG, Lk, dS, dT, dV, dW, dN, dL, dO, dM, dI, cY, if_true, if_false, Lh, Ln, Li, Lj, Lm, Ll, Lg, Lf, cR, cM, cH, bY, cV, dJ, bU, bX, cS, cN, cO, dE, cL, dD, dG, dU, dB, cD, bH, bR, aU, aE, aH, dF, aL, cG, dA, cZ, bN, aK, bC, aZ, cP, aC, aX, aM, aV, cU, aW, cJ, bS, aF, aG, aJ, dP, aP, aN, bD, aQ, cC, aD, bZ, bT, bL, bB, aY, cX, aI, bE, aT, aS, aR, aA, dC, cK, bP, aO, cW, bW, bV, cF, bQ, bO, bK, cI, bF, cB, bA, bG, bM, bJ, cA, ch0, ch1, ch2, eh0, eh1, eh2, co1, co2, co3, eo1, eo2, eo3, d1, d2, iu]
     exact fin
    .have hks := hbig.resolve_left hw
     have d1 : decide ((h.window : Int) > (dm.win : Int)) = false := decide_eq_false (by omega)
     have d2 : decide ((dm.win : Int) < (h.window : Int)) = false := decide_eq_false (by omega)
     have d3 : decide ((h.size : Int) > ((dm.most - dm.out.length : Nat) : Int)) = true := decide_eq_true (by omega)
     have d4 : decide (((dm.most - dm.out.length : Nat) : Int) < (h.size : Int)) = true := decide_eq_true (by omega)
     rw [hks.1] at ch2 eh2
     simp (disch := omega) only [dQ, fE, cQ, stepR_skip, eD, eQ, eF, eX, eY, eP, fH, eK, dK, eJ, eT, fB, eA, eE, eI, eH, eC, fA, eU, eB, dR, eS, eL, dZ, gT, gQ, gM, gS, gO, gN, gU, gP, gR, dH, Result.ok.injEq, Next.value.injEq, true_and, and_true, dY, dX, eN, eZ, eM, fG, Lk, dS, dT, dV, dW, dN, dL, dO, dM, dI, cY, if_true, if_false, Lh, Ln, Li, Lj, Lm, Ll, Lg, Lf, cR, cM, cH, bY, cV, dJ, bU, bX, cS, cN, cO, dE, cL, dD, dG, dU, dB, cD, bH, bR, aU, aE, aH, dF, aL, cG, dA, cZ, bN, aK, bC, aZ, cP, aC, aX, aM, aV, cU, aW, cJ, bS, aF, aG, aJ, dP, aP, aN, bD, aQ, cC, aD, bZ, bT, bL, bB, aY, cX, aI, bE, aT, aS, aR, aA, dC, cK, bP, aO, cW, bW, bV, cF, bQ, bO, bK, cI, bF, cB, bA, bG, bM, bJ, cA, ch0, ch1, ch2, eh0, eh1, eh2, co1, co2, co3, eo1, eo2, eo3, d1, d2, d3, d4, e9, w9]
     exact fin
   .simp only [if_neg hbig] at hm
    have hw : ¬ dm.win < h.window := fun h => hbig (.inl h)
    have d1 : decide ((h.window : Int) > (dm.win : Int)) = false := decide_eq_false (by omega)
    have d2 : decide ((dm.win : Int) < (h.window : Int)) = false := decide_eq_false (by omega)
    obtain ⟨mb, hmb⟩ : ∃ mb, AT h (dm.most - dm.out.length) (dm.l.length + 1) (dm.l.drop n) [] = some mb := by
     cases hd : AT h (dm.most - dm.out.length) (dm.l.length + 1) (dm.l.drop n) [] with
     | none => rw [hd] at hm; cases hm
     | some mb => exact ⟨mb, rfl⟩
    rw [hmb] at hm
    cases hm
    obtain ⟨K, hK⟩ : ∃ K : MA -> Prop, K = fun w => fI pg mK #[] w fun t64 w => dQ pg (hX 80 [(2, t64)]) w fun t65 w => dQ pg (oS 80) w fun EI w => dQ pg (fZ 80 EI t65) w fun _u w => jG RR (.pointer (some ⟨p, 0, none⟩)) (.pointer (some ⟨ph, 0, none⟩)) EI tY w := ⟨_, rfl⟩
    have main : K (dr w6) := by
     rw [hK]
     refine Jg.mono ?_
     rintro r w7 ⟨rfl, x7⟩
     simp (disch := omega) only [dQ, fE, cQ, stepR_skip, eD, eQ, eF, eX, eY, eP, fH, eK, dK, eJ, eT, fB, eA, eE, eI, eH, eC, fA, eU, eB, dR, eS, eL, dZ, gT, gQ, gM, gS, gO, gN, gU, gP, gR, dH, Result.ok.injEq, Next.value.injEq, true_and, and_true, dY, dX, eN, eZ, eM, fG, Lk, dS, dT, dV, dW, dN, dL, dO, dM, dI, cY, if_true, if_false, Lh, Ln, Li, Lj, Lm, Ll, Lg, Lf, cR, cM, cH, bY, cV, dJ, bU, bX, cS, cN, cO, dE, cL, dD, dG, dU, dB, cD, bH, bR, aU, aE, aH, dF, aL, cG, dA, cZ, bN, aK, bC, aZ, cP, aC, aX, aM, aV, cU, aW, cJ, bS, aF, aG, aJ, dP, aP, aN, bD, aQ, cC, aD, bZ, bT, bL, bB, aY, cX, aI, bE, aT, aS, aR, aA, dC, cK, bP, aO, cW, bW, bV, cF, bQ, bO, bK, cI, bF, cB, bA, bG, bM, bJ, cA]
     refine zZ fun w8 o8 x8 s8 => ?_
     obtain ⟨pq, hpq⟩ : ∃ q, q = w7.heap.size := ⟨_, rfl⟩
     rw [<- hpq] at o8 ⊢
     refine iI o8 rfl (by simp [one]) (by simp) fun w9 o9 x9 s9 => ?_
     simp only [gD, Ls, Lu] at o9
     have x69 : gA w6 w9 nQ := (((gA.dr w6 nQ).seq x7).seq x8).trans x9 fun y hy h => by
      have := (gA.dr w6 nQ).size
      have := x7.size
      omega
     have zz : w6.heap.size <= w7.heap.size := by
      have := (gA.dr w6 nQ).size
      have := x7.size
      omega
     have z6 := x6.size
     rw [hRR]
     have hz8 := o8.lt
     refine Hi (aB := w9.heap.size) (m := ⟨dm.l.drop n, dm.win, dm.most, dm.out, dm.fr, dm.sk⟩) ⟨rfl, rfl, rfl, rfl, rfl⟩ (x06.seq (x69.mono fun _ _ h => h.elim)) (o6.ext x69 (fun h => h)) (hr6.ext x69 fun _ _ _ h => h) (oo6.ext x69 fun _ _ h => h) hp (by omega) (fun b hb => ⟨(hO b hb.1).1, (hO b hb.1).2.1, by omega, by omega⟩) ⟨by omega, by omega, by omega, fun h => by omega⟩ (by omega) (by omega) (by omega) (by omega) (oh6.ext x69 (fun h => h)) o9 ?_ h1 (by simp) h3 hmost (by show (dm.l.drop n).length <= _; rw [Lv]; omega) hok.1 hmb
     exact ⟨rfl, .inl ⟨rfl, rfl⟩⟩
    rw [hK] at main
    unfold tY at main
    cases hkn : h.known with
    | false =>
      rw [hkn] at ch2 eh2
      simp (disch := omega) only [dQ, fE, cQ, stepR_skip, eD, eQ, eF, eX, eY, eP, fH, eK, dK, eJ, eT, fB, eA, eE, eI, eH, eC, fA, eU, eB, dR, eS, eL, dZ, gT, gQ, gM, gS, gO, gN, gU, gP, gR, dH, Result.ok.injEq, Next.value.injEq, true_and, and_true, dY, dX, eN, eZ, eM, fG, Lk, dS, dT, dV, dW, dN, dL, dO, dM, dI, cY, if_true, if_false, Lh, Ln, Li, Lj, Lm, Ll, Lg, Lf, cR, cM, cH, bY, cV, dJ, bU, bX, cS, cN, cO, dE, cL, dD, dG, dU, dB, cD, bH, bR, aU, aE, aH, dF, aL, cG, dA, cZ, bN, aK, bC, aZ, cP, aC, aX, aM, aV, cU, aW, cJ, bS, aF, aG, aJ, dP, aP, aN, bD, aQ, cC, aD, bZ, bT, bL, bB, aY, cX, aI, bE, aT, aS, aR, aA, dC, cK, bP, aO, cW, bW, bV, cF, bQ, bO, bK, cI, bF, cB, bA, bG, bM, bJ, cA, ch0, ch1, ch2, eh0, eh1, eh2, co1, co2, co3, eo1, eo2, eo3, d1, d2]
      exact main
    | true =>
      rw [hkn] at ch2 eh2
      have hns : ¬ dm.most - dm.out.length < h.size := fun h' => hbig (.inr ⟨hkn, h'⟩)
      have d3 : decide ((h.size : Int) > ((dm.most - dm.out.length : Nat) : Int)) = false := decide_eq_false (by omega)
      have d4 : decide (((dm.most - dm.out.length : Nat) : Int) < (h.size : Int)) = false := decide_eq_false (by omega)
      simp (disch := omega) only [dQ, fE, cQ, stepR_skip, eD, eQ, eF, eX, eY, eP, fH, eK, dK, eJ, eT, fB, eA, eE, eI, eH, eC, fA, eU, eB, dR, eS, eL, dZ, gT, gQ, gM, gS, gO, gN, gU, gP, gR, dH, Result.ok.injEq, Next.value.injEq, true_and, and_true, dY, dX, eN, eZ, eM, fG, Lk, dS, dT, dV, dW, dN, dL, dO, dM, dI, cY, if_true, if_false, Lh, Ln, Li, Lj, Lm, Ll, Lg, Lf, cR, cM, cH, bY, cV, dJ, bU, bX, cS, cN, cO, dE, cL, dD, dG, dU, dB, cD, bH, bR, aU, aE, aH, dF, aL, cG, dA, cZ, bN, aK, bC, aZ, cP, aC, aX, aM, aV, cU, aW, cJ, bS, aF, aG, aJ, dP, aP, aN, bD, aQ, cC, aD, bZ, bT, bL, bB, aY, cX, aI, bE, aT, aS, aR, aA, dC, cK, bP, aO, cW, bW, bV, cF, bQ, bO, bK, cI, bF, cB, bA, bG, bM, bJ, cA, ch0, ch1, ch2, eh0, eh1, eh2, co1, co2, co3, eo1, eo2, eo3, d1, d2, d3, d4, e9, w9]
      exact main
def Eb (l : List UInt8) : Except Int (List UInt8) := if l.length < 4 then .error 10 else if l.length - 4 < lB (l.take 4) then .error 10 else .ok (l.drop (4 + lB (l.take 4)))
def Kv (base p : Nat) (w : MA) (dm : DM) (r : MB) (w' : MA) : Except Int (List UInt8) -> Prop
 | .error e => e ≠ 0 /\ r = .int .i64 e /\ gA w w' (fun y => base <= y)
 | .ok l => r = .int .i64 0 /\ I9 w' base p ⟨l, dm.win, dm.most, dm.out, dm.fr, dm.sk + 1⟩ /\ gA w w' (fun y => base <= y)
theorem Ja {base p : Nat} {dm : DM} {w : MA} (hd : I9 w base p dm) (h3 : dm.sk <= 2000000) (hl : dm.l.length <= 1000000) :
 fI pg lE #[.pointer (some ⟨p, 0, none⟩)] w (fun r w' => Kv base p w dm r w' (Eb dm.l)) := by
 refine zG ?_
 unfold wB oH
 obtain ⟨pr, vo, lo, hi, O, o, hr, oo, hp, hlo, hO, q1, hhi⟩ := hd
 have hpr : lo <= pr /\ pr < hi := ⟨hr.1, hr.2.1⟩
 have c0 := o.cell (off := 0)
 simp only [lU, Lf] at c0
 simp (disch := omega) only [dQ, fE, cQ, stepR_skip, eD, eQ, eF, eX, eY, eP, fH, eK, dK, eJ, eT, fB, eA, eE, eI, eH, eC, fA, eU, eB, dR, eS, eL, dZ, gT, gQ, gM, gS, gO, gN, gU, gP, gR, dH, Result.ok.injEq, Next.value.injEq, true_and, and_true, dY, dX, eN, eZ, eM, fG, Lk, dS, dT, dV, dW, dN, dL, dO, dM, dI, cY, if_true, if_false, Lh, Ln, Li, Lj, Lm, Ll, Lg, Lf, cR, cM, cH, bY, cV, dJ, bU, bX, cS, cN, cO, dE, cL, dD, dG, dU, dB, cD, bH, bR, aU, aE, aH, dF, aL, cG, dA, cZ, bN, aK, bC, aZ, cP, aC, aX, aM, aV, cU, aW, cJ, bS, aF, aG, aJ, dP, aP, aN, bD, aQ, cC, aD, bZ, bT, bL, bB, aY, cX, aI, bE, aT, aS, aR, aA, dC, cK, bP, aO, cW, bW, bV, cF, bQ, bO, bK, cI, bF, cB, bA, bG, bM, bJ, cA, c0]
 refine (nX (n := 4) hr (by omega) ⟨by omega, by omega⟩).mono ?_
 rintro r w1 ⟨rfl, hr1, x1⟩
 have o1 := o.ext x1 (fun e => q1 (e ▸ hpr))
 have oo1 := oo.ext x1 fun b h e => (hO b h).2.2 (e ▸ hpr)
 have c1 := o1.cell (off := 0)
 simp only [lU, Lf] at c1
 simp (disch := omega) only [dQ, fE, cQ, stepR_skip, eD, eQ, eF, eX, eY, eP, fH, eK, dK, eJ, eT, fB, eA, eE, eI, eH, eC, fA, eU, eB, dR, eS, eL, dZ, gT, gQ, gM, gS, gO, gN, gU, gP, gR, dH, Result.ok.injEq, Next.value.injEq, true_and, and_true, dY, dX, eN, eZ, eM, fG, Lk, dS, dT, dV, dW, dN, dL, dO, dM, dI, cY, if_true, if_false, Lh, Ln, Li, Lj, Lm, Ll, Lg, Lf, cR, cM, cH, bY, cV, dJ, bU, bX, cS, cN, cO, dE, cL, dD, dG, dU, dB, cD, bH, bR, aU, aE, aH, dF, aL, cG, dA, cZ, bN, aK, bC, aZ, cP, aC, aX, aM, aV, cU, aW, cJ, bS, aF, aG, aJ, dP, aP, aN, bD, aQ, cC, aD, bZ, bT, bL, bB, aY, cX, aI, bE, aT, aS, aR, aA, dC, cK, bP, aO, cW, bW, bV, cF, bQ, bO, bK, cI, bF, cB, bA, bG, bM, bJ, cA, c1]
 refine (vN hr1).mono ?_
 rintro r w2 ⟨rfl, h2⟩
 rw [h2]; clear h2 w2
 unfold Eb
 by_cases h4 : dm.l.length < 4
 .have ht : tE dm.l 0 4 = ([], dm.l, 10) := by unfold tE; rw [if_neg (by decide), if_pos h4]
  rw [ht, if_pos h4]
  have n1 : ((10 : Int) != 0) = true := rfl
  simp (disch := omega) only [dQ, fE, cQ, stepR_skip, eD, eQ, eF, eX, eY, eP, fH, eK, dK, eJ, eT, fB, eA, eE, eI, eH, eC, fA, eU, eB, dR, eS, eL, dZ, gT, gQ, gM, gS, gO, gN, gU, gP, gR, dH, Result.ok.injEq, Next.value.injEq, true_and, and_true, dY, dX, eN, eZ, eM, fG, Lk, dS, dT, dV, dW, dN, dL, dO, dM, dI, cY, if_true, if_false, Lh, Ln, Li, Lj, Lm, Ll, Lg, Lf, cR, cM, cH, bY, cV, dJ, bU, bX, cS, cN, cO, dE, cL, dD, dG, dU, dB, cD, bH, bR, aU, aE, aH, dF, aL, cG, dA, cZ, bN, aK, bC, aZ, cP, aC, aX, aM, aV, cU, aW, cJ, bS, aF, aG, aJ, dP, aP, aN, bD, aQ, cC, aD, bZ, bT, bL, bB, aY, cX, aI, bE, aT, aS, aR, aA, dC, cK, bP, aO, cW, bW, bV, cF, bQ, bO, bK, cI, bF, cB, bA, bG, bM, bJ, cA, n1]
  exact ⟨by decide, rfl, x1.mono fun y _ h => by omega⟩
 have ht : tE dm.l 0 4 = (dm.l.take 4, dm.l.drop 4, 0) := by unfold tE; rw [if_neg (by decide), if_neg h4]
 rw [ht] at hr1 ⊢
 rw [if_neg h4]
 have hlt : lB (dm.l.take 4) < 2 ^ 32 := by
  have := vW (dm.l.take 4)
  rw [Lt, LW (by omega)] at this
  exact this
 obtain ⟨n, hn⟩ : ∃ n, n = lB (dm.l.take 4) := ⟨_, rfl⟩
 have en : lB (dm.l.take 4, dm.l.drop 4, (0 : Int)).1 = n := hn.symm
 rw [<- hn] at hlt ⊢
 have hr1 : zJ w1 lo hi pr (dm.l.drop 4) 0 := hr1
 have hl4 : (dm.l.drop 4).length = dm.l.length - 4 := Lv
 have n1 : ((0 : Int) != 0) = false := rfl
 have wl : IntKind.u64.wrap ((dm.l.drop 4).length : Int) = ((dm.l.drop 4).length : Int) := dX (by omega) (by omega)
 have wn : IntKind.i64.wrap (n : Int) = n := dY (by omega) (by omega)
 simp (disch := omega) only [dQ, fE, cQ, stepR_skip, eD, eQ, eF, eX, eY, eP, fH, eK, dK, eJ, eT, fB, eA, eE, eI, eH, eC, fA, eU, eB, dR, eS, eL, dZ, gT, gQ, gM, gS, gO, gN, gU, gP, gR, dH, Result.ok.injEq, Next.value.injEq, true_and, and_true, dY, dX, eN, eZ, eM, fG, Lk, dS, dT, dV, dW, dN, dL, dO, dM, dI, cY, if_true, if_false, Lh, Ln, Li, Lj, Lm, Ll, Lg, Lf, cR, cM, cH, bY, cV, dJ, bU, bX, cS, cN, cO, dE, cL, dD, dG, dU, dB, cD, bH, bR, aU, aE, aH, dF, aL, cG, dA, cZ, bN, aK, bC, aZ, cP, aC, aX, aM, aV, cU, aW, cJ, bS, aF, aG, aJ, dP, aP, aN, bD, aQ, cC, aD, bZ, bT, bL, bB, aY, cX, aI, bE, aT, aS, aR, aA, dC, cK, bP, aO, cW, bW, bV, cF, bQ, bO, bK, cI, bF, cB, bA, bG, bM, bJ, cA, n1, en, c1]
 refine (AJ hr1).mono ?_
 rintro r w2 ⟨rfl, h2⟩
 rw [h2]; clear h2 w2
 by_cases hs : dm.l.length - 4 < n
 .have d1 : decide ((n : Int) > ((dm.l.drop 4).length : Int)) = true := decide_eq_true (by omega)
  have d2 : decide (((dm.l.drop 4).length : Int) < (n : Int)) = true := decide_eq_true (by omega)
  rw [if_pos hs]
  simp (disch := omega) only [dQ, fE, cQ, stepR_skip, eD, eQ, eF, eX, eY, eP, fH, eK, dK, eJ, eT, fB, eA, eE, eI, eH, eC, fA, eU, eB, dR, eS, eL, dZ, gT, gQ, gM, gS, gO, gN, gU, gP, gR, dH, Result.ok.injEq, Next.value.injEq, true_and, and_true, dY, dX, eN, eZ, eM, fG, Lk, dS, dT, dV, dW, dN, dL, dO, dM, dI, cY, if_true, if_false, Lh, Ln, Li, Lj, Lm, Ll, Lg, Lf, cR, cM, cH, bY, cV, dJ, bU, bX, cS, cN, cO, dE, cL, dD, dG, dU, dB, cD, bH, bR, aU, aE, aH, dF, aL, cG, dA, cZ, bN, aK, bC, aZ, cP, aC, aX, aM, aV, cU, aW, cJ, bS, aF, aG, aJ, dP, aP, aN, bD, aQ, cC, aD, bZ, bT, bL, bB, aY, cX, aI, bE, aT, aS, aR, aA, dC, cK, bP, aO, cW, bW, bV, cF, bQ, bO, bK, cI, bF, cB, bA, bG, bM, bJ, cA, wl, d1, d2]
  exact ⟨by decide, rfl, x1.mono fun y _ h => by omega⟩
 have d1 : decide ((n : Int) > ((dm.l.drop 4).length : Int)) = false := decide_eq_false (by omega)
 have d2 : decide (((dm.l.drop 4).length : Int) < (n : Int)) = false := decide_eq_false (by omega)
 rw [if_neg hs]
 simp (disch := omega) only [dQ, fE, cQ, stepR_skip, eD, eQ, eF, eX, eY, eP, fH, eK, dK, eJ, eT, fB, eA, eE, eI, eH, eC, fA, eU, eB, dR, eS, eL, dZ, gT, gQ, gM, gS, gO, gN, gU, gP, gR, dH, Result.ok.injEq, Next.value.injEq, true_and, and_true, dY, dX, eN, eZ, eM, fG, Lk, dS, dT, dV, dW, dN, dL, dO, dM, dI, cY, if_true, if_false, Lh, Ln, Li, Lj, Lm, Ll, Lg, Lf, cR, cM, cH, bY, cV, dJ, bU, bX, cS, cN, cO, dE, cL, dD, dG, dU, dB, cD, bH, bR, aU, aE, aH, dF, aL, cG, dA, cZ, bN, aK, bC, aZ, cP, aC, aX, aM, aV, cU, aW, cJ, bS, aF, aG, aJ, dP, aP, aN, bD, aQ, cC, aD, bZ, bT, bL, bB, aY, cX, aI, bE, aT, aS, aR, aA, dC, cK, bP, aO, cW, bW, bV, cF, bQ, bO, bK, cI, bF, cB, bA, bG, bM, bJ, cA, wl, d1, d2, c1, wn]
 refine (CE hr1 (by omega) (by omega)).mono ?_
 rintro rest w3 ⟨hb3, hat, hr3, x3⟩
 have ht3 : tE (dm.l.drop 4) 0 n = ((dm.l.drop 4).take n, dm.l.drop (4 + n), 0) := by unfold tE; rw [if_neg (by decide), if_neg (by omega), List.drop_drop]
 rw [ht3] at hr3
 have hr3 : zJ w3 lo hi pr (dm.l.drop (4 + n)) 0 := hr3
 have o3 := o1.ext x3 (fun e => q1 (e ▸ hpr))
 have oo3 := oo1.ext x3 fun b h e => (hO b h).2.2 (e ▸ hpr)
 have c5 := o3.cell (off := 5)
 simp only [lU, Lf, Lg] at c5
 have e5 : (dm.sk : Int) + 1 = ((dm.sk + 1 : Nat) : Int) := by omega
 have w5 : IntKind.i64.wrap ((dm.sk + 1 : Nat) : Int) = ((dm.sk + 1 : Nat) : Int) := dY (by omega) (by omega)
 simp (disch := omega) only [dQ, fE, cQ, stepR_skip, eD, eQ, eF, eX, eY, eP, fH, eK, dK, eJ, eT, fB, eA, eE, eI, eH, eC, fA, eU, eB, dR, eS, eL, dZ, gT, gQ, gM, gS, gO, gN, gU, gP, gR, dH, Result.ok.injEq, Next.value.injEq, true_and, and_true, dY, dX, eN, eZ, eM, fG, Lk, dS, dT, dV, dW, dN, dL, dO, dM, dI, cY, if_true, if_false, Lh, Ln, Li, Lj, Lm, Ll, Lg, Lf, cR, cM, cH, bY, cV, dJ, bU, bX, cS, cN, cO, dE, cL, dD, dG, dU, dB, cD, bH, bR, aU, aE, aH, dF, aL, cG, dA, cZ, bN, aK, bC, aZ, cP, aC, aX, aM, aV, cU, aW, cJ, bS, aF, aG, aJ, dP, aP, aN, bD, aQ, cC, aD, bZ, bT, bL, bB, aY, cX, aI, bE, aT, aS, aR, aA, dC, cK, bP, aO, cW, bW, bV, cF, bQ, bO, bK, cI, bF, cB, bA, bG, bM, bJ, cA, c5, e5, w5]
 refine EP (off := 5) o3 rfl (by simp [lU]) fun w6 o6 x6 s6 => ?_
 simp only [lU, Ls, Lu] at o6
 have z1 := x1.size
 have z3 := x3.size
 have z6 := x6.size
 refine ⟨rfl, ⟨pr, vo, lo, hi, O, o6, hr3.ext x6 (fun b h1 h2 h => q1 (h ▸ ⟨h1, h2⟩)), oo3.ext x6 (fun b h e => (hO b h).2.1 e), hp, hlo, hO, q1, by omega⟩, ((x1.mono fun y _ h => by omega).seq (x3.mono fun y _ h => by omega)).seq (x6.mono fun y _ h => by omega)⟩
def AW (win most : Nat) : Nat -> List UInt8 -> List UInt8 -> Nat -> Nat -> Option (Except Int (List UInt8 × Nat × Nat))
 | 0, _, _, _, _ => none
 | f + 1, l, out, fr, sk => if l.length = 0 then some (.ok (out, fr, sk)) else if l.length < 4 then some (.error 10)
   else if lB (l.take 4) = 4247762216 then (match F0 (l.drop 4) win (most - out.length) with | none => none | some (.error e) => some (.error e) | some (.ok (a, l')) => AW win most f l' (out ++ a) (fr + 1) sk)
   else if 407710288 <= lB (l.take 4) /\ lB (l.take 4) < 407710304 then (match Eb (l.drop 4) with | .error e => some (.error e) | .ok l' => AW win most f l' out fr (sk + 1))
   else some (.error 11)
theorem Fe {h : FH} {room : Nat} : ∀ {f : Nat} {l all a l' : List UInt8}, AT h room f l all = some (.ok (a, l')) -> a.length <= room /\ l'.length <= l.length
 | 0, _, _, _, _, hh => by cases hh
 | f + 1, l, all, a, l', hh => by
   rw [AT] at hh
   cases hd : D8 l all h.window room with
   | none => rw [hd] at hh; cases hh
   | some m =>
     rw [hd] at hh
     cases m with
     | error e => cases hh
     | ok t =>
       obtain ⟨a1, l1, b⟩ := t
       have h1 := GV hd
       simp only at hh
       split at hh
       .cases hh
       .split at hh
        .cases hh; exact h1
        .have := Fe hh
         exact ⟨this.1, by omega⟩
theorem IS {l a l' : List UInt8} {win room : Nat} (hh : F0 l win room = some (.ok (a, l'))) : a.length <= room /\ l'.length <= l.length := by
 unfold F0 at hh
 cases hf : Bi l with
 | error e => rw [hf] at hh; cases hh
 | ok t =>
   obtain ⟨h, n⟩ := t
   rw [hf] at hh
   simp only at hh
   split at hh
   .cases hh
   .cases hb : AT h room (l.length + 1) (l.drop n) [] with
    | none => rw [hb] at hh; cases hh
    | some mm =>
      rw [hb] at hh
      cases mm with
      | error e => cases hh
      | ok t =>
        obtain ⟨a1, l1⟩ := t
        have h1 := Fe hb
        rw [Lv] at h1
        have hh : Cd h l1 a1 = .ok (a, l') := by injection hh
        unfold Cd Hq at hh
        repeat' split at hh
        all_goals first | cases hh | skip
        all_goals rename_i hq
        all_goals first | (repeat' split at hq) | skip
        all_goals first | cases hq | skip
        all_goals (try rw [Lv])
        all_goals omega
def JD (base p : Nat) (w : MA) (win most : Nat) (r : MB) (w' : MA) : Except Int (List UInt8 × Nat × Nat) -> Prop
 | .error e => e ≠ 0 /\ r = .tuple #[.pointer none, .int .i64 e] /\ gA w w' (fun y => base <= y)
 | .ok (out, fr, sk) => r = .tuple #[.pointer (some ⟨p, 0, none⟩), .int .i64 0] /\ (∃ l, I9 w' base p ⟨l, win, most, out, fr, sk⟩) /\ gA w w' (fun y => base <= y)
theorem IN {RR : MB -> MA -> Prop} {base p win most f : Nat} {l : List UInt8} {w0 w : MA} {mm : Except Int (List UInt8 × Nat × Nat)} (hx : gA w0 w (fun y => base <= y)) (hd : I9 w base p ⟨l, win, most, [], 0, 0⟩) (hf : f <= 2000000) (hl : l.length <= 1000000) (hmost : most <= 2000000) (hm : AW win most f l [] 0 0 = some mm) (hR : ∀ r w', JD base p w0 win most r w' mm -> RR r w') :
 qS RR (.pointer (some ⟨p, 0, none⟩)) w := by
 unfold qS xS xI
 refine iW.rule (fun f (t : Unit) w1 => ∃ l out fr sk, AW win most f l out fr sk = some mm /\ I9 w1 base p ⟨l, win, most, out, fr, sk⟩ /\ gA w0 w1 (fun y => base <= y) /\ out.length <= most /\ fr + f <= 2000000 /\ sk + f <= 2000000 /\ l.length <= 1000000) f
  ⟨l, [], 0, 0, hm, hd, hx, by simp, by omega, by omega, hl⟩ ?_
 clear hm hd hx hl hf l w
 rintro f t w ⟨l, out, fr, sk, hm, hd, hx, hout, hfr, hsk, hl⟩
 cases f with
 | zero => cases hm
 | succ f =>
   rw [AW] at hm
   unfold sN wD
   have hd0 := hd
   obtain ⟨pr, vo, lo, hi, O, o, hr, oo, hp, hlo, hO, q1, hhi⟩ := hd
   have hpr : lo <= pr /\ pr < hi := ⟨hr.1, hr.2.1⟩
   have c0 := o.cell (off := 0)
   simp only [lU, Lf] at c0
   simp (disch := omega) only [dQ, fE, cQ, stepR_skip, eD, eQ, eF, eX, eY, eP, fH, eK, dK, eJ, eT, fB, eA, eE, eI, eH, eC, fA, eU, eB, dR, eS, eL, dZ, gT, gQ, gM, gS, gO, gN, gU, gP, gR, dH, Result.ok.injEq, Next.value.injEq, true_and, and_true, dY, dX, eN, eZ, eM, fG, Lk, dS, dT, dV, dW, dN, dL, dO, dM, dI, cY, if_true, if_false, Lh, Ln, Li, Lj, Lm, Ll, Lg, Lf, cR, cM, cH, bY, cV, dJ, bU, bX, cS, cN, cO, dE, cL, dD, dG, dU, dB, cD, bH, bR, aU, aE, aH, dF, aL, cG, dA, cZ, bN, aK, bC, aZ, cP, aC, aX, aM, aV, cU, aW, cJ, bS, aF, aG, aJ, dP, aP, aN, bD, aQ, cC, aD, bZ, bT, bL, bB, aY, cX, aI, bE, aT, aS, aR, aA, dC, cK, bP, aO, cW, bW, bV, cF, bQ, bO, bK, cI, bF, cB, bA, bG, bM, bJ, cA, c0]
   refine (AJ hr).mono ?_
   rintro r w1 ⟨rfl, h2⟩
   rw [h2]; clear h2 w1
   by_cases h0 : l.length = 0
   .rw [if_pos h0] at hm
    cases hm
    have d1 : decide ((l.length : Int) > 0) = false := decide_eq_false (by omega)
    have d2 : decide ((0 : Int) < (l.length : Int)) = false := decide_eq_false (by omega)
    simp (disch := omega) only [dQ, fE, cQ, stepR_skip, eD, eQ, eF, eX, eY, eP, fH, eK, dK, eJ, eT, fB, eA, eE, eI, eH, eC, fA, eU, eB, dR, eS, eL, dZ, gT, gQ, gM, gS, gO, gN, gU, gP, gR, dH, Result.ok.injEq, Next.value.injEq, true_and, and_true, dY, dX, eN, eZ, eM, fG, Lk, dS, dT, dV, dW, dN, dL, dO, dM, dI, cY, if_true, if_false, Lh, Ln, Li, Lj, Lm, Ll, Lg, Lf, cR, cM, cH, bY, cV, dJ, bU, bX, cS, cN, cO, dE, cL, dD, dG, dU, dB, cD, bH, bR, aU, aE, aH, dF, aL, cG, dA, cZ, bN, aK, bC, aZ, cP, aC, aX, aM, aV, cU, aW, cJ, bS, aF, aG, aJ, dP, aP, aN, bD, aQ, cC, aD, bZ, bT, bL, bB, aY, cX, aI, bE, aT, aS, aR, aA, dC, cK, bP, aO, cW, bW, bV, cF, bQ, bO, bK, cI, bF, cB, bA, bG, bM, bJ, cA, d1, d2]
    unfold sK
    refine hR _ _ ?_
    exact ⟨rfl, ⟨l, hd0⟩, hx⟩
   rw [if_neg h0] at hm
   have d1 : decide ((l.length : Int) > 0) = true := decide_eq_true (by omega)
   have d2 : decide ((0 : Int) < (l.length : Int)) = true := decide_eq_true (by omega)
   simp (disch := omega) only [dQ, fE, cQ, stepR_skip, eD, eQ, eF, eX, eY, eP, fH, eK, dK, eJ, eT, fB, eA, eE, eI, eH, eC, fA, eU, eB, dR, eS, eL, dZ, gT, gQ, gM, gS, gO, gN, gU, gP, gR, dH, Result.ok.injEq, Next.value.injEq, true_and, and_true, dY, dX, eN, eZ, eM, fG, Lk, dS, dT, dV, dW, dN, dL, dO, dM, dI, cY, if_true, if_false, Lh, Ln, Li, Lj, Lm, Ll, Lg, Lf, cR, cM, cH, bY, cV, dJ, bU, bX, cS, cN, cO, dE, cL, dD, dG, dU, dB, cD, bH, bR, aU, aE, aH, dF, aL, cG, dA, cZ, bN, aK, bC, aZ, cP, aC, aX, aM, aV, cU, aW, cJ, bS, aF, aG, aJ, dP, aP, aN, bD, aQ, cC, aD, bZ, bT, bL, bB, aY, cX, aI, bE, aT, aS, aR, aA, dC, cK, bP, aO, cW, bW, bV, cF, bQ, bO, bK, cI, bF, cB, bA, bG, bM, bJ, cA, d1, d2]
   unfold xB Bg wI
   simp (disch := omega) only [dQ, fE, cQ, stepR_skip, eD, eQ, eF, eX, eY, eP, fH, eK, dK, eJ, eT, fB, eA, eE, eI, eH, eC, fA, eU, eB, dR, eS, eL, dZ, gT, gQ, gM, gS, gO, gN, gU, gP, gR, dH, Result.ok.injEq, Next.value.injEq, true_and, and_true, dY, dX, eN, eZ, eM, fG, Lk, dS, dT, dV, dW, dN, dL, dO, dM, dI, cY, if_true, if_false, Lh, Ln, Li, Lj, Lm, Ll, Lg, Lf, cR, cM, cH, bY, cV, dJ, bU, bX, cS, cN, cO, dE, cL, dD, dG, dU, dB, cD, bH, bR, aU, aE, aH, dF, aL, cG, dA, cZ, bN, aK, bC, aZ, cP, aC, aX, aM, aV, cU, aW, cJ, bS, aF, aG, aJ, dP, aP, aN, bD, aQ, cC, aD, bZ, bT, bL, bB, aY, cX, aI, bE, aT, aS, aR, aA, dC, cK, bP, aO, cW, bW, bV, cF, bQ, bO, bK, cI, bF, cB, bA, bG, bM, bJ, cA, c0]
   refine (nX (n := 4) hr (by show l.length <= _; omega) ⟨by omega, by omega⟩).mono ?_
   rintro r w1 ⟨rfl, hr1, x1⟩
   have o1 := o.ext x1 (fun e => q1 (e ▸ hpr))
   have oo1 := oo.ext x1 fun b h e => (hO b h).2.2 (e ▸ hpr)
   have z1 := x1.size
   have hx1 : gA w0 w1 (fun y => base <= y) := hx.seq (x1.mono fun y _ h => by omega)
   have c1 := o1.cell (off := 0)
   simp only [lU, Lf] at c1
   simp (disch := omega) only [dQ, fE, cQ, stepR_skip, eD, eQ, eF, eX, eY, eP, fH, eK, dK, eJ, eT, fB, eA, eE, eI, eH, eC, fA, eU, eB, dR, eS, eL, dZ, gT, gQ, gM, gS, gO, gN, gU, gP, gR, dH, Result.ok.injEq, Next.value.injEq, true_and, and_true, dY, dX, eN, eZ, eM, fG, Lk, dS, dT, dV, dW, dN, dL, dO, dM, dI, cY, if_true, if_false, Lh, Ln, Li, Lj, Lm, Ll, Lg, Lf, cR, cM, cH, bY, cV, dJ, bU, bX, cS, cN, cO, dE, cL, dD, dG, dU, dB, cD, bH, bR, aU, aE, aH, dF, aL, cG, dA, cZ, bN, aK, bC, aZ, cP, aC, aX, aM, aV, cU, aW, cJ, bS, aF, aG, aJ, dP, aP, aN, bD, aQ, cC, aD, bZ, bT, bL, bB, aY, cX, aI, bE, aT, aS, aR, aA, dC, cK, bP, aO, cW, bW, bV, cF, bQ, bO, bK, cI, bF, cB, bA, bG, bM, bJ, cA, c1]
   refine (vN hr1).mono ?_
   rintro r w2 ⟨rfl, h2⟩
   rw [h2]; clear h2 w2
   by_cases h4 : l.length < 4
   .have ht : tE l 0 4 = ([], l, 10) := by unfold tE; rw [if_neg (by decide), if_pos h4]
    rw [if_pos h4] at hm
    cases hm
    have hr1 : zJ w1 lo hi pr (tE l 0 4).2.1 (tE l 0 4).2.2 := hr1
    have hl' : (DM.mk l win most out fr sk).l = l := rfl
    rw [hl', ht]
    rw [ht] at hr1
    have n1 : ((10 : Int) != 0) = true := rfl
    simp (disch := omega) only [dQ, fE, cQ, stepR_skip, eD, eQ, eF, eX, eY, eP, fH, eK, dK, eJ, eT, fB, eA, eE, eI, eH, eC, fA, eU, eB, dR, eS, eL, dZ, gT, gQ, gM, gS, gO, gN, gU, gP, gR, dH, Result.ok.injEq, Next.value.injEq, true_and, and_true, dY, dX, eN, eZ, eM, fG, Lk, dS, dT, dV, dW, dN, dL, dO, dM, dI, cY, if_true, if_false, Lh, Ln, Li, Lj, Lm, Ll, Lg, Lf, cR, cM, cH, bY, cV, dJ, bU, bX, cS, cN, cO, dE, cL, dD, dG, dU, dB, cD, bH, bR, aU, aE, aH, dF, aL, cG, dA, cZ, bN, aK, bC, aZ, cP, aC, aX, aM, aV, cU, aW, cJ, bS, aF, aG, aJ, dP, aP, aN, bD, aQ, cC, aD, bZ, bT, bL, bB, aY, cX, aI, bE, aT, aS, aR, aA, dC, cK, bP, aO, cW, bW, bV, cF, bQ, bO, bK, cI, bF, cB, bA, bG, bM, bJ, cA, n1, c1]
    refine (vN hr1).mono ?_
    rintro r w2 ⟨rfl, h2⟩
    rw [h2]; clear h2 w2
    refine hR _ _ ?_
    exact ⟨by decide, rfl, hx1⟩
   rw [if_neg h4] at hm
   have ht : tE l 0 4 = (l.take 4, l.drop 4, 0) := by unfold tE; rw [if_neg (by decide), if_neg h4]
   have hr1 : zJ w1 lo hi pr (tE l 0 4).2.1 (tE l 0 4).2.2 := hr1
   have hl' : (DM.mk l win most out fr sk).l = l := rfl
   rw [hl', ht]
   rw [ht] at hr1
   have hr1 : zJ w1 lo hi pr (l.drop 4) 0 := hr1
   have hd1 : I9 w1 base p ⟨l.drop 4, win, most, out, fr, sk⟩ := ⟨pr, vo, lo, hi, O, o1, hr1, oo1, hp, hlo, hO, q1, by omega⟩
   have hl4 : (l.drop 4).length = l.length - 4 := Lv
   obtain ⟨n, hn⟩ : ∃ n, n = lB (l.take 4) := ⟨_, rfl⟩
   have en : lB (l.take 4, l.drop 4, (0 : Int)).1 = n := hn.symm
   rw [<- hn] at hm
   have n0 : ((0 : Int) != 0) = false := rfl
   by_cases hmg : n = 4247762216
   .have g1 : ((n : Int) == 4247762216) = true := by rw [hmg] <;> rfl
    rw [if_pos hmg] at hm
    obtain ⟨mb, hmb⟩ : ∃ mb, F0 (l.drop 4) win (most - out.length) = some mb := by
     cases hd : F0 (l.drop 4) win (most - out.length) with
     | none => rw [hd] at hm; cases hm
     | some mb => exact ⟨mb, rfl⟩
    rw [hmb] at hm
    simp (disch := omega) only [dQ, fE, cQ, stepR_skip, eD, eQ, eF, eX, eY, eP, fH, eK, dK, eJ, eT, fB, eA, eE, eI, eH, eC, fA, eU, eB, dR, eS, eL, dZ, gT, gQ, gM, gS, gO, gN, gU, gP, gR, dH, Result.ok.injEq, Next.value.injEq, true_and, and_true, dY, dX, eN, eZ, eM, fG, Lk, dS, dT, dV, dW, dN, dL, dO, dM, dI, cY, if_true, if_false, Lh, Ln, Li, Lj, Lm, Ll, Lg, Lf, cR, cM, cH, bY, cV, dJ, bU, bX, cS, cN, cO, dE, cL, dD, dG, dU, dB, cD, bH, bR, aU, aE, aH, dF, aL, cG, dA, cZ, bN, aK, bC, aZ, cP, aC, aX, aM, aV, cU, aW, cJ, bS, aF, aG, aJ, dP, aP, aN, bD, aQ, cC, aD, bZ, bT, bL, bB, aY, cX, aI, bE, aT, aS, aR, aA, dC, cK, bP, aO, cW, bW, bV, cF, bQ, bO, bK, cI, bF, cB, bA, bG, bM, bJ, cA, en, n0, g1]
    refine (HS hd1 hout (show fr <= 2000000 by omega) hmost (by show (l.drop 4).length <= _; omega) hmb).mono ?_
    intro r w2 hq
    unfold mN
    cases mb with
    | error e =>
      obtain ⟨he, rfl, x2⟩ := hq
      cases hm
      have n1 : (e != 0) = true := by simp [he]
      simp (disch := omega) only [dQ, fE, cQ, stepR_skip, eD, eQ, eF, eX, eY, eP, fH, eK, dK, eJ, eT, fB, eA, eE, eI, eH, eC, fA, eU, eB, dR, eS, eL, dZ, gT, gQ, gM, gS, gO, gN, gU, gP, gR, dH, Result.ok.injEq, Next.value.injEq, true_and, and_true, dY, dX, eN, eZ, eM, fG, Lk, dS, dT, dV, dW, dN, dL, dO, dM, dI, cY, if_true, if_false, Lh, Ln, Li, Lj, Lm, Ll, Lg, Lf, cR, cM, cH, bY, cV, dJ, bU, bX, cS, cN, cO, dE, cL, dD, dG, dU, dB, cD, bH, bR, aU, aE, aH, dF, aL, cG, dA, cZ, bN, aK, bC, aZ, cP, aC, aX, aM, aV, cU, aW, cJ, bS, aF, aG, aJ, dP, aP, aN, bD, aQ, cC, aD, bZ, bT, bL, bB, aY, cX, aI, bE, aT, aS, aR, aA, dC, cK, bP, aO, cW, bW, bV, cF, bQ, bO, bK, cI, bF, cB, bA, bG, bM, bJ, cA, n1]
      refine hR _ _ ?_
      exact ⟨he, rfl, hx1.seq x2⟩
    | ok t =>
      obtain ⟨a, l'⟩ := t
      obtain ⟨rfl, hd2, x2⟩ := hq
      have hok := IS hmb
      simp (disch := omega) only [dQ, fE, cQ, stepR_skip, eD, eQ, eF, eX, eY, eP, fH, eK, dK, eJ, eT, fB, eA, eE, eI, eH, eC, fA, eU, eB, dR, eS, eL, dZ, gT, gQ, gM, gS, gO, gN, gU, gP, gR, dH, Result.ok.injEq, Next.value.injEq, true_and, and_true, dY, dX, eN, eZ, eM, fG, Lk, dS, dT, dV, dW, dN, dL, dO, dM, dI, cY, if_true, if_false, Lh, Ln, Li, Lj, Lm, Ll, Lg, Lf, cR, cM, cH, bY, cV, dJ, bU, bX, cS, cN, cO, dE, cL, dD, dG, dU, dB, cD, bH, bR, aU, aE, aH, dF, aL, cG, dA, cZ, bN, aK, bC, aZ, cP, aC, aX, aM, aV, cU, aW, cJ, bS, aF, aG, aJ, dP, aP, aN, bD, aQ, cC, aD, bZ, bT, bL, bB, aY, cX, aI, bE, aT, aS, aR, aA, dC, cK, bP, aO, cW, bW, bV, cF, bQ, bO, bK, cI, bF, cB, bA, bG, bM, bJ, cA, n0]
      exact ⟨f, by omega, l', out ++ a, fr + 1, sk, hm, hd2, hx1.seq x2, by rw [Lw]; omega, by omega, by omega, by omega⟩
   have g1 : ((n : Int) == 4247762216) = false := by simp; omega
   rw [if_neg hmg] at hm
   by_cases hs : 407710288 <= n /\ n < 407710304
   .have g2 : decide ((n : Int) ≥ 407710288) = true := decide_eq_true (by omega)
    have g3 : decide ((407710288 : Int) <= (n : Int)) = true := decide_eq_true (by omega)
    have g4 : decide ((n : Int) < 407710304) = true := decide_eq_true (by omega)
    rw [if_pos hs] at hm
    simp (disch := omega) only [dQ, fE, cQ, stepR_skip, eD, eQ, eF, eX, eY, eP, fH, eK, dK, eJ, eT, fB, eA, eE, eI, eH, eC, fA, eU, eB, dR, eS, eL, dZ, gT, gQ, gM, gS, gO, gN, gU, gP, gR, dH, Result.ok.injEq, Next.value.injEq, true_and, and_true, dY, dX, eN, eZ, eM, fG, Lk, dS, dT, dV, dW, dN, dL, dO, dM, dI, cY, if_true, if_false, Lh, Ln, Li, Lj, Lm, Ll, Lg, Lf, cR, cM, cH, bY, cV, dJ, bU, bX, cS, cN, cO, dE, cL, dD, dG, dU, dB, cD, bH, bR, aU, aE, aH, dF, aL, cG, dA, cZ, bN, aK, bC, aZ, cP, aC, aX, aM, aV, cU, aW, cJ, bS, aF, aG, aJ, dP, aP, aN, bD, aQ, cC, aD, bZ, bT, bL, bB, aY, cX, aI, bE, aT, aS, aR, aA, dC, cK, bP, aO, cW, bW, bV, cF, bQ, bO, bK, cI, bF, cB, bA, bG, bM, bJ, cA, en, n0, g1, g2, g3, g4]
    refine (Ja hd1 (show sk <= 2000000 by omega) (by show (l.drop 4).length <= _; omega)).mono ?_
    intro r w2 hq
    unfold mN
    have hq : Kv base p w1 ⟨l.drop 4, win, most, out, fr, sk⟩ r w2 (Eb (l.drop 4)) := hq
    cases hk : Eb (l.drop 4) with
    | error e =>
      rw [hk] at hq hm
      obtain ⟨he, rfl, x2⟩ := hq
      cases hm
      have n1 : (e != 0) = true := by simp [he]
      simp (disch := omega) only [dQ, fE, cQ, stepR_skip, eD, eQ, eF, eX, eY, eP, fH, eK, dK, eJ, eT, fB, eA, eE, eI, eH, eC, fA, eU, eB, dR, eS, eL, dZ, gT, gQ, gM, gS, gO, gN, gU, gP, gR, dH, Result.ok.injEq, Next.value.injEq, true_and, and_true, dY, dX, eN, eZ, eM, fG, Lk, dS, dT, dV, dW, dN, dL, dO, dM, dI, cY, if_true, if_false, Lh, Ln, Li, Lj, Lm, Ll, Lg, Lf, cR, cM, cH, bY, cV, dJ, bU, bX, cS, cN, cO, dE, cL, dD, dG, dU, dB, cD, bH, bR, aU, aE, aH, dF, aL, cG, dA, cZ, bN, aK, bC, aZ, cP, aC, aX, aM, aV, cU, aW, cJ, bS, aF, aG, aJ, dP, aP, aN, bD, aQ, cC, aD, bZ, bT, bL, bB, aY, cX, aI, bE, aT, aS, aR, aA, dC, cK, bP, aO, cW, bW, bV, cF, bQ, bO, bK, cI, bF, cB, bA, bG, bM, bJ, cA, n1]
      refine hR _ _ ?_
      exact ⟨he, rfl, hx1.seq x2⟩
    | ok l' =>
      rw [hk] at hq hm
      obtain ⟨rfl, hd2, x2⟩ := hq
      have hle : l'.length <= (l.drop 4).length := by
       unfold Eb at hk
       repeat' split at hk
       all_goals first | cases hk | skip
       rw [Lv]
       omega
      simp (disch := omega) only [dQ, fE, cQ, stepR_skip, eD, eQ, eF, eX, eY, eP, fH, eK, dK, eJ, eT, fB, eA, eE, eI, eH, eC, fA, eU, eB, dR, eS, eL, dZ, gT, gQ, gM, gS, gO, gN, gU, gP, gR, dH, Result.ok.injEq, Next.value.injEq, true_and, and_true, dY, dX, eN, eZ, eM, fG, Lk, dS, dT, dV, dW, dN, dL, dO, dM, dI, cY, if_true, if_false, Lh, Ln, Li, Lj, Lm, Ll, Lg, Lf, cR, cM, cH, bY, cV, dJ, bU, bX, cS, cN, cO, dE, cL, dD, dG, dU, dB, cD, bH, bR, aU, aE, aH, dF, aL, cG, dA, cZ, bN, aK, bC, aZ, cP, aC, aX, aM, aV, cU, aW, cJ, bS, aF, aG, aJ, dP, aP, aN, bD, aQ, cC, aD, bZ, bT, bL, bB, aY, cX, aI, bE, aT, aS, aR, aA, dC, cK, bP, aO, cW, bW, bV, cF, bQ, bO, bK, cI, bF, cB, bA, bG, bM, bJ, cA, n0]
      exact ⟨f, by omega, l', out, fr, sk + 1, hm, hd2, hx1.seq x2, hout, by omega, by omega, by omega⟩
   .rw [if_neg hs] at hm
    cases hm
    have n1 : ((11 : Int) != 0) = true := rfl
    unfold mN
    by_cases h1 : 407710288 <= n
    .have g2 : decide ((n : Int) ≥ 407710288) = true := decide_eq_true (by omega)
     have g3 : decide ((407710288 : Int) <= (n : Int)) = true := decide_eq_true (by omega)
     have g4 : decide ((n : Int) < 407710304) = false := decide_eq_false (by omega)
     simp (disch := omega) only [dQ, fE, cQ, stepR_skip, eD, eQ, eF, eX, eY, eP, fH, eK, dK, eJ, eT, fB, eA, eE, eI, eH, eC, fA, eU, eB, dR, eS, eL, dZ, gT, gQ, gM, gS, gO, gN, gU, gP, gR, dH, Result.ok.injEq, Next.value.injEq, true_and, and_true, dY, dX, eN, eZ, eM, fG, Lk, dS, dT, dV, dW, dN, dL, dO, dM, dI, cY, if_true, if_false, Lh, Ln, Li, Lj, Lm, Ll, Lg, Lf, cR, cM, cH, bY, cV, dJ, bU, bX, cS, cN, cO, dE, cL, dD, dG, dU, dB, cD, bH, bR, aU, aE, aH, dF, aL, cG, dA, cZ, bN, aK, bC, aZ, cP, aC, aX, aM, aV, cU, aW, cJ, bS, aF, aG, aJ, dP, aP, aN, bD, aQ, cC, aD, bZ, bT, bL, bB, aY, cX, aI, bE, aT, aS, aR, aA, dC, cK, bP, aO, cW, bW, bV, cF, bQ, bO, bK, cI, bF, cB, bA, bG, bM, bJ, cA, en, n0, g1, g2, g3, g4, n1]
     refine hR _ _ ?_
     exact ⟨by decide, rfl, hx1⟩
    .have g2 : decide ((n : Int) ≥ 407710288) = false := decide_eq_false (by omega)
     have g3 : decide ((407710288 : Int) <= (n : Int)) = false := decide_eq_false (by omega)
     simp (disch := omega) only [dQ, fE, cQ, stepR_skip, eD, eQ, eF, eX, eY, eP, fH, eK, dK, eJ, eT, fB, eA, eE, eI, eH, eC, fA, eU, eB, dR, eS, eL, dZ, gT, gQ, gM, gS, gO, gN, gU, gP, gR, dH, Result.ok.injEq, Next.value.injEq, true_and, and_true, dY, dX, eN, eZ, eM, fG, Lk, dS, dT, dV, dW, dN, dL, dO, dM, dI, cY, if_true, if_false, Lh, Ln, Li, Lj, Lm, Ll, Lg, Lf, cR, cM, cH, bY, cV, dJ, bU, bX, cS, cN, cO, dE, cL, dD, dG, dU, dB, cD, bH, bR, aU, aE, aH, dF, aL, cG, dA, cZ, bN, aK, bC, aZ, cP, aC, aX, aM, aV, cU, aW, cJ, bS, aF, aG, aJ, dP, aP, aN, bD, aQ, cC, aD, bZ, bT, bL, bB, aY, cX, aI, bE, aT, aS, aR, aA, dC, cK, bP, aO, cW, bW, bV, cF, bQ, bO, bK, cI, bF, cB, bA, bG, bM, bJ, cA, en, n0, g1, g2, g3, n1]
     refine hR _ _ ?_
     exact ⟨by decide, rfl, hx1⟩
end Go.Proofs.YthohephggmkeeaaDoor

/- Parts of the proof of SequencesMany: merged and given short names by a program of ours. -/
import Derived.Laws.IdiomStrings
import Derived.Test.YtaggdjhhmbnhoaaDoorSmB
set_option linter.unusedVariables false
set_option linter.unusedSimpArgs false
open Array renaming length_toList → aH5, getElem?_eq_none → aIB
open Bool renaming false_eq_true → aGW, not_true → aHB, and_eq_true → aHb, or_eq_false_iff → aIK, not_false → aId
open Int renaming toNat_natCast → aGO, tmod_eq_emod_of_nonneg → aHF, tdiv_eq_ediv_of_nonneg → aHj, fdiv_eq_ediv_of_nonneg → aIs
open List renaming length_map → aG1, append_assoc → aG2, getD_eq_getElem?_getD → aG3, length_take → aG4, getElem?_append_left → aG6, getElem_mem → aG7, mem_cons_of_mem → aG9, take_succ_cons → aGN, getElem?_cons_zero → aGQ, getElem?_cons_succ → aGR, set_cons_zero → aGS, drop_zero → aGT, set_cons_succ → aGU, take_zero → aGV, getElem?_eq_getElem → aGX, length_append → aGY, map_congr_left → aH4, mem_append → aH7, length_singleton → aH8, take_add_one → aHA, append_nil → aHC, mem_range → aHD, mem_cons → aHE, mem_map → aHH, getElem_range → aHJ, ext_getElem → aHN, replicate_succ → aHO, cons_append → aHV, drop_of_length_le → aHW, count_append → aHX, getElem?_toArray → aHY, getElem?_eq_none → aHa, length_cons → aHc, getElem?_map → aHg, length_drop → aHh, take_of_length_le → aHk, getElem_of_mem → aHl, drop_eq_getElem_cons → aHn, length_eq_zero_iff → aHq, getElem?_take_of_lt → aHr, getElem_map → aHs, nil_append → aHv, map_append → aHw, drop_succ_cons → aHx, getElem?_append_right → aHy, getElem_replicate → aI0, map_drop → aI3, mem_filter → aI6, length_set → aIA, length_range → aIF, getElem_set_self → aIH, getElem_set → aIL, map_take → aIM, range_succ → aIO, length_erase_of_mem → aIS, map_replicate → aIV, drop_left → aIX, ext_getElem? → aIY, getElem_cons_succ → aIZ, getElem?_drop → aIa, mem_of_getElem? → aIc, toList_toArray → aIe, take_append_drop → aIh, count_cons → aIk, set_append_left → aIl, map_cons → aIn, getElem_cons_zero → aIo, map_set → aIq, set_append_right → aIr, getLast?_eq_getElem? → aIu, count_singleton → aIv, take_length → aIw, getElem?_replicate → aIy
open Nat renaming pow_le_pow_right → aG0, zero_add → aGP, le_refl → aGZ, testBit_eq_decide_div_mod_eq → aH3, min_eq_left → aHG, add_zero → aHI, add_sub_cancel → aHK, add_mul → aHQ, le_trans → aHS, eq_zero_or_pos → aHT, mul_comm → aHU, lt_or_ge → aHd, pow_succ → aHf, mod_eq_of_lt → aHm, two_pow_pos → aHp, mul_le_mul_right → aHt, mul_one → aIC, pow_add → aID, div_div_eq_div_mul → aIE, le_div_iff_mul_le → aII, div_mul_le_self → aIN, div_le_self → aIP, succ_mul → aIT, sub_zero → aIU, add_assoc → aIf, div_lt_iff_lt_mul → aIi, lt_trichotomy → aIm, sub_self → aIp, mod_lt → aIz
open Option renaming isNone_some → aHe, map_some → aHz
open Option.some renaming inj → aG8
open UInt8 renaming toNat_lt → aHi
namespace Go.En
open Go
section
variable {P : Program} {w : aJa} {t : TypeId} {ox oy : Operand} {k : IntKind} {a b : Int}
theorem pW (s : Sem aJb) : (V s).run P w = (s.run P w).andThen fun v w => .ok (.value v) w := by
 unfold V; rw [Sem.run_bind] <;> rfl
theorem aGu (s : Sem Unit) : (U s).run P w = (s.run P w).andThen fun _ w => .ok .skip w := by
 unfold U; rw [Sem.run_bind] <;> rfl
theorem bM : (aG .add t ox oy (.int k a) (.int k b)).run P w = .ok (.value (.int k (k.wrap (a + b)))) w := by
 simp [aG, JY, pW, binOp, Op.intArith]
theorem dZ : (aG .sub t ox oy (.int k a) (.int k b)).run P w = .ok (.value (.int k (k.wrap (a - b)))) w := by
 simp [aG, JY, pW, binOp, Op.intArith]
theorem pH : (aG .mul t ox oy (.int k a) (.int k b)).run P w = .ok (.value (.int k (k.wrap (a * b)))) w := by
 simp [aG, JY, pW, binOp, Op.intArith]
theorem DU (h : b ≠ 0) : (aG .quo t ox oy (.int k a) (.int k b)).run P w = .ok (.value (.int k (k.wrap (a.tdiv b)))) w := by
 simp [aG, JY, pW, binOp, Op.intDiv, h]
theorem D5 (h : b ≠ 0) : (aG .rem t ox oy (.int k a) (.int k b)).run P w = .ok (.value (.int k (a.tmod b))) w := by
 simp [aG, JY, pW, binOp, Op.intDiv, h]
def amF (k : IntKind) (a b : Int) : Int := k.wrap (BitVec.ofInt k.bits a &&& BitVec.ofInt k.bits b).toNat
def orI (k : IntKind) (a b : Int) : Int := k.wrap (BitVec.ofInt k.bits a ||| BitVec.ofInt k.bits b).toNat
def aDH (k : IntKind) (a b : Int) : Int := k.wrap (BitVec.ofInt k.bits a ^^^ BitVec.ofInt k.bits b).toNat
def aAj (k : IntKind) (a b : Int) : Int := k.wrap (BitVec.ofInt k.bits a &&& ~~~BitVec.ofInt k.bits b).toNat
theorem Rw : (aG .and t ox oy (.int k a) (.int k b)).run P w = .ok (.value (.int k (amF k a b))) w := by
 simp [aG, JY, pW, binOp, Op.intBits, amF]
theorem asP : (aG .or t ox oy (.int k a) (.int k b)).run P w = .ok (.value (.int k (orI k a b))) w := by
 simp [aG, JY, pW, binOp, Op.intBits, orI]
theorem aEF : (aG .xor t ox oy (.int k a) (.int k b)).run P w = .ok (.value (.int k (aDH k a b))) w := by
 simp [aG, JY, pW, binOp, Op.intBits, aDH]
theorem auQ : (aG .andNot t ox oy (.int k a) (.int k b)).run P w = .ok (.value (.int k (aAj k a b))) w := by
 simp [aG, JY, pW, binOp, Op.intBits, aAj]
theorem mE {k' : IntKind} (h : 0 <= b) : (aG .shl t ox oy (.int k a) (.int k' b)).run P w = .ok (.value (.int k (k.wrap (a * 2 ^ (min b.toNat k.bits))))) w := by
 simp [aG, JY, pW, binOp, Op.shift, Int.not_lt.2 h]
theorem wV {k' : IntKind} (h : 0 <= b) : (aG .shr t ox oy (.int k a) (.int k' b)).run P w = .ok (.value (.int k (a.fdiv (2 ^ (min b.toNat k.bits))))) w := by
 simp [aG, JY, pW, binOp, Op.shift, Int.not_lt.2 h]
theorem cW : (aG .eql t ox oy (.int k a) (.int k b)).run P w = .ok (.value (.bool (a == b))) w := by
 simp [aG, JY, pW, binOp, Op.intCmp, eqGuard]
theorem eT : (aG .neq t ox oy (.int k a) (.int k b)).run P w = .ok (.value (.bool (a != b))) w := by
 simp [aG, JY, pW, binOp, Op.intCmp, eqGuard]
theorem aX : (aG .lss t ox oy (.int k a) (.int k b)).run P w = .ok (.value (.bool (decide (a < b)))) w := by
 simp [aG, JY, pW, binOp, Op.intCmp]
theorem avL : (aG .leq t ox oy (.int k a) (.int k b)).run P w = .ok (.value (.bool (decide (a <= b)))) w := by
 simp [aG, JY, pW, binOp, Op.intCmp]
theorem dP : (aG .gtr t ox oy (.int k a) (.int k b)).run P w = .ok (.value (.bool (decide (b < a)))) w := by
 simp [aG, JY, pW, binOp, Op.intCmp]
theorem pD : (aG .geq t ox oy (.int k a) (.int k b)).run P w = .ok (.value (.bool (decide (b <= a)))) w := by
 simp [aG, JY, pW, binOp, Op.intCmp]
theorem aCK : (sUn .neg (.int k a)).run P w = .ok (.value (.int k (k.wrap (0 - a)))) w := by
 simp [sUn, pW, Op.unary, Op.intArith]
theorem aEA : (sUn .xor (.int k a)).run P w = .ok (.value (.int k (aDH k (if k.signed then -1 else k.max) a))) w := by
 simp [sUn, pW, Op.unary, Op.intBits, aDH]
theorem Il (c : Bool) : (sUn .not (.bool c)).run P w = .ok (.value (.bool !c)) w := by
 simp [sUn, pW, Op.unary]
theorem bO (c : Bool) (x y : aJb) : (fR (.bool c) x y).run P w = .ok (.value (if c then x else y)) w := by
 simp [fR, asBool]
theorem auY {x y : aJb} {r : Bool} (hg : eqGuard .eql t ox oy x y = pure ()) (hb : binOp .eql t x y = (do pure (.bool (<- Op.equal t x y)))) (he : (Op.equal t x y).run P w = .ok r w) :
 (aG .eql t ox oy x y).run P w = .ok (.value (.bool r)) w := by
 unfold aG
 simp only [JY, pW, hg, hb, pure_bind]
 rw [Sem.run_bind, he] <;> rfl
theorem aC6 {x y : aJb} {r : Bool} (hg : eqGuard .neq t ox oy x y = pure ()) (hb : binOp .neq t x y = (do pure (.bool (!(<- Op.equal t x y))))) (he : (Op.equal t x y).run P w = .ok r w) :
 (aG .neq t ox oy x y).run P w = .ok (.value (.bool (!r))) w := by
 unfold aG
 simp only [JY, pW, hg, hb, pure_bind]
 rw [Sem.run_bind, he] <;> rfl
theorem aT {n : Int} (h0 : -9223372036854775808 <= n) (h1 : n <= 9223372036854775807) : IntKind.i64.wrap n = n := by
 unfold IntKind.wrap; simp [IntKind.bits, IntKind.signed]; split <;> omega
theorem hJ {n : Int} (h0 : 0 <= n) (h1 : n <= 18446744073709551615) : IntKind.u64.wrap n = n := by
 unfold IntKind.wrap; simp [IntKind.bits, IntKind.signed]; omega
theorem aEH {n : Int} (h0 : -2147483648 <= n) (h1 : n <= 2147483647) : IntKind.i32.wrap n = n := by
 unfold IntKind.wrap; simp [IntKind.bits, IntKind.signed]; split <;> omega
theorem Yr {n : Int} (h0 : 0 <= n) (h1 : n <= 4294967295) : IntKind.u32.wrap n = n := by
 unfold IntKind.wrap; simp [IntKind.bits, IntKind.signed]; omega
theorem aEx {n : Int} (h0 : 0 <= n) (h1 : n <= 65535) : IntKind.u16.wrap n = n := by
 unfold IntKind.wrap; simp [IntKind.bits, IntKind.signed]; omega
theorem Qf {n : Int} (h0 : 0 <= n) (h1 : n <= 255) : IntKind.u8.wrap n = n := by
 unfold IntKind.wrap; simp [IntKind.bits, IntKind.signed]; omega
theorem aeM (x y : ByteArray) : (aG .eql t ox oy (.string x) (.string y)).run P w = .ok (.value (.bool (x.toList == y.toList))) w := by
 simp [aG, JY, pW, binOp, Op.stringOp, eqGuard]
theorem aB3 (n : Nat) {e : TypeId} (hu : P.underlying t = some (.pointer e)) (x : Option Addr) : (Op.equalIn (n + 1) t (.pointer x) (.pointer none)).run P w = .ok x.isNone w := by
 simp only [Op.equalIn, underlying]
 cases x <;> simp [hu]
theorem aDh {e : TypeId} (hu : P.underlying t = some (.pointer e)) (x : Option Addr) : (Op.equal t (.pointer x) (.pointer none)).run P w = .ok x.isNone w := aB3 9999 hu x
theorem aDS (m : Nat) {e : TypeId} (hu : P.underlying t = some (.slice e)) (x : Option Addr) (n c : Nat) : (Op.equalIn (m + 1) t (.slice x n c) (.slice none 0 0)).run P w = .ok x.isNone w := by
 simp only [Op.equalIn, underlying]
 cases x <;> simp [hu]
theorem aFW {e : TypeId} (hu : P.underlying t = some (.slice e)) (x : Option Addr) (n c : Nat) : (Op.equal t (.slice x n c) (.slice none 0 0)).run P w = .ok x.isNone w := aDS 9999 hu x n c
theorem anY {e : TypeId} (hu : P.underlying t = some (.pointer e)) (x : Option Addr) : (aG .eql t ox oy (.pointer x) (.pointer none)).run P w = .ok (.value (.bool x.isNone)) w :=
 auY rfl rfl (aDh hu x)
theorem aFs {e : TypeId} (hu : P.underlying t = some (.pointer e)) (x : Option Addr) : (aG .neq t ox oy (.pointer x) (.pointer none)).run P w = .ok (.value (.bool (!x.isNone))) w :=
 aC6 rfl rfl (aDh hu x)
theorem aDV {e : TypeId} (hu : P.underlying t = some (.slice e)) (x : Option Addr) (n c : Nat) : (aG .eql t ox oy (.slice x n c) (.slice none 0 0)).run P w = .ok (.value (.bool x.isNone)) w :=
 auY rfl rfl (aFW hu x n c)
theorem Di {s : TypeId} {d : TypeDesc} {kd : IntKind} (hs : P.underlying s = some d) (hu : P.underlying t = some (.int kd)) : (fM s t (.int k a)).run P w = .ok (.value (.int kd (kd.wrap a))) w := by
 cases d <;> simp [fM, pW, convert, underlying, hs, hu, Conv.intToInt]
theorem Xa {ty : TypeId} {e : TypeId} (hu : P.underlying t = some (.slice e)) (x : Option Addr) (n c : Nat) : (jS .len #[t] ty [.slice x n c]).run P w = .ok (.value (.int .i64 n)) w := by
 simp [jS, builtin, Builtin.len_, underlying, hu, goInt]
theorem aEY {ty : TypeId} (hu : P.underlying t = some .string) (x : ByteArray) : (jS .len #[t] ty [.string x]).run P w = .ok (.value (.int .i64 x.size)) w := by
 simp [jS, builtin, Builtin.len_, underlying, hu, goInt]
theorem aDe {ats : Array TypeId} {ty : TypeId} : (jS .min ats ty [.int k a, .int k b]).run P w = .ok (.value (.int k (if b < a then b else a))) w := by
 simp [jS, builtin, Builtin.min_, Builtin.min2]
theorem amS {ats : Array TypeId} {ty : TypeId} : (jS .max ats ty [.int k a, .int k b]).run P w = .ok (.value (.int k (if b > a then b else a))) w := by
 simp [jS, builtin, Builtin.max_, Builtin.max2]
theorem Ch (a b : aJb) : (bB (.tuple #[a, b]) 0).run P w = .ok (.value a) w := Eq.trans rfl rfl
theorem B7 (a b : aJb) : (bB (.tuple #[a, b]) 1).run P w = .ok (.value b) w := Eq.trans rfl rfl
theorem SE (a b c : aJb) : (bB (.tuple #[a, b, c]) 0).run P w = .ok (.value a) w := Eq.trans rfl rfl
theorem SF (a b c : aJb) : (bB (.tuple #[a, b, c]) 1).run P w = .ok (.value b) w := Eq.trans rfl rfl
theorem SD (a b c : aJb) : (bB (.tuple #[a, b, c]) 2).run P w = .ok (.value c) w := Eq.trans rfl rfl
theorem x40 (a b c d : aJb) : (bB (.tuple #[a, b, c, d]) 0).run P w = .ok (.value a) w := Eq.trans rfl rfl
theorem x41 (a b c d : aJb) : (bB (.tuple #[a, b, c, d]) 1).run P w = .ok (.value b) w := Eq.trans rfl rfl
theorem x42 (a b c d : aJb) : (bB (.tuple #[a, b, c, d]) 2).run P w = .ok (.value c) w := Eq.trans rfl rfl
theorem x43 (a b c d : aJb) : (bB (.tuple #[a, b, c, d]) 3).run P w = .ok (.value d) w := Eq.trans rfl rfl
theorem rB (x : Addr) : (pV (.pointer (some x))).run P w = .ok (.value (.pointer (some x))) w := Eq.trans rfl rfl
theorem iU {fs : Array Field} {f : Field} {i : Nat} {inf : TypeInfo} (hu : P.underlying t = some (.struct fs)) (hf : fs[i]? = some f)
 (hi : P.info? f.type = some inf) (hz : inf.size ≠ 0) (x : Addr) : (aL t (.pointer (some x)) i).run P w = .ok (.value (.pointer (some (x.add f.offset)))) w := by
 simp [aL, pW, Instr.fieldAt, underlying, hu, hf, Instr.sureAddr, fieldPlace, sizeOf, typeInfo, hi, hz]
theorem awF {e : TypeId} {inf : TypeInfo} (hu : P.underlying t = some (.slice e)) (hi : P.info? e = some inf) (x : Addr) (n c : Nat) (h0 : 0 <= a) (h1 : a < n) :
 (bA t (.slice (some x) n c) (.int k a)).run P w = .ok (.value (.pointer (some (x.add (a.toNat * inf.size))))) w := by
 simp [bA, pW, Instr.indexAt, asIntOf, underlying, hu, h0, h1, sizeOf, typeInfo, hi]
theorem atM {e : TypeId} {len : Nat} {inf : TypeInfo} (hu : P.underlying t = some (.array len e)) (hi : P.info? e = some inf) (x : Addr) (h0 : 0 <= a) (h1 : a < len) :
 (bA t (.pointer (some x)) (.int k a)).run P w = .ok (.value (.pointer (some (x.add (a.toNat * inf.size))))) w := by
 simp [bA, pW, Instr.indexAt, asIntOf, underlying, hu, h0, h1, sizeOf, typeInfo, hi, Instr.sureAddr]
theorem aEO (hu : P.underlying t = some .string) (x : ByteArray) (h0 : 0 <= a) (h1 : a.toNat < x.size) :
 (G4 t (.string x) (.int k a)).run P w = .ok (.value (.int .u8 (x[a.toNat]'h1).toNat)) w := by
 simp [G4, pW, Instr.index, asIntOf, underlying, hu, h0, h1]
end
def cJ (w : aJa) (b : Nat) (cs : List aJb) : Prop :=
 ∃ T lo hi, w.heap[b]? = some (.cells cs.toArray T (lo, hi)) /\ (cs.length <= lo ∨ hi = lo)
structure aS (w w' : aJa) (M : Nat -> Prop) : Prop where
 os : w'.os = w.os
 tape : w'.tape = w.tape
 output : w'.output = w.output
 size : w.heap.size <= w'.heap.size
 keep : ∀ b, b < w.heap.size -> ¬ M b -> w'.heap[b]? = w.heap[b]?
def cM : Nat -> Prop := fun _ => False
theorem aS.refl (w : aJa) (M : Nat -> Prop) : aS w w M := ⟨rfl, rfl, rfl, aGZ _, fun _ _ _ => rfl⟩
theorem aS.mono {w w' : aJa} {M N : Nat -> Prop} (h : aS w w' M) (hm : ∀ b, b < w.heap.size -> M b -> N b) : aS w w' N :=
 ⟨h.os, h.tape, h.output, h.size, fun b hb hn => h.keep b hb fun hM => hn (hm b hb hM)⟩
theorem aS.trans {a b c : aJa} {M N : Nat -> Prop} (h : aS a b M) (k : aS b c N) (hn : ∀ x, x < a.heap.size -> N x -> M x) : aS a c M :=
 ⟨k.os.trans h.os, k.tape.trans h.tape, k.output.trans h.output, aHS h.size k.size,
   fun x hx hM => (k.keep x (Nat.lt_of_lt_of_le hx h.size) fun h => hM (hn x hx h)).trans (h.keep x hx hM)⟩
theorem aS.seq {a b c : aJa} {M : Nat -> Prop} (h : aS a b M) (k : aS b c M) : aS a c M := h.trans k fun _ _ h => h
theorem aS.new {a b c : aJa} {M : Nat -> Prop} {x : Nat} (h : aS a b M) (k : aS b c (fun y => y = x)) (hx : a.heap.size <= x) : aS a c M :=
 h.trans k fun y hy e => absurd hy (by subst e; omega)
theorem aS.more {a b c : aJa} {M : Nat -> Prop} (h : aS a b M) (k : aS b c (fun _ => False)) : aS a c M := h.trans k fun _ _ h => h.elim
theorem aS.below {w w' : aJa} (h : aS w w' cM) : Go.RowKit.Below w.heap.size w w' :=
 ⟨h.os, h.tape, h.output, h.size, fun k hk => h.keep k hk fun h => h⟩
theorem aS.dr (w : aJa) (M : Nat -> Prop) : aS w (dr w) M := ⟨rfl, rfl, rfl, aGZ _, fun _ _ _ => rfl⟩
theorem aS.alloc (w : aJa) (o : Obj) (M : Nat -> Prop) : aS w (w.alloc o) M :=
 ⟨rfl, rfl, rfl, by simp, fun b hb _ => by show (w.heap.push o)[b]? = _; rw [Array.getElem?_push, if_neg (by omega)]⟩
theorem aiY (w : aJa) (a : Addr) (v : aJb) (b : Nat) (h : b ≠ a.block) : (w.setCell a v).heap[b]? = w.heap[b]? := Go.RowKit.Below.heap_setCell w a v b h
theorem aS.setCell (w : aJa) (a : Addr) (v : aJb) {M : Nat -> Prop} (h : a.block < w.heap.size -> M a.block) : aS w (w.setCell a v) M :=
 ⟨rfl, rfl, rfl, by simp, fun b hb hM => aiY w a v b fun e => hM (e ▸ h (e ▸ hb))⟩
theorem cJ.lt {w : aJa} {b : Nat} {cs : List aJb} (h : cJ w b cs) : b < w.heap.size := by
 obtain ⟨T, lo, hi, h, _⟩ := h
 rcases aHd b w.heap.size with h' | h'
 .exact h'
 .rw [aIB h'] at h; cases h
theorem cJ.ext {w w' : aJa} {b : Nat} {cs : List aJb} {M : Nat -> Prop} (h : cJ w b cs) (hx : aS w w' M) (hM : ¬ M b) : cJ w' b cs := by
 have := h.lt
 obtain ⟨T, lo, hi, h, k⟩ := h
 exact ⟨T, lo, hi, by rw [hx.keep b this hM]; exact h, k⟩
theorem cJ.cell {w : aJa} {b off : Nat} {cs : List aJb} (h : cJ w b cs) : w.cell? ⟨b, off, none⟩ = cs[off]? := by
 obtain ⟨T, lo, hi, h, _⟩ := h
 simp [World.cell?, h]
theorem cJ.free {w : aJa} {b off : Nat} {cs : List aJb} {s : Option Nat} (h : cJ w b cs) (ho : off < cs.length) : w.frozen? ⟨b, off, s⟩ = false := by
 obtain ⟨T, lo, hi, h, k⟩ := h
 simp only [World.frozen?, h]
 rcases k with k | k <;> (simp; omega)
theorem cJ.setCell {w : aJa} {b off : Nat} {cs : List aJb} (h : cJ w b cs) (v : aJb) : cJ (w.setCell ⟨b, off, none⟩ v) b (cs.set off v) := by
 have hb := h.lt
 obtain ⟨T, lo, hi, h, k⟩ := h
 refine ⟨T, lo, hi, ?_, by simpa using k⟩
 simp only [World.setCell, Array.getElem?_modify, h]
 simp
theorem cJ.alloc (w : aJa) (cs : List aJb) (T : TypeId) : cJ (w.alloc (.cells cs.toArray T)) w.heap.size cs :=
 ⟨T, 0, 0, by show (w.heap.push _)[w.heap.size]? = _; simp, .inr rfl⟩
theorem akR {w w' : aJa} {M : Nat -> Prop} {a : Addr} {v : aJb} (h : w.cell? a = some v) (hx : aS w w' M) (hM : ¬ M a.block) : w'.cell? a = some v := by
 have hb := World.block_lt_of_cell? w a h
 have e := hx.keep _ hb hM
 unfold World.cell? at h ⊢
 rw [e]; exact h
section
variable {P : Program} {w : aJa} {t : TypeId}
def avY (d : TypeDesc) : Bool := match d with | .struct _ | .array _ _ => true | _ => false
theorem Ov {d : TypeDesc} (hu : P.underlying t = some d) : (isAgg t).run P w = .ok (avY d) w := by
 cases d <;> simp [isAgg, underlying, hu, avY]
theorem gK {i : TypeInfo} (hi : P.info? t = some i) : (sizeOf t).run P w = .ok i.size w := by simp [sizeOf, typeInfo, hi]
theorem YQ {b off : Nat} {cs : List aJb} (ho : cJ w b cs) : ∀ (n i : Nat) (acc : Array aJb), off + i + n <= cs.length →
 (loadCellsFrom ⟨b, off, none⟩ i n acc).run P w = .ok (acc ++ ((cs.drop (off + i)).take n).toArray) w := by
 intro n
 induction n with
 | zero => intro i acc _; simp [loadCellsFrom]
 | succ n ih =>
   intro i acc h
   have hc : w.cell? ((⟨b, off, none⟩ : Addr).add i) = some cs[off + i] := by
    unfold Addr.add
    split
    .rename_i hi; subst hi; rw [ho.cell]; simp
    .show w.cell? ⟨b, off + i, none⟩ = _; rw [ho.cell]; simp
   simp only [loadCellsFrom, Sem.run_bind, run_load, hc, Result.andThen_ok]
   rw [ih (i + 1) _ (by omega)]
   congr 1
   rw [aHn (by omega : off + i < cs.length)]
   simp [aIf]
theorem VA {b off n : Nat} {cs : List aJb} (ho : cJ w b cs) (h : off + n <= cs.length) :
 (loadCells ⟨b, off, none⟩ n).run P w = .ok ((cs.drop off).take n).toArray w := by
 unfold loadCells
 rw [YQ ho n 0 #[] (by omega)]
 simp
theorem zO {d : TypeDesc} {i : TypeInfo} (hu : P.underlying t = some d) (hd : avY d = true) (hi : P.info? t = some i) {b off : Nat} {cs : List aJb} (ho : cJ w b cs) (h : off + i.size <= cs.length) :
 (aH t (.pointer (some ⟨b, off, none⟩))).run P w = .ok (.value (.agg ((cs.drop off).take i.size).toArray)) w := by
 unfold aH
 rw [pW]
 simp only [Instr.loadAt, Instr.sureAddr, loadVar, pure_bind, Sem.run_bind, Ov hu, hd, Result.andThen_ok, if_true, gK hi, VA ho h, Sem.run_pure]
def one (v : aJb) : Bool := match v with | .agg _ | .tuple _ => false | _ => true
theorem awZ {a : Addr} {v x : aJb} (hv : one v = true) (hc : w.cell? a = some x) (hf : w.frozen? a = false) : (store a v).run P w = .ok () (w.setCell a v) := by
 unfold store
 cases v <;> simp [one] at hv <;> simp [Sem.run, hc, hf]
def aV (cs : List aJb) (off : Nat) : List aJb -> List aJb
 | [] => cs
 | v :: vs => aV (cs.set off v) (off + 1) vs
theorem Lp {b : Nat} {M : Nat -> Prop} (hM : M b) : ∀ (vs : List aJb) (w : aJa) (off i : Nat) (cs : List aJb), cJ w b cs -> off + i + vs.length <= cs.length -> (∀ v ∈ vs, one v = true) →
 ∃ w', (storeCells ⟨b, off, none⟩ vs i).run P w = .ok () w' /\ cJ w' b (aV cs (off + i) vs) /\ aS w w' M /\ w'.heap.size = w.heap.size /\ w'.drawn = w.drawn := by
 intro vs
 induction vs with
 | nil => intro w off i cs ho _ _; exact ⟨w, by simp [storeCells], ho, aS.refl _ _, rfl, rfl⟩
 | cons v vs ih =>
   intro w off i cs ho h hv
   simp only [aHc] at h
   have ha : (⟨b, off, none⟩ : Addr).add i = ⟨b, off + i, none⟩ := by
    unfold Addr.add; split
    .rename_i hi; subst hi; rfl
    .rfl
   have hlt : off + i < cs.length := by omega
   have hc : w.cell? ⟨b, off + i, none⟩ = some cs[off + i] := by rw [ho.cell]; simp
   have hs := awZ (P := P) (hv v (by simp)) hc (ho.free hlt)
   obtain ⟨w', h1, h2, h3, h4, h5⟩ := ih (w.setCell ⟨b, off + i, none⟩ v) off (i + 1) (cs.set (off + i) v) (ho.setCell v) (by simp; omega) (fun x hx => hv x (aG9 _ hx))
   refine ⟨w', ?_, h2, (aS.setCell w _ v fun _ => hM).trans h3 (fun _ _ h => h), by rw [h4]; simp, by rw [h5] <;> rfl⟩
   simp only [storeCells, Sem.run_bind, ha, hs, Result.andThen_ok]
   exact h1
theorem kB {i : TypeInfo} (hi : P.info? t = some i) {b off : Nat} {cs : List aJb} (ho : cJ w b cs) {v : aJb} (hs : v.cells.size = i.size)
 (hv : ∀ x ∈ v.cells.toList, one x = true) (h : off + i.size <= cs.length) {K : aJb -> aJa -> Prop}
 (hk : ∀ w', cJ w' b (aV cs off v.cells.toList) -> aS w w' (fun x => x = b) -> w'.heap.size = w.heap.size -> K undef w') : aC P (aJ t (.pointer (some ⟨b, off, none⟩)) v) w K := by
 obtain ⟨w', h1, h2, h3, h4, _⟩ := Lp (P := P) (M := fun x => x = b) rfl v.cells.toList w off 0 cs ho (by simp [hs]; omega) hv
 have : (aJ t (.pointer (some ⟨b, off, none⟩)) v).run P w = .ok .skip w' := by
  unfold aJ
  rw [aGu]
  simp only [Instr.storeAt, Instr.sureAddr, storeVar, pure_bind, Sem.run_bind, gK hi, Result.andThen_ok, hs]
  simp [h1]
 unfold aC
 rw [this]
 exact hk w' h2 h3 h4
theorem apV {v : aJb} (hv : one v = true) : v.cells = #[v] := by cases v <;> simp [one] at hv <;> rfl
theorem uK {i : TypeInfo} (hi : P.info? t = some i) (h1 : i.size = 1) {b off : Nat} {cs : List aJb} (ho : cJ w b cs) {v : aJb} (hv : one v = true) (h : off < cs.length) {K : aJb -> aJa -> Prop}
 (hk : ∀ w', cJ w' b (cs.set off v) -> aS w w' (fun x => x = b) -> w'.heap.size = w.heap.size -> K undef w') : aC P (aJ t (.pointer (some ⟨b, off, none⟩)) v) w K := by
 have e := apV hv
 refine kB hi ho (by rw [e, h1] <;> rfl) (by rw [e]; simpa using hv) (by omega) fun w' a b c => hk w' ?_ b c
 rw [e] at a; exact a
def ldC (c : Option aJb) (w : aJa) (far : Result Next) : Result Next := match c with | some v => .ok (.value v) w | none => far
def far (P : Program) (t : TypeId) (x : Addr) (w : aJa) : Result Next := (aH t (.pointer (some x))).run P w
theorem aI (v : aJb) (w : aJa) (f : Result Next) : ldC (some v) w f = .ok (.value v) w := rfl
theorem amR {d : TypeDesc} (hu : P.underlying t = some d) (hd : avY d = false) (x : Addr) (w : aJa) :
 (aH t (.pointer (some x))).run P w = ldC (w.cell? x) w (far P t x w) := by
 cases h : w.cell? x with
 | none => rfl
 | some v =>
   unfold aH
   rw [pW]
   simp only [Instr.loadAt, Instr.sureAddr, loadVar, pure_bind, Sem.run_bind, Ov hu, hd, Result.andThen_ok, aGW, if_false, run_load, h, ldC]
theorem C1 {d : TypeDesc} {i : TypeInfo} (hu : P.underlying t = some d) (hd : avY d = true) (hi : P.info? t = some i) {b off : Nat} {cs : List aJb} (ho : cJ w b cs) (h : off + i.size <= cs.length) {K : aJb -> Prop}
 (hk : K (.agg ((cs.drop off).take i.size).toArray)) : kC P t (.pointer (some ⟨b, off, none⟩)) w K := by
 refine ⟨_, ?_, hk⟩
 simp only [asAddr, loadVar, pure_bind, Sem.run_bind, Ov hu, hd, Result.andThen_ok, if_true, gK hi, VA ho h, Sem.run_pure]
theorem fY {v : aJb} {K : aJb -> aJa -> Prop} (hk : ∀ w', cJ w' w.heap.size v.cells.toList -> aS w w' cM -> w'.heap.size = w.heap.size + 1 -> K (.pointer (some ⟨w.heap.size, 0, none⟩)) w') :
 aC P (rA t v) w K := by
 have : (rA t v).run P w = .ok (.value (.pointer (some ⟨w.heap.size, 0, none⟩))) (w.alloc (.cells v.cells.toList.toArray t)) := by
  unfold rA; rw [pW]
  simp [Instr.box, newVar, newRow]
 unfold aC
 rw [this]
 exact hk _ (cJ.alloc _ _ _) (aS.alloc _ _ _) (by simp)
theorem jJ {i : TypeInfo} {z : aJb} (hi : P.info? t = some i) (hz : i.zero = some z) {K : aJb -> aJa -> Prop}
 (hk : ∀ w', cJ w' w.heap.size z.cells.toList -> aS w w' cM -> w'.heap.size = w.heap.size + 1 -> K (.pointer (some ⟨w.heap.size, 0, none⟩)) w') :
 aC P (bT t) w K := by
 have : (bT t).run P w = .ok (.value (.pointer (some ⟨w.heap.size, 0, none⟩))) (w.alloc (.cells z.cells.toList.toArray t)) := by
  unfold bT; rw [pW]
  simp [Instr.alloc, zeroValue, typeInfo, hi, hz, newVar, newRow]
 unfold aC
 rw [this]
 exact hk _ (cJ.alloc _ _ _) (aS.alloc _ _ _) (by simp)
end
theorem zJ {P : Program} {w : aJa} {k : IntKind} {a : Int} {y : Nat} {code : BoundsCode} (h0 : 0 <= a) (h1 : a <= y) : (Instr.sliceBound (.int k a) y code).run P w = .ok a.toNat w := by
 simp [Instr.sliceBound, asIntOf, h0, h1]
section
variable {P : Program} {w : aJa} {t e : TypeId} {k k' : IntKind} {lo hi : Int} {i : TypeInfo}
def iO (x : Option Addr) (m l sz : Nat) : Option Addr := if m = l then x else x.map (·.add (l * sz))
theorem anP (hu : P.underlying t = some (.slice e)) (hi' : P.info? e = some i) (x : Option Addr) (n c : Nat) (h0 : 0 <= lo) (h1 : lo <= n) :
 (fJ t (.slice x n c) (some (.int k lo)) none none).run P w = .ok (.value (.slice (iO x c lo.toNat i.size) (n - lo.toNat) (c - lo.toNat))) w := by
 simp only [fJ, pW, Instr.sliceAt, underlying, hu, Sem.run_bind, run_program, Result.andThen_ok, Sem.run_pure, Instr.slice, Instr.sliceBounds, pure_bind, zJ h0 h1, gK hi', iO]
theorem QK (hu : P.underlying t = some (.slice e)) (hi' : P.info? e = some i) (x : Option Addr) (n c : Nat) (h0 : 0 <= hi) (h1 : hi <= c) :
 (fJ t (.slice x n c) none (some (.int k hi)) none).run P w = .ok (.value (.slice (iO x c 0 i.size) (hi.toNat - 0) (c - 0))) w := by
 simp only [fJ, pW, Instr.sliceAt, underlying, hu, Sem.run_bind, run_program, Result.andThen_ok, Sem.run_pure, Instr.slice, Instr.sliceBounds, pure_bind, zJ h0 h1, gK hi', iO]
theorem arD (hu : P.underlying t = some (.slice e)) (hi' : P.info? e = some i) (x : Option Addr) (n c : Nat) (h0 : 0 <= lo) (h1 : lo <= hi) (h2 : hi <= c) :
 (fJ t (.slice x n c) (some (.int k lo)) (some (.int k' hi)) none).run P w = .ok (.value (.slice (iO x c lo.toNat i.size) (hi.toNat - lo.toNat) (c - lo.toNat))) w := by
 have h3 : (0 : Int) <= hi := by omega
 have h4 : lo <= (hi.toNat : Int) := by omega
 simp only [fJ, pW, Instr.sliceAt, underlying, hu, Sem.run_bind, run_program, Result.andThen_ok, Sem.run_pure, Instr.slice, Instr.sliceBounds, pure_bind, zJ h3 h2, zJ h0 h4, gK hi', iO]
theorem atS (hu : P.underlying t = some .string) (x : ByteArray) (h0 : 0 <= lo) (h1 : lo <= x.size) :
 (fJ t (.string x) (some (.int k lo)) none none).run P w = .ok (.value (.string (x.extract lo.toNat x.size))) w := by
 simp only [fJ, pW, Instr.sliceAt, underlying, hu, Sem.run_bind, run_program, Result.andThen_ok, Sem.run_pure, Instr.slice, Instr.sliceBounds, pure_bind, Option.isSome_none, aGW, if_false, zJ h0 h1]
theorem atK (hu : P.underlying t = some .string) (x : ByteArray) (h0 : 0 <= hi) (h1 : hi <= x.size) :
 (fJ t (.string x) none (some (.int k hi)) none).run P w = .ok (.value (.string (x.extract 0 hi.toNat))) w := by
 simp only [fJ, pW, Instr.sliceAt, underlying, hu, Sem.run_bind, run_program, Result.andThen_ok, Sem.run_pure, Instr.slice, Instr.sliceBounds, pure_bind, Option.isSome_none, aGW, if_false, zJ h0 h1]
def uN (a : Addr) (m l sz : Nat) : Addr := if m = l then a else a.add (l * sz)
theorem auX {n : Nat} (hu : P.underlying t = some (.array n e)) (hi' : P.info? e = some i) (x : Addr) (h0 : 0 <= hi) (h1 : hi <= n) :
 (fJ t (.pointer (some x)) none (some (.int k hi)) none).run P w = .ok (.value (.slice (some (uN x n 0 i.size)) (hi.toNat - 0) (n - 0))) w := by
 simp only [fJ, pW, Instr.sliceAt, Instr.sureAddr, underlying, hu, Sem.run_bind, run_program, Result.andThen_ok, Sem.run_pure, Instr.sliceBounds, pure_bind, zJ h0 h1, gK hi', uN]
theorem CD {n : Nat} (hu : P.underlying t = some (.array n e)) (hi' : P.info? e = some i) (x : Addr) :
 (fJ t (.pointer (some x)) none none none).run P w = .ok (.value (.slice (some (uN x n 0 i.size)) (n - 0) (n - 0))) w := by
 simp only [fJ, pW, Instr.sliceAt, Instr.sureAddr, underlying, hu, Sem.run_bind, run_program, Result.andThen_ok, Sem.run_pure, Instr.sliceBounds, pure_bind, gK hi', uN]
end
def Sl (w : aJa) (v : aJb) (l : List aJb) : Prop :=
 ∃ a n c, v = .slice a n c /\ n = l.length /\ n <= c /\ (0 < n -> ∃ b off, a = some ⟨b, off, none⟩ /\ ∀ i, i < n -> w.cell? ⟨b, off + i, none⟩ = l[i]?)
def inB (v : aJb) (M : Nat -> Prop) : Prop := match v with | .slice (some a) (_ + 1) _ => M a.block | _ => False
theorem Sl.ext {w w' : aJa} {v : aJb} {l : List aJb} {M : Nat -> Prop} (h : Sl w v l) (hx : aS w w' M) (hM : ¬ inB v M) : Sl w' v l := by
 obtain ⟨a, n, c, rfl, hn, hc, h⟩ := h
 refine ⟨a, n, c, rfl, hn, hc, fun h0 => ?_⟩
 obtain ⟨b, off, rfl, h2⟩ := h h0
 refine ⟨b, off, rfl, fun i hi => ?_⟩
 have h1 := h2 i hi
 obtain ⟨v, hv⟩ : ∃ v, l[i]? = some v := ⟨l[i], by simp⟩
 rw [hv] at h1 ⊢
 refine akR h1 hx ?_
 obtain ⟨m, rfl⟩ : ∃ m, n = m + 1 := ⟨n - 1, by omega⟩
 exact hM
theorem Sl.old {w : aJa} {v : aJb} {l : List aJb} (h : Sl w v l) : ¬ inB v (fun b => w.heap.size <= b) := by
 obtain ⟨a, n, c, rfl, hn, hc, h⟩ := h
 unfold inB
 split
 .rename_i x m _ e
  obtain ⟨rfl, rfl, rfl⟩ : a = some x /\ n = m + 1 /\ c = _ := by simpa using e
  obtain ⟨b, off, e, h2⟩ := h (by omega)
  have e := aG8 e; subst e
  have h1 := h2 0 (by omega)
  obtain ⟨v, hv⟩ : ∃ v, l[0]? = some v := ⟨l[0], by simp⟩
  rw [hv] at h1
  have := World.block_lt_of_cell? _ _ h1
  simp at this ⊢; omega
 .simp
def FQ (x : UInt8) : aJb := .int .u8 x.toNat
abbrev Bs (w : aJa) (v : aJb) (l : List UInt8) : Prop := Sl w v (l.map FQ)
theorem Ek (b o n : Nat) : (⟨b, o, none⟩ : Addr).add n = ⟨b, o + n, none⟩ := by
 unfold Addr.add; split
 .rename_i h; subst h; rfl
 .rfl
section
variable {P : Program} {w : aJa} {t e : TypeId} {k : IntKind} {a : Int}
theorem afV {inf : TypeInfo} {sz : Nat} (hz : inf.size = sz) (hu : P.underlying t = some (.slice e)) (hi : P.info? e = some inf) (b o n c : Nat) (h0 : 0 <= a) (h1 : a < n) :
 (bA t (.slice (some ⟨b, o, none⟩) n c) (.int k a)).run P w = .ok (.value (.pointer (some ⟨b, o + a.toNat * sz, none⟩))) w := by
 rw [awF hu hi _ n c h0 h1, Ek, hz]
theorem Uz {inf : TypeInfo} (hz : inf.size = 1) (hu : P.underlying t = some (.slice e)) (hi : P.info? e = some inf) (b o n c : Nat) (h0 : 0 <= a) (h1 : a < n) :
 (bA t (.slice (some ⟨b, o, none⟩) n c) (.int k a)).run P w = .ok (.value (.pointer (some ⟨b, o + a.toNat, none⟩))) w := by
 rw [awF hu hi _ n c h0 h1, Ek, hz, aIC]
theorem aqB {inf : TypeInfo} {sz len : Nat} (hz : inf.size = sz) (hu : P.underlying t = some (.array len e)) (hi : P.info? e = some inf) (b o : Nat) (h0 : 0 <= a) (h1 : a < (len : Int)) :
 (bA t (.pointer (some ⟨b, o, none⟩)) (.int k a)).run P w = .ok (.value (.pointer (some ⟨b, o + a.toNat * sz, none⟩))) w := by
 rw [atM hu hi _ h0 h1, Ek, hz]
theorem I3 {inf : TypeInfo} {len : Nat} (hz : inf.size = 1) (hu : P.underlying t = some (.array len e)) (hi : P.info? e = some inf) (b o : Nat) (h0 : 0 <= a) (h1 : a < (len : Int)) :
 (bA t (.pointer (some ⟨b, o, none⟩)) (.int k a)).run P w = .ok (.value (.pointer (some ⟨b, o + a.toNat, none⟩))) w := by
 rw [atM hu hi _ h0 h1, Ek, hz, aIC]
end
def lC (x : ByteArray) : List UInt8 := x.data.toList
theorem kG (x : ByteArray) : (lC x).length = x.size := by unfold lC; rw [aH5] <;> rfl
theorem YS (x : ByteArray) (i : Nat) (h : i < x.size) : x[i]'h = (lC x)[i]'(by rw [kG]; exact h) := rfl
theorem LO (x : ByteArray) (a b : Nat) : lC (x.extract a b) = ((lC x).drop a).take (b - a) := by
 unfold lC; rw [ByteArray.data_extract, Array.toList_extract, List.extract_eq_take_drop]
theorem aFg (l : List UInt8) : lC ⟨l.toArray⟩ = l := rfl
theorem aAt {x y : ByteArray} (h : lC x = lC y) : x = y := by
 cases x; cases y; unfold lC at h; congr; exact Array.toList_inj.1 h
section
variable {P : Program} {w : aJa} {s d e : TypeId}
theorem aC1 (hs : P.underlying s = some (.slice e)) (hd : P.underlying d = some .string) (he : P.underlying e = some (.int .u8)) {l : List UInt8} {v : aJb} (h : Bs w v l) :
 (fM s d v).run P w = .ok (.value (.string ⟨l.toArray⟩)) w := by
 obtain ⟨a, n, c, rfl, hn, hc, h⟩ := h
 simp only [aG1] at hn
 unfold fM
 rw [pW]
 have key : (convert s d (.slice a n c)).run P w = .ok (.string ⟨l.toArray⟩) w := by
  cases a with
  | none =>
    have hl : l = [] := by
     cases l with
     | nil => rfl
     | cons x l => obtain ⟨b, off, e, _⟩ := h (by rw [hn]; simp); cases e
    subst hl
    rw [run_convert_bytes_string w s d e none n c hs he hd]
    rfl
  | some x =>
    subst hn
    refine run_convert_bytes_back w s d e x c l hs he hd fun j hj => ?_
    obtain ⟨b, off, hx, h2⟩ := h (by omega)
    have hx := aG8 hx
    subst hx
    rw [Ek, h2 j hj]
    simp [FQ, hj]
 rw [key] <;> rfl
end
theorem asN (l : List UInt8) : ∀ x ∈ l.map FQ, one x = true := by
 intro x hx
 obtain ⟨c, _, rfl⟩ := aHH.1 hx
 rfl
theorem aBg {b o m l sz : Nat} (h : l ≠ m) : uN ⟨b, o, none⟩ m l sz = ⟨b, o + l * sz, none⟩ := by
 unfold uN; rw [if_neg (fun e => h e.symm), Ek]
theorem El {b o m l : Nat} (h : l ≠ m) : uN ⟨b, o, none⟩ m l 1 = ⟨b, o + l, none⟩ := by rw [aBg h, aIC]
theorem Sl.drop {w : aJa} {b o n c : Nat} {l : List aJb} (h : Sl w (.slice (some ⟨b, o, none⟩) n c) l) {k : Nat} (hk : k <= n) :
 Sl w (.slice (iO (some ⟨b, o, none⟩) c k 1) (n - k) (c - k)) (l.drop k) := by
 obtain ⟨x, m, c', e, hm, hc, hh⟩ := h
 cases e
 refine ⟨_, _, _, rfl, by rw [aHh]; omega, by omega, fun h0 => ?_⟩
 obtain ⟨b', o', e, h2⟩ := hh (by omega)
 cases e
 have hne : ¬ c = k := by omega
 refine ⟨b, o + k, by unfold iO; rw [if_neg hne, aHz, Ek, aIC], fun i hi => ?_⟩
 rw [aIf, h2 (k + i) (by omega), aIa]
theorem Sl.take {w : aJa} {b o n c : Nat} {l : List aJb} (h : Sl w (.slice (some ⟨b, o, none⟩) n c) l) {k : Nat} (hk : k <= n) :
 Sl w (.slice (iO (some ⟨b, o, none⟩) c 0 1) (k - 0) (c - 0)) (l.take k) := by
 obtain ⟨x, m, c', e, hm, hc, hh⟩ := h
 cases e
 refine ⟨_, _, _, rfl, by rw [aG4]; omega, by omega, fun h0 => ?_⟩
 obtain ⟨b', o', e, h2⟩ := hh (by omega)
 cases e
 have hne : ¬ c = 0 := by omega
 refine ⟨b, o, by unfold iO; rw [if_neg hne, aHz, Ek] <;> rfl, fun i hi => ?_⟩
 rw [h2 i (by omega), aHr (by omega)]
theorem cJ.bs {w : aJa} {b off c : Nat} {cs : List aJb} {l : List UInt8} (h : cJ w b cs) (hc : l.length <= c) (hl : ∀ i (hi : i < l.length), cs[off + i]? = some (FQ l[i])) : Bs w (.slice (some ⟨b, off, none⟩) l.length c) l :=
 ⟨_, _, _, rfl, by simp, hc, fun _ => ⟨b, off, rfl, fun i hi => by rw [h.cell, hl i hi]; simp [hi]⟩⟩
section
variable {P : Program} {w : aJa} {t e : TypeId} {k : IntKind} {a : Int}
theorem aEM {len : Nat} {d : TypeDesc} {i : TypeInfo} (hu : P.underlying t = some (.array len e)) (hd : P.underlying e = some d) (ha : avY d = false) (hi : P.info? e = some i) (h1 : i.size = 1)
 (cs : Array aJb) (h0 : 0 <= a) (hl : a < (len : Int)) {v : aJb} (hv : cs[a.toNat]? = some v) : (G4 t (.agg cs) (.int k a)).run P w = .ok (.value v) w := by
 unfold G4
 rw [pW]
 simp only [Instr.index, asIntOf, pure_bind, underlying, hu, Sem.run_bind, run_program, Result.andThen_ok, Sem.run_pure, h0, hl, and_self, if_true, gK hi, h1, aIC, part, Ov hd, ha, aGW, if_false, hv]
def aE4 (P : Program) (t : TypeId) (cs : Array aJb) (k : IntKind) (a : Int) (w : aJa) : Result Next := (G4 t (.agg cs) (.int k a)).run P w
theorem aDz {len : Nat} {d : TypeDesc} {i : TypeInfo} (hu : P.underlying t = some (.array len e)) (hd : P.underlying e = some d) (ha : avY d = false) (hi : P.info? e = some i) (h1 : i.size = 1)
 (cs : Array aJb) (h0 : 0 <= a) (hl : a < (len : Int)) : (G4 t (.agg cs) (.int k a)).run P w = ldC cs[a.toNat]? w (aE4 P t cs k a w) := by
 cases hv : cs[a.toNat]? with
 | none => rfl
 | some v => exact aEM hu hd ha hi h1 cs h0 hl hv
theorem asV {b off : Nat} {l : List aJb} (h : ∀ i, i < l.length -> w.cell? ⟨b, off + i, none⟩ = l[i]?) (n : Nat) (hn : n <= l.length) :
 (loadCells ⟨b, off, none⟩ n).run P w = .ok (l.take n).toArray w := by
 have key : ∀ (m i : Nat) (acc : Array aJb), i + m <= l.length -> (loadCellsFrom ⟨b, off, none⟩ i m acc).run P w = .ok (acc ++ ((l.drop i).take m).toArray) w := by
  intro m
  induction m with
  | zero => intro i acc _; simp [loadCellsFrom]
  | succ m ih =>
    intro i acc hm
    have hc := h i (by omega)
    rw [aGX (by omega)] at hc
    simp only [loadCellsFrom, Sem.run_bind, run_load, Ek, hc, Result.andThen_ok]
    rw [ih (i + 1) _ (by omega), aHn (by omega : i < l.length), aGN]
    simp
 unfold loadCells
 rw [key n 0 #[] (by omega)]
 simp
theorem aBT {i : TypeInfo} {z : aJb} (hu : P.underlying t = some (.slice e)) (hi : P.info? e = some i) (h1 : i.size = 1) (hz : i.zero = some z) (hz1 : one z = true) {n : Int} (h0 : 0 <= n) (hn : i.bytes * n <= 2 ^ 48) (hn2 : n <= 9223372036854775807)
 {K : aJb -> aJa -> Prop}
 (hk : ∀ w', cJ w' w.heap.size (List.replicate n.toNat z) -> aS w w' cM -> w'.heap.size = w.heap.size + 1 -> K (.slice (some ⟨w.heap.size, 0, none⟩) n.toNat n.toNat) w') :
 aC P (yK t (.int k n) (.int k n)) w K := by
 have hw : IntKind.i64.wrap n = n := aT (by omega) hn2
 have hcells : z.cells = #[z] := apV hz1
 have harr : (Array.range n.toNat).map (fun j => (#[z] : Array aJb)[j % (#[z] : Array aJb).size]!) = (List.replicate n.toNat z).toArray := by
  apply Array.ext
  .simp
  .intro j h1 h2; simp [Nat.mod_one]
 have hz' : (zeroValue e).run P w = .ok z w := by simp [zeroValue, typeInfo, hi, hz]
 have : (yK t (.int k n) (.int k n)).run P w = .ok (.value (.slice (some ⟨w.heap.size, 0, none⟩) n.toNat n.toNat)) (w.alloc (.cells (List.replicate n.toNat z).toArray e)) := by
  unfold yK
  rw [pW]
  have t1 : (decide (n < 0) || decide ((i.bytes : Int) * n > 2 ^ 48) || decide (n < 0) || decide (n > n)) = false := by
   simp only [aIK, decide_eq_false_iff_not]; omega
  by_cases hn0 : n.toNat = 0
  .simp only [Instr.makeSlice, underlying, typeInfo, asInt, asIntOf, pure_bind, Sem.run_bind, run_program, Result.andThen_ok, hu, hi, Sem.run_pure, hw, t1, aGW, if_false, run_askRoom, gK hi, h1, aIC, hn0, if_true, newRow, run_newObj]
   have : (Array.range 0).map (fun x => (#[] : Array aJb)[x % (#[] : Array aJb).size]!) = (List.replicate 0 z).toArray := by simp
   rw [this]
   rfl
  .simp only [Instr.makeSlice, underlying, typeInfo, asInt, asIntOf, pure_bind, Sem.run_bind, run_program, Result.andThen_ok, hu, hi, Sem.run_pure, hw, t1, aGW, if_false, run_askRoom, gK hi, h1, aIC, hn0, hz', hcells, newRow, run_newObj, harr]
   rfl
 unfold aC
 rw [this]
 exact hk _ (cJ.alloc _ _ _) (aS.alloc _ _ _) (by simp)
end
def Cl (w : aJa) (sz : Nat) (v : aJb) (n : Nat) (l : List aJb) : Prop :=
 ∃ a c, v = .slice a n c /\ l.length = n * sz /\ (0 < n -> ∃ b off, a = some ⟨b, off, none⟩ /\ ∀ i, i < l.length -> w.cell? ⟨b, off + i, none⟩ = l[i]?)
def sN (w : aJa) (base sz : Nat) (v : aJb) (n : Nat) (l : List aJb) : Prop :=
 l.length = n * sz /\ ((v = .slice none 0 0 /\ n = 0) ∨
   ∃ b c rest, v = .slice (some ⟨b, 0, none⟩) n c /\ base <= b /\ cJ w b (l ++ rest) /\ (l ++ rest).length = c * sz /\ n <= c)
def OSS (w : aJa) (S : Nat -> Prop) (sz : Nat) (v : aJb) (n : Nat) (l : List aJb) : Prop :=
 l.length = n * sz /\ ((v = .slice none 0 0 /\ n = 0) ∨
   ∃ b c rest, v = .slice (some ⟨b, 0, none⟩) n c /\ S b /\ cJ w b (l ++ rest) /\ (l ++ rest).length = c * sz /\ n <= c)
theorem Sl.cl {w : aJa} {v : aJb} {l : List aJb} (h : Sl w v l) : Cl w 1 v l.length l := by
 obtain ⟨a, n, c, rfl, rfl, hc, h⟩ := h
 exact ⟨a, c, rfl, by omega, fun h0 => h h0⟩
theorem cJ.cl {w : aJa} {b sz n c off : Nat} {cs l : List aJb} (h : cJ w b cs) (hl : l.length = n * sz) (hcs : ∀ i, i < l.length -> cs[off + i]? = l[i]?) : Cl w sz (.slice (some ⟨b, off, none⟩) n c) n l :=
 ⟨_, _, rfl, hl, fun _ => ⟨b, off, rfl, fun i hi => by rw [h.cell, hcs i hi]⟩⟩
theorem sN.nil (w : aJa) (base sz : Nat) : sN w base sz (.slice none 0 0) 0 [] := ⟨by simp, .inl ⟨rfl, rfl⟩⟩
theorem sN.ext {w w' : aJa} {base sz n : Nat} {v : aJb} {l : List aJb} {M : Nat -> Prop} (h : sN w base sz v n l) (hx : aS w w' M) (hM : ∀ b, base <= b -> ¬ M b) : sN w' base sz v n l := by
 refine ⟨h.1, ?_⟩
 rcases h.2 with h2 | ⟨b, c, rest, h1, h2, h3, h4, h5⟩
 .exact .inl h2
 .exact .inr ⟨b, c, rest, h1, h2, h3.ext hx (hM b h2), h4, h5⟩
theorem sN.cl {w : aJa} {base sz n : Nat} {v : aJb} {l : List aJb} (h : sN w base sz v n l) : Cl w sz v n l := by
 rcases h.2 with ⟨rfl, rfl⟩ | ⟨b, c, rest, rfl, h2, h3, h4, h5⟩
 .exact ⟨_, _, rfl, h.1, fun h => by omega⟩
 .refine ⟨_, _, rfl, h.1, fun _ => ⟨b, 0, rfl, fun i hi => ?_⟩⟩
  rw [h3.cell, aGP, aG6 hi]
theorem sN.sl {w : aJa} {base n : Nat} {v : aJb} {l : List aJb} (h : sN w base 1 v n l) : Sl w v l := by
 have hl := h.1
 rcases h.2 with ⟨rfl, rfl⟩ | ⟨b, c, rest, rfl, h2, h3, h4, h5⟩
 .exact ⟨_, _, _, rfl, by omega, by omega, fun h => by omega⟩
 .refine ⟨_, _, _, rfl, by omega, h5, fun _ => ⟨b, 0, rfl, fun i hi => ?_⟩⟩
  rw [h3.cell, aGP, aG6 (by omega)]
section
variable {P : Program} {w : aJa} {t e : TypeId}
theorem ZG {b off : Nat} {l : List aJb} (h : ∀ i, i < l.length -> w.cell? ⟨b, off + i, none⟩ = l[i]?) : (loadCells ⟨b, off, none⟩ l.length).run P w = .ok l.toArray w := by
 have := asV (P := P) h l.length (aGZ _)
 rwa [aIw] at this
theorem Ay {sz n : Nat} {v : aJb} {l : List aJb} (h : Cl w sz v n l) : (Builtin.firstCells sz n v).run P w = .ok l.toArray w := by
 obtain ⟨x, c, rfl, hl, hh⟩ := h
 cases x with
 | none =>
   have : n = 0 := by
    rcases aHT n with h | h
    .exact h
    .obtain ⟨b, off, e, _⟩ := hh h; cases e
   subst this
   have : l = [] := aHq.1 (by omega)
   subst this
   simp [Builtin.firstCells]
 | some x =>
   simp only [Builtin.firstCells]
   rw [<- hl]
   by_cases h0 : 0 < n
   .obtain ⟨b, off, e, h2⟩ := hh h0
    have e := aG8 e; subst e
    exact ZG h2
   .have : n = 0 := by omega
    subst this
    have : l = [] := aHq.1 (by omega)
    subst this
    simp [loadCells, loadCellsFrom]
theorem pZ (zs : Array aJb) (n : Nat) : (Builtin.zeroCells zs n).size = n * zs.size := by simp [Builtin.zeroCells]
theorem Ml (vs : List aJb) : ∀ (aGM rest : List aJb), vs.length <= rest.length -> aV (aGM ++ rest) aGM.length vs = aGM ++ vs ++ rest.drop vs.length := by
 induction vs with
 | nil => intro aGM rest _; simp [aV]
 | cons v vs ih =>
   intro aGM rest h
   cases rest with
   | nil => simp at h
   | cons r rest =>
     have := ih (aGM ++ [v]) rest (by simpa using h)
     simp only [aV, aGY, aHc, List.length_nil, aG2, aHV, aHv] at this ⊢
     rw [aHx, <- this, aIr _ _ (aGZ _), aIp, aGS, aGP]
theorem xT {S : Nat -> Prop} {sz n m : Nat} {i : TypeInfo} {z : aJb} {ty t2 e2 : TypeId} (hu : P.underlying t = some (.slice e)) (hu2 : P.underlying t2 = some (.slice e2)) (hi : P.info? e = some i) (hsz : i.size = sz) (hz : i.zero = some z) (hzs : z.cells.size = sz)
 {v x : aJb} {l news : List aJb} (h : OSS w S sz v n l) (hx : Cl w sz x m news) (hone : ∀ y ∈ news, one y = true) (hb : ∀ b, w.heap.size <= b -> S b)
 (hn : n + m <= 9223372036854775807) (hbytes : (n + m) * i.bytes <= 140737488355328) (_hpos : i.bytes ≠ 0)
 {K : aJb -> aJa -> Prop} (hk : ∀ v' w', OSS w' S sz v' (n + m) (l ++ news) -> aS w w' S -> K v' w') : aC P (jS .append #[t, t2] ty [v, x]) w K := by
 have hlx : (Builtin.lenOf x).run P w = .ok m w := by
  obtain ⟨a, c, rfl, _⟩ := hx; simp [Builtin.lenOf]
 have hnl := hx.choose_spec.choose_spec.2.1
 have hfx := Ay (P := P) hx
 have hmax : IntKind.i64.max = 9223372036854775807 := by decide
 have hnot : ¬ (((n + m : Nat) : Int) > IntKind.i64.max /\ (False ∨ i.bytes = 0)) := by rw [hmax]; omega
 have hz' : ∀ w, (zeroValue e).run P w = .ok z w := fun w => by simp [zeroValue, typeInfo, hi, hz]
 have hlen := h.1
 rcases h.2 with ⟨rfl, rfl⟩ | ⟨b, c, rest, rfl, h2, h3, h4, h5⟩
 .
  have hl0 : l = [] := aHq.1 (by omega)
  subst hl0
  by_cases hm : m = 0
  .subst hm
   have hn0 : news = [] := aHq.1 (by omega)
   subst hn0
   have : (jS .append #[t, t2] ty [.slice none 0 0, x]).run P w = .ok (.value (.slice none 0 0)) w := by
    unfold jS builtin
    simp only [Builtin.append_, aHY, aGQ, aGR]
    simp only [underlying, Sem.run_bind, run_program, Result.andThen_ok, hu, hu2, Sem.run_pure, gK hi, hsz, aGW, if_false, hlx, aGZ, aHI, if_true, aId, hfx]
   unfold aC
   rw [this]
   exact hk _ _ ⟨by simp, .inl ⟨rfl, by omega⟩⟩ (aS.refl _ _)
  .have hfit := growslice_fits (need := 0 + m) (old := 0) (bytes := i.bytes) (by omega) (by omega)
   have hfit' : ¬ (Builtin.nextslicecap (0 + m) 0 * i.bytes > 2 ^ 48) := by omega
   have hle : ¬ (0 + m <= 0) := by omega
   have hq : (Question.appendCap (0 + m) 0 e).forced = false := rfl
   obtain ⟨r, hr⟩ : ∃ r, (Question.appendCap (0 + m) 0 e).cut (w.tape w.drawn (.appendCap (0 + m) 0 e)) = m + r :=
    ⟨(w.tape w.drawn (.appendCap (0 + m) 0 e)) % (2 ^ 63 - (0 + m)), by simp only [Question.cut]; omega⟩
   have : (jS .append #[t, t2] ty [.slice none 0 0, x]).run P w = .ok (.value (.slice (some ⟨w.heap.size, 0, none⟩) (0 + m) (m + r))) ((dr w).alloc (.cells (news ++ (Builtin.zeroCells z.cells (m + r - (0 + m))).toList).toArray e)) := by
    have hfx' := Ay (P := P) (w := dr w) hx
    unfold jS builtin
    simp only [Builtin.append_, aHY, aGQ, aGR]
    simp only [underlying, typeInfo, Sem.run_bind, run_program, Result.andThen_ok, hu, hu2, hi, Sem.run_pure, gK hi, hsz, aGW, if_false, hlx, hle, aId, if_true, hnot, hfit', run_choose, hq, hr, run_askRoom]
    change ((Sem.run P _ (dr w)).andThen _).andThen _ = _
    simp only [Sem.run_bind, hfx', run_firstCells_none, Result.andThen_ok, hz', Sem.run_pure, newRow, run_newObj]
    have e1 : (#[] ++ news.toArray ++ Builtin.zeroCells z.cells (m + r - (0 + m)) : Array aJb) = (news ++ (Builtin.zeroCells z.cells (m + r - (0 + m))).toList).toArray := by
     apply Array.ext'; simp
    rw [e1]
    rfl
   unfold aC
   rw [this]
   refine hk _ _ ⟨by simp only [aHv]; rw [hnl, aGP], .inr ⟨w.heap.size, m + r, (Builtin.zeroCells z.cells (m + r - (0 + m))).toList, by rw [aGP], hb _ (aGZ _), cJ.alloc (dr w) _ _, ?_, by omega⟩⟩ ((aS.dr w _).seq (aS.alloc _ _ _))
   simp only [aHv, aGY, aH5, pZ, hzs, hnl]
   rw [show m + r - (0 + m) = r from by omega, aHQ]
 .by_cases hc : n + m <= c
  .
   have hroom : news.length <= rest.length := by
    rw [aGY, hlen] at h4
    have : (n + m) * sz <= c * sz := aHt _ hc
    rw [aHQ] at this; omega
   obtain ⟨w', s1, s2, s3, s4, _⟩ := Lp (P := P) (M := S) h2 news w (n * sz) 0 (l ++ rest) h3 (by rw [aGY, hlen]; omega) hone
   have : (jS .append #[t, t2] ty [.slice (some ⟨b, 0, none⟩) n c, x]).run P w = .ok (.value (.slice (some ⟨b, 0, none⟩) (n + m) c)) w' := by
    unfold jS builtin
    simp only [Builtin.append_, aHY, aGQ, aGR]
    simp only [underlying, Sem.run_bind, run_program, Result.andThen_ok, hu, hu2, Sem.run_pure, gK hi, hsz, aGW, if_false, hlx, hc, if_true, aId, hfx, Ek, aGP, s1]
   unfold aC
   rw [this]
   rw [aHI, <- hlen, Ml _ _ _ hroom] at s2
   refine hk _ _ ⟨by rw [aGY, hlen, hnl, aHQ], .inr ⟨b, c, rest.drop news.length, rfl, h2, s2, ?_, hc⟩⟩ s3
   rw [<- h4]; simp; omega
  .
   have hfit := growslice_fits (need := n + m) (old := c) (bytes := i.bytes) (by omega) hbytes
   have hfit' : ¬ (Builtin.nextslicecap (n + m) c * i.bytes > 2 ^ 48) := by omega
   have hq : (Question.appendCap (n + m) c e).forced = false := rfl
   obtain ⟨r, hr⟩ : ∃ r, (Question.appendCap (n + m) c e).cut (w.tape w.drawn (.appendCap (n + m) c e)) = n + m + r :=
    ⟨(w.tape w.drawn (.appendCap (n + m) c e)) % (2 ^ 63 - (n + m)), by simp only [Question.cut]⟩
   have hold : Cl (dr w) sz (.slice (some ⟨b, 0, none⟩) n c) n l := ⟨_, _, rfl, hlen, fun _ => ⟨b, 0, rfl, fun i hi => by
    show w.cell? _ = _
    rw [h3.cell, aGP, aG6 hi]⟩⟩
   have : (jS .append #[t, t2] ty [.slice (some ⟨b, 0, none⟩) n c, x]).run P w = .ok (.value (.slice (some ⟨w.heap.size, 0, none⟩) (n + m) (n + m + r))) ((dr w).alloc (.cells (l ++ news ++ (Builtin.zeroCells z.cells (n + m + r - (n + m))).toList).toArray e)) := by
    have hfx' := Ay (P := P) (w := dr w) hx
    have hfo := Ay (P := P) hold
    unfold jS builtin
    simp only [Builtin.append_, aHY, aGQ, aGR]
    simp only [underlying, typeInfo, Sem.run_bind, run_program, Result.andThen_ok, hu, hu2, hi, Sem.run_pure, gK hi, hsz, aGW, if_false, hlx, hc, aId, if_true, hnot, hfit', run_choose, hq, hr, run_askRoom]
    change ((Sem.run P _ (dr w)).andThen _).andThen _ = _
    simp only [Sem.run_bind, hfx', hfo, Result.andThen_ok, hz', Sem.run_pure, newRow, run_newObj]
    have e1 : (l.toArray ++ news.toArray ++ Builtin.zeroCells z.cells (n + m + r - (n + m)) : Array aJb) = (l ++ news ++ (Builtin.zeroCells z.cells (n + m + r - (n + m))).toList).toArray := by
     apply Array.ext'; simp
    rw [e1]
    rfl
   unfold aC
   rw [this]
   refine hk _ _ ⟨by rw [aGY, hlen, hnl, aHQ], .inr ⟨w.heap.size, n + m + r, _, rfl, hb _ (aGZ _), cJ.alloc (dr w) _ _, ?_, by omega⟩⟩ ((aS.dr w _).seq (aS.alloc _ _ _))
   simp only [aGY, aH5, pZ, hzs, hnl, hlen]
   rw [show n + m + r - (n + m) = r from by omega, aHQ, aHQ]
theorem EO {base sz n m : Nat} {i : TypeInfo} {z : aJb} {ty t2 e2 : TypeId} (hu : P.underlying t = some (.slice e)) (hu2 : P.underlying t2 = some (.slice e2)) (hi : P.info? e = some i) (hsz : i.size = sz) (hz : i.zero = some z) (hzs : z.cells.size = sz)
 {v x : aJb} {l news : List aJb} (h : sN w base sz v n l) (hx : Cl w sz x m news) (hone : ∀ y ∈ news, one y = true) (hb : base <= w.heap.size)
 (hn : n + m <= 9223372036854775807) (hbytes : (n + m) * i.bytes <= 140737488355328) (_hpos : i.bytes ≠ 0)
 {K : aJb -> aJa -> Prop} (hk : ∀ v' w', sN w' base sz v' (n + m) (l ++ news) -> aS w w' (fun y => base <= y) -> K v' w') : aC P (jS .append #[t, t2] ty [v, x]) w K :=
 xT (S := fun y => base <= y) hu hu2 hi hsz hz hzs h hx hone (fun _ h => aHS hb h) hn hbytes _hpos hk
end
section
variable {P : Program} {w : aJa} {t e : TypeId}
theorem BE {i : TypeInfo} {z : aJb} {n : Nat} {ps : List (Nat × aJb)} {cells : Array aJb} (hu : P.underlying t = some (.slice e)) (hi : P.info? e = some i) (hz : i.zero = some z)
 (h1 : ¬ n * i.size > 2 ^ 24) (h0 : ¬ n * i.size = 0) (hf : Instr.fill (fun j => some (j * i.size, i.size)) ((Array.range (n * i.size)).map (z.cells[· % z.cells.size]!)) ps = some cells)
 {K : aJb -> aJa -> Prop} (hk : ∀ w', cJ w' w.heap.size cells.toList -> aS w w' cM -> w'.heap.size = w.heap.size + 1 -> K (.slice (some ⟨w.heap.size, 0, none⟩) n n) w') :
 aC P (bX t n ps) w K := by
 have hz' : (zeroValue e).run P w = .ok z w := by simp [zeroValue, typeInfo, hi, hz]
 have : (bX t n ps).run P w = .ok (.value (.slice (some ⟨w.heap.size, 0, none⟩) n n)) (w.alloc (.cells cells.toList.toArray e)) := by
  unfold bX; rw [pW]
  simp only [Instr.buildSlice, underlying, pure_bind, Sem.run_bind, run_program, Result.andThen_ok, hu, Sem.run_pure, gK hi, h1, h0, if_false, hz', hf, newRow, run_newObj]
  rfl
 unfold aC
 rw [this]
 exact hk _ (cJ.alloc _ _ _) (aS.alloc _ _ _) (by simp)
end
section
variable {P : Program} {w : aJa} {t e : TypeId}
def Grown (es : Array MapEntry) (clock : Nat) : Prop := (es.toList.map (·.born)).Pairwise (· < ·) /\ ∀ e ∈ es.toList, e.born < clock
def Mp {κ : Type} (w : aJa) (m : Nat) (enc : κ -> aJb) (l : List (κ × aJb)) : Prop :=
 ∃ es clock, w.heap[m]? = some (.map es clock) /\ es.toList.map (fun e => (e.key, e.val)) = l.map (fun p => (enc p.1, p.2)) /\ Grown es clock /\ (l.map (·.1)).Nodup
theorem Mp.lt {κ : Type} {m : Nat} {enc : κ -> aJb} {l : List (κ × aJb)} (h : Mp w m enc l) : m < w.heap.size := by
 obtain ⟨es, c, h, _⟩ := h
 rcases aHd m w.heap.size with h' | h'
 .exact h'
 .rw [aIB h'] at h; cases h
theorem Mp.ext {κ : Type} {w w' : aJa} {m : Nat} {enc : κ -> aJb} {l : List (κ × aJb)} {M : Nat -> Prop} (h : Mp w m enc l) (hx : aS w w' M) (hM : ¬ M m) : Mp w' m enc l := by
 have := h.lt
 obtain ⟨es, c, h, k⟩ := h
 exact ⟨es, c, by rw [hx.keep m this hM]; exact h, k⟩
theorem Mp.dr {κ : Type} {w : aJa} {m : Nat} {enc : κ -> aJb} {l : List (κ × aJb)} (h : Mp w m enc l) : Mp (dr w) m enc l := h
variable {κ : Type} [DecidableEq κ] {enc : κ -> aJb}
theorem Us {d : TypeDesc} {i : TypeInfo} (hu : P.underlying t = some d) (hd : avY d = true) (hi : P.info? t = some i) {b off : Nat} {l : List aJb} (hl : i.size = l.length) (h : ∀ j, j < l.length -> w.cell? ⟨b, off + j, none⟩ = l[j]?) :
 (aH t (.pointer (some ⟨b, off, none⟩))).run P w = .ok (.value (.agg l.toArray)) w := by
 unfold aH
 rw [pW]
 simp only [Instr.loadAt, Instr.sureAddr, loadVar, pure_bind, Sem.run_bind, Ov hu, hd, Result.andThen_ok, if_true, gK hi, hl, ZG h, Sem.run_pure]
end
theorem dO {w : aJa} {b : Nat} {cs : List aJb} (h : cJ w b cs) : cJ (dr w) b cs := h.ext (aS.dr w cM) (fun h => h)
theorem Sl.dr {w : aJa} {v : aJb} {l : List aJb} (h : Sl w v l) : Sl (dr w) v l := h
theorem Sl.open {w : aJa} {v : aJb} {l : List UInt8} (h : Bs w v l) (h0 : 0 < l.length) : ∃ b off c, v = .slice (some ⟨b, off, none⟩) l.length c /\ l.length <= c /\ ∀ i, (h : i < l.length) -> w.cell? ⟨b, off + i, none⟩ = some (FQ l[i]) := by
 obtain ⟨a, n, c, rfl, hn, hc, h⟩ := h
 simp only [aG1] at hn
 subst hn
 obtain ⟨b, off, rfl, hh⟩ := h h0
 exact ⟨b, off, c, rfl, hc, fun i hi => by rw [hh i hi]; simp [hi]⟩
theorem Sl.len {w : aJa} {v : aJb} {l : List aJb} (h : Sl w v l) : ∃ a c, v = .slice a l.length c /\ l.length <= c := by
 obtain ⟨a, n, c, rfl, rfl, hc, _⟩ := h
 exact ⟨a, c, rfl, hc⟩
theorem cD (v : aJb) : ¬ inB v cM := by unfold inB cM; split <;> simp
theorem ayR {b o m l : Nat} (h : l ≠ m) : iO (some ⟨b, o, none⟩) m l 1 = some ⟨b, o + l, none⟩ := by
 unfold iO; rw [if_neg (fun e => h e.symm)]; simp [Ek]
theorem avI {v : aJb} {M N : Nat -> Prop} (h : inB v M) (hm : ∀ b, M b -> N b) : inB v N := by
 unfold inB at *
 split at h
 .exact hm _ h
 .exact h
theorem sN.len {w : aJa} {b sz n : Nat} {v : aJb} {l : List aJb} (h : sN w b sz v n l) : ∃ a c, v = .slice a n c := by
 rcases h.2 with ⟨rfl, rfl⟩ | ⟨x, c, r, rfl, _⟩
 .exact ⟨_, _, rfl⟩
 .exact ⟨_, _, rfl⟩
theorem sN.lower {w : aJa} {a b sz n : Nat} {v : aJb} {l : List aJb} (h : sN w b sz v n l) (hab : a <= b) : sN w a sz v n l := by
 refine ⟨h.1, ?_⟩
 rcases h.2 with h | ⟨x, c, r, h1, h2, h3⟩
 .exact .inl h
 .exact .inr ⟨x, c, r, h1, by omega, h3⟩
theorem Sl.nil (w : aJa) : Sl w (.slice none 0 0) [] := ⟨none, 0, 0, rfl, rfl, aGZ _, fun h => absurd h (by simp)⟩
theorem Sl.take' {w : aJa} {a : Option Addr} {n c : Nat} {l : List aJb} (h : Sl w (.slice a n c) l) {k : Nat} (hk : k <= n) : Sl w (.slice (iO a c 0 1) (k - 0) (c - 0)) (l.take k) := by
 have h' := h
 obtain ⟨a', n', c', e, hn, hc, hh⟩ := h'
 cases e
 by_cases h0 : k = 0
 .subst h0
  exact ⟨_, _, _, rfl, by simp, by omega, fun h => by simp at h⟩
 .obtain ⟨b, off, rfl, _⟩ := hh (by omega)
  exact h.take hk
theorem Sl.drop' {w : aJa} {a : Option Addr} {n c : Nat} {l : List aJb} (h : Sl w (.slice a n c) l) {k : Nat} (hk : k <= n) : Sl w (.slice (iO a c k 1) (n - k) (c - k)) (l.drop k) := by
 have h' := h
 obtain ⟨a', n', c', e, hn, hc, hh⟩ := h'
 cases e
 by_cases h0 : n = 0
 .exact ⟨_, _, _, rfl, by rw [aHh]; omega, by omega, fun h => by omega⟩
 .obtain ⟨b, off, rfl, _⟩ := hh (by omega)
  exact h.drop hk
theorem Sl.openV {w : aJa} {v : aJb} {l : List aJb} (h : Sl w v l) (h0 : 0 < l.length) : ∃ b off c, v = .slice (some ⟨b, off, none⟩) l.length c /\ l.length <= c /\ ∀ i, (h : i < l.length) -> w.cell? ⟨b, off + i, none⟩ = some l[i] := by
 obtain ⟨a, n, c, rfl, hn, hc, h⟩ := h
 subst hn
 obtain ⟨b, off, rfl, hh⟩ := h h0
 exact ⟨b, off, c, rfl, hc, fun i hi => by rw [hh i hi]; simp [hi]⟩
theorem Sl.openI {w : aJa} {v : aJb} {k : IntKind} {l : List Int} (h : Sl w v (l.map (Value.int k))) (h0 : 0 < l.length) : ∃ b off c, v = .slice (some ⟨b, off, none⟩) l.length c /\ l.length <= c /\ ∀ i, (h : i < l.length) -> w.cell? ⟨b, off + i, none⟩ = some (.int k l[i]) := by
 obtain ⟨b, off, c, e, hc, hh⟩ := h.openV (by simpa using h0)
 simp only [aG1] at e hc hh
 exact ⟨b, off, c, e, hc, fun i hi => by rw [hh i hi]; simp⟩
theorem Sl.lenI {w : aJa} {v : aJb} {k : IntKind} {l : List Int} (h : Sl w v (l.map (Value.int k))) : ∃ a c, v = .slice a l.length c /\ l.length <= c := by
 obtain ⟨a, c, e, hc⟩ := h.len
 simp only [aG1] at e hc
 exact ⟨a, c, e, hc⟩
def Ph (n : Nat) (l : List aJb) : List aJb := (List.replicate n l).flatten
theorem ZJ (n : Nat) (l : List aJb) : (Ph n l).length = n * l.length := by
 unfold Ph; rw [List.length_flatten]; simp
theorem aBk : ∀ (n : Nat) (l : List aJb) (j : Nat) (_ : j < n * l.length) (h0 : 0 < l.length), (Ph n l)[j]? = some (l[j % l.length]'(aIz _ h0)) := by
 intro n
 induction n with
 | zero => intro l j h; simp at h
 | succ n ih =>
   intro l j h h0
   unfold Ph
   rw [aHO, List.flatten_cons]
   by_cases hj : j < l.length
   .rw [aG6 hj, aGX hj]
    simp only [aHm hj]
   .rw [aHy (by omega)]
    have := ih l (j - l.length) (by rw [aIT] at h; omega) h0
    unfold Ph at this
    rw [this]
    simp only [<- Nat.mod_eq_sub_mod (show j ≥ l.length by omega)]
theorem aA3 {P : Program} {w : aJa} {t e : TypeId} {k : IntKind} {i : TypeInfo} {z : aJb} {sz : Nat} (hu : P.underlying t = some (.slice e)) (hi : P.info? e = some i) (h1 : i.size = sz) (hsz : 0 < sz) (hz : i.zero = some z) (hz1 : z.cells.size = sz) {n : Int} (h0 : 0 <= n) (hn : i.bytes * n <= 2 ^ 48) (hn2 : n <= 9223372036854775807)
 {K : aJb -> aJa -> Prop}
 (hk : ∀ w', cJ w' w.heap.size (Ph n.toNat z.cells.toList) -> aS w w' cM -> w'.heap.size = w.heap.size + 1 -> K (.slice (some ⟨w.heap.size, 0, none⟩) n.toNat n.toNat) w') :
 aC P (yK t (.int k n) (.int k n)) w K := by
 have hw : IntKind.i64.wrap n = n := aT (by omega) hn2
 have hl : z.cells.toList.length = sz := by simpa using hz1
 have harr : (Array.range (n.toNat * sz)).map (fun j => z.cells[j % z.cells.size]!) = (Ph n.toNat z.cells.toList).toArray := by
  apply Array.ext
  .simp [ZJ, hz1]
  .intro j h1 h2
   have hj : j < n.toNat * sz := by simpa using h1
   have := aBk n.toNat z.cells.toList j (by rw [hl]; exact hj) (by rw [hl]; exact hsz)
   have hm : j % z.cells.size < z.cells.size := aIz _ (by omega)
   simp only [Array.getElem_map, Array.getElem_range, List.getElem_toArray]
   rw [getElem!_pos z.cells _ hm]
   rw [aGX (by rw [ZJ, hl]; exact hj)] at this
   have := aG8 this
   rw [this]
   simp
 have hz' : (zeroValue e).run P w = .ok z w := by simp [zeroValue, typeInfo, hi, hz]
 have : (yK t (.int k n) (.int k n)).run P w = .ok (.value (.slice (some ⟨w.heap.size, 0, none⟩) n.toNat n.toNat)) (w.alloc (.cells (Ph n.toNat z.cells.toList).toArray e)) := by
  unfold yK
  rw [pW]
  have t1 : (decide (n < 0) || decide ((i.bytes : Int) * n > 2 ^ 48) || decide (n < 0) || decide (n > n)) = false := by
   simp only [aIK, decide_eq_false_iff_not]; omega
  by_cases hn0 : n.toNat * sz = 0
  .simp only [Instr.makeSlice, underlying, typeInfo, asInt, asIntOf, pure_bind, Sem.run_bind, run_program, Result.andThen_ok, hu, hi, Sem.run_pure, hw, t1, aGW, if_false, run_askRoom, gK hi, h1, hn0, if_true, newRow, run_newObj]
   have hn : n.toNat = 0 := by rcases Nat.mul_eq_zero.1 hn0 with h | h <;> omega
   have : (Array.range 0).map (fun x => (#[] : Array aJb)[x % (#[] : Array aJb).size]!) = (Ph n.toNat z.cells.toList).toArray := by rw [hn]; simp [Ph]
   rw [this]
   rfl
  .simp only [Instr.makeSlice, underlying, typeInfo, asInt, asIntOf, pure_bind, Sem.run_bind, run_program, Result.andThen_ok, hu, hi, Sem.run_pure, hw, t1, aGW, if_false, run_askRoom, gK hi, h1, hn0, hz', newRow, run_newObj, harr]
   rfl
 unfold aC
 rw [this]
 exact hk _ (cJ.alloc _ _ _) (aS.alloc _ _ _) (by simp)
abbrev T3 := Int × Int × Int
def fe (k : IntKind) : List T3 -> List aJb
 | [] => []
 | e :: r => .int k e.1 :: .int .i64 e.2.1 :: .int .i64 e.2.2 :: fe k r
theorem kR (k : IntKind) : ∀ L : List T3, (fe k L).length = L.length * 3
 | [] => rfl
 | e :: r => by simp [fe, kR k r]; omega
theorem aqN (k : IntKind) : ∀ L M : List T3, fe k (L ++ M) = fe k L ++ fe k M
 | [], _ => rfl
 | e :: r, M => by simp [fe, aqN k r M]
theorem adI (k : IntKind) : ∀ (L : List T3) (i : Nat) (h : i < L.length), (fe k L)[i * 3]? = some (.int k L[i].1) /\ (fe k L)[i * 3 + 1]? = some (.int .i64 L[i].2.1) /\ (fe k L)[i * 3 + 2]? = some (.int .i64 L[i].2.2)
 | [], i, h => by simp at h
 | e :: r, 0, _ => ⟨rfl, rfl, rfl⟩
 | e :: r, i + 1, h => by
   have := adI k r i (by simpa using h)
   rw [aHQ]
   exact this
theorem adZ (k : IntKind) : ∀ (L : List T3) (i : Nat) (h : i < L.length) (x : Int), (fe k L).set (i * 3) (.int k x) = fe k (L.set i (x, L[i].2)) /\ (fe k L).set (i * 3 + 1) (.int .i64 x) = fe k (L.set i (L[i].1, x, L[i].2.2)) /\ (fe k L).set (i * 3 + 2) (.int .i64 x) = fe k (L.set i (L[i].1, L[i].2.1, x))
 | [], i, h, _ => by simp at h
 | e :: r, 0, _, x => ⟨rfl, rfl, rfl⟩
 | e :: r, i + 1, h, x => by
   have := adZ k r i (by simpa using h) x
   rw [aHQ]
   obtain ⟨h1, h2, h3⟩ := this
   refine ⟨?_, ?_, ?_⟩
   .show (_ :: _ :: _ :: (fe k r).set (i * 3) _) = _; rw [h1] <;> rfl
   .show (_ :: _ :: _ :: (fe k r).set (i * 3 + 1) _) = _; rw [h2] <;> rfl
   .show (_ :: _ :: _ :: (fe k r).set (i * 3 + 2) _) = _; rw [h3] <;> rfl
theorem aAp (k : IntKind) (x : Int) : ∀ n : Nat, Ph n [.int k x, .int .i64 0, .int .i64 0] = fe k (List.replicate n (x, 0, 0))
 | 0 => rfl
 | n + 1 => by
   have := aAp k x n
   unfold Ph at this ⊢
   rw [aHO, List.flatten_cons, this, aHO] <;> rfl
theorem axZ {P : Program} {w : aJa} {t e : TypeId} {k k' : IntKind} {hi mx : Int} {i : TypeInfo} (hu : P.underlying t = some (.slice e)) (hi' : P.info? e = some i) (x : Option Addr) (n c : Nat) (h0 : 0 <= hi) (h1 : hi <= mx) (h2 : mx <= c) :
 (fJ t (.slice x n c) none (some (.int k hi)) (some (.int k' mx))).run P w = .ok (.value (.slice (iO x mx.toNat 0 i.size) (hi.toNat - 0) (mx.toNat - 0))) w := by
 have h3 : (0 : Int) <= mx := by omega
 have h4 : hi <= (mx.toNat : Int) := by omega
 simp only [fJ, pW, Instr.sliceAt, underlying, hu, Sem.run_bind, run_program, Result.andThen_ok, Sem.run_pure, Instr.slice, Instr.sliceBounds, pure_bind, zJ h3 h2, zJ h0 h4, gK hi', iO]
end Go.En
namespace Go.Proofs.YtaggdjhhmbnhoaaDoor
open Go Go.En
set_option maxRecDepth 4000
theorem wL (n0 : Int) (n1 : Int) (n2 : Int) (w : aJa) : (bV 47 [(0, (.int .u32 n0)), (1, (.int .u32 n1)), (2, (.int .u32 n2))]).run pg w = .ok (.value (.agg #[(.int .u32 n0), (.int .u32 n1), (.int .u32 n2)])) w := by kernel_rfl
theorem alG : (pg).info? 47 = some Tryd.t47 := by kernel_rfl
theorem BG {n : Nat} {ps : List (Nat × aJb)} {cells : Array aJb} {w : aJa} (h1 : ¬ n * 3 > 2 ^ 24) (h0 : ¬ n * 3 = 0) (hf : Go.Instr.fill (fun j => some (j * 3, 3)) ((Array.range (n * 3)).map ((Tryd.t47.zero.get!).cells[· % (Tryd.t47.zero.get!).cells.size]!)) ps = some cells) {K : aJb -> aJa -> Prop} (hk : ∀ w', cJ w' w.heap.size cells.toList -> aS w w' cM -> w'.heap.size = w.heap.size + 1 -> K (.slice (some ⟨w.heap.size, 0, none⟩) n n) w') : aC pg (bX 24 n ps) w K := BE (i := Tryd.t47) Tryd.underlying24 alG rfl h1 h0 hf hk
theorem dU  (w : aJa) : (bV 29 []).run pg w = .ok (.value (.agg #[(.int .i64 0), (.slice none 0 0), (.int .i64 0), (.slice none 0 0), (.int .i64 0), (.slice none 0 0)])) w := by kernel_rfl
theorem aAd : (pg).info? 29 = some Tryd.t29 := by kernel_rfl
theorem jQ {w : aJa} {K : aJb -> aJa -> Prop} (hk : ∀ w', cJ w' w.heap.size [(.int .i64 0), (.slice none 0 0), (.int .i64 0), (.slice none 0 0), (.int .i64 0), (.slice none 0 0)] -> aS w w' cM -> w'.heap.size = w.heap.size + 1 -> K (.pointer (some ⟨w.heap.size, 0, none⟩)) w') : aC pg (bT 29) w K := jJ (i := Tryd.t29) aAd rfl hk
theorem kD {b off : Nat} {cs : List aJb} {w : aJa} {xs : Array aJb} {K : aJb -> aJa -> Prop} (ho : cJ w b cs) (hs : xs.size = 6) (hv : ∀ x ∈ xs.toList, one x = true) (h : off + 6 <= cs.length) (hk : ∀ w', cJ w' b (aV cs off xs.toList) -> aS w w' (fun x => x = b) -> w'.heap.size = w.heap.size -> K undef w') : aC pg (aJ 29 (.pointer (some ⟨b, off, none⟩)) (.agg xs)) w K := kB (v := .agg xs) aAd ho hs hv h hk
theorem fO {ty : TypeId} (x : Option Addr) (n c : Nat) (w : aJa) : (jS .len #[22] ty [.slice x n c]).run pg w = .ok (.value (.int .i64 n)) w := Xa Tryd.underlying22 x n c
theorem Vb : (pg).info? 5 = some Tryd.t5 := by kernel_rfl
theorem oM {k : IntKind} {a : Int} (b o n c : Nat) (w : aJa) (h0 : 0 <= a) (h1 : a < n) : (bA 22 (.slice (some ⟨b, o, none⟩) n c) (.int k a)).run pg w = .ok (.value (.pointer (some ⟨b, o + a.toNat, none⟩))) w := Uz rfl Tryd.underlying22 Vb b o n c h0 h1
theorem mI (x : Addr) (w : aJa) : (aH 5 (.pointer (some x))).run pg w = ldC (w.cell? x) w (far pg 5 x w) := amR Tryd.underlying5 rfl x w
theorem fH {ty : TypeId} (x : Option Addr) (n c : Nat) (w : aJa) : (jS .len #[24] ty [.slice x n c]).run pg w = .ok (.value (.int .i64 n)) w := Xa Tryd.underlying24 x n c
theorem nG {k : IntKind} {a : Int} (b o n c : Nat) (w : aJa) (h0 : 0 <= a) (h1 : a < n) : (bA 24 (.slice (some ⟨b, o, none⟩) n c) (.int k a)).run pg w = .ok (.value (.pointer (some ⟨b, o + a.toNat * 3, none⟩))) w := afV rfl Tryd.underlying24 alG b o n c h0 h1
theorem Q7 : (pg).info? 43 = some Tryd.t43 := by kernel_rfl
theorem jN (b o : Nat) (w : aJa) : (aL 47 (.pointer (some ⟨b, o, none⟩)) 0).run pg w = .ok (.value (.pointer (some ⟨b, o, none⟩))) w := iU (i := 0) Tryd.underlying47 rfl Q7 (by decide) _
theorem tL (x : Addr) (w : aJa) : (aH 43 (.pointer (some x))).run pg w = ldC (w.cell? x) w (far pg 43 x w) := amR Tryd.underlying43 rfl x w
theorem kP (b o : Nat) (w : aJa) : (aL 47 (.pointer (some ⟨b, o, none⟩)) 2).run pg w = .ok (.value (.pointer (some ⟨b, o + 2, none⟩))) w := iU (i := 2) Tryd.underlying47 rfl Q7 (by decide) _
theorem lH (b o : Nat) (w : aJa) : (aL 47 (.pointer (some ⟨b, o, none⟩)) 1).run pg w = .ok (.value (.pointer (some ⟨b, o + 1, none⟩))) w := iU (i := 1) Tryd.underlying47 rfl Q7 (by decide) _
theorem awG : (pg).info? 27 = some Tryd.t27 := by kernel_rfl
theorem eK {k : IntKind} {a : Int} (b o : Nat) (w : aJa) (h0 : 0 <= a) (h1 : a < 3) : (bA 29 (.pointer (some ⟨b, o, none⟩)) (.int k a)).run pg w = .ok (.value (.pointer (some ⟨b, o + a.toNat * 2, none⟩))) w := aqB rfl Tryd.underlying29 awG b o h0 (by simpa using h1)
theorem aGe : (pg).info? 25 = some Tryd.t25 := by kernel_rfl
theorem bY (b o : Nat) (w : aJa) : (aL 27 (.pointer (some ⟨b, o, none⟩)) 1).run pg w = .ok (.value (.pointer (some ⟨b, o + 1, none⟩))) w := iU (i := 1) Tryd.underlying27 rfl aGe (by decide) _
theorem dS (x : Addr) (w : aJa) : (aH 25 (.pointer (some x))).run pg w = ldC (w.cell? x) w (far pg 25 x w) := amR Tryd.underlying25 rfl x w
theorem hY {ty : TypeId} (x : Option Addr) (n c : Nat) (w : aJa) : (jS .len #[25] ty [.slice x n c]).run pg w = .ok (.value (.int .i64 n)) w := Xa Tryd.underlying25 x n c
theorem Gk {b off : Nat} {cs : List aJb} {w : aJa} (ho : cJ w b cs) (h : off + 6 <= cs.length) {K : aJb -> Prop} (hk : K (.agg ((cs.drop off).take 6).toArray)) : kC pg 29 (.pointer (some ⟨b, off, none⟩)) w K := C1 Tryd.underlying29 rfl aAd ho h hk
theorem mB {b off : Nat} {cs : List aJb} {w : aJa} (ho : cJ w b cs) (h : off + 6 <= cs.length) : (aH 29 (.pointer (some ⟨b, off, none⟩))).run pg w = .ok (.value (.agg ((cs.drop off).take 6).toArray)) w := zO Tryd.underlying29 rfl aAd ho h
theorem aGa : (pg).info? 67 = some Tryd.t67 := by kernel_rfl
theorem aoD {w : aJa} {K : aJb -> aJa -> Prop} (hk : ∀ w', cJ w' w.heap.size [(.int .i64 0), (.int .i64 0), (.int .i64 0)] -> aS w w' cM -> w'.heap.size = w.heap.size + 1 -> K (.pointer (some ⟨w.heap.size, 0, none⟩)) w') : aC pg (bT 67) w K := jJ (i := Tryd.t67) aGa rfl hk
theorem gI {b off : Nat} {cs : List aJb} {w : aJa} (ho : cJ w b cs) (h : off + 2 <= cs.length) : (aH 27 (.pointer (some ⟨b, off, none⟩))).run pg w = .ok (.value (.agg ((cs.drop off).take 2).toArray)) w := zO Tryd.underlying27 rfl awG ho h
theorem Cn : (pg).info? 3 = some Tryd.t3 := by kernel_rfl
theorem xR {k : IntKind} {a : Int} (b o : Nat) (w : aJa) (h0 : 0 <= a) (h1 : a < 3) : (bA 67 (.pointer (some ⟨b, o, none⟩)) (.int k a)).run pg w = .ok (.value (.pointer (some ⟨b, o + a.toNat, none⟩))) w := I3 rfl Tryd.underlying67 Cn b o h0 (by simpa using h1)
theorem sH {b off : Nat} {cs : List aJb} {w : aJa} {v : aJb} {K : aJb -> aJa -> Prop} (ho : cJ w b cs) (hv : one v = true) (h : off < cs.length) (hk : ∀ w', cJ w' b (cs.set off v) -> aS w w' (fun x => x = b) -> w'.heap.size = w.heap.size -> K undef w') : aC pg (aJ 3 (.pointer (some ⟨b, off, none⟩)) v) w K := uK Cn rfl ho hv h hk
theorem HD {w : aJa} {K : aJb -> aJa -> Prop} (hk : ∀ w', cJ w' w.heap.size [(.int .u32 0), (.int .u32 0), (.int .u32 0)] -> aS w w' cM -> w'.heap.size = w.heap.size + 1 -> K (.pointer (some ⟨w.heap.size, 0, none⟩)) w') : aC pg (bT 47) w K := jJ (i := Tryd.t47) alG rfl hk
theorem bZ (x : Addr) (w : aJa) : (aH 3 (.pointer (some x))).run pg w = ldC (w.cell? x) w (far pg 3 x w) := amR Tryd.underlying3 rfl x w
theorem EN {b off : Nat} {cs : List aJb} {w : aJa} {v : aJb} {K : aJb -> aJa -> Prop} (ho : cJ w b cs) (hv : one v = true) (h : off < cs.length) (hk : ∀ w', cJ w' b (cs.set off v) -> aS w w' (fun x => x = b) -> w'.heap.size = w.heap.size -> K undef w') : aC pg (aJ 43 (.pointer (some ⟨b, off, none⟩)) v) w K := uK Q7 rfl ho hv h hk
theorem aeA {b off : Nat} {l : List aJb} {w : aJa} (hl : l.length = 3) (h : ∀ j, j < l.length -> w.cell? ⟨b, off + j, none⟩ = l[j]?) : (aH 47 (.pointer (some ⟨b, off, none⟩))).run pg w = .ok (.value (.agg l.toArray)) w := Us Tryd.underlying47 rfl alG hl.symm h
theorem Em {b off : Nat} {cs : List aJb} {w : aJa} (ho : cJ w b cs) (h : off + 3 <= cs.length) : (aH 47 (.pointer (some ⟨b, off, none⟩))).run pg w = .ok (.value (.agg ((cs.drop off).take 3).toArray)) w := zO Tryd.underlying47 rfl alG ho h
theorem qK {base n m : Nat} {ty : TypeId} {w : aJa} {v x : aJb} {l news : List aJb} (h : sN w base 3 v n l) (hx : Cl w 3 x m news) (hone : ∀ y ∈ news, one y = true) (hb : base <= w.heap.size) (hbytes : (n + m) * 12 <= 140737488355328) {K : aJb -> aJa -> Prop} (hk : ∀ v' w', sN w' base 3 v' (n + m) (l ++ news) -> aS w w' (fun y => base <= y) -> K v' w') : aC pg (jS .append #[24, 24] ty [v, x]) w K := EO (i := Tryd.t47) Tryd.underlying24 Tryd.underlying24 alG rfl rfl rfl h hx hone hb (by omega) hbytes (by decide) hk
theorem pX (n0 : Int) (n1 : Int) (n2 : Int) (w : aJa) : (bV 67 [(0, (.int .i64 n0)), (1, (.int .i64 n1)), (2, (.int .i64 n2))]).run pg w = .ok (.value (.agg #[(.int .i64 n0), (.int .i64 n1), (.int .i64 n2)])) w := by kernel_rfl
theorem BL {k : IntKind} {a : Int} (cs : Array aJb) (w : aJa) (h0 : 0 <= a) (h1 : a < 3) : (G4 67 (.agg cs) (.int k a)).run pg w = ldC cs[a.toNat]? w (aE4 pg 67 cs k a w) := aDz Tryd.underlying67 Tryd.underlying3 rfl Cn rfl cs h0 (by simpa using h1)
theorem azU : (pg).info? 36 = some Tryd.t36 := by kernel_rfl
theorem zX {b off : Nat} {cs : List aJb} {w : aJa} (ho : cJ w b cs) (h : off + 6 <= cs.length) {K : aJb -> Prop} (hk : K (.agg ((cs.drop off).take 6).toArray)) : kC pg 36 (.pointer (some ⟨b, off, none⟩)) w K := C1 Tryd.underlying36 rfl azU ho h hk
theorem lL {w : aJa} {K : aJb -> aJa -> Prop} (hk : ∀ w', cJ w' w.heap.size [(.int .i64 0), (.slice none 0 0), (.int .i64 0), (.slice none 0 0), (.int .i64 0), (.slice none 0 0)] -> aS w w' cM -> w'.heap.size = w.heap.size + 1 -> K (.pointer (some ⟨w.heap.size, 0, none⟩)) w') : aC pg (bT 36) w K := jJ (i := Tryd.t36) azU rfl hk
theorem vA (s0 : ByteArray) (w : aJa) : (bV 72 [(0, (.string s0))]).run pg w = .ok (.value (.agg #[(.string s0), (.int .i64 0)])) w := by kernel_rfl
theorem aAx : (pg).info? 72 = some Tryd.t72 := by kernel_rfl
theorem kE {w : aJa} {K : aJb -> aJa -> Prop} (hk : ∀ w', cJ w' w.heap.size [(.string ⟨#[]⟩), (.int .i64 0)] -> aS w w' cM -> w'.heap.size = w.heap.size + 1 -> K (.pointer (some ⟨w.heap.size, 0, none⟩)) w') : aC pg (bT 72) w K := jJ (i := Tryd.t72) aAx rfl hk
theorem iI {b off : Nat} {cs : List aJb} {w : aJa} {xs : Array aJb} {K : aJb -> aJa -> Prop} (ho : cJ w b cs) (hs : xs.size = 2) (hv : ∀ x ∈ xs.toList, one x = true) (h : off + 2 <= cs.length) (hk : ∀ w', cJ w' b (aV cs off xs.toList) -> aS w w' (fun x => x = b) -> w'.heap.size = w.heap.size -> K undef w') : aC pg (aJ 72 (.pointer (some ⟨b, off, none⟩)) (.agg xs)) w K := kB (v := .agg xs) aAx ho hs hv h hk
theorem aC9 : (pg).info? 30 = some Tryd.t30 := by kernel_rfl
theorem fG (b o : Nat) (w : aJa) : (aL 72 (.pointer (some ⟨b, o, none⟩)) 1).run pg w = .ok (.value (.pointer (some ⟨b, o + 1, none⟩))) w := iU (i := 1) Tryd.underlying72 rfl aC9 (by decide) _
theorem jD (x : Addr) (w : aJa) : (aH 30 (.pointer (some x))).run pg w = ldC (w.cell? x) w (far pg 30 x w) := amR Tryd.underlying30 rfl x w
theorem gM {b off : Nat} {cs : List aJb} {w : aJa} (ho : cJ w b cs) (h : off + 6 <= cs.length) : (aH 36 (.pointer (some ⟨b, off, none⟩))).run pg w = .ok (.value (.agg ((cs.drop off).take 6).toArray)) w := zO Tryd.underlying36 rfl azU ho h
theorem mY {b off : Nat} {cs : List aJb} {w : aJa} {xs : Array aJb} {K : aJb -> aJa -> Prop} (ho : cJ w b cs) (hs : xs.size = 6) (hv : ∀ x ∈ xs.toList, one x = true) (h : off + 6 <= cs.length) (hk : ∀ w', cJ w' b (aV cs off xs.toList) -> aS w w' (fun x => x = b) -> w'.heap.size = w.heap.size -> K undef w') : aC pg (aJ 36 (.pointer (some ⟨b, off, none⟩)) (.agg xs)) w K := kB (v := .agg xs) azU ho hs hv h hk
theorem aFT : (pg).info? 9 = some Tryd.t9 := by kernel_rfl
theorem gP (b o : Nat) (w : aJa) : (aL 72 (.pointer (some ⟨b, o, none⟩)) 0).run pg w = .ok (.value (.pointer (some ⟨b, o, none⟩))) w := iU (i := 0) Tryd.underlying72 rfl aFT (by decide) _
theorem zU (x : Addr) (w : aJa) : (aH 9 (.pointer (some x))).run pg w = ldC (w.cell? x) w (far pg 9 x w) := amR Tryd.underlying9 rfl x w
theorem rH {ty : TypeId} (x : ByteArray) (w : aJa) : (jS .len #[9] ty [.string x]).run pg w = .ok (.value (.int .i64 x.size)) w := aEY Tryd.underlying9 x
theorem gJ {b off : Nat} {cs : List aJb} {w : aJa} (ho : cJ w b cs) (h : off + 2 <= cs.length) : (aH 72 (.pointer (some ⟨b, off, none⟩))).run pg w = .ok (.value (.agg ((cs.drop off).take 2).toArray)) w := zO Tryd.underlying72 rfl aAx ho h
theorem cZ {k : IntKind} (a : Int) (w : aJa) : (fM 73 3 (.int k a)).run pg w = .ok (.value (.int .i64 (IntKind.i64.wrap a))) w := Di Tryd.underlying73 Tryd.underlying3
theorem wC {n : Nat} {ps : List (Nat × aJb)} {cells : Array aJb} {w : aJa} (h1 : ¬ n * 1 > 2 ^ 24) (h0 : ¬ n * 1 = 0) (hf : Go.Instr.fill (fun j => some (j * 1, 1)) ((Array.range (n * 1)).map ((Tryd.t3.zero.get!).cells[· % (Tryd.t3.zero.get!).cells.size]!)) ps = some cells) {K : aJb -> aJa -> Prop} (hk : ∀ w', cJ w' w.heap.size cells.toList -> aS w w' cM -> w'.heap.size = w.heap.size + 1 -> K (.slice (some ⟨w.heap.size, 0, none⟩) n n) w') : aC pg (bX 77 n ps) w K := BE (i := Tryd.t3) Tryd.underlying77 Cn rfl h1 h0 hf hk
theorem dJ {k : IntKind} {a : Int} (b o n c : Nat) (w : aJa) (h0 : 0 <= a) (h1 : a < n) : (bA 77 (.slice (some ⟨b, o, none⟩) n c) (.int k a)).run pg w = .ok (.value (.pointer (some ⟨b, o + a.toNat, none⟩))) w := Uz rfl Tryd.underlying77 Cn b o n c h0 h1
theorem atH : (pg).info? 35 = some Tryd.t35 := by kernel_rfl
theorem eE {k : IntKind} {a : Int} (b o : Nat) (w : aJa) (h0 : 0 <= a) (h1 : a < 3) : (bA 36 (.pointer (some ⟨b, o, none⟩)) (.int k a)).run pg w = .ok (.value (.pointer (some ⟨b, o + a.toNat * 2, none⟩))) w := aqB rfl Tryd.underlying36 atH b o h0 (by simpa using h1)
theorem dB {b off : Nat} {cs : List aJb} {w : aJa} (ho : cJ w b cs) (h : off + 2 <= cs.length) : (aH 35 (.pointer (some ⟨b, off, none⟩))).run pg w = .ok (.value (.agg ((cs.drop off).take 2).toArray)) w := zO Tryd.underlying35 rfl atH ho h
theorem gW {w : aJa} {K : aJb -> aJa -> Prop} (hk : ∀ w', cJ w' w.heap.size [(.int .i64 0), (.slice none 0 0)] -> aS w w' cM -> w'.heap.size = w.heap.size + 1 -> K (.pointer (some ⟨w.heap.size, 0, none⟩)) w') : aC pg (bT 35) w K := jJ (i := Tryd.t35) atH rfl hk
theorem eM {b off : Nat} {cs : List aJb} {w : aJa} {xs : Array aJb} {K : aJb -> aJa -> Prop} (ho : cJ w b cs) (hs : xs.size = 2) (hv : ∀ x ∈ xs.toList, one x = true) (h : off + 2 <= cs.length) (hk : ∀ w', cJ w' b (aV cs off xs.toList) -> aS w w' (fun x => x = b) -> w'.heap.size = w.heap.size -> K undef w') : aC pg (aJ 35 (.pointer (some ⟨b, off, none⟩)) (.agg xs)) w K := kB (v := .agg xs) atH ho hs hv h hk
theorem uM {k : IntKind} {lo : Int} (x : ByteArray) (w : aJa) (h0 : 0 <= lo) (h1 : lo <= x.size) : (fJ 9 (.string x) (some (.int k lo)) none none).run pg w = .ok (.value (.string (x.extract lo.toNat x.size))) w := atS Tryd.underlying9  x h0 h1
theorem aAv : (pg).info? 82 = some Tryd.t82 := by kernel_rfl
theorem jA {w : aJa} {K : aJb -> aJa -> Prop} (hk : ∀ w', cJ w' w.heap.size [(.slice none 0 0), (.int .i64 0)] -> aS w w' cM -> w'.heap.size = w.heap.size + 1 -> K (.pointer (some ⟨w.heap.size, 0, none⟩)) w') : aC pg (bT 82) w K := jJ (i := Tryd.t82) aAv rfl hk
theorem bU {b off : Nat} {cs : List aJb} {w : aJa} {xs : Array aJb} {K : aJb -> aJa -> Prop} (ho : cJ w b cs) (hs : xs.size = 2) (hv : ∀ x ∈ xs.toList, one x = true) (h : off + 2 <= cs.length) (hk : ∀ w', cJ w' b (aV cs off xs.toList) -> aS w w' (fun x => x = b) -> w'.heap.size = w.heap.size -> K undef w') : aC pg (aJ 82 (.pointer (some ⟨b, off, none⟩)) (.agg xs)) w K := kB (v := .agg xs) aAv ho hs hv h hk
theorem cX {b off : Nat} {cs : List aJb} {w : aJa} (ho : cJ w b cs) (h : off + 2 <= cs.length) : (aH 82 (.pointer (some ⟨b, off, none⟩))).run pg w = .ok (.value (.agg ((cs.drop off).take 2).toArray)) w := zO Tryd.underlying82 rfl aAv ho h
theorem fU {ty : TypeId} (x : Option Addr) (n c : Nat) (w : aJa) : (jS .len #[91] ty [.slice x n c]).run pg w = .ok (.value (.int .i64 n)) w := Xa Tryd.underlying91 x n c
theorem uO {k : IntKind} {a : Int} (b o n c : Nat) (w : aJa) (h0 : 0 <= a) (h1 : a < n) : (bA 91 (.slice (some ⟨b, o, none⟩) n c) (.int k a)).run pg w = .ok (.value (.pointer (some ⟨b, o + a.toNat, none⟩))) w := Uz rfl Tryd.underlying91 Q7 b o n c h0 h1
theorem lD {k : IntKind} (a : Int) (w : aJa) : (fM 3 94 (.int k a)).run pg w = .ok (.value (.int .u64 (IntKind.u64.wrap a))) w := Di Tryd.underlying3 Tryd.underlying94
theorem tY {n : Nat} {ps : List (Nat × aJb)} {cells : Array aJb} {w : aJa} (h1 : ¬ n * 1 > 2 ^ 24) (h0 : ¬ n * 1 = 0) (hf : Go.Instr.fill (fun j => some (j * 1, 1)) ((Array.range (n * 1)).map ((Tryd.t5.zero.get!).cells[· % (Tryd.t5.zero.get!).cells.size]!)) ps = some cells) {K : aJb -> aJa -> Prop} (hk : ∀ w', cJ w' w.heap.size cells.toList -> aS w w' cM -> w'.heap.size = w.heap.size + 1 -> K (.slice (some ⟨w.heap.size, 0, none⟩) n n) w') : aC pg (bX 22 n ps) w K := BE (i := Tryd.t5) Tryd.underlying22 Vb rfl h1 h0 hf hk
theorem fW {k : IntKind} (a : Int) (w : aJa) : (fM 3 73 (.int k a)).run pg w = .ok (.value (.int .u64 (IntKind.u64.wrap a))) w := Di Tryd.underlying3 Tryd.underlying73
theorem aAb : (pg).info? 98 = some Tryd.t98 := by kernel_rfl
theorem Fo {w : aJa} {K : aJb -> aJa -> Prop} (hk : ∀ w', cJ w' w.heap.size [(.slice none 0 0), (.slice none 0 0), (.slice none 0 0)] -> aS w w' cM -> w'.heap.size = w.heap.size + 1 -> K (.pointer (some ⟨w.heap.size, 0, none⟩)) w') : aC pg (bT 98) w K := jJ (i := Tryd.t98) aAb rfl hk
theorem Ku {b off : Nat} {cs : List aJb} {w : aJa} {xs : Array aJb} {K : aJb -> aJa -> Prop} (ho : cJ w b cs) (hs : xs.size = 3) (hv : ∀ x ∈ xs.toList, one x = true) (h : off + 3 <= cs.length) (hk : ∀ w', cJ w' b (aV cs off xs.toList) -> aS w w' (fun x => x = b) -> w'.heap.size = w.heap.size -> K undef w') : aC pg (aJ 98 (.pointer (some ⟨b, off, none⟩)) (.agg xs)) w K := kB (v := .agg xs) aAb ho hs hv h hk
theorem azR : (pg).info? 77 = some Tryd.t77 := by kernel_rfl
theorem sJ {k : IntKind} {a : Int} (b o : Nat) (w : aJa) (h0 : 0 <= a) (h1 : a < 3) : (bA 98 (.pointer (some ⟨b, o, none⟩)) (.int k a)).run pg w = .ok (.value (.pointer (some ⟨b, o + a.toNat, none⟩))) w := I3 rfl Tryd.underlying98 azR b o h0 (by simpa using h1)
theorem cL (x : Addr) (w : aJa) : (aH 77 (.pointer (some x))).run pg w = ldC (w.cell? x) w (far pg 77 x w) := amR Tryd.underlying77 rfl x w
theorem iK {w : aJa} {K : aJb -> aJa -> Prop} (hk : ∀ w', cJ w' w.heap.size [(.int .i64 0), (.slice none 0 0)] -> aS w w' cM -> w'.heap.size = w.heap.size + 1 -> K (.pointer (some ⟨w.heap.size, 0, none⟩)) w') : aC pg (bT 27) w K := jJ (i := Tryd.t27) awG rfl hk
theorem eI {b off : Nat} {cs : List aJb} {w : aJa} {xs : Array aJb} {K : aJb -> aJa -> Prop} (ho : cJ w b cs) (hs : xs.size = 2) (hv : ∀ x ∈ xs.toList, one x = true) (h : off + 2 <= cs.length) (hk : ∀ w', cJ w' b (aV cs off xs.toList) -> aS w w' (fun x => x = b) -> w'.heap.size = w.heap.size -> K undef w') : aC pg (aJ 27 (.pointer (some ⟨b, off, none⟩)) (.agg xs)) w K := kB (v := .agg xs) awG ho hs hv h hk
theorem xO {base n m : Nat} {ty : TypeId} {w : aJa} {v x : aJb} {l news : List aJb} (h : sN w base 1 v n l) (hx : Cl w 1 x m news) (hone : ∀ y ∈ news, one y = true) (hb : base <= w.heap.size) (hbytes : (n + m) * 1 <= 140737488355328) {K : aJb -> aJa -> Prop} (hk : ∀ v' w', sN w' base 1 v' (n + m) (l ++ news) -> aS w w' (fun y => base <= y) -> K v' w') : aC pg (jS .append #[22, 22] ty [v, x]) w K := EO (i := Tryd.t5) Tryd.underlying22 Tryd.underlying22 Vb rfl rfl rfl h hx hone hb (by omega) hbytes (by decide) hk
theorem KH {b off : Nat} {cs : List aJb} {w : aJa} (ho : cJ w b cs) (h : off + 3 <= cs.length) : (aH 98 (.pointer (some ⟨b, off, none⟩))).run pg w = .ok (.value (.agg ((cs.drop off).take 3).toArray)) w := zO Tryd.underlying98 rfl aAb ho h
theorem XY {k : IntKind} {a : Int} (b o : Nat) (w : aJa) (h0 : 0 <= a) (h1 : a < 3) : (bA 41 (.pointer (some ⟨b, o, none⟩)) (.int k a)).run pg w = .ok (.value (.pointer (some ⟨b, o + a.toNat, none⟩))) w := I3 rfl Tryd.underlying41 Vb b o h0 (by simpa using h1)
theorem tB (aF3 aFZ : aJb) (aF1 aGb : aJb) (aGg aFV : aJb) (w : aJa) : (bV 36 [(0, (.agg #[aF3, aFZ])), (1, (.agg #[aF1, aGb])), (2, (.agg #[aGg, aFV]))]).run pg w = .ok (.value (.agg #[aF3, aFZ, aF1, aGb, aGg, aFV])) w := by kernel_rfl
theorem BT (a0 : Option Addr) (l0 c0 : Nat) (w : aJa) : (bV 112 [(0, (.slice a0 l0 c0))]).run pg w = .ok (.value (.agg #[(.slice a0 l0 c0), (.int .i64 0)])) w := by kernel_rfl
theorem lS {ox oy : Operand} (x : Option Addr) (w : aJa) : (aG .eql 56 ox oy (.pointer x) (.pointer none)).run pg w = .ok (.value (.bool x.isNone)) w := anY Tryd.underlying56 x
theorem nL (b o : Nat) (w : aJa) : (aL 112 (.pointer (some ⟨b, o, none⟩)) 1).run pg w = .ok (.value (.pointer (some ⟨b, o + 1, none⟩))) w := iU (i := 1) Tryd.underlying112 rfl aC9 (by decide) _
theorem apX : (pg).info? 22 = some Tryd.t22 := by kernel_rfl
theorem nJ (b o : Nat) (w : aJa) : (aL 112 (.pointer (some ⟨b, o, none⟩)) 0).run pg w = .ok (.value (.pointer (some ⟨b, o, none⟩))) w := iU (i := 0) Tryd.underlying112 rfl apX (by decide) _
theorem gA (x : Addr) (w : aJa) : (aH 22 (.pointer (some x))).run pg w = ldC (w.cell? x) w (far pg 22 x w) := amR Tryd.underlying22 rfl x w
theorem qD {k : IntKind} {lo : Int} (a : Option Addr) (n c : Nat) (w : aJa) (h0 : 0 <= lo) (h1 : lo <= n) : (fJ 22 (.slice a n c) (some (.int k lo)) none none).run pg w = .ok (.value (.slice (iO a c (lo.toNat) 1) (n - lo.toNat) (c - lo.toNat))) w := anP Tryd.underlying22 Vb _ n c h0 h1
theorem aC4 : (pg).info? 112 = some Tryd.t112 := by kernel_rfl
theorem ZV {b off : Nat} {cs : List aJb} {w : aJa} (ho : cJ w b cs) (h : off + 2 <= cs.length) : (aH 112 (.pointer (some ⟨b, off, none⟩))).run pg w = .ok (.value (.agg ((cs.drop off).take 2).toArray)) w := zO Tryd.underlying112 rfl aC4 ho h
theorem ZP {b off : Nat} {cs : List aJb} {w : aJa} {xs : Array aJb} {K : aJb -> aJa -> Prop} (ho : cJ w b cs) (hs : xs.size = 2) (hv : ∀ x ∈ xs.toList, one x = true) (h : off + 2 <= cs.length) (hk : ∀ w', cJ w' b (aV cs off xs.toList) -> aS w w' (fun x => x = b) -> w'.heap.size = w.heap.size -> K undef w') : aC pg (aJ 112 (.pointer (some ⟨b, off, none⟩)) (.agg xs)) w K := kB (v := .agg xs) aC4 ho hs hv h hk
theorem yA (a0 : Option Addr) (l0 c0 : Nat) (n1 : Int) (w : aJa) : (bV 118 [(0, (.slice a0 l0 c0)), (1, (.int .i64 n1))]).run pg w = .ok (.value (.agg #[(.slice a0 l0 c0), (.int .i64 n1)])) w := by kernel_rfl
theorem zE (b o : Nat) (w : aJa) : (aL 27 (.pointer (some ⟨b, o, none⟩)) 0).run pg w = .ok (.value (.pointer (some ⟨b, o, none⟩))) w := iU (i := 0) Tryd.underlying27 rfl Cn (by decide) _
theorem aaP : (pg).info? 123 = some Tryd.t123 := by kernel_rfl
theorem lP {k : IntKind} {a : Int} (b o n c : Nat) (w : aJa) (h0 : 0 <= a) (h1 : a < n) : (bA 25 (.slice (some ⟨b, o, none⟩) n c) (.int k a)).run pg w = .ok (.value (.pointer (some ⟨b, o + a.toNat * 3, none⟩))) w := afV rfl Tryd.underlying25 aaP b o n c h0 h1
theorem fS (b o : Nat) (w : aJa) : (aL 123 (.pointer (some ⟨b, o, none⟩)) 0).run pg w = .ok (.value (.pointer (some ⟨b, o, none⟩))) w := iU (i := 0) Tryd.underlying123 rfl Vb (by decide) _
theorem nO {k : IntKind} (a : Int) (w : aJa) : (fM 5 3 (.int k a)).run pg w = .ok (.value (.int .i64 (IntKind.i64.wrap a))) w := Di Tryd.underlying5 Tryd.underlying3
theorem zF {k : IntKind} (a : Int) (w : aJa) : (fM 73 43 (.int k a)).run pg w = .ok (.value (.int .u32 (IntKind.u32.wrap a))) w := Di Tryd.underlying73 Tryd.underlying43
theorem NT {b off : Nat} {cs : List aJb} {w : aJa} (ho : cJ w b cs) (h : off + 3 <= cs.length) : (aH 123 (.pointer (some ⟨b, off, none⟩))).run pg w = .ok (.value (.agg ((cs.drop off).take 3).toArray)) w := zO Tryd.underlying123 rfl aaP ho h
theorem Qb {w : aJa} {K : aJb -> aJa -> Prop} (hk : ∀ w', cJ w' w.heap.size [(.int .u8 0), (.int .i64 0), (.int .i64 0)] -> aS w w' cM -> w'.heap.size = w.heap.size + 1 -> K (.pointer (some ⟨w.heap.size, 0, none⟩)) w') : aC pg (bT 123) w K := jJ (i := Tryd.t123) aaP rfl hk
theorem Mg {b off : Nat} {cs : List aJb} {w : aJa} {xs : Array aJb} {K : aJb -> aJa -> Prop} (ho : cJ w b cs) (hs : xs.size = 3) (hv : ∀ x ∈ xs.toList, one x = true) (h : off + 3 <= cs.length) (hk : ∀ w', cJ w' b (aV cs off xs.toList) -> aS w w' (fun x => x = b) -> w'.heap.size = w.heap.size -> K undef w') : aC pg (aJ 123 (.pointer (some ⟨b, off, none⟩)) (.agg xs)) w K := kB (v := .agg xs) aaP ho hs hv h hk
theorem lF (b o : Nat) (w : aJa) : (aL 123 (.pointer (some ⟨b, o, none⟩)) 2).run pg w = .ok (.value (.pointer (some ⟨b, o + 2, none⟩))) w := iU (i := 2) Tryd.underlying123 rfl Cn (by decide) _
theorem jT (b o : Nat) (w : aJa) : (aL 123 (.pointer (some ⟨b, o, none⟩)) 1).run pg w = .ok (.value (.pointer (some ⟨b, o + 1, none⟩))) w := iU (i := 1) Tryd.underlying123 rfl Cn (by decide) _
theorem oI {ox oy : Operand} (x : Option Addr) (w : aJa) : (aG .eql 63 ox oy (.pointer x) (.pointer none)).run pg w = .ok (.value (.bool x.isNone)) w := anY Tryd.underlying63 x
theorem nA (b o : Nat) (w : aJa) : (aL 118 (.pointer (some ⟨b, o, none⟩)) 1).run pg w = .ok (.value (.pointer (some ⟨b, o + 1, none⟩))) w := iU (i := 1) Tryd.underlying118 rfl Cn (by decide) _
theorem Sn {b off : Nat} {cs : List aJb} {w : aJa} (ho : cJ w b cs) (h : off + 2 <= cs.length) {K : aJb -> Prop} (hk : K (.agg ((cs.drop off).take 2).toArray)) : kC pg 72 (.pointer (some ⟨b, off, none⟩)) w K := C1 Tryd.underlying72 rfl aAx ho h hk
theorem XT {b off : Nat} {cs : List aJb} {w : aJa} {v : aJb} {K : aJb -> aJa -> Prop} (ho : cJ w b cs) (hv : one v = true) (h : off < cs.length) (hk : ∀ w', cJ w' b (cs.set off v) -> aS w w' (fun x => x = b) -> w'.heap.size = w.heap.size -> K undef w') : aC pg (aJ 30 (.pointer (some ⟨b, off, none⟩)) v) w K := uK aC9 rfl ho hv h hk
theorem tK {k : IntKind} {a : Int} (x : ByteArray) (w : aJa) (h0 : 0 <= a) (h1 : a.toNat < x.size) : (G4 9 (.string x) (.int k a)).run pg w = .ok (.value (.int .u8 (x[a.toNat]'h1).toNat)) w := aEO Tryd.underlying9 x h0 h1
theorem vO {k : IntKind} (a : Int) (w : aJa) : (fM 5 73 (.int k a)).run pg w = .ok (.value (.int .u64 (IntKind.u64.wrap a))) w := Di Tryd.underlying5 Tryd.underlying73
theorem qW {b off : Nat} {cs : List aJb} {w : aJa} (ho : cJ w b cs) (h : off + 2 <= cs.length) {K : aJb -> Prop} (hk : K (.agg ((cs.drop off).take 2).toArray)) : kC pg 35 (.pointer (some ⟨b, off, none⟩)) w K := C1 Tryd.underlying35 rfl atH ho h hk
theorem dC  (w : aJa) : (bV 35 []).run pg w = .ok (.value (.agg #[(.int .i64 0), (.slice none 0 0)])) w := by kernel_rfl
theorem aEz : (pg).info? 33 = some Tryd.t33 := by kernel_rfl
theorem bQ (b o : Nat) (w : aJa) : (aL 35 (.pointer (some ⟨b, o, none⟩)) 1).run pg w = .ok (.value (.pointer (some ⟨b, o + 1, none⟩))) w := iU (i := 1) Tryd.underlying35 rfl aEz (by decide) _
theorem bN (x : Addr) (w : aJa) : (aH 33 (.pointer (some x))).run pg w = ldC (w.cell? x) w (far pg 33 x w) := amR Tryd.underlying33 rfl x w
theorem kA {ty : TypeId} (x : Option Addr) (n c : Nat) (w : aJa) : (jS .len #[33] ty [.slice x n c]).run pg w = .ok (.value (.int .i64 n)) w := Xa Tryd.underlying33 x n c
theorem aqX : (pg).info? 130 = some Tryd.t130 := by kernel_rfl
theorem nP {w : aJa} {K : aJb -> aJa -> Prop} (hk : ∀ w', cJ w' w.heap.size [(.int .i64 0), (.slice none 0 0)] -> aS w w' cM -> w'.heap.size = w.heap.size + 1 -> K (.pointer (some ⟨w.heap.size, 0, none⟩)) w') : aC pg (bT 130) w K := jJ (i := Tryd.t130) aqX rfl hk
theorem iH {b off : Nat} {cs : List aJb} {w : aJa} {xs : Array aJb} {K : aJb -> aJa -> Prop} (ho : cJ w b cs) (hs : xs.size = 2) (hv : ∀ x ∈ xs.toList, one x = true) (h : off + 2 <= cs.length) (hk : ∀ w', cJ w' b (aV cs off xs.toList) -> aS w w' (fun x => x = b) -> w'.heap.size = w.heap.size -> K undef w') : aC pg (aJ 130 (.pointer (some ⟨b, off, none⟩)) (.agg xs)) w K := kB (v := .agg xs) aqX ho hs hv h hk
theorem lG {b off : Nat} {cs : List aJb} {w : aJa} (ho : cJ w b cs) (h : off + 2 <= cs.length) : (aH 130 (.pointer (some ⟨b, off, none⟩))).run pg w = .ok (.value (.agg ((cs.drop off).take 2).toArray)) w := zO Tryd.underlying130 rfl aqX ho h
theorem gY {b off : Nat} {cs : List aJb} {w : aJa} (ho : cJ w b cs) (h : off + 2 <= cs.length) {K : aJb -> Prop} (hk : K (.agg ((cs.drop off).take 2).toArray)) : kC pg 82 (.pointer (some ⟨b, off, none⟩)) w K := C1 Tryd.underlying82 rfl aAv ho h hk
theorem nD  (w : aJa) : (bV 82 []).run pg w = .ok (.value (.agg #[(.slice none 0 0), (.int .i64 0)])) w := by kernel_rfl
theorem qS {ty : TypeId} (x : Option Addr) (n c : Nat) (w : aJa) : (jS .len #[80] ty [.slice x n c]).run pg w = .ok (.value (.int .i64 n)) w := Xa Tryd.underlying80 x n c
theorem aBE : (pg).info? 4 = some Tryd.t4 := by kernel_rfl
theorem EK {k : IntKind} {a : Int} (b o n c : Nat) (w : aJa) (h0 : 0 <= a) (h1 : a < n) : (bA 80 (.slice (some ⟨b, o, none⟩) n c) (.int k a)).run pg w = .ok (.value (.pointer (some ⟨b, o + a.toNat, none⟩))) w := Uz rfl Tryd.underlying80 aBE b o n c h0 h1
theorem Uv (x : Addr) (w : aJa) : (aH 4 (.pointer (some x))).run pg w = ldC (w.cell? x) w (far pg 4 x w) := amR Tryd.underlying4 rfl x w
theorem Fz {k : IntKind} {hi : Int} (a : Option Addr) (n c : Nat) (w : aJa) (h0 : 0 <= hi) (h1 : hi <= c) : (fJ 80 (.slice a n c) none (some (.int k hi)) none).run pg w = .ok (.value (.slice (iO a c (0) 1) (hi.toNat - 0) (c - 0))) w := QK Tryd.underlying80 aBE _ n c h0 h1
theorem vB (a0 : Option Addr) (l0 c0 : Nat) (w : aJa) : (bV 82 [(0, (.slice a0 l0 c0))]).run pg w = .ok (.value (.agg #[(.slice a0 l0 c0), (.int .i64 0)])) w := by kernel_rfl
theorem sM (b o : Nat) (w : aJa) : (aL 35 (.pointer (some ⟨b, o, none⟩)) 0).run pg w = .ok (.value (.pointer (some ⟨b, o, none⟩))) w := iU (i := 0) Tryd.underlying35 rfl Cn (by decide) _
theorem ayG : (pg).info? 139 = some Tryd.t139 := by kernel_rfl
theorem fL {k : IntKind} {a : Int} (b o n c : Nat) (w : aJa) (h0 : 0 <= a) (h1 : a < n) : (bA 33 (.slice (some ⟨b, o, none⟩) n c) (.int k a)).run pg w = .ok (.value (.pointer (some ⟨b, o + a.toNat * 3, none⟩))) w := afV rfl Tryd.underlying33 ayG b o n c h0 h1
theorem iG (b o : Nat) (w : aJa) : (aL 139 (.pointer (some ⟨b, o, none⟩)) 0).run pg w = .ok (.value (.pointer (some ⟨b, o, none⟩))) w := iU (i := 0) Tryd.underlying139 rfl Cn (by decide) _
theorem mX (b o : Nat) (w : aJa) : (aL 139 (.pointer (some ⟨b, o, none⟩)) 1).run pg w = .ok (.value (.pointer (some ⟨b, o + 1, none⟩))) w := iU (i := 1) Tryd.underlying139 rfl Cn (by decide) _
theorem mZ (b o : Nat) (w : aJa) : (aL 139 (.pointer (some ⟨b, o, none⟩)) 2).run pg w = .ok (.value (.pointer (some ⟨b, o + 2, none⟩))) w := iU (i := 2) Tryd.underlying139 rfl Cn (by decide) _
theorem aCr : (pg).info? 80 = some Tryd.t80 := by kernel_rfl
theorem iE (b o : Nat) (w : aJa) : (aL 82 (.pointer (some ⟨b, o, none⟩)) 0).run pg w = .ok (.value (.pointer (some ⟨b, o, none⟩))) w := iU (i := 0) Tryd.underlying82 rfl aCr (by decide) _
theorem sF (x : Addr) (w : aJa) : (aH 80 (.pointer (some x))).run pg w = ldC (w.cell? x) w (far pg 80 x w) := amR Tryd.underlying80 rfl x w
theorem kV (b o : Nat) (w : aJa) : (aL 82 (.pointer (some ⟨b, o, none⟩)) 1).run pg w = .ok (.value (.pointer (some ⟨b, o + 1, none⟩))) w := iU (i := 1) Tryd.underlying82 rfl Cn (by decide) _
theorem P1 {n : Nat} {ps : List (Nat × aJb)} {cells : Array aJb} {w : aJa} (h1 : ¬ n * 1 > 2 ^ 24) (h0 : ¬ n * 1 = 0) (hf : Go.Instr.fill (fun j => some (j * 1, 1)) ((Array.range (n * 1)).map ((Tryd.t43.zero.get!).cells[· % (Tryd.t43.zero.get!).cells.size]!)) ps = some cells) {K : aJb -> aJa -> Prop} (hk : ∀ w', cJ w' w.heap.size cells.toList -> aS w w' cM -> w'.heap.size = w.heap.size + 1 -> K (.slice (some ⟨w.heap.size, 0, none⟩) n n) w') : aC pg (bX 91 n ps) w K := BE (i := Tryd.t43) Tryd.underlying91 Q7 rfl h1 h0 hf hk
theorem PU {base n m : Nat} {ty : TypeId} {w : aJa} {v x : aJb} {l news : List aJb} (h : sN w base 1 v n l) (hx : Cl w 1 x m news) (hone : ∀ y ∈ news, one y = true) (hb : base <= w.heap.size) (hbytes : (n + m) * 4 <= 140737488355328) {K : aJb -> aJa -> Prop} (hk : ∀ v' w', sN w' base 1 v' (n + m) (l ++ news) -> aS w w' (fun y => base <= y) -> K v' w') : aC pg (jS .append #[91, 91] ty [v, x]) w K := EO (i := Tryd.t43) Tryd.underlying91 Tryd.underlying91 Q7 rfl rfl rfl h hx hone hb (by omega) hbytes (by decide) hk
theorem EJ {base n m : Nat} {ty : TypeId} {w : aJa} {v x : aJb} {l news : List aJb} (h : sN w base 1 v n l) (hx : Cl w 1 x m news) (hone : ∀ y ∈ news, one y = true) (hb : base <= w.heap.size) (hbytes : (n + m) * 8 <= 140737488355328) {K : aJb -> aJa -> Prop} (hk : ∀ v' w', sN w' base 1 v' (n + m) (l ++ news) -> aS w w' (fun y => base <= y) -> K v' w') : aC pg (jS .append #[77, 77] ty [v, x]) w K := EO (i := Tryd.t3) Tryd.underlying77 Tryd.underlying77 Cn rfl rfl rfl h hx hone hb (by omega) hbytes (by decide) hk
theorem Ds  (w : aJa) : (bV 141 []).run pg w = .ok (.value (.agg #[(.slice none 0 0)])) w := by kernel_rfl
theorem rU {ox oy : Operand} (x : Option Addr) (w : aJa) : (aG .eql 95 ox oy (.pointer x) (.pointer none)).run pg w = .ok (.value (.bool x.isNone)) w := anY Tryd.underlying95 x
theorem nK (b o : Nat) (w : aJa) : (aL 141 (.pointer (some ⟨b, o, none⟩)) 0).run pg w = .ok (.value (.pointer (some ⟨b, o, none⟩))) w := iU (i := 0) Tryd.underlying141 rfl apX (by decide) _
theorem pG {k : IntKind} (a : Int) (w : aJa) : (fM 73 5 (.int k a)).run pg w = .ok (.value (.int .u8 (IntKind.u8.wrap a))) w := Di Tryd.underlying73 Tryd.underlying5
theorem Gn {b off : Nat} {cs : List aJb} {w : aJa} {v : aJb} {K : aJb -> aJa -> Prop} (ho : cJ w b cs) (hv : one v = true) (h : off < cs.length) (hk : ∀ w', cJ w' b (cs.set off v) -> aS w w' (fun x => x = b) -> w'.heap.size = w.heap.size -> K undef w') : aC pg (aJ 22 (.pointer (some ⟨b, off, none⟩)) v) w K := uK apX rfl ho hv h hk
theorem akV {b off : Nat} {cs : List aJb} {w : aJa} (ho : cJ w b cs) (h : off + 3 <= cs.length) {K : aJb -> Prop} (hk : K (.agg ((cs.drop off).take 3).toArray)) : kC pg 98 (.pointer (some ⟨b, off, none⟩)) w K := C1 Tryd.underlying98 rfl aAb ho h hk
theorem abR {b off : Nat} {cs : List aJb} {w : aJa} {xs : Array aJb} {K : aJb -> aJa -> Prop} (ho : cJ w b cs) (hs : xs.size = 3) (hv : ∀ x ∈ xs.toList, one x = true) (h : off + 3 <= cs.length) (hk : ∀ w', cJ w' b (aV cs off xs.toList) -> aS w w' (fun x => x = b) -> w'.heap.size = w.heap.size -> K undef w') : aC pg (aJ 47 (.pointer (some ⟨b, off, none⟩)) (.agg xs)) w K := kB (v := .agg xs) alG ho hs hv h hk
theorem Mk {k : IntKind} {a : Int} (cs : Array aJb) (w : aJa) (h0 : 0 <= a) (h1 : a < 3) : (G4 142 (.agg cs) (.int k a)).run pg w = ldC cs[a.toNat]? w (aE4 pg 142 cs k a w) := aDz Tryd.underlying142 Tryd.underlying43 rfl Q7 rfl cs h0 (by simpa using h1)
theorem Ul {b off : Nat} {cs : List aJb} {w : aJa} {v : aJb} {K : aJb -> aJa -> Prop} (ho : cJ w b cs) (hv : one v = true) (h : off < cs.length) (hk : ∀ w', cJ w' b (cs.set off v) -> aS w w' (fun x => x = b) -> w'.heap.size = w.heap.size -> K undef w') : aC pg (aJ 77 (.pointer (some ⟨b, off, none⟩)) v) w K := uK azR rfl ho hv h hk
theorem pR {b off : Nat} {cs : List aJb} {w : aJa} (ho : cJ w b cs) (h : off + 2 <= cs.length) {K : aJb -> Prop} (hk : K (.agg ((cs.drop off).take 2).toArray)) : kC pg 27 (.pointer (some ⟨b, off, none⟩)) w K := C1 Tryd.underlying27 rfl awG ho h hk
theorem eA {ty : TypeId} (x : Option Addr) (n c : Nat) (w : aJa) : (jS .len #[77] ty [.slice x n c]).run pg w = .ok (.value (.int .i64 n)) w := Xa Tryd.underlying77 x n c
theorem fF  (w : aJa) : (bV 27 []).run pg w = .ok (.value (.agg #[(.int .i64 0), (.slice none 0 0)])) w := by kernel_rfl
theorem aFk : (pg).info? 144 = some Tryd.t144 := by kernel_rfl
theorem ahG {w : aJa} {K : aJb -> aJa -> Prop} (hk : ∀ w', cJ w' w.heap.size [(.int .u32 0), (.int .u32 0), (.int .u32 0), (.int .u32 0), (.int .u32 0), (.int .u32 0), (.int .u32 0), (.int .u32 0), (.int .u32 0), (.int .u32 0), (.int .u32 0), (.int .u32 0), (.int .u32 0), (.int .u32 0), (.int .u32 0), (.int .u32 0), (.int .u32 0), (.int .u32 0), (.int .u32 0), (.int .u32 0), (.int .u32 0), (.int .u32 0), (.int .u32 0), (.int .u32 0), (.int .u32 0), (.int .u32 0), (.int .u32 0), (.int .u32 0), (.int .u32 0), (.int .u32 0), (.int .u32 0), (.int .u32 0), (.int .u32 0), (.int .u32 0), (.int .u32 0), (.int .u32 0), (.int .u32 0), (.int .u32 0), (.int .u32 0), (.int .u32 0), (.int .u32 0), (.int .u32 0), (.int .u32 0), (.int .u32 0), (.int .u32 0), (.int .u32 0), (.int .u32 0), (.int .u32 0), (.int .u32 0), (.int .u32 0), (.int .u32 0), (.int .u32 0), (.int .u32 0), (.int .u32 0), (.int .u32 0), (.int .u32 0), (.int .u32 0), (.int .u32 0), (.int .u32 0), (.int .u32 0), (.int .u32 0), (.int .u32 0), (.int .u32 0), (.int .u32 0), (.int .u32 0), (.int .u32 0), (.int .u32 0), (.int .u32 0), (.int .u32 0), (.int .u32 0), (.int .u32 0), (.int .u32 0), (.int .u32 0), (.int .u32 0), (.int .u32 0), (.int .u32 0), (.int .u32 0), (.int .u32 0), (.int .u32 0), (.int .u32 0), (.int .u32 0), (.int .u32 0), (.int .u32 0), (.int .u32 0), (.int .u32 0), (.int .u32 0), (.int .u32 0), (.int .u32 0), (.int .u32 0), (.int .u32 0), (.int .u32 0), (.int .u32 0), (.int .u32 0), (.int .u32 0), (.int .u32 0), (.int .u32 0), (.int .u32 0), (.int .u32 0), (.int .u32 0), (.int .u32 0), (.int .u32 0), (.int .u32 0), (.int .u32 0), (.int .u32 0), (.int .u32 0), (.int .u32 0), (.int .u32 0), (.int .u32 0), (.int .u32 0), (.int .u32 0), (.int .u32 0), (.int .u32 0), (.int .u32 0), (.int .u32 0), (.int .u32 0), (.int .u32 0), (.int .u32 0), (.int .u32 0), (.int .u32 0), (.int .u32 0), (.int .u32 0), (.int .u32 0), (.int .u32 0), (.int .u32 0), (.int .u32 0), (.int .u32 0), (.int .u32 0), (.int .u32 0), (.int .u32 0), (.int .u32 0), (.int .u32 0), (.int .u32 0), (.int .u32 0), (.int .u32 0), (.int .u32 0), (.int .u32 0), (.int .u32 0), (.int .u32 0), (.int .u32 0), (.int .u32 0), (.int .u32 0), (.int .u32 0), (.int .u32 0), (.int .u32 0), (.int .u32 0), (.int .u32 0), (.int .u32 0), (.int .u32 0), (.int .u32 0), (.int .u32 0), (.int .u32 0), (.int .u32 0), (.int .u32 0), (.int .u32 0), (.int .u32 0), (.int .u32 0), (.int .u32 0), (.int .u32 0), (.int .u32 0), (.int .u32 0), (.int .u32 0), (.int .u32 0), (.int .u32 0), (.int .u32 0), (.int .u32 0), (.int .u32 0), (.int .u32 0), (.int .u32 0), (.int .u32 0), (.int .u32 0), (.int .u32 0), (.int .u32 0), (.int .u32 0), (.int .u32 0), (.int .u32 0), (.int .u32 0), (.int .u32 0), (.int .u32 0), (.int .u32 0), (.int .u32 0), (.int .u32 0), (.int .u32 0), (.int .u32 0), (.int .u32 0), (.int .u32 0), (.int .u32 0), (.int .u32 0), (.int .u32 0), (.int .u32 0), (.int .u32 0), (.int .u32 0), (.int .u32 0), (.int .u32 0), (.int .u32 0), (.int .u32 0), (.int .u32 0), (.int .u32 0), (.int .u32 0), (.int .u32 0), (.int .u32 0), (.int .u32 0), (.int .u32 0), (.int .u32 0), (.int .u32 0), (.int .u32 0), (.int .u32 0), (.int .u32 0), (.int .u32 0), (.int .u32 0), (.int .u32 0), (.int .u32 0), (.int .u32 0), (.int .u32 0), (.int .u32 0), (.int .u32 0), (.int .u32 0), (.int .u32 0), (.int .u32 0), (.int .u32 0), (.int .u32 0), (.int .u32 0), (.int .u32 0), (.int .u32 0), (.int .u32 0), (.int .u32 0), (.int .u32 0), (.int .u32 0), (.int .u32 0), (.int .u32 0), (.int .u32 0), (.int .u32 0), (.int .u32 0), (.int .u32 0), (.int .u32 0), (.int .u32 0), (.int .u32 0), (.int .u32 0), (.int .u32 0), (.int .u32 0), (.int .u32 0), (.int .u32 0), (.int .u32 0), (.int .u32 0), (.int .u32 0), (.int .u32 0), (.int .u32 0), (.int .u32 0), (.int .u32 0), (.int .u32 0), (.int .u32 0), (.int .u32 0), (.int .u32 0), (.int .u32 0), (.int .u32 0), (.int .u32 0), (.int .u32 0)] -> aS w w' cM -> w'.heap.size = w.heap.size + 1 -> K (.pointer (some ⟨w.heap.size, 0, none⟩)) w') : aC pg (bT 144) w K := jJ (i := Tryd.t144) aFk rfl hk
theorem G9 {k : IntKind} {a : Int} (b o : Nat) (w : aJa) (h0 : 0 <= a) (h1 : a < 256) : (bA 144 (.pointer (some ⟨b, o, none⟩)) (.int k a)).run pg w = .ok (.value (.pointer (some ⟨b, o + a.toNat, none⟩))) w := I3 rfl Tryd.underlying144 Q7 b o h0 (by simpa using h1)
theorem asR : (pg).info? 145 = some Tryd.t145 := by kernel_rfl
theorem iS {w : aJa} {K : aJb -> aJa -> Prop} (hk : ∀ w', cJ w' w.heap.size [(.int .i64 0), (.slice none 0 0)] -> aS w w' cM -> w'.heap.size = w.heap.size + 1 -> K (.pointer (some ⟨w.heap.size, 0, none⟩)) w') : aC pg (bT 145) w K := jJ (i := Tryd.t145) asR rfl hk
theorem eX {b off : Nat} {cs : List aJb} {w : aJa} {xs : Array aJb} {K : aJb -> aJa -> Prop} (ho : cJ w b cs) (hs : xs.size = 2) (hv : ∀ x ∈ xs.toList, one x = true) (h : off + 2 <= cs.length) (hk : ∀ w', cJ w' b (aV cs off xs.toList) -> aS w w' (fun x => x = b) -> w'.heap.size = w.heap.size -> K undef w') : aC pg (aJ 145 (.pointer (some ⟨b, off, none⟩)) (.agg xs)) w K := kB (v := .agg xs) asR ho hs hv h hk
theorem kT {k : IntKind} (a : Int) (w : aJa) : (fM 3 5 (.int k a)).run pg w = .ok (.value (.int .u8 (IntKind.u8.wrap a))) w := Di Tryd.underlying3 Tryd.underlying5
theorem bK (b o : Nat) (w : aJa) : (aL 145 (.pointer (some ⟨b, o, none⟩)) 1).run pg w = .ok (.value (.pointer (some ⟨b, o + 1, none⟩))) w := iU (i := 1) Tryd.underlying145 rfl azR (by decide) _
theorem gG {b off : Nat} {cs : List aJb} {w : aJa} (ho : cJ w b cs) (h : off + 2 <= cs.length) : (aH 145 (.pointer (some ⟨b, off, none⟩))).run pg w = .ok (.value (.agg ((cs.drop off).take 2).toArray)) w := zO Tryd.underlying145 rfl asR ho h
theorem qE {k : IntKind} {hi : Int} (b o : Nat) (w : aJa) (h0 : 0 <= hi) (h1 : hi <= 256) : (fJ 144 (.pointer (some ⟨b, o, none⟩)) none (some (.int k hi)) none).run pg w = .ok (.value (.slice (some (uN ⟨b, o, none⟩ 256 (0) 1)) (hi.toNat - 0) (256 - 0))) w := auX Tryd.underlying144 Q7 _ h0 (by simpa using h1)
theorem azJ : (pg).info? 142 = some Tryd.t142 := by kernel_rfl
theorem Vp {w : aJa} {K : aJb -> aJa -> Prop} (hk : ∀ w', cJ w' w.heap.size [(.int .u32 0), (.int .u32 0), (.int .u32 0)] -> aS w w' cM -> w'.heap.size = w.heap.size + 1 -> K (.pointer (some ⟨w.heap.size, 0, none⟩)) w') : aC pg (bT 142) w K := jJ (i := Tryd.t142) azJ rfl hk
theorem T7 {b off : Nat} {cs : List aJb} {w : aJa} {xs : Array aJb} {K : aJb -> aJa -> Prop} (ho : cJ w b cs) (hs : xs.size = 3) (hv : ∀ x ∈ xs.toList, one x = true) (h : off + 3 <= cs.length) (hk : ∀ w', cJ w' b (aV cs off xs.toList) -> aS w w' (fun x => x = b) -> w'.heap.size = w.heap.size -> K undef w') : aC pg (aJ 142 (.pointer (some ⟨b, off, none⟩)) (.agg xs)) w K := kB (v := .agg xs) azJ ho hs hv h hk
theorem MJ {k : IntKind} {a : Int} (b o : Nat) (w : aJa) (h0 : 0 <= a) (h1 : a < 3) : (bA 142 (.pointer (some ⟨b, o, none⟩)) (.int k a)).run pg w = .ok (.value (.pointer (some ⟨b, o + a.toNat, none⟩))) w := I3 rfl Tryd.underlying142 Q7 b o h0 (by simpa using h1)
theorem nI {k : IntKind} (a : Int) (w : aJa) : (fM 43 73 (.int k a)).run pg w = .ok (.value (.int .u64 (IntKind.u64.wrap a))) w := Di Tryd.underlying43 Tryd.underlying73
theorem xN {ox oy : Operand} (x : Option Addr) (w : aJa) : (aG .neq 95 ox oy (.pointer x) (.pointer none)).run pg w = .ok (.value (.bool (!x.isNone))) w := aFs Tryd.underlying95 x
theorem KZ (n0 : Int) (w : aJa) : (bV 123 [(0, (.int .u8 n0))]).run pg w = .ok (.value (.agg #[(.int .u8 n0), (.int .i64 0), (.int .i64 0)])) w := by kernel_rfl
theorem ahK {n : Nat} {ps : List (Nat × aJb)} {cells : Array aJb} {w : aJa} (h1 : ¬ n * 3 > 2 ^ 24) (h0 : ¬ n * 3 = 0) (hf : Go.Instr.fill (fun j => some (j * 3, 3)) ((Array.range (n * 3)).map ((Tryd.t123.zero.get!).cells[· % (Tryd.t123.zero.get!).cells.size]!)) ps = some cells) {K : aJb -> aJa -> Prop} (hk : ∀ w', cJ w' w.heap.size cells.toList -> aS w w' cM -> w'.heap.size = w.heap.size + 1 -> K (.slice (some ⟨w.heap.size, 0, none⟩) n n) w') : aC pg (bX 25 n ps) w K := BE (i := Tryd.t123) Tryd.underlying25 aaP rfl h1 h0 hf hk
theorem Ju (a0 : Option Addr) (l0 c0 : Nat) (w : aJa) : (bV 27 [(1, (.slice a0 l0 c0))]).run pg w = .ok (.value (.agg #[(.int .i64 0), (.slice a0 l0 c0)])) w := by kernel_rfl
theorem uF (n0 : Int) (w : aJa) : (bV 35 [(0, (.int .i64 n0))]).run pg w = .ok (.value (.agg #[(.int .i64 n0), (.slice none 0 0)])) w := by kernel_rfl
theorem xE (n0 : Int) (n1 : Int) (n2 : Int) (w : aJa) : (bV 139 [(0, (.int .i64 n0)), (1, (.int .i64 n1)), (2, (.int .i64 n2))]).run pg w = .ok (.value (.agg #[(.int .i64 n0), (.int .i64 n1), (.int .i64 n2)])) w := by kernel_rfl
theorem Cc {n : Nat} {ps : List (Nat × aJb)} {cells : Array aJb} {w : aJa} (h1 : ¬ n * 3 > 2 ^ 24) (h0 : ¬ n * 3 = 0) (hf : Go.Instr.fill (fun j => some (j * 3, 3)) ((Array.range (n * 3)).map ((Tryd.t139.zero.get!).cells[· % (Tryd.t139.zero.get!).cells.size]!)) ps = some cells) {K : aJb -> aJa -> Prop} (hk : ∀ w', cJ w' w.heap.size cells.toList -> aS w w' cM -> w'.heap.size = w.heap.size + 1 -> K (.slice (some ⟨w.heap.size, 0, none⟩) n n) w') : aC pg (bX 33 n ps) w K := BE (i := Tryd.t139) Tryd.underlying33 ayG rfl h1 h0 hf hk
theorem tH {base n m : Nat} {ty : TypeId} {w : aJa} {v x : aJb} {l news : List aJb} (h : sN w base 3 v n l) (hx : Cl w 3 x m news) (hone : ∀ y ∈ news, one y = true) (hb : base <= w.heap.size) (hbytes : (n + m) * 24 <= 140737488355328) {K : aJb -> aJa -> Prop} (hk : ∀ v' w', sN w' base 3 v' (n + m) (l ++ news) -> aS w w' (fun y => base <= y) -> K v' w') : aC pg (jS .append #[33, 33] ty [v, x]) w K := EO (i := Tryd.t139) Tryd.underlying33 Tryd.underlying33 ayG rfl rfl rfl h hx hone hb (by omega) hbytes (by decide) hk
theorem OJ {b off : Nat} {cs : List aJb} {w : aJa} {v : aJb} {K : aJb -> aJa -> Prop} (ho : cJ w b cs) (hv : one v = true) (h : off < cs.length) (hk : ∀ w', cJ w' b (cs.set off v) -> aS w w' (fun x => x = b) -> w'.heap.size = w.heap.size -> K undef w') : aC pg (aJ 33 (.pointer (some ⟨b, off, none⟩)) v) w K := uK aEz rfl ho hv h hk
theorem FH {ox oy : Operand} (x : Option Addr) (n c : Nat) (w : aJa) : (aG .eql 22 ox oy (.slice x n c) (.slice none 0 0)).run pg w = .ok (.value (.bool x.isNone)) w := aDV Tryd.underlying22 x n c
theorem Kr {k k' : IntKind} {hi mx : Int} (a : Option Addr) (n c : Nat) (w : aJa) (h0 : 0 <= hi) (h1 : hi <= mx) (h2 : mx <= c) : (fJ 22 (.slice a n c) none (some (.int k hi)) (some (.int k' mx))).run pg w = .ok (.value (.slice (iO a mx.toNat 0 1) (hi.toNat - 0) (mx.toNat - 0))) w := axZ Tryd.underlying22 Vb a n c h0 h1 h2
theorem uL (b o : Nat) (w : aJa) : (aL 118 (.pointer (some ⟨b, o, none⟩)) 0).run pg w = .ok (.value (.pointer (some ⟨b, o, none⟩))) w := iU (i := 0) Tryd.underlying118 rfl apX (by decide) _
theorem wE {k : IntKind} (a : Int) (w : aJa) : (fM 3 43 (.int k a)).run pg w = .ok (.value (.int .u32 (IntKind.u32.wrap a))) w := Di Tryd.underlying3 Tryd.underlying43
theorem PY {k : IntKind} {hi : Int} (a : Option Addr) (n c : Nat) (w : aJa) (h0 : 0 <= hi) (h1 : hi <= c) : (fJ 77 (.slice a n c) none (some (.int k hi)) none).run pg w = .ok (.value (.slice (iO a c (0) 1) (hi.toNat - 0) (c - 0))) w := QK Tryd.underlying77 Cn _ n c h0 h1
theorem QB {k : IntKind} {hi : Int} (x : ByteArray) (w : aJa) (h0 : 0 <= hi) (h1 : hi <= x.size) : (fJ 9 (.string x) none (some (.int k hi)) none).run pg w = .ok (.value (.string (x.extract 0 hi.toNat))) w := atK Tryd.underlying9  x h0 h1
theorem aBj {b off : Nat} {cs : List aJb} {w : aJa} {v : aJb} {K : aJb -> aJa -> Prop} (ho : cJ w b cs) (hv : one v = true) (h : off < cs.length) (hk : ∀ w', cJ w' b (cs.set off v) -> aS w w' (fun x => x = b) -> w'.heap.size = w.heap.size -> K undef w') : aC pg (aJ 9 (.pointer (some ⟨b, off, none⟩)) v) w K := uK aFT rfl ho hv h hk
theorem pN (n0 : Int) (w : aJa) : (bV 139 [(0, (.int .i64 n0))]).run pg w = .ok (.value (.agg #[(.int .i64 n0), (.int .i64 0), (.int .i64 0)])) w := by kernel_rfl
theorem C6 (a0 : Option Addr) (l0 c0 : Nat) (w : aJa) : (bV 35 [(1, (.slice a0 l0 c0))]).run pg w = .ok (.value (.agg #[(.int .i64 0), (.slice a0 l0 c0)])) w := by kernel_rfl
theorem nE {b off : Nat} {cs : List aJb} {w : aJa} (ho : cJ w b cs) (h : off + 2 <= cs.length) {K : aJb -> Prop} (hk : K (.agg ((cs.drop off).take 2).toArray)) : kC pg 130 (.pointer (some ⟨b, off, none⟩)) w K := C1 Tryd.underlying130 rfl aqX ho h hk
theorem vD (a0 : Option Addr) (l0 c0 : Nat) (w : aJa) : (bV 164 [(0, (.slice a0 l0 c0))]).run pg w = .ok (.value (.agg #[(.slice a0 l0 c0), (.int .i64 0)])) w := by kernel_rfl
theorem asH : (pg).info? 164 = some Tryd.t164 := by kernel_rfl
theorem yR {w : aJa} {K : aJb -> aJa -> Prop} (hk : ∀ w', cJ w' w.heap.size [(.slice none 0 0), (.int .i64 0)] -> aS w w' cM -> w'.heap.size = w.heap.size + 1 -> K (.pointer (some ⟨w.heap.size, 0, none⟩)) w') : aC pg (bT 164) w K := jJ (i := Tryd.t164) asH rfl hk
theorem dD {b off : Nat} {cs : List aJb} {w : aJa} {xs : Array aJb} {K : aJb -> aJa -> Prop} (ho : cJ w b cs) (hs : xs.size = 2) (hv : ∀ x ∈ xs.toList, one x = true) (h : off + 2 <= cs.length) (hk : ∀ w', cJ w' b (aV cs off xs.toList) -> aS w w' (fun x => x = b) -> w'.heap.size = w.heap.size -> K undef w') : aC pg (aJ 164 (.pointer (some ⟨b, off, none⟩)) (.agg xs)) w K := kB (v := .agg xs) asH ho hs hv h hk
theorem fD {b off : Nat} {cs : List aJb} {w : aJa} (ho : cJ w b cs) (h : off + 2 <= cs.length) : (aH 164 (.pointer (some ⟨b, off, none⟩))).run pg w = .ok (.value (.agg ((cs.drop off).take 2).toArray)) w := zO Tryd.underlying164 rfl asH ho h
theorem jR  (w : aJa) : (bV 130 []).run pg w = .ok (.value (.agg #[(.int .i64 0), (.slice none 0 0)])) w := by kernel_rfl
theorem pQ (n0 : Int) (w : aJa) : (bV 130 [(0, (.int .i64 n0))]).run pg w = .ok (.value (.agg #[(.int .i64 n0), (.slice none 0 0)])) w := by kernel_rfl
theorem cQ (b o : Nat) (w : aJa) : (aL 130 (.pointer (some ⟨b, o, none⟩)) 0).run pg w = .ok (.value (.pointer (some ⟨b, o, none⟩))) w := iU (i := 0) Tryd.underlying130 rfl Cn (by decide) _
theorem aW (b o : Nat) (w : aJa) : (aL 130 (.pointer (some ⟨b, o, none⟩)) 1).run pg w = .ok (.value (.pointer (some ⟨b, o + 1, none⟩))) w := iU (i := 1) Tryd.underlying130 rfl azR (by decide) _
theorem aFm : (pg).info? 171 = some Tryd.t171 := by kernel_rfl
theorem arO {w : aJa} {K : aJb -> aJa -> Prop} (hk : ∀ w', cJ w' w.heap.size [(.int .i64 0), (.int .i64 0), (.int .i64 0), (.int .i64 0), (.int .i64 0), (.int .i64 0), (.int .i64 0), (.int .i64 0), (.int .i64 0), (.int .i64 0), (.int .i64 0), (.int .i64 0), (.int .i64 0), (.int .i64 0), (.int .i64 0), (.int .i64 0), (.int .i64 0), (.int .i64 0), (.int .i64 0), (.int .i64 0), (.int .i64 0), (.int .i64 0), (.int .i64 0), (.int .i64 0), (.int .i64 0), (.int .i64 0), (.int .i64 0), (.int .i64 0), (.int .i64 0), (.int .i64 0), (.int .i64 0), (.int .i64 0), (.int .i64 0), (.int .i64 0), (.int .i64 0), (.int .i64 0), (.int .i64 0), (.int .i64 0), (.int .i64 0), (.int .i64 0), (.int .i64 0), (.int .i64 0), (.int .i64 0), (.int .i64 0), (.int .i64 0), (.int .i64 0), (.int .i64 0), (.int .i64 0), (.int .i64 0), (.int .i64 0), (.int .i64 0), (.int .i64 0), (.int .i64 0), (.int .i64 0), (.int .i64 0), (.int .i64 0), (.int .i64 0), (.int .i64 0), (.int .i64 0), (.int .i64 0), (.int .i64 0), (.int .i64 0), (.int .i64 0), (.int .i64 0), (.int .i64 0), (.int .i64 0), (.int .i64 0), (.int .i64 0), (.int .i64 0), (.int .i64 0), (.int .i64 0), (.int .i64 0), (.int .i64 0), (.int .i64 0), (.int .i64 0), (.int .i64 0), (.int .i64 0), (.int .i64 0), (.int .i64 0), (.int .i64 0), (.int .i64 0), (.int .i64 0), (.int .i64 0), (.int .i64 0), (.int .i64 0), (.int .i64 0), (.int .i64 0), (.int .i64 0), (.int .i64 0), (.int .i64 0), (.int .i64 0), (.int .i64 0), (.int .i64 0), (.int .i64 0), (.int .i64 0), (.int .i64 0), (.int .i64 0), (.int .i64 0), (.int .i64 0), (.int .i64 0), (.int .i64 0), (.int .i64 0), (.int .i64 0), (.int .i64 0), (.int .i64 0), (.int .i64 0), (.int .i64 0), (.int .i64 0), (.int .i64 0), (.int .i64 0), (.int .i64 0), (.int .i64 0), (.int .i64 0), (.int .i64 0), (.int .i64 0), (.int .i64 0), (.int .i64 0), (.int .i64 0), (.int .i64 0), (.int .i64 0), (.int .i64 0), (.int .i64 0), (.int .i64 0), (.int .i64 0), (.int .i64 0), (.int .i64 0), (.int .i64 0), (.int .i64 0), (.int .i64 0), (.int .i64 0), (.int .i64 0), (.int .i64 0), (.int .i64 0), (.int .i64 0), (.int .i64 0), (.int .i64 0), (.int .i64 0), (.int .i64 0), (.int .i64 0), (.int .i64 0), (.int .i64 0), (.int .i64 0), (.int .i64 0), (.int .i64 0), (.int .i64 0), (.int .i64 0), (.int .i64 0), (.int .i64 0), (.int .i64 0), (.int .i64 0), (.int .i64 0), (.int .i64 0), (.int .i64 0), (.int .i64 0), (.int .i64 0), (.int .i64 0), (.int .i64 0), (.int .i64 0), (.int .i64 0), (.int .i64 0), (.int .i64 0), (.int .i64 0), (.int .i64 0), (.int .i64 0), (.int .i64 0), (.int .i64 0), (.int .i64 0), (.int .i64 0), (.int .i64 0), (.int .i64 0), (.int .i64 0), (.int .i64 0), (.int .i64 0), (.int .i64 0), (.int .i64 0), (.int .i64 0), (.int .i64 0), (.int .i64 0), (.int .i64 0), (.int .i64 0), (.int .i64 0), (.int .i64 0), (.int .i64 0), (.int .i64 0), (.int .i64 0), (.int .i64 0), (.int .i64 0), (.int .i64 0), (.int .i64 0), (.int .i64 0), (.int .i64 0), (.int .i64 0), (.int .i64 0), (.int .i64 0), (.int .i64 0), (.int .i64 0), (.int .i64 0), (.int .i64 0), (.int .i64 0), (.int .i64 0), (.int .i64 0), (.int .i64 0), (.int .i64 0), (.int .i64 0), (.int .i64 0), (.int .i64 0), (.int .i64 0), (.int .i64 0), (.int .i64 0), (.int .i64 0), (.int .i64 0), (.int .i64 0), (.int .i64 0), (.int .i64 0), (.int .i64 0), (.int .i64 0), (.int .i64 0), (.int .i64 0), (.int .i64 0), (.int .i64 0), (.int .i64 0), (.int .i64 0), (.int .i64 0), (.int .i64 0), (.int .i64 0), (.int .i64 0), (.int .i64 0), (.int .i64 0), (.int .i64 0), (.int .i64 0), (.int .i64 0), (.int .i64 0), (.int .i64 0), (.int .i64 0), (.int .i64 0), (.int .i64 0), (.int .i64 0), (.int .i64 0), (.int .i64 0), (.int .i64 0), (.int .i64 0), (.int .i64 0), (.int .i64 0), (.int .i64 0), (.int .i64 0), (.int .i64 0), (.int .i64 0), (.int .i64 0), (.int .i64 0), (.int .i64 0), (.int .i64 0), (.int .i64 0), (.int .i64 0), (.int .i64 0), (.int .i64 0), (.int .i64 0)] -> aS w w' cM -> w'.heap.size = w.heap.size + 1 -> K (.pointer (some ⟨w.heap.size, 0, none⟩)) w') : aC pg (bT 171) w K := jJ (i := Tryd.t171) aFm rfl hk
theorem PX {k : IntKind} {a : Int} (b o : Nat) (w : aJa) (h0 : 0 <= a) (h1 : a < 256) : (bA 171 (.pointer (some ⟨b, o, none⟩)) (.int k a)).run pg w = .ok (.value (.pointer (some ⟨b, o + a.toNat, none⟩))) w := I3 rfl Tryd.underlying171 Cn b o h0 (by simpa using h1)
theorem ayQ {n : Nat} {ps : List (Nat × aJb)} {cells : Array aJb} {w : aJa} (h1 : ¬ n * 1 > 2 ^ 24) (h0 : ¬ n * 1 = 0) (hf : Go.Instr.fill (fun j => some (j * 1, 1)) ((Array.range (n * 1)).map ((Tryd.t4.zero.get!).cells[· % (Tryd.t4.zero.get!).cells.size]!)) ps = some cells) {K : aJb -> aJa -> Prop} (hk : ∀ w', cJ w' w.heap.size cells.toList -> aS w w' cM -> w'.heap.size = w.heap.size + 1 -> K (.slice (some ⟨w.heap.size, 0, none⟩) n n) w') : aC pg (bX 80 n ps) w K := BE (i := Tryd.t4) Tryd.underlying80 aBE rfl h1 h0 hf hk
theorem XB {base n m : Nat} {ty : TypeId} {w : aJa} {v x : aJb} {l news : List aJb} (h : sN w base 1 v n l) (hx : Cl w 1 x m news) (hone : ∀ y ∈ news, one y = true) (hb : base <= w.heap.size) (hbytes : (n + m) * 1 <= 140737488355328) {K : aJb -> aJa -> Prop} (hk : ∀ v' w', sN w' base 1 v' (n + m) (l ++ news) -> aS w w' (fun y => base <= y) -> K v' w') : aC pg (jS .append #[80, 80] ty [v, x]) w K := EO (i := Tryd.t4) Tryd.underlying80 Tryd.underlying80 aBE rfl rfl rfl h hx hone hb (by omega) hbytes (by decide) hk
theorem Of {k : IntKind} {lo : Int} (a : Option Addr) (n c : Nat) (w : aJa) (h0 : 0 <= lo) (h1 : lo <= n) : (fJ 80 (.slice a n c) (some (.int k lo)) none none).run pg w = .ok (.value (.slice (iO a c (lo.toNat) 1) (n - lo.toNat) (c - lo.toNat))) w := anP Tryd.underlying80 aBE _ n c h0 h1
theorem ayJ {b off : Nat} {cs : List aJb} {w : aJa} {v : aJb} {K : aJb -> aJa -> Prop} (ho : cJ w b cs) (hv : one v = true) (h : off < cs.length) (hk : ∀ w', cJ w' b (cs.set off v) -> aS w w' (fun x => x = b) -> w'.heap.size = w.heap.size -> K undef w') : aC pg (aJ 80 (.pointer (some ⟨b, off, none⟩)) v) w K := uK aCr rfl ho hv h hk
theorem alM {b off : Nat} {cs : List aJb} {w : aJa} (ho : cJ w b cs) (h : off + 3 <= cs.length) {K : aJb -> Prop} (hk : K (.agg ((cs.drop off).take 3).toArray)) : kC pg 142 (.pointer (some ⟨b, off, none⟩)) w K := C1 Tryd.underlying142 rfl azJ ho h hk
theorem Aj (n0 : Int) (n1 : Int) (n2 : Int) (w : aJa) : (bV 142 [(0, (.int .u32 n0)), (1, (.int .u32 n1)), (2, (.int .u32 n2))]).run pg w = .ok (.value (.agg #[(.int .u32 n0), (.int .u32 n1), (.int .u32 n2)])) w := by kernel_rfl
theorem MH {k : IntKind} (a : Int) (w : aJa) : (fM 43 3 (.int k a)).run pg w = .ok (.value (.int .i64 (IntKind.i64.wrap a))) w := Di Tryd.underlying43 Tryd.underlying3
theorem lE {b off : Nat} {cs : List aJb} {w : aJa} (ho : cJ w b cs) (h : off + 2 <= cs.length) {K : aJb -> Prop} (hk : K (.agg ((cs.drop off).take 2).toArray)) : kC pg 145 (.pointer (some ⟨b, off, none⟩)) w K := C1 Tryd.underlying145 rfl asR ho h hk
theorem azL : (pg).info? 174 = some Tryd.t174 := by kernel_rfl
theorem asK {b off : Nat} {l : List aJb} {w : aJa} (hl : l.length = 36) (h : ∀ j, j < l.length -> w.cell? ⟨b, off + j, none⟩ = l[j]?) : (aH 174 (.pointer (some ⟨b, off, none⟩))).run pg w = .ok (.value (.agg l.toArray)) w := Us Tryd.underlying174 rfl azL hl.symm h
theorem auL {w : aJa} {K : aJb -> aJa -> Prop} (hk : ∀ w', cJ w' w.heap.size [(.int .i64 0), (.int .i64 0), (.int .i64 0), (.int .i64 0), (.int .i64 0), (.int .i64 0), (.int .i64 0), (.int .i64 0), (.int .i64 0), (.int .i64 0), (.int .i64 0), (.int .i64 0), (.int .i64 0), (.int .i64 0), (.int .i64 0), (.int .i64 0), (.int .i64 0), (.int .i64 0), (.int .i64 0), (.int .i64 0), (.int .i64 0), (.int .i64 0), (.int .i64 0), (.int .i64 0), (.int .i64 0), (.int .i64 0), (.int .i64 0), (.int .i64 0), (.int .i64 0), (.int .i64 0), (.int .i64 0), (.int .i64 0), (.int .i64 0), (.int .i64 0), (.int .i64 0), (.int .i64 0)] -> aS w w' cM -> w'.heap.size = w.heap.size + 1 -> K (.pointer (some ⟨w.heap.size, 0, none⟩)) w') : aC pg (bT 174) w K := jJ (i := Tryd.t174) azL rfl hk
theorem asD {b off : Nat} {cs : List aJb} {w : aJa} {xs : Array aJb} {K : aJb -> aJa -> Prop} (ho : cJ w b cs) (hs : xs.size = 36) (hv : ∀ x ∈ xs.toList, one x = true) (h : off + 36 <= cs.length) (hk : ∀ w', cJ w' b (aV cs off xs.toList) -> aS w w' (fun x => x = b) -> w'.heap.size = w.heap.size -> K undef w') : aC pg (aJ 174 (.pointer (some ⟨b, off, none⟩)) (.agg xs)) w K := kB (v := .agg xs) azL ho hs hv h hk
theorem HB  (b o : Nat) (w : aJa)  : (fJ 174 (.pointer (some ⟨b, o, none⟩)) none none none).run pg w = .ok (.value (.slice (some (uN ⟨b, o, none⟩ 36 (0) 1)) (36 - 0) (36 - 0))) w := CD Tryd.underlying174 Cn _
theorem mA (n0 : Int) (a1 : Option Addr) (l1 c1 : Nat) (w : aJa) : (bV 145 [(0, (.int .i64 n0)), (1, (.slice a1 l1 c1))]).run pg w = .ok (.value (.agg #[(.int .i64 n0), (.slice a1 l1 c1)])) w := by kernel_rfl
theorem axY : (pg).info? 175 = some Tryd.t175 := by kernel_rfl
theorem asE {b off : Nat} {l : List aJb} {w : aJa} (hl : l.length = 29) (h : ∀ j, j < l.length -> w.cell? ⟨b, off + j, none⟩ = l[j]?) : (aH 175 (.pointer (some ⟨b, off, none⟩))).run pg w = .ok (.value (.agg l.toArray)) w := Us Tryd.underlying175 rfl axY hl.symm h
theorem awA {w : aJa} {K : aJb -> aJa -> Prop} (hk : ∀ w', cJ w' w.heap.size [(.int .i64 0), (.int .i64 0), (.int .i64 0), (.int .i64 0), (.int .i64 0), (.int .i64 0), (.int .i64 0), (.int .i64 0), (.int .i64 0), (.int .i64 0), (.int .i64 0), (.int .i64 0), (.int .i64 0), (.int .i64 0), (.int .i64 0), (.int .i64 0), (.int .i64 0), (.int .i64 0), (.int .i64 0), (.int .i64 0), (.int .i64 0), (.int .i64 0), (.int .i64 0), (.int .i64 0), (.int .i64 0), (.int .i64 0), (.int .i64 0), (.int .i64 0), (.int .i64 0)] -> aS w w' cM -> w'.heap.size = w.heap.size + 1 -> K (.pointer (some ⟨w.heap.size, 0, none⟩)) w') : aC pg (bT 175) w K := jJ (i := Tryd.t175) axY rfl hk
theorem aqU {b off : Nat} {cs : List aJb} {w : aJa} {xs : Array aJb} {K : aJb -> aJa -> Prop} (ho : cJ w b cs) (hs : xs.size = 29) (hv : ∀ x ∈ xs.toList, one x = true) (h : off + 29 <= cs.length) (hk : ∀ w', cJ w' b (aV cs off xs.toList) -> aS w w' (fun x => x = b) -> w'.heap.size = w.heap.size -> K undef w') : aC pg (aJ 175 (.pointer (some ⟨b, off, none⟩)) (.agg xs)) w K := kB (v := .agg xs) axY ho hs hv h hk
theorem G1  (b o : Nat) (w : aJa)  : (fJ 175 (.pointer (some ⟨b, o, none⟩)) none none none).run pg w = .ok (.value (.slice (some (uN ⟨b, o, none⟩ 29 (0) 1)) (29 - 0) (29 - 0))) w := CD Tryd.underlying175 Cn _
theorem azM : (pg).info? 176 = some Tryd.t176 := by kernel_rfl
theorem asA {b off : Nat} {l : List aJb} {w : aJa} (hl : l.length = 53) (h : ∀ j, j < l.length -> w.cell? ⟨b, off + j, none⟩ = l[j]?) : (aH 176 (.pointer (some ⟨b, off, none⟩))).run pg w = .ok (.value (.agg l.toArray)) w := Us Tryd.underlying176 rfl azM hl.symm h
theorem atZ {w : aJa} {K : aJb -> aJa -> Prop} (hk : ∀ w', cJ w' w.heap.size [(.int .i64 0), (.int .i64 0), (.int .i64 0), (.int .i64 0), (.int .i64 0), (.int .i64 0), (.int .i64 0), (.int .i64 0), (.int .i64 0), (.int .i64 0), (.int .i64 0), (.int .i64 0), (.int .i64 0), (.int .i64 0), (.int .i64 0), (.int .i64 0), (.int .i64 0), (.int .i64 0), (.int .i64 0), (.int .i64 0), (.int .i64 0), (.int .i64 0), (.int .i64 0), (.int .i64 0), (.int .i64 0), (.int .i64 0), (.int .i64 0), (.int .i64 0), (.int .i64 0), (.int .i64 0), (.int .i64 0), (.int .i64 0), (.int .i64 0), (.int .i64 0), (.int .i64 0), (.int .i64 0), (.int .i64 0), (.int .i64 0), (.int .i64 0), (.int .i64 0), (.int .i64 0), (.int .i64 0), (.int .i64 0), (.int .i64 0), (.int .i64 0), (.int .i64 0), (.int .i64 0), (.int .i64 0), (.int .i64 0), (.int .i64 0), (.int .i64 0), (.int .i64 0), (.int .i64 0)] -> aS w w' cM -> w'.heap.size = w.heap.size + 1 -> K (.pointer (some ⟨w.heap.size, 0, none⟩)) w') : aC pg (bT 176) w K := jJ (i := Tryd.t176) azM rfl hk
theorem arV {b off : Nat} {cs : List aJb} {w : aJa} {xs : Array aJb} {K : aJb -> aJa -> Prop} (ho : cJ w b cs) (hs : xs.size = 53) (hv : ∀ x ∈ xs.toList, one x = true) (h : off + 53 <= cs.length) (hk : ∀ w', cJ w' b (aV cs off xs.toList) -> aS w w' (fun x => x = b) -> w'.heap.size = w.heap.size -> K undef w') : aC pg (aJ 176 (.pointer (some ⟨b, off, none⟩)) (.agg xs)) w K := kB (v := .agg xs) azM ho hs hv h hk
theorem GP  (b o : Nat) (w : aJa)  : (fJ 176 (.pointer (some ⟨b, o, none⟩)) none none none).run pg w = .ok (.value (.slice (some (uN ⟨b, o, none⟩ 53 (0) 1)) (53 - 0) (53 - 0))) w := CD Tryd.underlying176 Cn _
theorem dY  (w : aJa) : (bV 145 []).run pg w = .ok (.value (.agg #[(.int .i64 0), (.slice none 0 0)])) w := by kernel_rfl
theorem dK (b o : Nat) (w : aJa) : (aL 145 (.pointer (some ⟨b, o, none⟩)) 0).run pg w = .ok (.value (.pointer (some ⟨b, o, none⟩))) w := iU (i := 0) Tryd.underlying145 rfl Cn (by decide) _
theorem zL (n0 : Int) (a1 : Option Addr) (l1 c1 : Nat) (w : aJa) : (bV 27 [(0, (.int .i64 n0)), (1, (.slice a1 l1 c1))]).run pg w = .ok (.value (.agg #[(.int .i64 n0), (.slice a1 l1 c1)])) w := by kernel_rfl
theorem aqH {k : IntKind} {n : Int} {w : aJa} {K : aJb -> aJa -> Prop} (h0 : 0 <= n) (hn : 8 * n <= 2 ^ 48) (hk : ∀ w', cJ w' w.heap.size (List.replicate n.toNat (.int .i64 0)) -> aS w w' cM -> w'.heap.size = w.heap.size + 1 -> K (.slice (some ⟨w.heap.size, 0, none⟩) n.toNat n.toNat) w') : aC pg (yK 77 (.int k n) (.int k n)) w K := aBT (i := Tryd.t3) Tryd.underlying77 Cn rfl rfl rfl h0 hn (by omega) hk
theorem GZ {k : IntKind} {hi : Int} (a : Option Addr) (n c : Nat) (w : aJa) (h0 : 0 <= hi) (h1 : hi <= c) : (fJ 91 (.slice a n c) none (some (.int k hi)) none).run pg w = .ok (.value (.slice (iO a c (0) 1) (hi.toNat - 0) (c - 0))) w := QK Tryd.underlying91 Q7 _ n c h0 h1
theorem A9  (w : aJa) : (bV 183 []).run pg w = .ok (.value (.agg #[(.slice none 0 0), (.int .i64 0)])) w := by kernel_rfl
theorem kJ {ox oy : Operand} (x : Option Addr) (w : aJa) : (aG .eql 151 ox oy (.pointer x) (.pointer none)).run pg w = .ok (.value (.bool x.isNone)) w := anY Tryd.underlying151 x
theorem kQ (b o : Nat) (w : aJa) : (aL 183 (.pointer (some ⟨b, o, none⟩)) 1).run pg w = .ok (.value (.pointer (some ⟨b, o + 1, none⟩))) w := iU (i := 1) Tryd.underlying183 rfl Cn (by decide) _
theorem iR (b o : Nat) (w : aJa) : (aL 183 (.pointer (some ⟨b, o, none⟩)) 0).run pg w = .ok (.value (.pointer (some ⟨b, o, none⟩))) w := iU (i := 0) Tryd.underlying183 rfl apX (by decide) _
theorem YP {b off : Nat} {cs : List aJb} {w : aJa} {v : aJb} {K : aJb -> aJa -> Prop} (ho : cJ w b cs) (hv : one v = true) (h : off < cs.length) (hk : ∀ w', cJ w' b (cs.set off v) -> aS w w' (fun x => x = b) -> w'.heap.size = w.heap.size -> K undef w') : aC pg (aJ 5 (.pointer (some ⟨b, off, none⟩)) v) w K := uK Vb rfl ho hv h hk
theorem BU (a0 : Option Addr) (l0 c0 : Nat) (n1 : Int) (w : aJa) : (bV 183 [(0, (.slice a0 l0 c0)), (1, (.int .i64 n1))]).run pg w = .ok (.value (.agg #[(.slice a0 l0 c0), (.int .i64 n1)])) w := by kernel_rfl
theorem Bq (n0 : Int) (w : aJa) : (bV 145 [(0, (.int .i64 n0))]).run pg w = .ok (.value (.agg #[(.int .i64 n0), (.slice none 0 0)])) w := by kernel_rfl
theorem ayU : (pg).info? 190 = some Tryd.t190 := by kernel_rfl
theorem asS {b off : Nat} {l : List aJb} {w : aJa} (hl : l.length = 20) (h : ∀ j, j < l.length -> w.cell? ⟨b, off + j, none⟩ = l[j]?) : (aH 190 (.pointer (some ⟨b, off, none⟩))).run pg w = .ok (.value (.agg l.toArray)) w := Us Tryd.underlying190 rfl ayU hl.symm h
theorem awE {w : aJa} {K : aJb -> aJa -> Prop} (hk : ∀ w', cJ w' w.heap.size [(.int .i64 0), (.int .i64 0), (.int .i64 0), (.int .i64 0), (.int .i64 0), (.int .i64 0), (.int .i64 0), (.int .i64 0), (.int .i64 0), (.int .i64 0), (.int .i64 0), (.int .i64 0), (.int .i64 0), (.int .i64 0), (.int .i64 0), (.int .i64 0), (.int .i64 0), (.int .i64 0), (.int .i64 0), (.int .i64 0)] -> aS w w' cM -> w'.heap.size = w.heap.size + 1 -> K (.pointer (some ⟨w.heap.size, 0, none⟩)) w') : aC pg (bT 190) w K := jJ (i := Tryd.t190) ayU rfl hk
theorem atB {b off : Nat} {cs : List aJb} {w : aJa} {xs : Array aJb} {K : aJb -> aJa -> Prop} (ho : cJ w b cs) (hs : xs.size = 20) (hv : ∀ x ∈ xs.toList, one x = true) (h : off + 20 <= cs.length) (hk : ∀ w', cJ w' b (aV cs off xs.toList) -> aS w w' (fun x => x = b) -> w'.heap.size = w.heap.size -> K undef w') : aC pg (aJ 190 (.pointer (some ⟨b, off, none⟩)) (.agg xs)) w K := kB (v := .agg xs) ayU ho hs hv h hk
theorem Hf  (b o : Nat) (w : aJa)  : (fJ 190 (.pointer (some ⟨b, o, none⟩)) none none none).run pg w = .ok (.value (.slice (some (uN ⟨b, o, none⟩ 20 (0) 1)) (20 - 0) (20 - 0))) w := CD Tryd.underlying190 Cn _
theorem axJ : (pg).info? 191 = some Tryd.t191 := by kernel_rfl
theorem aqV {b off : Nat} {l : List aJb} {w : aJa} (hl : l.length = 21) (h : ∀ j, j < l.length -> w.cell? ⟨b, off + j, none⟩ = l[j]?) : (aH 191 (.pointer (some ⟨b, off, none⟩))).run pg w = .ok (.value (.agg l.toArray)) w := Us Tryd.underlying191 rfl axJ hl.symm h
theorem atO {w : aJa} {K : aJb -> aJa -> Prop} (hk : ∀ w', cJ w' w.heap.size [(.int .i64 0), (.int .i64 0), (.int .i64 0), (.int .i64 0), (.int .i64 0), (.int .i64 0), (.int .i64 0), (.int .i64 0), (.int .i64 0), (.int .i64 0), (.int .i64 0), (.int .i64 0), (.int .i64 0), (.int .i64 0), (.int .i64 0), (.int .i64 0), (.int .i64 0), (.int .i64 0), (.int .i64 0), (.int .i64 0), (.int .i64 0)] -> aS w w' cM -> w'.heap.size = w.heap.size + 1 -> K (.pointer (some ⟨w.heap.size, 0, none⟩)) w') : aC pg (bT 191) w K := jJ (i := Tryd.t191) axJ rfl hk
theorem arQ {b off : Nat} {cs : List aJb} {w : aJa} {xs : Array aJb} {K : aJb -> aJa -> Prop} (ho : cJ w b cs) (hs : xs.size = 21) (hv : ∀ x ∈ xs.toList, one x = true) (h : off + 21 <= cs.length) (hk : ∀ w', cJ w' b (aV cs off xs.toList) -> aS w w' (fun x => x = b) -> w'.heap.size = w.heap.size -> K undef w') : aC pg (aJ 191 (.pointer (some ⟨b, off, none⟩)) (.agg xs)) w K := kB (v := .agg xs) axJ ho hs hv h hk
theorem GC  (b o : Nat) (w : aJa)  : (fJ 191 (.pointer (some ⟨b, o, none⟩)) none none none).run pg w = .ok (.value (.slice (some (uN ⟨b, o, none⟩ 21 (0) 1)) (21 - 0) (21 - 0))) w := CD Tryd.underlying191 Cn _
theorem lM (n0 : Int) (a1 : Option Addr) (l1 c1 : Nat) (w : aJa) : (bV 130 [(0, (.int .i64 n0)), (1, (.slice a1 l1 c1))]).run pg w = .ok (.value (.agg #[(.int .i64 n0), (.slice a1 l1 c1)])) w := by kernel_rfl
theorem lI {b off : Nat} {cs : List aJb} {w : aJa} (ho : cJ w b cs) (h : off + 2 <= cs.length) {K : aJb -> Prop} (hk : K (.agg ((cs.drop off).take 2).toArray)) : kC pg 164 (.pointer (some ⟨b, off, none⟩)) w K := C1 Tryd.underlying164 rfl asH ho h hk
theorem pL (b o : Nat) (w : aJa) : (aL 164 (.pointer (some ⟨b, o, none⟩)) 0).run pg w = .ok (.value (.pointer (some ⟨b, o, none⟩))) w := iU (i := 0) Tryd.underlying164 rfl aCr (by decide) _
theorem lW (b o : Nat) (w : aJa) : (aL 164 (.pointer (some ⟨b, o, none⟩)) 1).run pg w = .ok (.value (.pointer (some ⟨b, o + 1, none⟩))) w := iU (i := 1) Tryd.underlying164 rfl Cn (by decide) _
theorem HP {k k' : IntKind} {lo hi : Int} (a : Option Addr) (n c : Nat) (w : aJa) (h0 : 0 <= lo) (h1 : lo <= hi) (h2 : hi <= c) : (fJ 80 (.slice a n c) (some (.int k lo)) (some (.int k' hi)) none).run pg w = .ok (.value (.slice (iO a c (lo.toNat) 1) (hi.toNat - lo.toNat) (c - lo.toNat))) w := arD Tryd.underlying80 aBE _ n c h0 h1 h2
theorem HG {k : IntKind} (a : Int) (w : aJa) : (fM 43 5 (.int k a)).run pg w = .ok (.value (.int .u8 (IntKind.u8.wrap a))) w := Di Tryd.underlying43 Tryd.underlying5
theorem aaW {k : IntKind} {n : Int} {w : aJa} {K : aJb -> aJa -> Prop} (h0 : 0 <= n) (hn : 24 * n <= 2 ^ 48) (hk : ∀ w', cJ w' w.heap.size (Ph n.toNat [(.int .u8 0), (.int .i64 0), (.int .i64 0)]) -> aS w w' cM -> w'.heap.size = w.heap.size + 1 -> K (.slice (some ⟨w.heap.size, 0, none⟩) n.toNat n.toNat) w') : aC pg (yK 25 (.int k n) (.int k n)) w K := aA3 (i := Tryd.t123) Tryd.underlying25 aaP rfl (by decide) rfl rfl h0 hn (by omega) hk
theorem Ke {k : IntKind} (a : Int) (w : aJa) : (fM 94 43 (.int k a)).run pg w = .ok (.value (.int .u32 (IntKind.u32.wrap a))) w := Di Tryd.underlying94 Tryd.underlying43
theorem CR (a0 : Option Addr) (l0 c0 : Nat) (w : aJa) : (bV 195 [(0, (.slice a0 l0 c0))]).run pg w = .ok (.value (.agg #[(.slice a0 l0 c0), (.int .i64 0)])) w := by kernel_rfl
theorem pJ {ox oy : Operand} (x : Option Addr) (w : aJa) : (aG .eql 184 ox oy (.pointer x) (.pointer none)).run pg w = .ok (.value (.bool x.isNone)) w := anY Tryd.underlying184 x
theorem wR (b o : Nat) (w : aJa) : (aL 195 (.pointer (some ⟨b, o, none⟩)) 0).run pg w = .ok (.value (.pointer (some ⟨b, o, none⟩))) w := iU (i := 0) Tryd.underlying195 rfl apX (by decide) _
theorem qO (b o : Nat) (w : aJa) : (aL 195 (.pointer (some ⟨b, o, none⟩)) 1).run pg w = .ok (.value (.pointer (some ⟨b, o + 1, none⟩))) w := iU (i := 1) Tryd.underlying195 rfl Cn (by decide) _
theorem Xn {l : List UInt8} {v : aJb} {w : aJa} (h : Bs w v l) : (fM 22 9 v).run pg w = .ok (.value (.string ⟨l.toArray⟩)) w := aC1 Tryd.underlying22 Tryd.underlying9 Tryd.underlying5 h
theorem VL {k : IntKind} (a : Int) (w : aJa) : (fM 54 3 (.int k a)).run pg w = .ok (.value (.int .i64 (IntKind.i64.wrap a))) w := Di Tryd.underlying54 Tryd.underlying3
theorem SI {k : IntKind} {hi : Int} (a : Option Addr) (n c : Nat) (w : aJa) (h0 : 0 <= hi) (h1 : hi <= c) : (fJ 22 (.slice a n c) none (some (.int k hi)) none).run pg w = .ok (.value (.slice (iO a c (0) 1) (hi.toNat - 0) (c - 0))) w := QK Tryd.underlying22 Vb _ n c h0 h1
end Go.Proofs.YtaggdjhhmbnhoaaDoor
namespace Go.Pu
def cR (p : Int) : Int := if p < 0 then 1 else p
def fits : Int -> List Int -> Bool
 | left, [] => left == 0
 | left, p :: r => if p < -1 ∨ left < cR p then false else fits (left - cR p) r
def rE (ps : List Int) : Int := (ps.map cR).sum
def aqD (log : Int) (ps : List Int) : Bool := decide (5 <= log /\ log <= 15 /\ 1 <= ps.length /\ ps.length <= 256 /\ ps.getLast? ≠ some 0)
def Tx (log : Int) (ps : List Int) : Bool := aqD log ps && fits (2 ^ log.toNat) ps
theorem wD (p : Int) (ps : List Int) : rE (p :: ps) = cR p + rE ps := by simp [rE]
theorem Gq (a b : List Int) : rE (a ++ b) = rE a + rE b := by simp [rE]
theorem lK {p : Int} (h : -1 <= p) : 0 <= cR p := by unfold cR; split <;> omega
theorem F7 {ps : List Int} (h : ∀ p ∈ ps, -1 <= p) : 0 <= rE ps := by
 induction ps with
 | nil => simp [rE]
 | cons p r ih =>
   rw [wD]
   have := lK (h p (by simp))
   have := ih fun q hq => h q (aG9 _ hq)
   omega
theorem Yx : ∀ {ps : List Int} {left : Int}, fits left ps = true ↔ (∀ p ∈ ps, -1 <= p) /\ rE ps = left
 | [], left => by simp [fits, rE]; constructor <;> intro h <;> omega
 | p :: r, left => by
   rw [fits, wD]
   by_cases h : p < -1 ∨ left < cR p
   .rw [if_pos h]
    constructor
    .intro h; cases h
    .rintro ⟨h1, h2⟩
     have hp := h1 p (by simp)
     have := F7 (ps := r) fun q hq => h1 q (aG9 _ hq)
     omega
   .rw [if_neg h, Yx]
    constructor
    .rintro ⟨h1, h2⟩
     exact ⟨fun q hq => by rcases aHE.1 hq with rfl | hq; · omega
                           .exact h1 q hq, by omega⟩
    .rintro ⟨h1, h2⟩
     exact ⟨fun q hq => h1 q (aG9 _ hq), by omega⟩
structure Sw (log : Nat) (ps : List Int) : Prop where
 log5 : 5 <= log
 log15 : log <= 15
 len1 : 1 <= ps.length
 len256 : ps.length <= 256
 last : ps.getLast? ≠ some 0
 low : ∀ p ∈ ps, -1 <= p
 sum : rE ps = 2 ^ log
theorem Sw.b {log : Nat} {ps : List Int} (h : Sw log ps) : Tx log ps = true := by
 unfold Tx aqD
 simp only [aHb, decide_eq_true_eq]
 have h1 := h.log5
 have h2 := h.log15
 refine ⟨⟨by omega, by omega, h.len1, h.len256, h.last⟩, ?_⟩
 rw [Yx, aGO]
 exact ⟨h.low, h.sum⟩
theorem auE {log : Nat} (h : log <= 15) : (2 : Int) ^ log <= 32768 := by
 have : 2 ^ log <= 2 ^ 15 := aG0 (by omega) h
 have e : ((2 ^ log : Nat) : Int) = (2 : Int) ^ log := by simp
 omega
theorem avG (log : Nat) : (1 : Int) <= 2 ^ log := by
 have : 1 <= 2 ^ log := Nat.one_le_two_pow
 have e : ((2 ^ log : Nat) : Int) = (2 : Int) ^ log := by simp
 omega
theorem akH {ps : List Int} (h : ∀ p ∈ ps, -1 <= p) {p : Int} (hp : p ∈ ps) : cR p <= rE ps := by
 induction ps with
 | nil => cases hp
 | cons q r ih =>
   rw [wD]
   have h0 := lK (h q (by simp))
   have h1 := F7 (ps := r) fun q hq => h q (aG9 _ hq)
   rcases aHE.1 hp with rfl | hp
   .omega
   .have := ih (fun q hq => h q (aG9 _ hq)) hp
    omega
def adv (n a : Nat) : Nat := (a + n / 2 + n / 8 + 3) % n
def Yd (n high : Nat) : Nat -> Nat -> Nat
 | 0, a => a
 | f + 1, a => if a < high then a else Yd n high f (adv n a)
def V5 : List Int -> Nat -> Nat -> List Int -> Nat × List Int
 | [], _, high, arr => (high, arr)
 | p :: r, s, high, arr => if p = -1 then V5 r (s + 1) (high - 1) (arr.set (high - 1) s) else V5 r (s + 1) high arr
def oU : List Int -> Nat -> List Nat
 | [], _ => []
 | p :: r, s => List.replicate p.toNat s ++ oU r (s + 1)
def place (n high : Nat) : List Nat -> Nat -> List Int -> List Int
 | [], _, arr => arr
 | s :: r, a, arr => place n high r (Yd n high n (adv n a)) (arr.set a s)
def gD (x0 : Int) (log : Nat) (ps : List Int) : List Int :=
 place (2 ^ log) (V5 ps 0 (2 ^ log) (List.replicate (2 ^ log) x0)).1 (oU ps 0) 0 (V5 ps 0 (2 ^ log) (List.replicate (2 ^ log) x0)).2
def pos (n j : Nat) : Nat := (j * (n / 2 + n / 8 + 3)) % n
theorem Iw (n j : Nat) : adv n (pos n j) = pos n (j + 1) := by
 unfold adv pos
 rw [aIf, aIf, Nat.mod_add_mod, aHQ, Nat.one_mul, aIf]
theorem aDL {s : Nat} (hs : s % 2 = 1) : ∀ (k x : Nat), 2 ^ k ∣ s * x -> 2 ^ k ∣ x := by
 intro k
 induction k with
 | zero => intro x _; simp
 | succ k ih =>
   intro x h
   have h2 : 2 ∣ s * x := Nat.dvd_trans ⟨2 ^ k, by rw [aHf, aHU]⟩ h
   have hx : x % 2 = 0 := by
    have : (s * x) % 2 = 0 := Nat.mod_eq_zero_of_dvd h2
    rw [Nat.mul_mod, hs, Nat.one_mul, Nat.mod_mod] at this
    exact this
   obtain ⟨y, rfl⟩ : ∃ y, x = 2 * y := ⟨x / 2, by omega⟩
   rw [aHf, aHU (2 ^ k) 2, show s * (2 * y) = 2 * (s * y) by rw [Nat.mul_left_comm]] at h
   rw [aHf, aHU (2 ^ k) 2]
   exact Nat.mul_dvd_mul_left 2 (ih y (Nat.dvd_of_mul_dvd_mul_left (by omega) h))
theorem aCx {log : Nat} (h : 5 <= log) : (2 ^ log / 2 + 2 ^ log / 8 + 3) % 2 = 1 := by
 obtain ⟨k, rfl⟩ : ∃ k, log = k + 5 := ⟨log - 5, by omega⟩
 have : 2 ^ (k + 5) = 32 * 2 ^ k := by rw [aID, aHU]
 omega
theorem aEm {log : Nat} (h : 5 <= log) {i j : Nat} (hij : i < j) (hj : j < 2 ^ log) : pos (2 ^ log) i ≠ pos (2 ^ log) j := by
 unfold pos
 generalize hst : 2 ^ log / 2 + 2 ^ log / 8 + 3 = st
 have hodd : st % 2 = 1 := by rw [<- hst]; exact aCx h
 intro e
 have hle : i * st <= j * st := aHt _ (by omega)
 have hd : 2 ^ log ∣ st * (j - i) := by
  rw [aHU, Nat.sub_mul]
  exact Nat.dvd_of_mod_eq_zero (Nat.sub_mod_eq_zero_of_mod_eq e.symm)
 have := Nat.le_of_dvd (by omega) (aDL hodd _ _ hd)
 omega
theorem aB6 : ∀ (n : Nat) (l : List Nat), l.Nodup -> (∀ a ∈ l, a < n) -> l.length <= n := by
 intro n
 induction n with
 | zero => intro l _ h; cases l with
   | nil => simp
   | cons a r => exact absurd (h a (by simp)) (by omega)
 | succ n ih =>
   intro l hd h
   by_cases hn : n ∈ l
   .have := ih (l.erase n) (hd.erase n) (fun a ha => by
     have h1 := h a (List.mem_of_mem_erase ha)
     have h2 : a ≠ n := fun e => by subst e; exact hd.not_mem_erase ha
     omega)
    rw [aIS hn] at this
    omega
   .have := ih l hd (fun a ha => by
     have h1 := h a ha
     have h2 : a ≠ n := fun e => by subst e; exact hn ha
     omega)
    omega
theorem apI {n : Nat} {l : List Nat} (hd : l.Nodup) (h : ∀ a ∈ l, a < n) (hl : l.length = n) {a : Nat} (ha : a < n) : a ∈ l := by
 refine Classical.byContradiction fun hn => ?_
 have := aB6 n (a :: l) (List.nodup_cons.2 ⟨hn, hd⟩) (fun b hb => (aHE.1 hb).elim (fun e => e ▸ ha) (h b))
 simp at this; omega
def lN (n high j : Nat) : List Nat := ((List.range' j (n - j)).map (pos n)).filter (· < high)
theorem TC {n high j : Nat} (h : j < n) : lN n high j = if pos n j < high then pos n j :: lN n high (j + 1) else lN n high (j + 1) := by
 unfold lN
 rw [show n - j = (n - (j + 1)) + 1 from by omega, List.range'_succ, aIn, List.filter_cons]
 simp
theorem XQ (n high : Nat) : lN n high n = [] := by unfold lN; simp
theorem akX {n : Nat} (h : 0 < n) (j : Nat) : pos n j < n := aIz _ h
theorem Ui (n : Nat) : pos n 0 = 0 := by simp [pos]
theorem aFS (n : Nat) : pos n n = 0 := by simp [pos, Nat.mul_mod_right]
theorem aBn {n high : Nat} (hh : 0 < high) : ∀ (d j f : Nat), j + d = n -> d <= f -> Yd n high f (pos n j) = (lN n high j).headD 0 := by
 intro d
 induction d with
 | zero =>
   intro j f hj _
   obtain rfl : j = n := by omega
   rw [XQ, aFS]
   cases f with
   | zero => rfl
   | succ f => unfold Yd; rw [if_pos hh] <;> rfl
 | succ d ih =>
   intro j f hj hf
   obtain ⟨f, rfl⟩ : ∃ g, f = g + 1 := ⟨f - 1, by omega⟩
   rw [TC (by omega)]
   unfold Yd
   split
   .rfl
   .rw [Iw]; exact ih (j + 1) f (by omega) (by omega)
def setAt : List (Nat × Nat) -> List Int -> List Int
 | [], arr => arr
 | (q, s) :: r, arr => setAt r (arr.set q s)
theorem ayY {n high : Nat} (hh : 0 < high) : ∀ (syms : List Nat) (j a : Nat) (arr : List Int), j <= n -> syms.length <= (lN n high j).length -> (syms ≠ [] -> (lN n high j).headD 0 = a) →
 place n high syms a arr = setAt ((lN n high j).zip syms) arr := by
 intro syms
 induction syms with
 | nil => intro j a arr _ _ _; simp [place, setAt]
 | cons s r ih =>
   intro j a arr hj hlen ha
   have ha := ha (by simp)
   have key : ∀ (d j : Nat), j + d = n -> (s :: r).length <= (lN n high j).length -> (lN n high j).headD 0 = a -> ∃ i, i < n /\ j <= i /\ pos n i = a /\ lN n high j = a :: lN n high (i + 1) := by
    intro d
    induction d with
    | zero =>
      intro j hj hl _
      obtain rfl : j = n := by omega
      rw [XQ] at hl; simp at hl
    | succ d ihd =>
      intro j hj hl hd
      have e := TC (high := high) (show j < n by omega)
      by_cases hp : pos n j < high
      .rw [if_pos hp] at e
       rw [e] at hd
       have : pos n j = a := hd
       exact ⟨j, by omega, aGZ _, this, by rw [e, this]⟩
      .rw [if_neg hp] at e
       rw [e] at hl hd ⊢
       obtain ⟨i, h1, h2, h3, h4⟩ := ihd (j + 1) (by omega) hl hd
       exact ⟨i, h1, by omega, h3, h4⟩
   obtain ⟨i, h1, h2, h3, h4⟩ := key (n - j) j (by omega) hlen ha
   rw [h4] at hlen ⊢
   simp only [aHc] at hlen
   rw [place, List.zip_cons_cons, setAt]
   refine ih (i + 1) _ _ (by omega) (by omega) (fun hr => ?_)
   rw [<- h3, Iw]
   exact (aBn hh (n - (i + 1)) (i + 1) n (by omega) (by omega)).symm
def rX : List Int -> Nat -> List Nat
 | [], _ => []
 | p :: r, s => if p = -1 then s :: rX r (s + 1) else rX r (s + 1)
def toI (l : List Nat) : List Int := l.map Int.ofNat
theorem apB : ∀ (ps : List Int) (s high : Nat) (arr : List Int), (rX ps s).length <= high -> high <= arr.length →
 V5 ps s high arr = (high - (rX ps s).length, arr.take (high - (rX ps s).length) ++ toI (rX ps s).reverse ++ arr.drop high) := by
 intro ps
 induction ps with
 | nil => intro s high arr h1 h2; simp [V5, rX, toI]
 | cons p r ih =>
   intro s high arr h1 h2
   unfold V5 rX
   unfold rX at h1
   by_cases hp : p = -1
   .rw [if_pos hp, if_pos hp]
    rw [if_pos hp] at h1
    simp only [aHc] at h1 ⊢
    rw [ih (s + 1) (high - 1) _ (by omega) (by simp; omega)]
    congr 1
    .omega
    .have hlt : high - 1 < arr.length := by omega
     rw [List.take_set_of_le (by omega), show high - 1 - (rX r (s + 1)).length = high - ((rX r (s + 1)).length + 1) from by omega]
     have : (arr.set (high - 1) (s : Int)).drop (high - 1) = (s : Int) :: arr.drop high := by
      rw [aHn (by simp; omega)]
      simp only [aIH]
      rw [show high - 1 + 1 = high from by omega, List.drop_set_of_lt (by omega)]
     rw [this]
     simp [toI]
   .rw [if_neg hp, if_neg hp]
    rw [if_neg hp] at h1
    exact ih (s + 1) high arr h1 h2
theorem Zf : ∀ (l : List (Nat × Nat)) (arr : List Int), (setAt l arr).length = arr.length
 | [], _ => rfl
 | (q, s) :: r, arr => by rw [setAt, Zf]; simp
theorem S2 {q : Nat} : ∀ (l : List (Nat × Nat)) (arr : List Int), (∀ x ∈ l, x.1 ≠ q) -> (setAt l arr)[q]? = arr[q]?
 | [], _, _ => rfl
 | (a, s) :: r, arr, h => by
   rw [setAt, S2 r _ fun x hx => h x (aG9 _ hx), List.getElem?_set_ne (h (a, s) (by simp))]
theorem aAX : ∀ (us : List Nat) (ss : List Nat) (arr : List Int) (t : Nat), us.Nodup -> us.length = ss.length -> (∀ q ∈ us, q < arr.length) -> (ht : t < us.length) -> (ht' : t < ss.length) →
 (setAt (us.zip ss) arr)[us[t]]? = some (ss[t] : Int) := by
 intro us
 induction us with
 | nil => intro ss arr t _ _ _ ht; simp at ht
 | cons u us ih =>
   intro ss arr t hd hl hb ht ht'
   cases ss with
   | nil => simp at hl
   | cons x ss =>
     obtain ⟨h1, h2⟩ := List.nodup_cons.1 hd
     rw [List.zip_cons_cons, setAt]
     cases t with
     | zero =>
       simp only [aIo]
       rw [S2 _ _ (fun y hy => fun e => h1 (by have := (List.of_mem_zip (a := y.1) (b := y.2) hy).1; rw [e] at this; exact this))]
       have : u < arr.length := hb u (by simp)
       simp [this]
     | succ t =>
       simp only [aIZ]
       exact ih ss _ t h2 (by simpa using hl) (fun q hq => by simpa using hb q (aG9 _ hq)) (by simpa using ht) (by simpa using ht')
theorem amE : ∀ (n : Nat) (l : List Nat), l.Nodup -> (∀ a ∈ l, a < n) -> l.length = n -> l.Perm (List.range n) := by
 intro n
 induction n with
 | zero => intro l _ _ h; rw [aHq.1 h]; exact List.Perm.refl _
 | succ n ih =>
   intro l hd h hl
   have hn : n ∈ l := apI hd h hl (by omega)
   have p1 := List.perm_cons_erase hn
   have p2 := ih (l.erase n) (hd.erase n) (fun a ha => by
    have h1 := h a (List.mem_of_mem_erase ha)
    have h2 : a ≠ n := fun e => by subst e; exact hd.not_mem_erase ha
    omega) (by rw [aIS hn]; omega)
   rw [aIO]
   exact p1.trans ((p2.cons n).trans (List.perm_append_singleton n _).symm)
theorem awO : ∀ (ps : List Int) (s : Nat), (∀ p ∈ ps, -1 <= p) -> ((oU ps s).length : Int) + (rX ps s).length = rE ps := by
 intro ps
 induction ps with
 | nil => intro s _; simp [oU, rX, rE]
 | cons p r ih =>
   intro s h
   have := ih (s + 1) fun q hq => h q (aG9 _ hq)
   have hp := h p (by simp)
   rw [wD]
   unfold oU rX cR
   by_cases h1 : p = -1
   .rw [if_pos h1, if_pos (by omega)]; subst h1; simp; omega
   .rw [if_neg h1, if_neg (by omega)]; simp; omega
theorem axR : ∀ (ps : List Int) (s i : Nat), (oU ps s).count (s + i) = if h : i < ps.length then ps[i].toNat else 0 := by
 intro ps
 induction ps with
 | nil => intro s i; simp [oU]
 | cons p r ih =>
   intro s i
   have low : ∀ (ps : List Int) (s a : Nat), a < s -> (oU ps s).count a = 0 := by
    intro ps
    induction ps with
    | nil => intro s a _; simp [oU]
    | cons p r ih =>
      intro s a h
      unfold oU
      rw [aHX, ih (s + 1) a (by omega), List.count_replicate]
      simp; omega
   unfold oU
   rw [aHX, List.count_replicate]
   cases i with
   | zero => rw [aHI, low r (s + 1) s (by omega)]; simp
   | succ i =>
     rw [show s + (i + 1) = s + 1 + i from by omega, ih (s + 1) i]
     have : (s == s + 1 + i) = false := by simp; omega
     rw [this]; simp
theorem ayB : ∀ (ps : List Int) (s i : Nat), (rX ps s).count (s + i) = if h : i < ps.length then (if ps[i] = -1 then 1 else 0) else 0 := by
 intro ps
 induction ps with
 | nil => intro s i; simp [rX]
 | cons p r ih =>
   intro s i
   have low : ∀ (ps : List Int) (s a : Nat), a < s -> (rX ps s).count a = 0 := by
    intro ps
    induction ps with
    | nil => intro s a _; simp [rX]
    | cons p r ih =>
      intro s a h
      unfold rX
      split
      .rw [aIk, ih (s + 1) a (by omega)]; simp; omega
      .exact ih (s + 1) a (by omega)
   unfold rX
   cases i with
   | zero =>
     rw [aHI]
     by_cases h : p = -1
     .rw [if_pos h, aIk, low r (s + 1) s (by omega)]; simp [h]
     .rw [if_neg h, low r (s + 1) s (by omega)]; simp [h]
   | succ i =>
     have e : s + (i + 1) = s + 1 + i := by omega
     by_cases h : p = -1
     .rw [if_pos h, aIk, e, ih (s + 1) i]
      have : (s == s + 1 + i) = false := by simp; omega
      rw [this]; simp
     .rw [if_neg h, e, ih (s + 1) i]; simp
theorem aEc : ∀ (ps : List Int) (s i : Nat) (h : i < ps.length), ps[i] = -1 -> (rX ps s)[(ps.take i).count (-1)]? = some (s + i) := by
 intro ps
 induction ps with
 | nil => intro s i h; simp at h
 | cons p r ih =>
   intro s i h hp
   unfold rX
   cases i with
   | zero => simp only [aIo] at hp; rw [if_pos hp]; simp
   | succ i =>
     simp only [aIZ] at hp
     have := ih (s + 1) i (by simpa using h) hp
     rw [aGN, aIk]
     by_cases h1 : p = -1
     .rw [if_pos h1]; simp only [h1, beq_self_eq_true, if_true, aGR]; rw [this]; congr 1; omega
     .rw [if_neg h1]
      have : (p == -1) = false := by simpa using h1
      rw [this]; simp only [aGW, if_false, aHI]
      rw [‹(rX r (s + 1))[_]? = _›]; congr 1; omega
theorem Vv {log high : Nat} (hl : 5 <= log) (hh : high <= 2 ^ log) : (lN (2 ^ log) high 0).Nodup /\ (∀ a ∈ lN (2 ^ log) high 0, a < high) /\ (lN (2 ^ log) high 0).length = high := by
 have hn : 0 < 2 ^ log := aHp log
 have hnd : ((List.range (2 ^ log)).map (pos (2 ^ log))).Nodup := by
  rw [List.nodup_iff_pairwise_ne, List.pairwise_map]
  refine List.pairwise_iff_getElem.2 fun i j hi hj hij => ?_
  simp only [aIF] at hi hj
  simp only [aHJ]
  exact aEm hl hij hj
 have hp := amE (2 ^ log) _ hnd (fun a ha => by
  obtain ⟨j, _, rfl⟩ := aHH.1 ha
  exact akX hn j) (by simp)
 unfold lN
 rw [aIU, <- List.range_eq_range']
 refine ⟨hnd.filter _, fun a ha => by simpa using (aI6.1 ha).2, ?_⟩
 rw [(hp.filter _).length_eq]
 have : ∀ m : Nat, high <= m -> ((List.range m).filter (· < high)).length = high := by
  intro m
  induction m with
  | zero => intro h; simp; omega
  | succ m ih =>
    intro h
    rw [aIO, List.filter_append, aGY]
    by_cases hm : high <= m
    .rw [ih hm]; simp; omega
    .have : high = m + 1 := by omega
     subst this
     have : (List.range m).filter (fun x => decide (x < m + 1)) = List.range m := List.filter_eq_self.2 fun a ha => by have := aHD.1 ha; simp; omega
     rw [this]; simp
 exact this _ hh
structure Lay (log : Nat) (ps : List Int) (S : List Int) : Prop where
 len : S.length = 2 ^ log
 cnt : ∀ s (h : s < ps.length), S.count (s : Int) = (cR ps[s]).toNat
 rng : ∀ x ∈ S, ∃ s : Nat, s < ps.length /\ x = s
 top : ∀ s (h : s < ps.length), ps[s] = -1 -> S[2 ^ log - 1 - (ps.take s).count (-1)]? = some (s : Int)
theorem apD (l : List Nat) (s : Nat) : (toI l).count (s : Int) = l.count s := by
 induction l with
 | nil => rfl
 | cons a r ih =>
   show List.count _ (Int.ofNat a :: toI r) = _
   rw [aIk, aIk, ih]
   congr 1
   by_cases h : a = s
   .subst h; simp
   .simp [h]; omega
theorem aCN : ∀ (ps : List Int) (s : Nat), ∀ x ∈ oU ps s, s <= x /\ x < s + ps.length := by
 intro ps
 induction ps with
 | nil => intro s x h; simp [oU] at h
 | cons p r ih =>
   intro s x h
   unfold oU at h
   rcases aH7.1 h with h | h
   .have := (List.mem_replicate.1 h).2; simp; omega
   .have := ih (s + 1) x h; simp; omega
theorem aCw : ∀ (ps : List Int) (s : Nat), ∀ x ∈ rX ps s, s <= x /\ x < s + ps.length := by
 intro ps
 induction ps with
 | nil => intro s x h; simp [rX] at h
 | cons p r ih =>
   intro s x h
   unfold rX at h
   split at h
   .rcases aHE.1 h with rfl | h
    .simp
    .have := ih (s + 1) x h; simp; omega
   .have := ih (s + 1) x h; simp; omega
theorem Tf {log : Nat} {ps : List Int} (h : Sw log ps) (x0 : Int) :
 ∃ low : List Int, gD x0 log ps = low ++ toI (rX ps 0).reverse /\ low.Perm (toI (oU ps 0)) /\ ((rX ps 0).length + low.length = 2 ^ log) /\
   (∀ t (h1 : t < (lN (2 ^ log) (oU ps 0).length 0).length) (h2 : t < (oU ps 0).length), low[(lN (2 ^ log) (oU ps 0).length 0)[t]]? = some ((oU ps 0)[t] : Int)) := by
 have hrl := awO ps 0 h.low
 rw [h.sum] at hrl
 have hpow : ((2 ^ log : Nat) : Int) = (2 : Int) ^ log := by simp
 obtain ⟨m, hm⟩ : ∃ m, m = (rX ps 0).length := ⟨_, rfl⟩
 obtain ⟨hi, hhi⟩ : ∃ x, x = (oU ps 0).length := ⟨_, rfl⟩
 rw [<- hm, <- hhi] at hrl
 have hsum : hi + m = 2 ^ log := by omega
 have ht := apB ps 0 (2 ^ log) (List.replicate (2 ^ log) x0) (by omega) (by simp)
 rw [<- hm, show 2 ^ log - m = hi from by omega] at ht
 have e2 : (List.replicate (2 ^ log) x0).take hi = List.replicate hi x0 := by rw [List.take_replicate]; congr 1; omega
 have e3 : (List.replicate (2 ^ log) x0).drop (2 ^ log) = [] := by simp
 rw [e2, e3, aHC] at ht
 unfold gD
 rw [ht]
 simp only
 obtain ⟨u1, u2, u3⟩ := Vv (high := hi) h.log5 (by omega)
 by_cases h0 : hi = 0
 .have hr : oU ps 0 = [] := aHq.1 (by omega)
  rw [hr, h0]
  refine ⟨[], by simp [place], by simp [toI], by simp; omega, fun t _ h2 => by simp at h2⟩
 .have hp := ayY (n := 2 ^ log) (high := hi) (by omega) (oU ps 0) 0 0 (List.replicate hi x0 ++ toI (rX ps 0).reverse) (by omega) (by rw [u3]; omega) (fun _ => by
   rw [TC (aHp log), Ui, if_pos (by omega)] <;> rfl)
  rw [hp]
  generalize hU : lN (2 ^ log) hi 0 = U at *
  have hb : ∀ q ∈ U, q < (List.replicate hi x0 ++ toI (rX ps 0).reverse).length := fun q hq => by have := u2 q hq; simp; omega
  obtain ⟨R, hR⟩ : ∃ R, R = setAt (U.zip (oU ps 0)) (List.replicate hi x0 ++ toI (rX ps 0).reverse) := ⟨_, rfl⟩
  have hRl : R.length = hi + m := by rw [hR, Zf]; simp [toI, hm]
  have hRd : R.drop hi = toI (rX ps 0).reverse := by
   apply aIY
   intro i
   rw [aIa, hR, S2 _ _ (fun x hx => by
     have := u2 _ (List.of_mem_zip (a := x.1) (b := x.2) hx).1
     omega), aHy (by simp)]
   simp
  have hget : ∀ t (h1 : t < U.length) (h2 : t < (oU ps 0).length), R[U[t]]? = some ((oU ps 0)[t] : Int) := fun t h1 h2 => by
   rw [hR]; exact aAX U _ _ t u1 (by omega) hb h1 h2
  rw [<- hR]
  refine ⟨R.take hi, by rw [<- hRd, aIh], ?_, by rw [aG4]; omega, fun t h1 h2 => ?_⟩
  .have p1 : (U.map fun q => R.getD q 0).Perm ((List.range hi).map fun q => R.getD q 0) := (amE hi U u1 u2 u3).map _
   have p2 : (U.map fun q => R.getD q 0) = toI (oU ps 0) := by
    apply aHN
    .simp [toI]; omega
    .intro t h1 h2
     simp only [aG1] at h1
     have := hget t h1 (by omega)
     simp only [aHs, toI, aG3, this]
     rfl
   have p3 : ((List.range hi).map fun q => R.getD q 0) = R.take hi := by
    apply aHN
    .simp; omega
    .intro q h1 h2
     simp only [aG1, aIF] at h1
     simp only [aHs, aHJ, List.getElem_take, aG3]
     rw [aGX (by omega)] <;> rfl
   rw [p2, p3] at p1
   exact p1.symm
  .subst hhi
   simp only [hU] at h1 ⊢
   have := hget t h1 h2
   rw [aHr (u2 _ (aG7 h1))]
   exact this
theorem uY {log : Nat} {ps : List Int} (h : Sw log ps) (x0 : Int) : Lay log ps (gD x0 log ps) := by
 obtain ⟨low, e, hp, hl, _⟩ := Tf h x0
 rw [e]
 refine ⟨by simp [toI]; omega, fun s hs => ?_, fun x hx => ?_, fun s hs hps => ?_⟩
 .rw [aHX, hp.count_eq, apD, apD, List.count_reverse]
  have h1 := axR ps 0 s
  have h2 := ayB ps 0 s
  rw [aGP] at h1 h2
  rw [h1, h2, dif_pos hs, dif_pos hs]
  have := h.low _ (aG7 hs)
  unfold cR
  split <;> split <;> omega
 .rcases aH7.1 hx with hx | hx
  .have hx := hp.mem_iff.1 hx
   obtain ⟨s, hs, rfl⟩ := aHH.1 hx
   exact ⟨s, by have := aCN ps 0 s hs; omega, rfl⟩
  .obtain ⟨s, hs, rfl⟩ := aHH.1 hx
   exact ⟨s, by have := aCw ps 0 s (List.mem_reverse.1 hs); omega, rfl⟩
 .have h1 := aEc ps 0 s hs hps
  rw [aGP] at h1
  have hlt : (ps.take s).count (-1) < (rX ps 0).length := by
   rcases aHd ((ps.take s).count (-1)) (rX ps 0).length with h | h
   .exact h
   .rw [aHa h] at h1; cases h1
  rw [aHy (by omega)]
  unfold toI
  rw [aHg, List.getElem?_reverse (by omega), show (rX ps 0).length - 1 - (2 ^ log - 1 - List.count (-1) (List.take s ps) - low.length) = (ps.take s).count (-1) from by omega, h1]
  rfl
theorem aBi {log : Nat} {ps : List Int} (h : Sw log ps) (x y : Int) : gD x log ps = gD y log ps := by
 obtain ⟨a, e1, p1, l1, g1⟩ := Tf h x
 obtain ⟨b, e2, p2, l2, g2⟩ := Tf h y
 rw [e1, e2]
 congr 1
 apply aIY
 intro q
 have hrl : (oU ps 0).length = a.length := by rw [p1.length_eq]; simp [toI]
 by_cases hq : q < a.length
 .obtain ⟨u1, u2, u3⟩ := Vv (high := (oU ps 0).length) h.log5 (by omega)
  have hm := apI u1 u2 u3 (a := q) (by omega)
  obtain ⟨t, ht, rfl⟩ := aHl hm
  rw [g1 t ht (by omega), g2 t ht (by omega)]
 .rw [aHa (by omega), aHa (by omega)]
def bl (k : Nat) : Nat := if k = 0 then 0 else k.log2 + 1
theorem aDU : bl 0 = 0 := rfl
theorem Vw (k : Nat) : k < 2 ^ bl k := by
 unfold bl
 split
 .subst_vars; simp
 .exact Nat.lt_log2_self
theorem Ua {k : Nat} (h : k ≠ 0) : 2 ^ (bl k - 1) <= k := by
 unfold bl
 rw [if_neg h, aHK]
 exact Nat.log2_self_le h
theorem GS {k : Nat} (h : k ≠ 0) : 1 <= bl k := by unfold bl; rw [if_neg h]; omega
theorem qT {k n : Nat} (h : k < 2 ^ n) : bl k <= n := by
 by_cases h0 : k = 0
 .subst h0; simp [bl]
 .rcases aHd n (bl k) with hh | hh
  .have h1 := Ua h0
   have := aG0 (n := 2) (by omega) (show n <= bl k - 1 by omega)
   omega
  .exact hh
theorem aBY {k n : Nat} (h1 : 2 ^ n <= k) (h2 : k < 2 ^ (n + 1)) : bl k = n + 1 := by
 have h0 : k ≠ 0 := by have := aHp n; omega
 have a := qT h2
 have b := Vw k
 rcases aHd (bl k) (n + 1) with h | h
 .have := aG0 (n := 2) (by omega) (show bl k <= n by omega)
  omega
 .omega
def kAt (ps S : List Int) (i : Nat) : Nat := (cR (ps.getD (S.getD i 0).toNat 0)).toNat + (S.take i).count (S.getD i 0)
def Da (log : Nat) (x : Int) (k : Nat) : Int × Int × Int := (x, ((log + 1 - bl k : Nat) : Int), ((k * 2 ^ (log + 1 - bl k) : Nat) : Int) - 2 ^ log)
def F2 (log : Nat) (ps S : List Int) (i : Nat) : Int × Int × Int := Da log (S.getD i 0) (kAt ps S i)
def jY (log : Nat) (ps : List Int) : List (Int × Int × Int) := (List.range (2 ^ log)).map (F2 log ps (gD 0 log ps))
theorem iW (log : Nat) (ps : List Int) : (jY log ps).length = 2 ^ log := by simp [jY]
theorem Vn {S : List Int} {i : Nat} (h : i < S.length) : (S.take i).count S[i] + 1 <= S.count S[i] := by
 have e : S = S.take i ++ S[i] :: S.drop (i + 1) := by rw [<- aHn h, aIh]
 have : S.count S[i] = (S.take i ++ S[i] :: S.drop (i + 1)).count S[i] := by rw [<- e]
 rw [this, aHX, aIk]; simp
theorem VX {log : Nat} {ps : List Int} (h : Sw log ps) {s : Nat} (hs : s < ps.length) : (cR ps[s]).toNat <= 2 ^ log := by
 have := akH h.low (aG7 hs)
 rw [h.sum] at this
 have hpow : ((2 ^ log : Nat) : Int) = (2 : Int) ^ log := by simp
 rw [<- hpow] at this
 exact Int.toNat_le.2 this
theorem Xg {log : Nat} {ps S : List Int} (h : Sw log ps) (L : Lay log ps S) {i : Nat} (hi : i < 2 ^ log) :
 ∃ s : Nat, ∃ hs : s < ps.length, S.getD i 0 = (s : Int) /\ 1 <= (cR ps[s]).toNat /\ (cR ps[s]).toNat <= 2 ^ log /\ kAt ps S i = (cR ps[s]).toNat + (S.take i).count (s : Int) /\ (S.take i).count (s : Int) < (cR ps[s]).toNat := by
 have hil : i < S.length := by rw [L.len]; exact hi
 have hg : S.getD i 0 = S[i] := by rw [aG3, aGX hil] <;> rfl
 obtain ⟨s, hs, e⟩ := L.rng _ (aG7 hil)
 have hc := Vn hil
 rw [e, L.cnt s hs] at hc
 refine ⟨s, hs, by rw [hg, e], by omega, VX h hs, ?_, by omega⟩
 unfold kAt
 rw [hg, e, aGO, aG3, aGX hs] <;> rfl
theorem akM {log k : Nat} (h1 : 1 <= k) (h2 : k < 2 ^ (log + 1)) : 2 ^ log <= k * 2 ^ (log + 1 - bl k) /\ (k + 1) * 2 ^ (log + 1 - bl k) <= 2 ^ (log + 1) /\ bl k <= log + 1 /\ 1 <= bl k := by
 have a := qT h2
 have b := GS (k := k) (by omega)
 have c := Ua (k := k) (by omega)
 have d := Vw k
 refine ⟨?_, ?_, a, b⟩
 .calc 2 ^ log = 2 ^ (bl k - 1) * 2 ^ (log + 1 - bl k) := by rw [<- aID]; congr 1; omega
   _ <= k * 2 ^ (log + 1 - bl k) := aHt _ c
 .calc (k + 1) * 2 ^ (log + 1 - bl k) <= 2 ^ bl k * 2 ^ (log + 1 - bl k) := aHt _ d
   _ = 2 ^ (log + 1) := by rw [<- aID]; congr 1; omega
theorem aAq (n j : Nat) (hn : 0 < n) : ∃ d, d < n /\ pos n (j + d) = 0 := by
 refine ⟨(n - j % n) % n, aIz _ hn, ?_⟩
 unfold pos
 have : (j + (n - j % n) % n) % n = 0 := by
  rw [Nat.add_mod_mod]
  have h1 := aIz j hn
  have h2 := Nat.div_add_mod j n
  have : j + (n - j % n) = n * (j / n + 1) := by
   rw [Nat.mul_add, aIC]
   generalize n * (j / n) = y at *
   generalize j % n = r at *
   omega
  rw [this, Nat.mul_mod_right]
 rw [Nat.mul_mod, this, Nat.zero_mul, Nat.zero_mod]
theorem Up {n high : Nat} (hn : 0 < n) (hh : 0 < high) (j : Nat) : ∃ d, (∀ e, e < d -> high <= pos n (j + e)) /\ pos n (j + d) < high /\ Yd n high n (pos n j) = pos n (j + d) := by
 obtain ⟨D, hD, h0⟩ := aAq n j hn
 have key : ∀ (D f j : Nat), D <= f -> pos n (j + D) < high -> ∃ d, (∀ e, e < d -> high <= pos n (j + e)) /\ pos n (j + d) < high /\ Yd n high f (pos n j) = pos n (j + d) := by
  intro D
  induction D with
  | zero =>
    intro f j _ h
    refine ⟨0, fun e he => by omega, h, ?_⟩
    rw [aHI] at h ⊢
    cases f with
    | zero => rfl
    | succ f => unfold Yd; rw [if_pos h]
  | succ D ih =>
    intro f j hf h
    obtain ⟨f, rfl⟩ : ∃ g, f = g + 1 := ⟨f - 1, by omega⟩
    by_cases hj : pos n j < high
    .exact ⟨0, fun e he => by omega, hj, by unfold Yd; rw [if_pos hj] <;> rfl⟩
    .obtain ⟨d, h1, h2, h3⟩ := ih f (j + 1) (by omega) (by rw [show j + 1 + D = j + (D + 1) from by omega]; exact h)
     refine ⟨d + 1, fun e he => ?_, by rw [show j + (d + 1) = j + 1 + d from by omega]; exact h2, ?_⟩
     .cases e with
      | zero => rw [aHI]; omega
      | succ e => rw [show j + (e + 1) = j + 1 + e from by omega]; exact h1 e (by omega)
     .unfold Yd; rw [if_neg hj, Iw, h3]; congr 1; omega
 exact key D n j (by omega) (by rw [h0]; exact hh)
theorem ahA {log : Nat} {ps : List Int} (h : Sw log ps) (x0 : Int) : ∃ arr, V5 ps 0 (2 ^ log) (List.replicate (2 ^ log) x0) = ((oU ps 0).length, arr) /\ arr.length = 2 ^ log /\ (rX ps 0).length + (oU ps 0).length = 2 ^ log /\ gD x0 log ps = place (2 ^ log) (oU ps 0).length (oU ps 0) 0 arr := by
 have hrl := awO ps 0 h.low
 rw [h.sum] at hrl
 have hpow : ((2 ^ log : Nat) : Int) = (2 : Int) ^ log := by simp
 have hsum : (rX ps 0).length + (oU ps 0).length = 2 ^ log := by omega
 have ht := apB ps 0 (2 ^ log) (List.replicate (2 ^ log) x0) (by omega) (by simp)
 rw [show 2 ^ log - (rX ps 0).length = (oU ps 0).length from by omega] at ht
 refine ⟨_, ht, ?_, hsum, ?_⟩
 .simp [toI]; omega
 .unfold gD; rw [ht]
end Go.Pu
namespace Go.En
open Go
section
variable {P : Program} {w : aJa} {t e : TypeId}
theorem agY {i : TypeInfo} (hu : P.underlying t = some (.slice e)) (hi : P.info? e = some i)
 {K : aJb -> aJa -> Prop} (hk : ∀ w', cJ w' w.heap.size [] -> aS w w' cM -> w'.heap.size = w.heap.size + 1 -> K (.slice (some ⟨w.heap.size, 0, none⟩) 0 0) w') :
 aC P (bX t 0 []) w K := by
 have : (bX t 0 []).run P w = .ok (.value (.slice (some ⟨w.heap.size, 0, none⟩) 0 0)) (w.alloc (.cells ([] : List aJb).toArray e)) := by
  unfold bX; rw [pW]
  have h1 : ¬ (0 > 2 ^ 24) := by omega
  have e : ∀ f : Nat -> aJb, Array.map f (Array.range 0) = #[] := fun f => by simp
  simp only [Instr.buildSlice, underlying, pure_bind, Sem.run_bind, run_program, Result.andThen_ok, hu, Sem.run_pure, gK hi, Nat.zero_mul, h1, if_false, if_true, newRow, run_newObj, Instr.fill, e]
  rfl
 unfold aC
 rw [this]
 exact hk _ (cJ.alloc _ _ _) (aS.alloc _ _ _) (by simp)
def At (v : aJb) (b : Nat) : Prop := ∀ M : Nat -> Prop, ¬ M b -> ¬ inB v M
theorem At.nil (c b : Nat) (a : Option Addr) : At (.slice a 0 c) b := fun M h => by unfold inB; split <;> simp_all
theorem At.at (b o n c : Nat) : At (.slice (some ⟨b, o, none⟩) n c) b := fun M h => by
 unfold inB; split
 .rename_i x m _ e
  obtain ⟨rfl, _⟩ : (⟨b, o, none⟩ : Addr) = x /\ _ := by simpa using e
  exact h
 .simp
theorem sN.at' {w : aJa} {base sz n : Nat} {v : aJb} {l : List aJb} (h : sN w base sz v n l) (hb : base < w.heap.size) : ∃ b, base <= b /\ b < w.heap.size /\ At v b := by
 rcases h.2 with ⟨rfl, rfl⟩ | ⟨b, c, rest, rfl, h2, h3, h4, h5⟩
 .exact ⟨base, aGZ _, hb, At.nil _ _ _⟩
 .exact ⟨b, h2, h3.lt, At.at _ _ _ _⟩
end
end Go.En
namespace Go.Proofs.YtaggdjhhmbnhoaaDoor
open Go Go.En Go.Pu
set_option maxRecDepth 4000
theorem Um (n : Nat) (hn : n <= 40) (w : aJa) : aR pg mF #[.int .i64 n] w (fun r w' => r = .int .i64 (2 ^ n) /\ w' = w) := by
 refine aeJ ?_
 unfold agI JU Li JQ JO Jq Lf Ll
 refine cG.rule (fun m t w' => ∃ i : Nat, m = n - i /\ t = (.int .i64 (2 ^ i), .int .i64 i) /\ i <= n /\ w' = w) n ⟨0, rfl, rfl, by omega, rfl⟩ ?_
 rintro m t w' ⟨i, rfl, rfl, hi, rfl⟩
 by_cases hlt : i < n
 .have d1 : decide ((i : Int) < (n : Int)) = true := by simp; omega
  have d2 : decide ((i : Int) < 40) = true := by simp; omega
  have hb : (2 : Int) ^ i <= 549755813888 := by
   have : 2 ^ i <= 2 ^ 39 := aG0 (by omega) (by omega)
   have e : ((2 ^ i : Nat) : Int) = (2 : Int) ^ i := by simp
   omega
  have hp := avG i
  simp (disch := omega) only [yN, aC, aX, d1, pH, aT, bM, aA, tR, bO, if_true, bP, d2, and_true, aF]
  exact ⟨n - (i + 1), by omega, i + 1, rfl, by rw [Int.pow_succ] <;> rfl, by omega⟩
 .have d1 : decide ((i : Int) < (n : Int)) = false := by simp; omega
  have : i = n := by omega
  subst this
  simp (disch := omega) only [yN, aC, aX, d1, pH, bM, aT, aA, CT, true_and, ED, bO, aGW, if_false, aE, dV]
def arR : ByteArray := ⟨#[0, 1, 2, 2, 3, 3, 3, 3, 4, 4, 4, 4, 4, 4, 4, 4, 5, 5, 5, 5, 5, 5, 5, 5, 5, 5, 5, 5, 5, 5, 5, 5, 6, 6, 6, 6, 6, 6, 6, 6, 6, 6, 6, 6, 6, 6, 6, 6, 6, 6, 6, 6, 6, 6, 6, 6, 6, 6, 6, 6, 6, 6, 6, 6, 7, 7, 7, 7, 7, 7, 7, 7, 7, 7, 7, 7, 7, 7, 7, 7, 7, 7, 7, 7, 7, 7, 7, 7, 7, 7, 7, 7, 7, 7, 7, 7, 7, 7, 7, 7, 7, 7, 7, 7, 7, 7, 7, 7, 7, 7, 7, 7, 7, 7, 7, 7, 7, 7, 7, 7, 7, 7, 7, 7, 7, 7, 7, 7, 8, 8, 8, 8, 8, 8, 8, 8, 8, 8, 8, 8, 8, 8, 8, 8, 8, 8, 8, 8, 8, 8, 8, 8, 8, 8, 8, 8, 8, 8, 8, 8, 8, 8, 8, 8, 8, 8, 8, 8, 8, 8, 8, 8, 8, 8, 8, 8, 8, 8, 8, 8, 8, 8, 8, 8, 8, 8, 8, 8, 8, 8, 8, 8, 8, 8, 8, 8, 8, 8, 8, 8, 8, 8, 8, 8, 8, 8, 8, 8, 8, 8, 8, 8, 8, 8, 8, 8, 8, 8, 8, 8, 8, 8, 8, 8, 8, 8, 8, 8, 8, 8, 8, 8, 8, 8, 8, 8, 8, 8, 8, 8, 8, 8, 8, 8, 8, 8, 8, 8, 8, 8, 8, 8, 8, 8, 8, 8]⟩
theorem O2 : arR.size = 256 := by decide
set_option maxRecDepth 100000 in
theorem anZ (x : Nat) (h : x < 256) : (arR[x]'(by rw [O2]; exact h)).toNat = bl x := by
 have : ∀ k : Fin 256, (arR.data[k.val]!).toNat = bl k.val := by decide +kernel
 have h2 := this ⟨x, h⟩
 simp only at h2
 rw [<- h2]
 have hs : x < arR.data.size := by have := O2; exact (show arR.data.size = 256 from this) ▸ h
 rw [getElem!_pos arR.data x hs]
 rfl
theorem S3 {x j : Nat} (h : 2 ^ j <= x) : bl x = bl (x / 2 ^ j) + j := by
 have hp := aHp j
 have h0 : x / 2 ^ j ≠ 0 := by
  have := Nat.div_pos h hp
  omega
 have a := Ua h0
 have b := Vw (x / 2 ^ j)
 have c := GS h0
 obtain ⟨m, hm⟩ : ∃ m, bl (x / 2 ^ j) = m + 1 := ⟨bl (x / 2 ^ j) - 1, by omega⟩
 rw [hm, aHK] at a
 rw [hm] at b ⊢
 have h1 : 2 ^ (m + j) <= x := by
  rw [aID]
  exact aHS (aHt _ a) (aIN _ _)
 have h2 : x < 2 ^ (m + j + 1) := by
  rw [show m + j + 1 = (m + 1) + j from by omega, aID]
  exact (aIi hp).1 b
 rw [aBY h1 h2]; omega
theorem auH {x n : Nat} (hx : x < 256) (hn : n <= 1000) (R : aJb -> aJa -> Prop) (w : aJa) (h : R (.int .i64 ((n + bl x : Nat) : Int)) w) :
 qM R (.int .u64 x) (.int .i64 n) w := by
 have hg := anZ x hx
 have hs := O2
 have hb : bl x <= 8 := qT (n := 8) (by omega)
 unfold qM
 change aC pg _ w fun t21 w => aC pg (G4 9 (.string arR) t21) w _
 simp (disch := omega) only [aC, pG, Qf, aA, tK, aGO, hg, nO, aT, bM]
 rw [Int.natCast_add] at h
 exact h
theorem TO (a b : Nat) : ((a : Int)).fdiv (b : Int) = ((a / b : Nat) : Int) := by rw [aIs _ (by omega)] <;> rfl
theorem Uo (x j : Nat) (hj : j <= 64) : ((x : Int)).fdiv (2 ^ (min (j : Nat) IntKind.u64.bits)) = ((x / 2 ^ j : Nat) : Int) := by
 have e : min j IntKind.u64.bits = j := by simp only [IntKind.bits]; omega
 rw [e, <- TO]; simp
theorem aDW (x : Nat) (hx : x < 18446744073709551616) (w : aJa) : aR pg wU #[.int .u64 x] w (fun r w' => r = .int .i64 (bl x : Nat) /\ w' = w) := by
 refine Te ?_
 unfold Rp BP Bt
 have step8 : ∀ (y n : Nat), y < 65536 -> n <= 64 -> n + bl y = bl x -> vJ (fun r w' => r = .int .i64 (bl x : Nat) /\ w' = w) (.int .u64 y) (.int .i64 n) w := by
  intro y n hy hn e
  unfold vJ B5
  by_cases h : 256 <= y
  .have d : decide ((256 : Int) <= (y : Int)) = true := by simp; omega
   have sh := Uo y 8 (by omega)
   have hq : y / 2 ^ 8 < 256 := by omega
   have := S3 (x := y) (j := 8) (by omega)
   have e2 : (n : Int) + 8 = ((n + 8 : Nat) : Int) := by omega
   simp (disch := omega) only [aC, pD, d, wV, bM, e2, aT, aA, aF]
   rw [show (8 : Int).toNat = 8 from rfl, sh]
   exact auH hq (by omega) _ _ ⟨by rw [<- e, this]; congr 2; omega, rfl⟩
  .have d : decide ((256 : Int) <= (y : Int)) = false := by simp; omega
   simp (disch := omega) only [aC, pD, d, wV, bM, aT, aA, aE]
   exact auH (by omega) (by omega) _ _ ⟨by rw [e], rfl⟩
 have step16 : ∀ (y n : Nat), y < 4294967296 -> n <= 32 -> n + bl y = bl x -> uD (fun r w' => r = .int .i64 (bl x : Nat) /\ w' = w) (.int .u64 y) (.int .i64 n) w := by
  intro y n hy hn e
  unfold uD BC
  by_cases h : 65536 <= y
  .have d : decide ((65536 : Int) <= (y : Int)) = true := by simp; omega
   have sh := Uo y 16 (by omega)
   have hq : y / 2 ^ 16 < 65536 := by omega
   have := S3 (x := y) (j := 16) (by omega)
   have e2 : (n : Int) + 16 = ((n + 16 : Nat) : Int) := by omega
   simp (disch := omega) only [aC, pD, d, wV, bM, e2, aT, aA, aF]
   rw [show (16 : Int).toNat = 16 from rfl, sh]
   exact step8 _ _ hq (by omega) (by rw [<- e, this]; omega)
  .have d : decide ((65536 : Int) <= (y : Int)) = false := by simp; omega
   simp (disch := omega) only [aC, pD, d, wV, bM, aT, aA, aE]
   exact step8 _ _ (by omega) (by omega) e
 by_cases h : 4294967296 <= x
 .have d : decide ((4294967296 : Int) <= (x : Int)) = true := by simp; omega
  have sh := Uo x 32 (by omega)
  have hq : x / 2 ^ 32 < 4294967296 := by omega
  have := S3 (x := x) (j := 32) (by omega)
  simp (disch := omega) only [aC, pD, d, wV, aA, aF]
  rw [show (32 : Int).toNat = 32 from rfl, sh]
  exact step16 _ 32 hq (by omega) (by rw [this]; omega)
 .have d : decide ((4294967296 : Int) <= (x : Int)) = false := by simp; omega
  simp (disch := omega) only [aC, pD, d, wV, aA, aE]
  exact step16 _ 0 (by omega) (by omega) (by omega)
theorem aCy (x : Nat) (hx : x < 18446744073709551616) (w : aJa) : aR pg rG #[.int .u64 x] w (fun r w' => r = .int .i64 (bl x : Nat) /\ w' = w) := by
 refine Xd ?_
 simp (disch := omega) only [Vt, EW, aC, Ke, aA, aE]
 exact aDW x hx w
theorem arC {n : Nat} (h : n <= 20) : IntKind.i64.wrap (1 * 2 ^ (min n IntKind.i64.bits)) = ((2 ^ n : Nat) : Int) := by
 have : ∀ k : Fin 21, IntKind.i64.wrap (1 * 2 ^ (min k.val IntKind.i64.bits)) = ((2 ^ k.val : Nat) : Int) := by decide
 exact this ⟨n, by omega⟩
theorem aCY {w : aJa} {v : aJb} {l : List UInt8} (h : Bs w v l) (h0 : 0 < l.length) : ∃ b off c, v = .slice (some ⟨b, off, none⟩) l.length c /\ l.length <= c /\ ∀ i, (h : i < l.length) -> w.cell? ⟨b, off + i, none⟩ = some (.int .u8 (l[i].toNat : Nat)) := by
 obtain ⟨b, off, c, rfl, hc, hcell⟩ := h.openV (by simpa using h0)
 refine ⟨b, off, c, by rw [aG1], by simpa using hc, fun i hi => ?_⟩
 have := hcell i (by simpa using hi)
 simpa [FQ] using this
theorem Uq {v : aJb} {l : List UInt8} {w : aJa} (h : Bs w v l) (hl : l.length <= 1000000000) :
 aR pg iM #[v] w (fun r w' => sN w' w.heap.size 1 r l.length (l.map FQ) /\ aS w w' cM) := by
 refine Qs ?_
 have h1 := h
 obtain ⟨a, n, c, rfl, hn, hc, hh⟩ := h
 rw [aG1] at hn
 unfold L3 yF
 cases a with
 | none =>
   have h0 : l = [] := by
    cases l with
    | nil => rfl
    | cons x l => obtain ⟨b, off, h, _⟩ := hh (by simp at hn; omega); cases h
   subst h0
   simp (disch := omega) only [aC, FH, Option.isNone_none, aA, aF]
   exact ⟨sN.nil _ _ _, aS.refl _ _⟩
 | some x =>
   simp (disch := omega) only [aC, FH, aHe, aA, aE]
   refine agY Tryd.underlying22 Vb fun w1 o1 x1 s1 => ?_
   have hcl1 := (h1.ext x1 (cD _)).cl
   rw [aG1] at hcl1
   have hos : sN w1 w.heap.size 1 (.slice (some ⟨w.heap.size, 0, none⟩) 0 0) 0 [] := ⟨rfl, .inr ⟨_, 0, [], rfl, aGZ _, o1, rfl, aGZ _⟩⟩
   refine xO hos hcl1 (asN _) x1.size (by omega) fun v3 w3 o3 x3 => ?_
   rw [aGP, aHv] at o3
   exact ⟨o3, x1.trans x3 fun b hb h => Nat.not_le_of_lt hb h⟩
def AtI (v : aJb) (lo hi : Nat) : Prop := ∀ M : Nat -> Prop, (∀ b, lo <= b -> b < hi -> ¬ M b) -> ¬ inB v M
theorem sN.atI {w : aJa} {base sz n : Nat} {v : aJb} {l : List aJb} (h : sN w base sz v n l) : AtI v base w.heap.size := by
 intro M hM
 rcases h.2 with ⟨rfl, rfl⟩ | ⟨b, c, rest, rfl, h2, h3, h4, h5⟩
 .exact fun h => h
 .exact At.at b 0 n c M (hM b h2 h3.lt)
theorem aB9 {w : aJa} {a : Option Addr} {n c : Nat} {l : List aJb} (h : Sl w (.slice a n c) l) {k : Nat} (hk : k <= n) : Sl w (.slice a k c) (l.take k) := by
 obtain ⟨a', n', c', e, hn, hc, hh⟩ := h
 cases e
 refine ⟨a, k, c, rfl, by rw [aG4]; omega, by omega, fun h0 => ?_⟩
 obtain ⟨b, off, ha, hcell⟩ := hh (by omega)
 refine ⟨b, off, ha, fun i hi => ?_⟩
 rw [hcell i (by omega), aHr (by omega)]
theorem slA {w : aJa} {a : Option Addr} {n c : Nat} {l : List aJb} (h : Sl w (.slice a n c) l) (h0 : 0 < n) : ∃ b off, a = some ⟨b, off, none⟩ /\ ∀ i, i < n -> w.cell? ⟨b, off + i, none⟩ = l[i]? := by
 obtain ⟨a', n', c', e, hn, hc, hh⟩ := h
 cases e
 exact hh h0
end Go.Proofs.YtaggdjhhmbnhoaaDoor
namespace Go.Pu
open Go Go.En
def Pp (c : UInt8) : List Bool := (List.range 8).map c.toNat.testBit
def bE : List UInt8 -> List Bool
 | [] => []
 | c :: l => Pp c ++ bE l
def sP : List Bool -> Nat
 | [] => 0
 | b :: l => b.toNat + 2 * sP l
theorem uC (c : UInt8) : (Pp c).length = 8 := by simp [Pp]
theorem lQ : ∀ l : List UInt8, (bE l).length = 8 * l.length
 | [] => rfl
 | c :: l => by rw [bE, aGY, uC, lQ l, aHc]; omega
theorem IW : ∀ a b : List UInt8, bE (a ++ b) = bE a ++ bE b
 | [], b => rfl
 | c :: a, b => by rw [aHV, bE, bE, IW a b, aG2]
theorem aA4 (c : UInt8) {k : Nat} (h : k < 8) : (Pp c)[k]? = some (c.toNat.testBit k) := by
 unfold Pp
 rw [aHg, List.getElem?_range h] <;> rfl
theorem I5 : ∀ (l : List UInt8) (i : Nat) (h : i < 8 * l.length), (bE l)[i]? = some ((l[i / 8]'(by omega)).toNat.testBit (i % 8))
 | [], i, h => by simp at h
 | c :: l, i, h => by
   rw [bE]
   rcases aHd i 8 with h8 | h8
   .rw [aG6 (by rw [uC]; exact h8), aA4 c h8]
    have e : i / 8 = 0 := by omega
    have e2 : i % 8 = i := by omega
    simp [e, e2]
   .rw [aHy (by rw [uC]; exact h8), uC, I5 l (i - 8) (by simp at h; omega)]
    have e : i / 8 = (i - 8) / 8 + 1 := by omega
    have e2 : (i - 8) % 8 = i % 8 := by omega
    simp [e, e2]
theorem Yc : ∀ l : List Bool, sP l < 2 ^ l.length
 | [] => by simp [sP]
 | b :: l => by
   have := Yc l
   rw [sP, aHc, aHf]
   have : b.toNat <= 1 := Bool.toNat_le b
   omega
theorem agO : ∀ a b : List Bool, sP (a ++ b) = sP a + 2 ^ a.length * sP b
 | [], b => by simp [sP]
 | x :: a, b => by
   rw [aHV, sP, sP, agO a b, aHc, aHf, Nat.mul_add, <- Nat.mul_assoc, <- aIf, aHU 2 (2 ^ a.length)]
theorem aAR (a : List Bool) (x : Bool) : sP (a ++ [x]) = sP a + 2 ^ a.length * x.toNat := by
 rw [agO]; simp [sP]
def gC (x : Nat) (n : Nat) : List Bool := (List.range n).map x.testBit
theorem dH (x n : Nat) : (gC x n).length = n := by simp [gC]
theorem EF (x : Nat) : gC x 0 = [] := rfl
theorem Jz (x n : Nat) : gC x (n + 1) = gC x n ++ [x.testBit n] := by
 unfold gC; rw [aIO, aHw] <;> rfl
theorem awU (x n : Nat) : gC x (n + 1) = x.testBit 0 :: gC (x / 2) n := by
 unfold gC
 rw [List.range_succ_eq_map, aIn, List.map_map]
 congr 1
 apply aH4
 intro k _
 simp [Nat.testBit_succ]
theorem anG : ∀ (n x : Nat), sP (gC x n) = x % 2 ^ n
 | 0, x => by simp [gC, sP, Nat.mod_one]
 | n + 1, x => by
   rw [awU, sP, anG n (x / 2), aHf, aHU (2 ^ n) 2, Nat.mod_mul]
   congr 1
   rw [Nat.testBit_zero]
   have : x % 2 = 0 ∨ x % 2 = 1 := by omega
   rcases this with h | h <;> simp [h]
theorem ayH {x i : Nat} (h : x < 2 ^ i) (b : Nat) : x ||| (b * 2 ^ i) = x + 2 ^ i * b := by
 rw [Nat.or_comm, aHU b, <- Nat.two_pow_add_eq_or_of_lt h b, Nat.add_comm]
theorem azW {a b : Nat} (ha : a < 2 ^ 64) (hb : b < 2 ^ 64) : orI .u64 (a : Int) (b : Int) = ((a ||| b : Nat) : Int) := by
 have h := Nat.or_lt_two_pow ha hb
 unfold orI
 have e : IntKind.u64.bits = 64 := rfl
 rw [e, BitVec.ofInt_natCast, BitVec.ofInt_natCast, BitVec.toNat_or, BitVec.toNat_ofNat, BitVec.toNat_ofNat, aHm ha, aHm hb]
 exact hJ (by omega) (by have : ((a ||| b : Nat) : Int) < ((2 ^ 64 : Nat) : Int) := by exact_mod_cast h
                         omega)
theorem avN {a b : Nat} (ha : a < 2 ^ 8) (hb : b < 2 ^ 8) : orI .u8 (a : Int) (b : Int) = ((a ||| b : Nat) : Int) := by
 have h := Nat.or_lt_two_pow ha hb
 unfold orI
 have e : IntKind.u8.bits = 8 := rfl
 rw [e, BitVec.ofInt_natCast, BitVec.ofInt_natCast, BitVec.toNat_or, BitVec.toNat_ofNat, BitVec.toNat_ofNat, aHm ha, aHm hb]
 exact Qf (by omega) (by have : ((a ||| b : Nat) : Int) < ((2 ^ 8 : Nat) : Int) := by exact_mod_cast h
                         omega)
theorem aEn {a : Nat} (h : a < 2 ^ 8) : amF .u8 (a : Int) 1 = ((a % 2 : Nat) : Int) := by
 have : ∀ k : Fin 256, amF .u8 (k.val : Int) 1 = ((k.val % 2 : Nat) : Int) := by decide +kernel
 exact this ⟨a, h⟩
theorem awL {a : Nat} (h : a < 2 ^ 64) : amF .u64 (a : Int) 1 = ((a % 2 : Nat) : Int) := by
 unfold amF
 have e : IntKind.u64.bits = 64 := rfl
 rw [e, BitVec.ofInt_natCast, show (BitVec.ofInt 64 1) = BitVec.ofNat 64 1 from rfl, BitVec.toNat_and, BitVec.toNat_ofNat, BitVec.toNat_ofNat, aHm h, show 1 % 2 ^ 64 = 1 from rfl, Nat.and_one_is_mod]
 exact hJ (by omega) (by omega)
theorem aaT (x k : Nat) : (x.testBit k).toNat = x / 2 ^ k % 2 := by
 rw [aH3]
 have : x / 2 ^ k % 2 = 0 ∨ x / 2 ^ k % 2 = 1 := by omega
 rcases this with h | h <;> simp [h]
def sO (L : List Bool) (n : Nat) : Nat := sP (L.drop (L.length - min n L.length)) * 2 ^ (n - min n L.length)
theorem CZ (L : List Bool) (n : Nat) : sO L n < 2 ^ n := by
 unfold sO
 have h := Yc (L.drop (L.length - min n L.length))
 rw [aHh, show L.length - (L.length - min n L.length) = min n L.length from by omega] at h
 calc _ < 2 ^ min n L.length * 2 ^ (n - min n L.length) := Nat.mul_lt_mul_of_pos_right h (aHp _)
  _ = 2 ^ n := by rw [<- aID]; congr 1; omega
theorem aoY {L : List Bool} {at' i : Nat} {b : Bool} (h : L[at' + i]? = some b) : (L.drop at').take (i + 1) = (L.drop at').take i ++ [b] := by
 rw [aHA, aIa, h] <;> rfl
def Zp (l : List UInt8) : Option Nat := match l.getLast? with
 | none => none
 | some c => if c.toNat = 0 then none else some (8 * (l.length - 1) + bl c.toNat - 1)
theorem I4 {l : List UInt8} (h : 0 < l.length) : Zp l = if (l[l.length - 1]'(by omega)).toNat = 0 then none else some (8 * (l.length - 1) + bl (l[l.length - 1]'(by omega)).toNat - 1) := by
 unfold Zp
 rw [aIu, aGX (by omega)]
theorem OC {l : List UInt8} {k : Nat} (h : Zp l = some k) : 0 < l.length /\ k < 8 * l.length /\ 8 * (l.length - 1) <= k /\ (bE l)[k]? = some true /\ ∀ j, k < j -> j < 8 * l.length -> (bE l)[j]? = some false := by
 have h0 : 0 < l.length := by
  cases l with
  | nil => simp [Zp] at h
  | cons x l => simp
 rw [I4 h0] at h
 generalize hc : l[l.length - 1]'(by omega) = c at h
 split at h
 .cases h
 .rename_i hne
  have hk := aG8 h
  have h1 := GS hne
  have h2 : bl c.toNat <= 8 := qT (by have : c.toNat < 256 := aHi c
                                      omega)
  have h3 := Ua hne
  have h4 := Vw c.toNat
  refine ⟨h0, by omega, by omega, ?_, ?_⟩
  .rw [I5 l k (by omega)]
   have e : k / 8 = l.length - 1 := by omega
   have e2 : k % 8 = bl c.toNat - 1 := by omega
   simp only [e, hc, e2]
   rw [aH3]
   obtain ⟨m, hm⟩ : ∃ m, bl c.toNat = m + 1 := ⟨bl c.toNat - 1, by omega⟩
   rw [hm, aHK] at h3 ⊢
   rw [hm, aHf] at h4
   have : c.toNat / 2 ^ m = 1 := by
    have hp := aHp m
    have := (aII hp).2 (show 1 * 2 ^ m <= c.toNat by omega)
    have := (aIi hp).2 (show c.toNat < 2 * 2 ^ m by omega)
    omega
   simp [this]
  .intro j h5 h6
   rw [I5 l j h6]
   have e : j / 8 = l.length - 1 := by omega
   simp only [e, hc]
   rw [Nat.testBit_lt_two_pow]
   exact Nat.lt_of_lt_of_le h4 (aG0 (by omega) (by omega))
end Go.Pu
namespace Go.Proofs.YtaggdjhhmbnhoaaDoor
open Go Go.En Go.Pu
set_option maxRecDepth 4000
theorem aCX {l : List UInt8} {v : aJb} {st n : Nat} {w : aJa} (h : Bs w v l) (hn : n <= 64) (hat : st + n <= 8 * l.length) (hl : l.length <= 1000000000) :
 aR pg Ge #[v, .int .i64 st, .int .i64 n] w (fun r w' => r = .int .u64 (sP (((bE l).drop st).take n)) /\ w' = w) := by
 refine aoE ?_
 unfold aqP Qz PT QY PI QG QS P2
 refine cG.rule (fun m (t : aJb × aJb) w' => ∃ i : Nat, m = n - i /\ t = (.int .u64 (sP (((bE l).drop st).take i) : Nat), .int .i64 i) /\ i <= n /\ w' = w) n ⟨0, rfl, by simp [sP], by omega, rfl⟩ ?_
 rintro m t w1 ⟨i, rfl, rfl, hi, rfl⟩
 unfold IZ
 by_cases hlt : i < n
 .have d1 : decide ((i : Int) < (n : Int)) = true := by simp; omega
  obtain ⟨b, off, c, rfl, hc, hcell⟩ := h.openV (by simp; omega)
  obtain ⟨q, hq⟩ : ∃ q, q = st + i := ⟨_, rfl⟩
  have e0 : (st : Int) + (i : Int) = (q : Int) := by omega
  have e1 : (q : Int).tdiv 8 = ((q / 8 : Nat) : Int) := by rw [aHj (by omega)]; omega
  have e2 : (q : Int).tmod 8 = ((q % 8 : Nat) : Int) := by rw [aHF (by omega)]; omega
  have hq8 : q / 8 < l.length := by omega
  have hb : (bE l)[st + i]? = some ((l[q / 8]'hq8).toNat.testBit (q % 8)) := by subst hq; exact I5 l _ (by omega)
  have ht := aoY hb
  have g1 := hcell (q / 8) (by simpa using hq8)
  simp only [aHs, FQ] at g1
  have hx : (l[q / 8]'hq8).toNat < 256 := aHi _
  generalize (l[q / 8]'hq8).toNat = x at *
  have e3 : (x : Int).fdiv (2 ^ (min (q % 8) IntKind.u8.bits)) = ((x / 2 ^ (q % 8) : Nat) : Int) := by
   rw [show min (q % 8) IntKind.u8.bits = q % 8 from aHG (by have : IntKind.u8.bits = 8 := rfl
                                                             omega), aIs _ (Int.pow_nonneg (by omega))]
   simp
  have hy : x / 2 ^ (q % 8) < 2 ^ 8 := by have := aIP x (2 ^ (q % 8)); omega
  have e4 := aEn hy
  rw [<- aaT] at e4
  have hbt : (x.testBit (q % 8)).toNat <= 1 := Bool.toNat_le _
  have hlen : (((bE l).drop st).take i).length = i := by rw [aG4, aHh, lQ]; omega
  have hnb := Yc (((bE l).drop st).take i)
  have hsn := aAR (((bE l).drop st).take i) (x.testBit (q % 8))
  rw [<- ht, hlen] at hsn
  rw [hlen] at hnb
  have hp : 2 ^ i < 2 ^ 64 := Nat.pow_lt_pow_right (by omega) (by omega)
  have hp2 : 2 ^ i <= 2 ^ 63 := aG0 (by omega) (by omega)
  generalize (x.testBit (q % 8)).toNat = bt at *
  have hm : bt * 2 ^ i <= 2 ^ i := by
   have := aHt (2 ^ i) hbt
   omega
  have e5 : IntKind.u64.wrap ((bt : Int) * 2 ^ (min i IntKind.u64.bits)) = ((bt * 2 ^ i : Nat) : Int) := by
   rw [show min i IntKind.u64.bits = i from aHG (by have : IntKind.u64.bits = 64 := rfl
                                                    omega)]
   have e : (bt : Int) * 2 ^ i = ((bt * 2 ^ i : Nat) : Int) := by simp
   rw [e]
   exact hJ (by omega) (by omega)
  have e6 := azW (a := sP (((bE l).drop st).take i)) (b := bt * 2 ^ i) (by omega) (by omega)
  rw [ayH hnb, <- hsn] at e6
  simp (disch := omega) only [aC, aX, d1, bM, e0, aT, aG1, lD, hJ, aA, DU, e1, D5, e2, oM, aGO, mI, g1, aI, wV, e3, Rw, e4, vO, mE, e5, asP, e6, and_true, aF]
  exact ⟨n - (i + 1), by omega, i + 1, rfl, rfl, by omega⟩
 .have d1 : decide ((i : Int) < (n : Int)) = false := by simp; omega
  obtain rfl : i = n := by omega
  unfold IH
  simp (disch := omega) only [aC, aX, d1, bM, aT, lD, hJ, aA, DU, D5, true_and, aE]
def Fwd (w : aJa) (lo hi : Nat) (l : List UInt8) (st : Nat) : Prop := ∃ v, cJ w hi [v, .int .i64 st] /\ Bs w v l /\ AtI v lo hi
theorem Fwd.ext {w w' : aJa} {lo hi st : Nat} {l : List UInt8} {M : Nat -> Prop} (h : Fwd w lo hi l st) (hx : aS w w' M) (hM : ∀ b, lo <= b -> b <= hi -> ¬ M b) (hlh : lo <= hi) : Fwd w' lo hi l st := by
 obtain ⟨v, h1, h2, h3⟩ := h
 exact ⟨v, h1.ext hx (hM _ hlh (aGZ _)), h2.ext hx (h3 M fun b hb hh => hM b hb (by omega)), h3⟩
theorem arW {v : aJb} {l : List UInt8} {w : aJa} (h : Bs w v l) (hl : l.length <= 1000000000) :
 aR pg wW #[v] w (fun r w' => ∃ hi, r = .pointer (some ⟨hi, 0, none⟩) /\ w.heap.size <= hi /\ hi < w'.heap.size /\ Fwd w' w.heap.size hi l 0 /\ aS w w' cM) := by
 refine SM ?_
 unfold Rl Bv
 refine (Uq h hl).mono ?_
 rintro r w1 ⟨o1, x1⟩
 have hat := sN.atI o1
 have hs := o1.sl
 obtain ⟨a, c, rfl⟩ := o1.len
 simp (disch := omega) only [aC, CR, aA]
 refine fY fun w2 o2 x2 s2 => ?_
 simp only [Value.cells] at o2
 exact ⟨_, rfl, x1.size, by omega, ⟨_, o2, hs.ext x2 (cD _), hat⟩, x1.seq x2⟩
theorem Ux {l : List UInt8} {lo hi st n : Nat} {w : aJa} (h : Fwd w lo hi l st) (hlh : lo <= hi) (hn : n <= 32) (hst : st <= 8 * l.length) (hl : l.length <= 1000000) :
 aR pg kW #[.pointer (some ⟨hi, 0, none⟩), .int .i64 n] w (fun r w' =>
  (8 * l.length < st + n /\ r = .tuple #[.int .u64 0, .int .i64 10] /\ Fwd w' lo hi l st /\ aS w w' cM) ∨
  (st + n <= 8 * l.length /\ r = .tuple #[.int .u64 (sP (((bE l).drop st).take n)), .int .i64 0] /\ Fwd w' lo hi l (st + n) /\ aS w w' (fun y => y = hi))) := by
 refine P9 ?_
 obtain ⟨v, o, hs, hat⟩ := h
 unfold LW xH
 have d1 : decide ((n : Int) < 0) = false := by simp
 have d2 : decide ((32 : Int) < (n : Int)) = false := by simp; omega
 have c0 := o.cell (off := 0)
 have c1 := o.cell (off := 1)
 simp only [aGQ, aGR] at c0 c1
 obtain ⟨a, n', c, hv, hn', hc, hh⟩ := id hs
 rw [aG1] at hn'
 subst hn'
 by_cases hsh : 8 * l.length < st + n
 .have d3 : decide (8 * (l.length : Int) - (st : Int) < (n : Int)) = true := by simp; omega
  subst hv
  have od := dO o
  have c0d := od.cell (off := 0)
  have c1d := od.cell (off := 1)
  simp only [aGQ, aGR] at c0d c1d
  simp (disch := omega) only [aC, pJ, aHe, rB, true_and, aA, qO, aGP, bZ, wR, gA, dG, bO, aGW, if_false, bP, aX, d1, dP, d2, c0d, aI, c1d, fO, pH, aT, dZ, d3, aF, aE]
  exact .inl ⟨hsh, ⟨_, dO o, hs.ext (aS.dr _ cM) (cD _), hat⟩, aS.dr _ _⟩
 .have d3 : decide (8 * (l.length : Int) - (st : Int) < (n : Int)) = false := by simp; omega
  subst hv
  have c0e := (dO o).cell (off := 0)
  have c1e := (dO o).cell (off := 1)
  have od := dO (dO o)
  have c0d := od.cell (off := 0)
  have c1d := od.cell (off := 1)
  simp only [aGQ, aGR] at c0d c1d c0e c1e
  simp (disch := omega) only [aC, pJ, aHe, rB, true_and, aA, qO, aGP, bZ, wR, gA, dG, bO, aGW, if_false, bP, aX, d1, dP, d2, c0e, aI, c1e, c0d, c1d, fO, pH, aT, dZ, d3, aE]
  refine (aCX (l := l) (st := st) (n := n) ((hs.ext (aS.dr _ cM) (cD _)).ext (aS.dr _ cM) (cD _)) (by omega) (by omega) (by omega)).mono ?_
  rintro r w1 ⟨rfl, rfl⟩
  simp (disch := omega) only [c1d, aI, true_and, aA, bM, aT]
  refine sH od rfl (by simp) fun w2 o2 x2 s2 => ?_
  simp only [aGS, aGU] at o2
  have e1 : (st : Int) + (n : Int) = ((st + n : Nat) : Int) := by omega
  rw [e1] at o2
  have x02 : aS w w2 (fun y => y = hi) := ((aS.dr _ _).seq (aS.dr _ _)).seq x2
  exact .inr ⟨by omega, ⟨_, o2, hs.ext x02 (hat _ fun b hb hh => by omega), hat⟩, x02⟩
theorem aAK {l : List UInt8} {lo hi st : Nat} {w : aJa} (h : Fwd w lo hi l st) (hst : st <= 1000000000) :
 aR pg sV #[.pointer (some ⟨hi, 0, none⟩)] w (fun r w' => r = .int .i64 (((st + 7) / 8 : Nat)) /\ w' = w) := by
 refine P0 ?_
 obtain ⟨v, o, hs, hat⟩ := h
 have c1 := o.cell (off := 1)
 simp only [aGQ, aGR] at c1
 have e1 : ((st : Int) + 7).tdiv 8 = (((st + 7) / 8 : Nat) : Int) := by rw [aHj (by omega)]; omega
 unfold LV yT
 simp (disch := omega) only [aC, pJ, aHe, rB, aA, qO, aGP, bZ, and_true, c1, aI, bM, aT, DU, e1, aE]
theorem akD (p : Int) (w : aJa) : aR pg qC #[.int .i64 p] w (fun r w' => r = .int .i64 (cR p) /\ w' = w) := by
 refine Zc ?_
 unfold cR
 by_cases h : p < 0
 .have d : decide (p < 0) = true := by simpa using h
  simp (disch := omega) only [Qq, AY, aC, aX, d, aA, and_true, aF]
  rw [if_pos h]
 .have d : decide (p < 0) = false := by simpa using h
  simp (disch := omega) only [Qq, AY, aC, aX, d, aA, and_true, aE]
  rw [if_neg h]
theorem P4 {ps : List Int} (h : 0 < ps.length) : (ps.getLast? = some 0) ↔ ps[ps.length - 1]'(by omega) = 0 := by
 rw [aIu, aGX (by omega)]
 simp
theorem aEs {log : Int} {sv : aJb} {ps : List Int} {w : aJa} (hs : Sl w sv (ps.map (Value.int .i64))) (hl : ps.length <= 9223372036854775807) :
 aR pg CG #[.agg #[.int .i64 log, sv]] w (fun r w' => r = .bool (Tx log ps) /\ aS w w' cM) := by
 refine ajW ?_
 unfold alU Mn Nw
 obtain ⟨a, c, rfl, hc⟩ := hs.lenI
 refine fY fun w1 o1 x1 s1 => ?_
 have hs0 := hs
 have hs := hs.ext x1 (cD _)
 have c0 := o1.cell (off := 0)
 have c1 := o1.cell (off := 1)
 simp only [Value.cells, aGQ, aGR] at c0 c1
 have no : ¬ (5 <= log /\ log <= 15 /\ 1 <= ps.length /\ ps.length <= 256 /\ ps.getLast? ≠ some 0) -> Tx log ps = false := fun h => by
  unfold Tx aqD; rw [decide_eq_false h] <;> rfl
 by_cases h1 : log < 5
 .have d1 : decide (log < 5) = true := by simpa using h1
  simp (disch := omega) only [aC, dK, aA, bK, aGP, bZ, c0, aI, aX, d1, jE, bO, if_true, aF, dV]
  exact ⟨by rw [no (by omega)], x1⟩
 have d1 : decide (log < 5) = false := by simpa using h1
 by_cases h2 : 15 < log
 .have d2 : decide (15 < log) = true := by simpa using h2
  simp (disch := omega) only [aC, dK, aA, bK, aGP, bZ, c0, aI, aX, d1, dG, bO, aGW, if_false, bP, dP, d2, jE, if_true, aF, dV]
  exact ⟨by rw [no (by omega)], x1⟩
 have d2 : decide (15 < log) = false := by simpa using h2
 by_cases h3 : ps.length < 1
 .have d3 : decide ((ps.length : Int) < 1) = true := by simp; omega
  simp (disch := omega) only [aC, dK, aA, bK, aGP, bZ, c0, aI, aX, d1, dG, bO, aGW, if_false, bP, dP, d2, cL, c1, eA, d3, jE, if_true, aF, dV]
  exact ⟨by rw [no (by omega)], x1⟩
 have d3 : decide ((ps.length : Int) < 1) = false := by simp; omega
 by_cases h4 : 256 < ps.length
 .have d4 : decide ((256 : Int) < (ps.length : Int)) = true := by simp; omega
  simp (disch := omega) only [aC, dK, aA, bK, aGP, bZ, c0, aI, aX, d1, dG, bO, aGW, if_false, bP, dP, d2, cL, c1, eA, d3, d4, jE, if_true, aF, dV]
  exact ⟨by rw [no (by omega)], x1⟩
 have d4 : decide ((256 : Int) < (ps.length : Int)) = false := by simp; omega
 obtain ⟨b, off, c', e, hc', hcell⟩ := hs.openI (by omega)
 cases e
 have e1 : ((ps.length : Int) - 1) = ((ps.length - 1 : Nat) : Int) := by omega
 have g1 := hcell (ps.length - 1) (by omega)
 by_cases h5 : ps[ps.length - 1]'(by omega) = 0
 .have d5 : (ps[ps.length - 1]'(by omega) == 0) = true := by simpa using h5
  simp (disch := omega) only [aC, dK, aA, bK, aGP, bZ, c0, aI, aX, d1, dG, bO, aGW, if_false, bP, dP, d2, cL, c1, eA, d3, d4, dZ, e1, aT, dJ, aGO, g1, cW, d5, mE, aF]
  exact ⟨by rw [no (fun h => h.2.2.2.2 ((P4 (by omega)).2 h5))], x1⟩
 have d5 : (ps[ps.length - 1]'(by omega) == 0) = false := by simpa using h5
 obtain ⟨l, rfl⟩ : ∃ l : Nat, log = l := ⟨log.toNat, by omega⟩
 have hsh : IntKind.i64.wrap (1 * 2 ^ (min l IntKind.i64.bits)) = (2 : Int) ^ l := by
  have : ∀ k : Fin 16, IntKind.i64.wrap (1 * 2 ^ (min k.val IntKind.i64.bits)) = (2 : Int) ^ k.val := by decide
  exact this ⟨l, by omega⟩
 have hyes : Tx (l : Int) ps = fits (2 ^ l) ps := by
  unfold Tx aqD
  rw [decide_eq_true ⟨by omega, by omega, by omega, by omega, fun h => h5 ((P4 (by omega)).1 h)⟩, aGO] <;> rfl
 simp (disch := omega) only [aC, dK, aA, bK, aGP, bZ, c0, aI, aX, d1, dG, bO, aGW, if_false, bP, dP, d2, cL, c1, eA, d3, d4, dZ, e1, aT, dJ, aGO, g1, cW, d5, mE, hsh, aE]
 unfold Nq MR Mm ML Mw
 simp (disch := omega) only [aC, bK, aGP, aA, cL, c1, aI, eA]
 have hp15 := auE (log := l) (by omega)
 have hp1 := avG l
 refine cG.rule (fun m t w' => ∃ (i : Nat) (left : Int), m = ps.length - i /\ t = (.int .i64 left, .int .i64 i) /\ i <= ps.length /\ 0 <= left /\ left <= 32768 /\ fits (2 ^ l) ps = fits left (ps.drop i) /\ aS w w' cM) ps.length
  ⟨0, 2 ^ l, rfl, rfl, by omega, by omega, hp15, rfl, x1⟩ ?_
 rintro m t w2 ⟨i, left, rfl, rfl, hi, hl0, hl1, hf, x2⟩
 by_cases hlt : i < ps.length
 .have d6 : decide ((i : Int) < (ps.length : Int)) = true := by simp; omega
  have hsw := hs0.ext x2 (cD _)
  obtain ⟨b', off', c', e, _, hcell2⟩ := hsw.openI (by omega)
  cases e
  have g2 := hcell2 i hlt
  have hd : ps.drop i = ps[i] :: ps.drop (i + 1) := aHn hlt
  rw [hd, fits] at hf
  by_cases h6 : ps[i] < -1
  .have d7 : decide (ps[i] < -1) = true := by simpa using h6
   simp (disch := omega) only [wA, aC, aX, d6, dJ, aGO, bM, aT, aA, bZ, g2, aI, d7, jE, bO, if_true, aF, dV]
   rw [if_pos (.inl h6)] at hf
   exact ⟨by rw [hyes, hf], x2⟩
  have d7 : decide (ps[i] < -1) = false := by simpa using h6
  simp (disch := omega) only [wA, aC, aX, d6, dJ, aGO, bM, aT, aA, bZ, g2, aI, d7, dG, bO, aGW, if_false, bP, aF]
  refine (akD _ _).mono ?_
  rintro r w3 ⟨rfl, rfl⟩
  by_cases h7 : left < cR ps[i]
  .have d8 : decide (left < cR ps[i]) = true := by simpa using h7
   simp (disch := omega) only [dP, d8, aA, aF]
   rw [if_pos (.inr h7)] at hf
   exact ⟨by rw [hyes, hf], x2⟩
  have d8 : decide (left < cR ps[i]) = false := by simpa using h7
  simp (disch := omega) only [dP, d8, aA, aE]
  refine (akD _ _).mono ?_
  rintro r w3 ⟨rfl, rfl⟩
  rw [if_neg (by omega)] at hf
  have hpn := lK (p := ps[i]) (by omega)
  simp (disch := omega) only [dZ, aT, aA]
  exact ⟨ps.length - (i + 1), by omega, i + 1, left - cR ps[i], rfl, rfl, by omega, by omega, by omega, hf, x2⟩
 .have d6 : decide ((i : Int) < (ps.length : Int)) = false := by simp; omega
  rw [aHW (by omega), fits] at hf
  unfold wA FE
  simp (disch := omega) only [aC, aX, d6, bM, aT, aA, cW, aE]
  exact ⟨by rw [hyes, hf], x2⟩
theorem aC5 {ps : List Int} {i : Nat} (hi : i < ps.length) : rE (ps.take (i + 1)) = rE (ps.take i) + cR ps[i] := by
 rw [aHA, aGX hi, Gq]; simp [rE]
theorem aCS {log : Int} {sv : aJb} {ps : List Int} {w : aJa} (hs : Sl w sv (ps.map (Value.int .i64))) (hl : ps.length <= 9223372036854775807) :
 aR pg LJ #[.agg #[.int .i64 log, sv]] w (fun r w' => r = .bool (Tx log ps) /\ aS w w' cM) := by
 refine amH ?_
 unfold aqG Na Nn
 obtain ⟨a, c, rfl, hc⟩ := hs.lenI
 refine fY fun w1 o1 x1 s1 => ?_
 have hs0 := hs.ext x1 (cD _)
 have c0 := o1.cell (off := 0)
 have c1 := o1.cell (off := 1)
 simp only [Value.cells, aGQ, aGR] at c0 c1
 have no : ¬ (5 <= log /\ log <= 15 /\ 1 <= ps.length /\ ps.length <= 256 /\ ps.getLast? ≠ some 0) -> Tx log ps = false := fun h => by
  unfold Tx aqD; rw [decide_eq_false h] <;> rfl
 by_cases h1 : log < 5
 .have d1 : decide (log < 5) = true := by simpa using h1
  simp (disch := omega) only [aC, cQ, aA, aW, aGP, bZ, c0, aI, aX, d1, jE, bO, if_true, aF, dV]
  exact ⟨by rw [no (by omega)], x1⟩
 have d1 : decide (log < 5) = false := by simpa using h1
 by_cases h2 : 15 < log
 .have d2 : decide (15 < log) = true := by simpa using h2
  simp (disch := omega) only [aC, cQ, aA, aW, aGP, bZ, c0, aI, aX, d1, dG, bO, aGW, if_false, bP, dP, d2, jE, if_true, aF, dV]
  exact ⟨by rw [no (by omega)], x1⟩
 have d2 : decide (15 < log) = false := by simpa using h2
 by_cases h3 : ps.length < 1
 .have d3 : ((ps.length : Int) == 0) = true := by rw [beq_iff_eq]; omega
  simp (disch := omega) only [aC, cQ, aA, aW, aGP, bZ, c0, aI, aX, d1, dG, bO, aGW, if_false, bP, dP, d2, cL, c1, eA, cW, d3, jE, if_true, aF, dV]
  exact ⟨by rw [no (by omega)], x1⟩
 have d3 : ((ps.length : Int) == 0) = false := by rw [beq_eq_false_iff_ne]; omega
 by_cases h4 : 256 < ps.length
 .have d4 : decide ((256 : Int) < (ps.length : Int)) = true := by simp; omega
  simp (disch := omega) only [aC, cQ, aA, aW, aGP, bZ, c0, aI, aX, d1, dG, bO, aGW, if_false, bP, dP, d2, cL, c1, eA, cW, d3, d4, jE, if_true, aF, dV]
  exact ⟨by rw [no (by omega)], x1⟩
 have d4 : decide ((256 : Int) < (ps.length : Int)) = false := by simp; omega
 obtain ⟨b, off, c', e, hc', hcell⟩ := hs0.openI (by omega)
 cases e
 have e1 : ((ps.length : Int) - 1) = ((ps.length - 1 : Nat) : Int) := by omega
 have g1 := hcell (ps.length - 1) (by omega)
 by_cases h5 : ps[ps.length - 1]'(by omega) = 0
 .have d5 : (ps[ps.length - 1]'(by omega) == 0) = true := by simpa using h5
  simp (disch := omega) only [aC, cQ, aA, aW, aGP, bZ, c0, aI, aX, d1, dG, bO, aGW, if_false, bP, dP, d2, cL, c1, eA, cW, d3, d4, dZ, e1, aT, dJ, aGO, g1, d5, aF]
  exact ⟨by rw [no (fun h => h.2.2.2.2 ((P4 (by omega)).2 h5))], x1⟩
 have d5 : (ps[ps.length - 1]'(by omega) == 0) = false := by simpa using h5
 obtain ⟨l, rfl⟩ : ∃ l : Nat, log = l := ⟨log.toNat, by omega⟩
 have hyes : Tx (l : Int) ps = fits (2 ^ l) ps := by
  unfold Tx aqD
  rw [decide_eq_true ⟨by omega, by omega, by omega, by omega, fun h => h5 ((P4 (by omega)).1 h)⟩, aGO] <;> rfl
 simp (disch := omega) only [aC, cQ, aA, aW, aGP, bZ, c0, aI, aX, d1, dG, bO, aGW, if_false, bP, dP, d2, cL, c1, eA, cW, d3, d4, dZ, e1, aT, dJ, aGO, g1, d5, aE]
 unfold Ng MW NZ NS MC
 have hp15 := auE (log := l) (by omega)
 refine cG.rule (fun m t w' => ∃ (i : Nat), m = ps.length - i /\ t = (.int .i64 (rE (ps.take i)), .int .i64 i) /\ i <= ps.length /\ 0 <= rE (ps.take i) /\ rE (ps.take i) <= 32768 * i /\ (∀ p ∈ ps.take i, -1 <= p) /\ aS w w' cM /\ aS w1 w' cM) ps.length
  ⟨0, rfl, by simp [rE], by omega, by simp [rE], by simp [rE], by simp, x1, aS.refl _ _⟩ ?_
 rintro m t w2 ⟨i, rfl, rfl, hi, hs0', hs1, hlo, x2, x12⟩
 have o2 := o1.ext x12 (fun h => h)
 have c0 := o2.cell (off := 0)
 have c1 := o2.cell (off := 1)
 simp only [Value.cells, aGQ, aGR] at c0 c1
 by_cases hlt : i < ps.length
 .have d6 : decide ((i : Int) < (ps.length : Int)) = true := by simp; omega
  obtain ⟨b', off', c', e, _, hcell2⟩ := (hs.ext x2 (cD _)).openI (by omega)
  cases e
  have g2 := hcell2 i hlt
  have bad : ¬ (-1 <= ps[i] /\ ps[i] <= 32768) -> Tx (l : Int) ps = false := fun h => by
   rw [hyes, <- Bool.not_eq_true, Yx]
   rintro ⟨k1, k2⟩
   have := akH k1 (aG7 hlt)
   have := k1 _ (aG7 hlt)
   unfold cR at *
   split at * <;> omega
  by_cases h6 : ps[i] < -1
  .have d7 : decide (ps[i] < -1) = true := by simpa using h6
   unfold uZ zG CM CN IV Cx
   simp (disch := omega) only [aC, aW, aGP, aA, cL, c1, aI, eA, aX, d6, dJ, aGO, bZ, g2, d7, jE, bO, if_true, aF, dV]
   exact ⟨by rw [bad (by omega)], x2⟩
  have d7 : decide (ps[i] < -1) = false := by simpa using h6
  by_cases h7 : 32768 < ps[i]
  .have d8 : decide (32768 < ps[i]) = true := by simpa using h7
   unfold uZ zG CM CN IV Cx
   simp (disch := omega) only [aC, aW, aGP, aA, cL, c1, aI, eA, aX, d6, dJ, aGO, bZ, g2, d7, dG, bO, aGW, if_false, bP, dP, d8, aF]
   exact ⟨by rw [bad (by omega)], x2⟩
  have d8 : decide (32768 < ps[i]) = false := by simpa using h7
  have hts := aC5 hlt
  have hlow : ∀ p ∈ ps.take (i + 1), -1 <= p := fun p hp => by
   rw [aHA, aGX hlt] at hp
   rcases aH7.1 hp with hp | hp
   .exact hlo p hp
   .simp at hp; omega
  unfold uZ zG CM CN IV Cx
  by_cases h8 : ps[i] < 0
  .have d9 : decide (ps[i] < 0) = true := by simpa using h8
   have e : cR ps[i] = 1 := by unfold cR; rw [if_pos h8]
   simp (disch := omega) only [aC, aW, aGP, CQ, bM, aT, C0, aA, cL, c1, aI, eA, aX, d6, dJ, aGO, bZ, g2, d7, d9, aF, dG, bO, aGW, if_false, bP, dP, d8, aE]
   exact ⟨ps.length - (i + 1), by omega, i + 1, rfl, by rw [hts, e] <;> rfl, by omega, by omega, by omega, hlow, x2, x12⟩
  .have d9 : decide (ps[i] < 0) = false := by simpa using h8
   have e : cR ps[i] = ps[i] := by unfold cR; rw [if_neg h8]
   simp (disch := omega) only [aC, aW, aGP, CQ, bM, aT, C0, aA, cL, c1, aI, eA, aX, d6, dJ, aGO, bZ, g2, d7, d9, aE, dG, bO, aGW, if_false, bP, dP, d8, aF]
   exact ⟨ps.length - (i + 1), by omega, i + 1, rfl, by rw [hts, e] <;> rfl, by omega, by omega, by omega, hlow, x2, x12⟩
 .have d6 : decide ((i : Int) < (ps.length : Int)) = false := by simp; omega
  unfold uZ zG Iu
  simp (disch := omega) only [aC, aW, aGP, cQ, aA, bZ, cL, c1, aI, eA, aX, d6, c0, aE]
  refine (Um l (by omega) _).mono ?_
  rintro r w3 ⟨rfl, rfl⟩
  rw [aHk (by omega)] at hlo ⊢
  simp (disch := omega) only [cW, aA]
  refine ⟨?_, x2⟩
  rw [hyes]
  congr 1
  rw [Bool.eq_iff_iff, Yx, beq_iff_eq]
  exact ⟨fun h => ⟨hlo, h⟩, fun h => h.2⟩
def atN (log : Int) (ps : List Int) (most : Int) : Int := if Tx log ps = false then 1 else if most < log then 12 else 0
theorem aAe {log most : Int} {sv : aJb} {ps : List Int} {w : aJa} (hs : Sl w sv (ps.map (Value.int .i64))) (hl : ps.length <= 9223372036854775807) :
 aR pg Cv #[.agg #[.int .i64 log, sv], .int .i64 most] w (fun r w' => r = .int .i64 (atN log ps most) /\ aS w w' cM) := by
 refine aaC ?_
 unfold YW Hy
 refine fY fun w1 o1 x1 s1 => ?_
 have hs := hs.ext x1 (cD _)
 rw [show aH 145 = aH 145 from rfl]
 have l1 := gG o1 (off := 0) (by simp [Value.cells])
 simp only [Value.cells, aGT, aGN, aGV] at l1
 simp (disch := omega) only [aC, l1, dK, aA, bZ]
 refine (aEs hs hl).mono ?_
 rintro r w2 ⟨rfl, x2⟩
 have o2 := o1.ext x2 (fun h => h)
 have c0 := o2.cell (off := 0)
 simp only [Value.cells, aGQ] at c0
 unfold atN
 cases hm : Tx log ps with
 | false =>
   simp (disch := omega) only [Il, aId, if_true, true_and, aA, aF]
   exact x1.seq x2
 | true =>
   by_cases h : most < log
   .have d : decide (most < log) = true := by simpa using h
    simp (disch := omega) only [Il, aHB, aA, c0, aI, dP, d, aF, aE]
    exact ⟨by simp [h], x1.seq x2⟩
   .have d : decide (most < log) = false := by simpa using h
    simp (disch := omega) only [Il, aHB, aA, c0, aI, dP, d, aE]
    exact ⟨by simp [h], x1.seq x2⟩
theorem ayK {log most : Int} {sv : aJb} {ps : List Int} {w : aJa} (hs : Sl w sv (ps.map (Value.int .i64))) (hl : ps.length <= 9223372036854775807) :
 aR pg Fh #[.agg #[.int .i64 log, sv], .int .i64 most] w (fun r w' => r = .int .i64 (atN log ps most) /\ aS w w' cM) := by
 refine adT ?_
 unfold agL Jo
 refine fY fun w1 o1 x1 s1 => ?_
 have hs := hs.ext x1 (cD _)
 have l1 := lG o1 (off := 0) (by simp [Value.cells])
 simp only [Value.cells, aGT, aGN, aGV] at l1
 simp (disch := omega) only [aC, l1, cQ, aA, bZ]
 refine (aCS hs hl).mono ?_
 rintro r w2 ⟨rfl, x2⟩
 have o2 := o1.ext x2 (fun h => h)
 have c0 := o2.cell (off := 0)
 simp only [Value.cells, aGQ] at c0
 unfold atN
 cases hm : Tx log ps with
 | false =>
   simp (disch := omega) only [Il, aId, if_true, true_and, aA, aF]
   exact x1.seq x2
 | true =>
   by_cases h : most < log
   .have d : decide (most < log) = true := by simpa using h
    simp (disch := omega) only [Il, aHB, aA, c0, aI, dP, d, aF, aE]
    exact ⟨by simp [h], x1.seq x2⟩
   .have d : decide (most < log) = false := by simpa using h
    simp (disch := omega) only [Il, aHB, aA, c0, aI, dP, d, aE]
    exact ⟨by simp [h], x1.seq x2⟩
theorem AtI.sub {a : Option Addr} {n c m c' k sz lo hi : Nat} (h : AtI (.slice a n c) lo hi) (hm : m <= n) : AtI (.slice (iO a c k sz) m c') lo hi := by
 intro M hM hin
 cases m with
 | zero => unfold inB at hin; split at hin <;> simp_all
 | succ m =>
   obtain ⟨n', rfl⟩ : ∃ n', n = n' + 1 := ⟨n - 1, by omega⟩
   have h1 := h M hM
   cases a with
   | none => unfold iO at hin; split at hin <;> exact hin
   | some x =>
     unfold iO at hin
     have h2 : M x.block := by
      split at hin
      .exact hin
      .rw [aHz] at hin
       have e : (x.add (k * sz)).block = x.block := by unfold Addr.add; split <;> rfl
       have h3 : M (x.add (k * sz)).block := hin
       rwa [e] at h3
     exact h1 h2
abbrev Bl (w : aJa) (v : aJb) (L : List Bool) : Prop := Sl w v (L.map Value.bool)
theorem aCu {w : aJa} {v : aJb} {L : List Bool} (h : Bl w v L) (h0 : 0 < L.length) : ∃ b off c, v = .slice (some ⟨b, off, none⟩) L.length c /\ L.length <= c /\ ∀ i, (h : i < L.length) -> w.cell? ⟨b, off + i, none⟩ = some (.bool L[i]) := by
 obtain ⟨b, off, c, rfl, hc, hcell⟩ := h.openV (by simpa using h0)
 refine ⟨b, off, c, by rw [aG1], by simpa using hc, fun i hi => ?_⟩
 have := hcell i (by simpa using hi)
 simpa using this
theorem LU {w : aJa} {v : aJb} {L : List Bool} (h : Bl w v L) : ∃ a c, v = .slice a L.length c /\ L.length <= c := by
 obtain ⟨a, n, c, rfl, hn, hc, _⟩ := h
 rw [aG1] at hn
 subst hn
 exact ⟨a, c, rfl, hc⟩
theorem aDi (c : UInt8) : Pp c = gC c.toNat 8 := rfl
theorem amY {x : ByteArray} {w : aJa} (hl : x.size <= 1000000) :
 aR pg Df #[.string x] w (fun r w' => sN w' w.heap.size 1 r (8 * x.size) ((bE (lC x)).map Value.bool) /\ aS w w' cM) := by
 refine ahH ?_
 have hll := kG x
 unfold amI KT Kf KI Lw KO JZ Kj
 refine cG.rule (fun m (t : aJb × aJb) w' => ∃ (i : Nat) (v : aJb), m = x.size - i /\ t = (v, .int .i64 i) /\ i <= x.size /\ sN w' w.heap.size 1 v (8 * i) ((bE ((lC x).take i)).map Value.bool) /\ aS w w' (fun y => w.heap.size <= y)) x.size
  ⟨0, _, rfl, rfl, by omega, sN.nil _ _ _, aS.refl _ _⟩ ?_
 rintro m t w1 ⟨i, v, rfl, rfl, hi, o1, x1⟩
 unfold De JJ
 by_cases hlt : i < x.size
 .have d1 : decide ((i : Int) < (x.size : Int)) = true := by simp; omega
  obtain ⟨c, hc⟩ : ∃ c, c = (lC x)[i]'(by omega) := ⟨_, rfl⟩
  have hg : (x[i]'hlt).toNat = c.toNat := by rw [hc, YS]
  have htk : bE ((lC x).take (i + 1)) = bE ((lC x).take i) ++ gC c.toNat 8 := by
   rw [aHA, aGX (by omega), IW, <- hc, Option.toList, bE, bE, aHC, aDi]
  have hcl : c.toNat < 256 := aHi c
  generalize c.toNat = y at *
  unfold M6 NM VD MA
  simp (disch := omega) only [aC, rH, tK, aGO, hg, aA, aX, d1, aF]
  unfold MZ Oj
  refine cG.rule (fun m (t : aJb × aJb × aJb) w' => ∃ (k : Nat) (v : aJb), m = 8 - k /\ t = (v, .int .u8 (y / 2 ^ k : Nat), .int .i64 k) /\ k <= 8 /\ sN w' w.heap.size 1 v (8 * i + k) ((bE ((lC x).take i) ++ gC y k).map Value.bool) /\ aS w w' (fun y => w.heap.size <= y)) 8
   ⟨0, v, rfl, by simp, by omega, by simpa [EF] using o1, x1⟩ ?_
  rintro m t w2 ⟨k, v2, rfl, rfl, hk, o2, x2⟩
  unfold Fm
  by_cases hk8 : k < 8
  .have d2 : decide ((k : Int) < 8) = true := by simp; omega
   obtain ⟨z, hz⟩ : ∃ z, z = y / 2 ^ k := ⟨_, rfl⟩
   have hz2 : y / 2 ^ (k + 1) = z / 2 := by rw [hz, aHf, aIE]
   have hzl : z < 256 := by have := aIP y (2 ^ k); omega
   have e1 : (z : Int).tmod 2 = ((z % 2 : Nat) : Int) := by rw [aHF (by omega)]; omega
   have e2 : (z : Int).tdiv 2 = ((z / 2 : Nat) : Int) := by rw [aHj (by omega)]; omega
   have hbit : y.testBit k = decide (z % 2 = 1) := by rw [aH3, hz]
   have e3 : (((z % 2 : Nat) : Int) == 1) = y.testBit k := by
    rw [hbit]
    have : z % 2 = 0 ∨ z % 2 = 1 := by omega
    rcases this with h | h <;> simp [h]
   have hbs := Jz y k
   generalize y.testBit k = bt at *
   rw [<- hz]
   simp (disch := omega) only [aC, aX, d2, D5, e1, DU, e2, Qf, bM, aT, aA, cW, e3, aF]
   refine ayQ (cells := #[.bool bt]) (by decide) (by decide) (by kernel_rfl) fun w3 o3 x3 s3 => ?_
   refine XB (o2.ext x3 (fun _ _ h => h)) (o3.cl (off := 0) (l := [.bool bt]) (n := 1) rfl (fun i hi => by rw [aGP])) (by simp [one]) (aHS x2.size x3.size) (by omega) fun v4 w4 o4 x4 => ?_
   refine ⟨8 - (k + 1), by omega, k + 1, v4, rfl, ?_, by omega, ?_, ?_⟩
   .rw [hz2] <;> rfl
   .rw [hbs, <- aG2, aHw]
    exact o4
   .exact (x2.seq (x3.mono fun _ _ h => h.elim)).seq x4
  .have d2 : decide ((k : Int) < 8) = false := by simp; omega
   obtain rfl : k = 8 := by omega
   rw [<- htk] at o2
   unfold Fb
   simp (disch := omega) only [aC, aX, d2, D5, DU, bM, aT, aA, cW, aE]
   exact ⟨x.size - (i + 1), by omega, i + 1, _, rfl, rfl, by omega, o2, x2⟩
 .have d1 : decide ((i : Int) < (x.size : Int)) = false := by simp; omega
  obtain rfl : i = x.size := by omega
  rw [aHk (by omega)] at o1
  unfold FB
  simp (disch := omega) only [aC, rH, aA, aX, d1, aE]
  exact ⟨o1, x1.mono fun b hb h => Nat.not_le_of_lt hb h⟩
theorem agV {L : List Bool} {v : aJb} {w : aJa} (h : Bl w v L) (hl : L.length <= 60) :
 aR pg yJ #[v] w (fun r w' => r = .int .u64 (sP L : Nat) /\ w' = w) := by
 refine X9 ?_
 obtain ⟨a, c, hv, hc⟩ := LU h
 subst hv
 unfold ZS Eo EY GI Hj H2
 simp (disch := omega) only [aC, qS, aA, dZ, aT]
 unfold GW HJ
 refine cG.rule (fun m (t : aJb × aJb) w' => t = (.int .u64 (sP (L.drop m) : Nat), .int .i64 ((m : Int) - 1)) /\ m <= L.length /\ w' = w) L.length
  ⟨by rw [List.drop_length] <;> rfl, by omega, rfl⟩ ?_
 rintro m t w1 ⟨rfl, hm, rfl⟩
 unfold AV Ha
 cases m with
 | zero =>
   have d1 : decide ((0 : Int) <= ((0 : Nat) : Int) - 1) = false := rfl
   unfold AU
   simp (disch := omega) only [aC, pD, d1, pH, aA, bM, and_true, aE]
   simp
 | succ j =>
   have e0 : ((j + 1 : Nat) : Int) - 1 = (j : Int) := by omega
   have d1 : decide ((0 : Int) <= (j : Int)) = true := by simp
   obtain ⟨b, off, c', e, _, hcell⟩ := aCu h (by omega)
   cases e
   have g := hcell j (by omega)
   have hd : L.drop j = L[j] :: L.drop (j + 1) := aHn (by omega)
   have hlt := Yc (L.drop j)
   rw [aHh] at hlt
   have hp : 2 ^ (L.length - j) <= 2 ^ 60 := aG0 (by omega) (by omega)
   generalize L[j] = bt at *
   have hn : sP (L.drop j) = bt.toNat + 2 * sP (L.drop (j + 1)) := by rw [hd, sP]
   generalize sP (L.drop (j + 1)) = x at *
   cases bt with
   | true =>
     have hn : sP (L.drop j) = 1 + 2 * x := hn
     rw [e0]
     simp (disch := omega) only [aC, pD, d1, pH, hJ, EK, aGO, aA, Uv, bM, g, aI, aF]
     unfold vS
     simp (disch := omega) only [aC, dZ, aT, aA, and_true]
     exact ⟨j, by omega, by rw [hn]; simp; omega, by omega⟩
   | false =>
     have hn : sP (L.drop j) = 2 * x := by rw [hn]; simp
     rw [e0]
     simp (disch := omega) only [aC, pD, d1, pH, hJ, EK, aGO, aA, Uv, bM, g, aI, aE, aF]
     unfold vS
     simp (disch := omega) only [aC, dZ, aT, aA, and_true]
     exact ⟨j, by omega, by rw [hn]; simp; omega, by omega⟩
end Go.Proofs.YtaggdjhhmbnhoaaDoor
namespace Go.Pu
def rC : List UInt8 -> Nat
 | [] => 0
 | c :: l => c.toNat + 256 * rC l
theorem Ur : ∀ l : List UInt8, rC l < 256 ^ l.length
 | [] => by simp [rC]
 | c :: l => by
   have := Ur l
   have hc := c.toNat_lt
   rw [rC, aHc, aHf]; omega
theorem acI (c : UInt8) : ∀ l : List UInt8, rC (l ++ [c]) = rC l + 256 ^ l.length * c.toNat
 | [] => by simp [rC]
 | d :: l => by
   rw [aHV, rC, acI c l, rC, aHc, aHf, Nat.mul_add, aIf, aHU (256 ^ l.length) 256, Nat.mul_assoc]
theorem axT (i : Nat) : 256 ^ i = 2 ^ (8 * i) := by rw [Nat.pow_mul]
theorem aD5 (l : List UInt8) (c : UInt8) : rC l ||| (c.toNat * 2 ^ (8 * l.length)) = rC (l ++ [c]) := by
 have := Ur l
 rw [axT] at this
 rw [ayH this, acI, axT]
def Pf (x : Nat) : Nat -> List UInt8
 | 0 => []
 | n + 1 => UInt8.ofNat (x % 256) :: Pf (x / 256) n
theorem Ce : ∀ (n x : Nat), (Pf x n).length = n
 | 0, _ => rfl
 | n + 1, x => by rw [Pf, aHc, Ce n]
theorem aqK : ∀ (n x : Nat), Pf x (n + 1) = Pf x n ++ [UInt8.ofNat (x / 256 ^ n % 256)]
 | 0, x => by simp [Pf]
 | n + 1, x => by
   rw [Pf, aqK n (x / 256), Pf, aHV, aIE, aHf, aHU (256 ^ n) 256]
def aC7 (f : Nat) : List UInt8 -> Except Int (Nat × List UInt8)
 | [] => .error 10
 | x :: r => .ok ((f - 128) * 256 + x.toNat, r)
def aCZ : List UInt8 -> Except Int (Nat × List UInt8)
 | x :: y :: r => .ok (x.toNat + 256 * y.toNat + 32512, r)
 | _ => .error 10
def St : List UInt8 -> Except Int (Nat × List UInt8)
 | [] => .error 10
 | f :: r => if f.toNat < 128 then .ok (f.toNat, r) else if f.toNat < 255 then aC7 f.toNat r else aCZ r
def ahD (n : Nat) : List UInt8 :=
 if n < 128 then [UInt8.ofNat n] else if n < 32512 then [UInt8.ofNat (n / 256 + 128), UInt8.ofNat (n % 256)] else UInt8.ofNat 255 :: Pf (n - 32512) 2
theorem Qe {n : Nat} (h : n < 256) : (UInt8.ofNat n).toNat = n := by rw [UInt8.toNat_ofNat']; omega
theorem aBM {n : Nat} (h : n <= 98047) (r : List UInt8) : St (ahD n ++ r) = .ok (n, r) := by
 unfold ahD
 split
 .show St (UInt8.ofNat n :: r) = _
  rw [St, Qe (by omega), if_pos (by omega)]
 .split
  .show St (UInt8.ofNat (n / 256 + 128) :: UInt8.ofNat (n % 256) :: r) = _
   rw [St, Qe (by omega), if_neg (by omega), if_pos (by omega)]
   show Except.ok ((n / 256 + 128 - 128) * 256 + (UInt8.ofNat (n % 256)).toNat, r) = _
   rw [Qe (by omega)]
   congr 2; omega
  .show St (UInt8.ofNat 255 :: (Pf (n - 32512) 2 ++ r)) = _
   rw [St, Qe (by omega), if_neg (by omega), if_neg (by omega)]
   show Except.ok ((UInt8.ofNat ((n - 32512) % 256)).toNat + 256 * (UInt8.ofNat ((n - 32512) / 256 % 256)).toNat + 32512, r) = _
   rw [Qe (by omega), Qe (by omega)]
   congr 2; omega
end Go.Pu
namespace Go.Proofs.YtaggdjhhmbnhoaaDoor
open Go Go.En Go.Pu
set_option maxRecDepth 4000
def AtS (v : aJb) (S : Nat -> Prop) : Prop := ∀ M : Nat -> Prop, (∀ b, S b -> ¬ M b) -> ¬ inB v M
theorem AtI.toS {v : aJb} {lo hi : Nat} {S : Nat -> Prop} (h : AtI v lo hi) (hS : ∀ b, lo <= b -> b < hi -> S b) : AtS v S := fun M hM => h M fun b h1 h2 => hM b (hS b h1 h2)
theorem AtS.mono {v : aJb} {S T : Nat -> Prop} (h : AtS v S) (hT : ∀ b, S b -> T b) : AtS v T := fun M hM => h M fun b hb => hM b (hT b hb)
theorem AtS.toI {v : aJb} {S : Nat -> Prop} {lo hi : Nat} (h : AtS v S) (hS : ∀ b, S b -> lo <= b /\ b < hi) : AtI v lo hi := fun M hM => h M fun b hb => hM b (hS b hb).1 (hS b hb).2
theorem AtS.nil (S : Nat -> Prop) : AtS (.slice none 0 0) S := fun M _ h => h
theorem AtS.sub {a : Option Addr} {n c m c' k mx sz : Nat} {S : Nat -> Prop} (h : AtS (.slice a n c) S) (hm : m <= n) : AtS (.slice (iO a mx k sz) m c') S := by
 intro M hM hin
 cases m with
 | zero => unfold inB at hin; split at hin <;> simp_all
 | succ m =>
   obtain ⟨n', rfl⟩ : ∃ n', n = n' + 1 := ⟨n - 1, by omega⟩
   have h1 := h M hM
   cases a with
   | none => unfold iO at hin; split at hin <;> exact hin
   | some x =>
     unfold iO at hin
     have h2 : M x.block := by
      split at hin
      .exact hin
      .rw [aHz] at hin
       have e : (x.add (k * sz)).block = x.block := by unfold Addr.add; split <;> rfl
       have h3 : M (x.add (k * sz)).block := hin
       rwa [e] at h3
     exact h1 h2
theorem aFQ {w : aJa} {a : Option Addr} {n c : Nat} {l : List aJb} (h : Sl w (.slice a n c) l) {k : Nat} (hk : k <= n) : Sl w (.slice (iO a k 0 1) (k - 0) (k - 0)) (l.take k) := by
 obtain ⟨a', n', c', e, hn, hc, h⟩ := h
 cases e
 refine ⟨_, _, _, rfl, by rw [aG4]; omega, aGZ _, fun h0 => ?_⟩
 obtain ⟨b, off, rfl, h2⟩ := h (by omega)
 have hs : iO (some ⟨b, off, none⟩) k 0 1 = some ⟨b, off + 0 * 1, none⟩ := by unfold iO; rw [if_neg (by omega)] <;> rfl
 refine ⟨b, off, by rw [hs]; simp, fun i hi => ?_⟩
 rw [aHr (by omega)]
 exact h2 i (by omega)
def Rdr (w : aJa) (lo hi p : Nat) (l : List UInt8) (e : Int) : Prop := lo <= p /\ p < hi /\ ∃ v, cJ w p [v, .int .i64 e] /\ Bs w v l /\ AtS v (fun b => lo <= b /\ b < hi /\ b ≠ p)
theorem Rdr.ext {w w' : aJa} {lo hi p : Nat} {l : List UInt8} {e : Int} {M : Nat -> Prop} (h : Rdr w lo hi p l e) (x : aS w w' M) (hM : ∀ b, lo <= b -> b < hi -> ¬ M b) : Rdr w' lo hi p l e := by
 obtain ⟨h0, h0', v, h1, h2, h3⟩ := h
 exact ⟨h0, h0', v, h1.ext x (hM _ h0 h0'), h2.ext x (h3 M fun b hb => hM b hb.1 hb.2.1), h3⟩
theorem Rdr.lt {w : aJa} {lo hi p : Nat} {l : List UInt8} {e : Int} (h : Rdr w lo hi p l e) : p < w.heap.size := by
 obtain ⟨_, _, v, h1, _⟩ := h; exact h1.lt
theorem Rdr.up {w : aJa} {lo hi hi' p : Nat} {l : List UInt8} {e : Int} (h : Rdr w lo hi p l e) (hh : hi <= hi') : Rdr w lo hi' p l e := by
 obtain ⟨h0, h0', v, h1, h2, h3⟩ := h
 exact ⟨h0, by omega, v, h1, h2, h3.mono fun b hb => ⟨hb.1, by omega, hb.2.2⟩⟩
theorem agF {v : aJb} {l : List UInt8} {w : aJa} (h : Bs w v l) (hl : l.length <= 1000000000) :
 aR pg qH #[v] w (fun r w' => ∃ p, r = .pointer (some ⟨p, 0, none⟩) /\ Rdr w' w.heap.size w'.heap.size p l 0 /\ aS w w' cM) := by
 refine Si ?_
 unfold O6 Ap
 refine (Uq h hl).mono ?_
 rintro r w1 ⟨ho, x1⟩
 have hat := sN.atI ho
 have hs := ho.sl
 obtain ⟨va, vc, rfl⟩ := ho.len
 simp (disch := omega) only [aC, BT, aA]
 refine fY fun w2 o2 x2 s2 => ?_
 have o2 : cJ w2 w1.heap.size [.slice va l.length vc, .int .i64 0] := o2
 have hz := o2.lt
 exact ⟨w1.heap.size, rfl, ⟨x1.size, hz, _, o2, hs.ext x2 (cD _), hat.toS fun b h1 h2 => ⟨h1, by omega, by omega⟩⟩, x1.seq x2⟩
def I1 (l : List UInt8) (e : Int) (n : Nat) : List UInt8 × List UInt8 × Int := if e ≠ 0 then ([], l, e) else if l.length < n then ([], l, 10) else (l.take n, l.drop n, 0)
theorem auM {lo hi p n : Nat} {l : List UInt8} {e : Int} {w : aJa} (h : Rdr w lo hi p l e) (hl : l.length <= 1000000000) (hn : n <= 1000000000) :
 aR pg nZ #[.pointer (some ⟨p, 0, none⟩), .int .i64 n, .bool true] w (fun r w' => Bs w' r (I1 l e n).1 /\ AtS r (fun b => lo <= b /\ b < hi /\ b ≠ p) /\ Rdr w' lo hi p (I1 l e n).2.1 (I1 l e n).2.2 /\ aS w w' (fun y => y = p)) := by
 refine OB ?_
 unfold Le wH
 have h' := h
 obtain ⟨h0, h0', v, o, hb, hat⟩ := h'
 obtain ⟨va, vc, rfl, hvc⟩ := hb.len
 rw [aG1] at hb hat o hvc
 have c0 := o.cell (off := 0)
 have c1 := o.cell (off := 1)
 simp only [aGQ, aGR] at c0 c1
 by_cases he : e = 0
 rotate_left
 .have n1 : (e != 0) = true := by simpa using he
  have ht : I1 l e n = ([], l, e) := by unfold I1; rw [if_pos he]
  rw [ht]
  simp (disch := omega) only [aC, rB, Il, aHB, aA, nL, aGP, nJ, gA, aE, jD, c1, aI, eT, n1, aF]
  exact ⟨Sl.nil _, AtS.nil _, h, aS.refl _ _⟩
 subst he
 have n1 : ((0 : Int) != 0) = false := rfl
 by_cases hsh : l.length < n
 .have d1 : decide ((l.length : Int) < (n : Int)) = true := by simp; omega
  have ht : I1 l 0 n = ([], l, 10) := by unfold I1; rw [if_neg (by decide), if_pos hsh]
  rw [ht]
  simp (disch := omega) only [aC, rB, Il, aHB, aA, nL, aGP, nJ, gA, aE, jD, c1, aI, eT, n1, c0, fO, dP, d1, aF]
  refine XT o rfl (by simp) fun w1 o1 x1 s1 => ?_
  simp only [aGS, aGU] at o1
  exact ⟨Sl.nil _, AtS.nil _, ⟨h0, h0', _, o1, hb.ext x1 (hat _ fun b hb => hb.2.2), hat⟩, x1⟩
 .have d1 : decide ((l.length : Int) < (n : Int)) = false := by simp; omega
  have ht : I1 l 0 n = (l.take n, l.drop n, 0) := by unfold I1; rw [if_neg (by decide), if_neg hsh]
  rw [ht]
  simp (disch := omega) only [aC, rB, Il, aHB, aA, nL, aGP, nJ, gA, aE, jD, c1, aI, eT, n1, c0, fO, dP, d1, Kr, aGO, qD]
  refine Gn o rfl (by simp [one]) fun w1 o1 x1 s1 => ?_
  simp only [aGS, aGU] at o1
  have hbn : Bs w (.slice (iO va n 0 1) (n - 0) (n - 0)) (l.take n) := by
   have := aFQ hb (k := n) (by omega)
   rwa [<- aIM] at this
  have hbd : Bs w (.slice (iO va vc n 1) (l.length - n) (vc - n)) (l.drop n) := by
   have := hb.drop' (k := n) (by omega)
   rwa [<- aI3] at this
  have hn1 := hat.sub (mx := n) (k := 0) (sz := 1) (m := n - 0) (c' := n - 0) (by omega)
  have hn2 := hat.sub (mx := vc) (k := n) (sz := 1) (m := l.length - n) (c' := vc - n) (by omega)
  exact ⟨hbn.ext x1 (hn1 _ fun b hb => hb.2.2), hn1, ⟨h0, h0', _, o1, hbd.ext x1 (hn2 _ fun b hb => hb.2.2), hn2⟩, x1⟩
theorem akJ {lo hi p : Nat} {l : List UInt8} {e : Int} {w : aJa} (h : Rdr w lo hi p l e) :
 aR pg lX #[.pointer (some ⟨p, 0, none⟩)] w (fun r w' => r = .int .i64 l.length /\ w' = w) := by
 refine OZ ?_
 unfold Kt wK
 obtain ⟨h0, h0', v, o, hb, hat⟩ := h
 obtain ⟨va, vc, rfl, hvc⟩ := hb.len
 rw [aG1] at hb hat o hvc
 have c0 := o.cell (off := 0)
 simp only [aGQ, aGR] at c0
 simp (disch := omega) only [aC, lS, aHe, rB, aA, nJ, gA, and_true, c0, aI, fO, aE]
theorem UA {lo hi p : Nat} {l : List UInt8} {e : Int} {w : aJa} (h : Rdr w lo hi p l e) :
 aR pg kX #[.pointer (some ⟨p, 0, none⟩)] w (fun r w' => r = .int .i64 e /\ w' = w) := by
 refine Ql ?_
 unfold LM xX
 obtain ⟨h0, h0', v, o, hb, hat⟩ := h
 have c1 := o.cell (off := 1)
 simp only [aGQ, aGR] at c1
 simp (disch := omega) only [aC, lS, aHe, rB, aA, nL, aGP, jD, and_true, c1, aI, aE]
theorem apF {lo hi p n : Nat} {l : List UInt8} {e : Int} {w : aJa} (h : Rdr w lo hi p l e) (hl : l.length <= 1000000000) (hn : n <= 1000000000) :
 aR pg nB #[.pointer (some ⟨p, 0, none⟩), .int .i64 n] w (fun r w' => Bs w' r (I1 l e n).1 /\ AtS r (fun b => lo <= b /\ b < hi /\ b ≠ p) /\ Rdr w' lo hi p (I1 l e n).2.1 (I1 l e n).2.2 /\ aS w w' (fun y => y = p)) := by
 refine NK ?_
 unfold Ie uG
 have d1 : decide ((0 : Int) <= (n : Int)) = true := by simp
 simp (disch := omega) only [aC, lS, aHe, pD, d1, aA, aE]
 refine (auM h hl hn).mono ?_
 rintro r w1 hr
 exact hr
theorem Qw {lo hi p n : Nat} {l : List UInt8} {e : Int} {w : aJa} (h : Rdr w lo hi p l e) (hl : l.length <= 1000000000) (hn : 1 <= n /\ n <= 8) :
 aR pg jF #[.pointer (some ⟨p, 0, none⟩), .int .i64 n] w (fun r w' => r = .int .u64 (rC (I1 l e n).1 : Nat) /\ Rdr w' lo hi p (I1 l e n).2.1 (I1 l e n).2.2 /\ aS w w' (fun y => y = p)) := by
 refine LC ?_
 unfold Gg tN tG tD tF tA
 have d1 : decide ((1 : Int) <= (n : Int)) = true := by simp; omega
 have d2 : decide ((n : Int) <= 8) = true := by simp; omega
 simp (disch := omega) only [aC, lS, aHe, pD, d1, aA, tR, bO, if_true, bP, avL, d2, aE]
 refine (auM h hl (by omega)).mono ?_
 rintro r w1 ⟨hb, hat, hr, x1⟩
 obtain ⟨t, ht⟩ : ∃ t, t = (I1 l e n).1 := ⟨_, rfl⟩
 have htl : t.length <= 8 := by
  rw [ht]; unfold I1
  split
  .simp
  .split
   .simp
   .simp; omega
 rw [<- ht] at hb ⊢
 obtain ⟨va, vc, rfl, hvc⟩ := hb.len
 rw [aG1] at hb hvc hat
 simp (disch := omega) only [aG1, fO, aA]
 unfold tM tO
 refine cG.rule (fun m s w' => ∃ i : Nat, m = t.length - i /\ i <= t.length /\ s = (.int .u64 (rC (t.take i) : Nat), .int .i64 i) /\ w' = w1) t.length ⟨0, rfl, by omega, rfl, rfl⟩ ?_
 rintro m s w2 ⟨i, rfl, hi, rfl, hw⟩
 rw [hw]; clear hw w2
 unfold oX
 by_cases hlt : i < t.length
 .have d3 : decide ((i : Int) < (t.length : Int)) = true := by simp; omega
  obtain ⟨c, hc⟩ : ∃ c, c = t[i]'hlt := ⟨_, rfl⟩
  have htk : t.take (i + 1) = t.take i ++ [c] := by rw [aHA, aGX hlt, <- hc] <;> rfl
  have hor := aD5 (t.take i) c
  rw [<- htk, aG4, aHG (by omega)] at hor
  have hcl : c.toNat < 256 := aHi c
  obtain ⟨b, off, c', hv, hcc, hcell⟩ := hb.openV (by rw [aG1]; omega)
  have g1 := hcell i (by rw [aG1]; exact hlt)
  rw [aG1] at hv
  cases hv
  rw [aHs, <- hc] at g1
  simp only [FQ] at g1
  generalize c.toNat = cx at *
  have hp : 2 ^ (8 * i) <= 2 ^ 56 := aG0 (by omega) (by omega)
  have hm : cx * 2 ^ (8 * i) <= 255 * 2 ^ 56 := Nat.mul_le_mul (by omega) hp
  have hb0 := Ur (t.take i)
  have hb1 := Ur (t.take (i + 1))
  rw [aG4, aHG (by omega)] at hb0 hb1
  have hq : 256 ^ i <= 256 ^ 7 := aG0 (by omega) (by omega)
  have e0 : ((8 : Int) * (i : Int)) = ((8 * i : Nat) : Int) := by omega
  have e5 : IntKind.u64.wrap ((cx : Int) * 2 ^ (min (8 * i) IntKind.u64.bits)) = ((cx * 2 ^ (8 * i) : Nat) : Int) := by
   rw [show min (8 * i) IntKind.u64.bits = 8 * i from aHG (by have : IntKind.u64.bits = 64 := rfl
                                                              omega)]
   have e : (cx : Int) * 2 ^ (8 * i) = ((cx * 2 ^ (8 * i) : Nat) : Int) := by simp
   rw [e]
   exact hJ (by omega) (by omega)
  have e6 := azW (a := rC (t.take i)) (b := cx * 2 ^ (8 * i)) (by omega) (by omega)
  rw [hor] at e6
  have e7 : IntKind.u64.wrap (cx : Int) = (cx : Int) := hJ (by omega) (by omega)
  simp (disch := omega) only [aC, aX, d3, oM, aGO, pH, e0, aT, bM, aA, lD, hJ, mI, g1, aI, vO, e7, mE, e5, asP, e6, and_true, aF]
  exact ⟨t.length - (i + 1), by omega, i + 1, rfl, by omega, rfl⟩
 .have d3 : decide ((i : Int) < (t.length : Int)) = false := by simp; omega
  obtain rfl : i = t.length := by omega
  simp (disch := omega) only [aC, aX, d3, pH, aT, bM, aA, lD, hJ, aE]
  unfold pB
  rw [aIw]
  exact ⟨rfl, hr, x1⟩
def m3 (L : List Int) : List T3 := L.map fun x => (x, 0, 0)
theorem aE8 (L : List Int) (i : Nat) (h : i < L.length) (x : Int) : (m3 L).set i (x, ((m3 L)[i]'(by simpa [m3] using h)).2) = m3 (L.set i x) := by
 unfold m3; rw [aIq]; simp
theorem anV {k : IntKind} {L : List Int} {i : Nat} (h : i < L.length) (x : Int) : (fe k (m3 L)).set (i * 3) (.int k x) = fe k (m3 (L.set i x)) := by
 rw [(adZ k (m3 L) i (by simpa [m3] using h) x).1, aE8 L i h x]
theorem amT (n high s : Nat) (r : List Nat) (a : Nat) (arr : List Int) : place n high (s :: r) a arr = place n high r (Yd n high n (adv n a)) (arr.set a s) := rfl
theorem apG {ps : List Int} {i : Nat} (h : i < ps.length) : oU (ps.drop i) i = List.replicate ps[i].toNat i ++ oU (ps.drop (i + 1)) (i + 1) := by
 rw [aHn h, oU]
theorem aEV {w0 w : aJa} {N high j : Nat} (hN : 0 < N) (hN2 : N <= 32768) (hh : 0 < high) (hhN : high <= N) (hx : aS w0 w cM)
 {ov sv a b c d e : aJb} {k : aJb -> aJb -> aJb -> aJb -> aJb -> aJb -> aJb -> aJb -> aJb -> aJb -> aJa -> Prop}
 (hk : ∃ j', Yd N high N (adv N (pos N j)) = pos N j' /\ k (.int .i64 N) ov (.int .i64 high) (.int .i64 (pos N j' : Nat)) sv a b c d e w) :
 Fg k (.int .i64 N) ov (.int .i64 high) (.int .i64 (pos N j : Nat)) sv a b c d e w := by
 obtain ⟨dd, h1, h2, h3⟩ := Up hN hh (j + 1)
 obtain ⟨j', hj', hk⟩ := hk
 rw [Iw, h3] at hj'
 rw [<- hj'] at hk
 unfold Fg
 refine cG.rule (fun m t w' => ∃ q : Nat, m = dd - q /\ t = .int .i64 (pos N (j + q) : Nat) /\ q <= dd /\ w' = w) dd ⟨0, rfl, rfl, by omega, rfl⟩ ?_
 rintro m t w' ⟨q, rfl, rfl, hq, rfl⟩
 have hp := akX hN (j + q)
 have e1 : ((N : Int)).fdiv (2 ^ (min 1 IntKind.i64.bits)) = ((N / 2 : Nat) : Int) := by
  have : (2 : Int) ^ (min 1 IntKind.i64.bits) = ((2 : Nat) : Int) := by decide
  rw [this, TO]
 have e3 : ((N : Int)).fdiv (2 ^ (min 3 IntKind.i64.bits)) = ((N / 8 : Nat) : Int) := by
  have : (2 : Int) ^ (min 3 IntKind.i64.bits) = ((8 : Nat) : Int) := by decide
  rw [this, TO]
 have t1 : (1 : Int).toNat = 1 := rfl
 have t3 : (3 : Int).toNat = 3 := rfl
 have e4 : (((pos N (j + q) : Nat) : Int) + ((N / 2 : Nat) : Int) + ((N / 8 : Nat) : Int) + 3).tmod (N : Int) = ((pos N (j + q + 1) : Nat) : Int) := by
  rw [aHF (by omega), <- Iw]
  unfold adv
  simp
 unfold Fs
 by_cases hd : q = dd
 .subst hd
  have d1 : decide (((pos N (j + q + 1) : Nat) : Int) < (high : Int)) = true := by
   simp only [decide_eq_true_eq]
   rw [show j + 1 + q = j + q + 1 from by omega] at h2
   omega
  simp (disch := omega) only [aC, wV, t1, e1, t3, e3, aA, bM, aT, D5, e4, aX, d1, and_true, aF]
  rw [show j + 1 + q = j + q + 1 from by omega] at hk
  exact hk
 .have d1 : decide (((pos N (j + q + 1) : Nat) : Int) < (high : Int)) = false := by
   have := h1 q (by omega)
   rw [show j + 1 + q = j + q + 1 from by omega] at this
   simp only [decide_eq_false_iff_not]
   omega
  simp (disch := omega) only [aC, wV, t1, e1, t3, e3, aA, bM, aT, D5, e4, aX, d1, and_true, aE]
  exact ⟨dd - (q + 1), by omega, q + 1, rfl, rfl, by omega⟩
theorem avU {log : Nat} {sv : aJb} {ps : List Int} {w : aJa} (hm : Sw log ps) (hs : Sl w sv (ps.map (Value.int .i64))) :
 aR pg Dq #[.agg #[.int .i64 log, sv]] w (fun r w' => ∃ b, r = .slice (some ⟨b, 0, none⟩) (2 ^ log) (2 ^ log) /\ w.heap.size <= b /\ cJ w' b (fe .u8 (m3 (gD 0 log ps))) /\ aS w w' cM) := by
 refine ahU ?_
 have h5 := hm.log5
 have h15 := hm.log15
 have hlen := hm.len256
 obtain ⟨arr0, ht, hal, hsum, hfin⟩ := ahA hm 0
 rw [hfin]
 have hN1 : 2 ^ 5 <= 2 ^ log := aG0 (by omega) h5
 have hN2 : 2 ^ log <= 2 ^ 15 := aG0 (by omega) h15
 have hsh : IntKind.i64.wrap (1 * 2 ^ (min log IntKind.i64.bits)) = ((2 ^ log : Nat) : Int) := by
  have : ∀ k : Fin 16, IntKind.i64.wrap (1 * 2 ^ (min k.val IntKind.i64.bits)) = ((2 ^ k.val : Nat) : Int) := by decide
  exact this ⟨log, by omega⟩
 clear hfin
 generalize hN : 2 ^ log = N at *
 generalize hhigh : (oU ps 0).length = high at *
 unfold alY KL Kx
 refine fY fun w1 o1 x1 s1 => ?_
 have hs1 := hs.ext x1 (cD _)
 have c0 := o1.cell (off := 0)
 have c1 := o1.cell (off := 1)
 simp only [Value.cells, aGQ, aGR] at c0 c1
 obtain ⟨a, c, rfl, hc⟩ := hs.lenI
 simp (disch := omega) only [aC, dK, aA, bZ, c0, aI, mE, aGO, hsh]
 refine aaW (by omega) (by omega) fun w2 o2 x2 s2 => ?_
 rw [aGO, aAp] at o2
 rw [aGO]
 have o2 : cJ w2 w1.heap.size (fe .u8 (m3 (List.replicate N 0))) := by unfold m3; rw [aIV]; exact o2
 have x02 : aS w w2 cM := x1.seq x2
 have ob2 := o1.ext x2 (fun h => h)
 have c1 := ob2.cell (off := 1)
 simp only [Value.cells, aGQ, aGR] at c1
 unfold Kz JE Jb Jk Js
 simp (disch := omega) only [aC, bK, aGP, aA, cL, c1, aI, eA]
 have hw1 : w.heap.size <= w1.heap.size := x1.size
 refine cG.rule (fun m t w' => ∃ (i hg : Nat) (arr : List Int), m = ps.length - i /\ t = (.int .i64 hg, .int .i64 i) /\ i <= ps.length /\ (rX (ps.drop i) i).length <= hg /\ hg <= N /\ arr.length = N /\ V5 (ps.drop i) i hg arr = (high, arr0) /\ cJ w' w1.heap.size (fe .u8 (m3 arr)) /\ aS w w' cM /\ cJ w' w.heap.size (Value.cells (.agg #[.int .i64 log, .slice a ps.length c])).toList) ps.length
  ⟨0, N, _, rfl, rfl, by omega, by rw [aGT]; omega, by omega, by simp, by rw [aGT]; exact ht, o2, x02, ob2⟩ ?_
 rintro m t w3 ⟨i, hg, arr, rfl, rfl, hi, hng, hgN, harr, htop, o3, x3, ob3⟩
 by_cases hlt : i < ps.length
 .have d1 : decide ((i : Int) < (ps.length : Int)) = true := by simp; omega
  obtain ⟨b', off', c', e, _, hcell⟩ := (hs.ext x3 (cD _)).openI (by omega)
  cases e
  have g1 := hcell i hlt
  have hd : ps.drop i = ps[i] :: ps.drop (i + 1) := aHn hlt
  rw [hd, rX] at hng
  rw [hd, V5] at htop
  unfold yI Dd DG
  by_cases hp : ps[i] = -1
  .have d2 : (ps[i] == -1) = true := by simpa using hp
   rw [if_pos hp] at hng htop
   simp only [aHc] at hng
   have e1 : (hg : Int) - 1 = ((hg - 1 : Nat) : Int) := by omega
   simp (disch := omega) only [aC, aX, d1, dJ, aGO, dZ, e1, aT, kT, Qf, bM, aA, lP, aGP, fS, bZ, g1, aI, cW, d2, aF]
   refine YP o3 rfl (by rw [kR]; simp [m3]; omega) fun w4 o4 x4 s4 => ?_
   rw [anV (by omega)] at o4
   exact ⟨ps.length - (i + 1), by omega, i + 1, hg - 1, _, rfl, rfl, by omega, by omega, by omega, by simp [harr], htop, o4, x3.new x4 hw1, ob3.ext x4 (by omega)⟩
  .have d2 : (ps[i] == -1) = false := by simpa using hp
   rw [if_neg hp] at hng htop
   simp (disch := omega) only [aC, aX, d1, dJ, aGO, dZ, aT, kT, Qf, bM, aA, bZ, g1, aI, cW, d2, aE, aF]
   exact ⟨ps.length - (i + 1), by omega, i + 1, hg, arr, rfl, rfl, by omega, by omega, by omega, harr, htop, o3, x3, ob3⟩
 .have d1 : decide ((i : Int) < (ps.length : Int)) = false := by simp; omega
  rw [aHW (by omega), V5] at htop
  obtain ⟨rfl, rfl⟩ : hg = high /\ arr = arr0 := by simpa using htop
  have c1 := ob3.cell (off := 1)
  simp only [Value.cells, aGQ, aGR] at c1
  unfold yI Dd J5 Km Kv Jw Lc Ls Jc
  simp (disch := omega) only [aC, aX, d1, dZ, aT, kT, aA, bK, aGP, cL, c1, aI, eA, aE]
  clear d1 hlt hi hng htop
  have hbig : cJ w3 w1.heap.size (fe .u8 (m3 arr)) := o3
  refine cG.rule (fun m t w' => ∃ (s j : Nat) (ar : List Int), m = ps.length - s /\ t = (.int .i64 (pos N j : Nat), .int .i64 s) /\ s <= ps.length /\ ar.length = N /\ place N hg (oU (ps.drop s) s) (pos N j) ar = place N hg (oU ps 0) 0 arr /\ (oU (ps.drop s) s).length <= hg /\ cJ w' w1.heap.size (fe .u8 (m3 ar)) /\ aS w w' cM) ps.length
   ⟨0, 0, arr, rfl, by rw [Ui] <;> rfl, by omega, harr, by rw [Ui, aGT], by rw [aGT, hhigh]; exact aGZ _, o3, x3⟩ ?_
  rintro m t w4 ⟨s, j, ar, rfl, rfl, hs4, har, hpl, hrl, o4, x4⟩
  by_cases hlt : s < ps.length
  .have d1 : decide ((s : Int) < (ps.length : Int)) = true := by simp; omega
   obtain ⟨b', off', c', e, _, hcell⟩ := (hs.ext x4 (cD _)).openI (by omega)
   cases e
   have g1 := hcell s hlt
   obtain ⟨q, hq⟩ : ∃ q, q = ps[s].toNat := ⟨_, rfl⟩
   have emax : (if (0 : Int) > ps[s] then (0 : Int) else ps[s]) = (q : Int) := by rw [hq]; split <;> omega
   rw [apG hlt, <- hq] at hpl hrl
   have hqN : q <= N := by simp at hrl; omega
   unfold xQ Cq Jm Jp SX JS Kp TJ KR
   simp (disch := omega) only [aC, aX, d1, dJ, aGO, aA, bZ, g1, aI, amS, emax, aF]
   unfold J1 Kh
   refine cG.rule (fun m t w' => ∃ (k j : Nat) (ar : List Int), m = q - k /\ t = (.int .i64 (pos N j : Nat), .int .i64 k) /\ k <= q /\ ar.length = N /\ place N hg (List.replicate (q - k) s ++ oU (ps.drop (s + 1)) (s + 1)) (pos N j) ar = place N hg (oU ps 0) 0 arr /\ cJ w' w1.heap.size (fe .u8 (m3 ar)) /\ aS w w' cM) q
    ⟨0, j, ar, rfl, rfl, by omega, har, hpl, o4, x4⟩ ?_
   rintro m t w5 ⟨k, j5, ar5, rfl, rfl, hk, har5, hpl5, o5, x5⟩
   by_cases hkq : k < q
   .have d2 : decide ((k : Int) < (q : Int)) = true := by simp; omega
    have hp := akX (n := N) (by omega) j5
    have hhg : 0 < hg := by simp at hrl; omega
    unfold yY C5 KS Mt Vr M9
    simp (disch := omega) only [aC, aX, d2, kT, Qf, lP, aGO, aGP, aA, fS, aF]
    refine YP o5 rfl (by rw [kR]; simp [m3]; omega) fun w6 o6 x6 s6 => ?_
    rw [anV (by omega)] at o6
    unfold Mq
    rw [show q - k = (q - (k + 1)) + 1 from by omega, aHO, aHV, amT] at hpl5
    obtain ⟨d, _, hd2, hd3⟩ := Up (n := N) (high := hg) (by omega) hhg (j5 + 1)
    have hsk : Yd N hg N (adv N (pos N j5)) = pos N (j5 + 1 + d) := by rw [Iw]; exact hd3
    refine aEV (w0 := w) (by omega) hN2 hhg hgN (x5.new x6 hw1) ⟨j5 + 1 + d, hsk, ?_⟩
    rw [hsk] at hpl5
    unfold Fp
    simp (disch := omega) only [aC, bM, aT, aA]
    exact ⟨q - (k + 1), by omega, k + 1, j5 + 1 + d, _, rfl, rfl, by omega, by simp [har5], hpl5, o6, x5.new x6 hw1⟩
   .have d2 : decide ((k : Int) < (q : Int)) = false := by simp; omega
    rw [show q - k = 0 from by omega, List.replicate_zero, aHv] at hpl5
    unfold yY C5 Fe
    simp (disch := omega) only [aC, aX, d2, bM, aT, aA, aE]
    exact ⟨ps.length - (s + 1), by omega, s + 1, j5, ar5, rfl, rfl, by omega, har5, hpl5, by simp at hrl; omega, o5, x5⟩
  .have d1 : decide ((s : Int) < (ps.length : Int)) = false := by simp; omega
   rw [aHW (by omega), oU, place] at hpl
   unfold xQ Cq FZ
   simp (disch := omega) only [aC, aX, d1, aA, aE]
   exact ⟨_, rfl, hw1, by rw [<- hpl]; exact o4, x4⟩
def Es (log : Nat) (ps S : List Int) (i : Nat) : List T3 := (List.range (2 ^ log)).map fun j => if j < i then F2 log ps S j else (S.getD j 0, 0, 0)
def nxt (ps S : List Int) (i : Nat) : List Int := (List.range ps.length).map fun s => cR (ps.getD s 0) + ((S.take i).count (s : Int) : Nat)
theorem azS {log : Nat} {ps S : List Int} (h : S.length = 2 ^ log) : Es log ps S 0 = m3 S := by
 unfold Es m3
 apply aHN
 .simp [h]
 .intro i h1 h2
  simp only [aG1, aIF] at h1
  simp only [aHs, aHJ, Nat.not_lt_zero, if_false, aG3]
  rw [aGX (by omega)] <;> rfl
theorem aCM (log : Nat) (ps : List Int) : Es log ps (gD 0 log ps) (2 ^ log) = jY log ps := by
 unfold Es jY
 refine aH4 fun j hj => ?_
 rw [if_pos (aHD.1 hj)]
theorem ET (log : Nat) (ps S : List Int) (i : Nat) : (Es log ps S i).length = 2 ^ log := by simp [Es]
theorem aCG {log : Nat} {ps S : List Int} {i : Nat} (h : i < 2 ^ log) : (Es log ps S i)[i]'(by rw [ET]; exact h) = (S.getD i 0, 0, 0) := by
 unfold Es; simp
theorem aDn {log : Nat} {ps S : List Int} {i : Nat} (_ : i < 2 ^ log) : (Es log ps S i).set i (F2 log ps S i) = Es log ps S (i + 1) := by
 unfold Es
 apply aHN
 .simp
 .intro j h1 h2
  rw [aIL]
  simp only [aHs, aHJ]
  by_cases hij : i = j
  .subst hij; simp
  .rw [if_neg hij]
   by_cases hj : j < i
   .rw [if_pos hj, if_pos (by omega)]
   .rw [if_neg hj, if_neg (by omega)]
theorem WS (ps S : List Int) (i : Nat) : (nxt ps S i).length = ps.length := by simp [nxt]
theorem aCo (ps S : List Int) : nxt ps S 0 = ps.map cR := by
 unfold nxt
 apply aHN
 .simp
 .intro i h1 h2
  simp only [aG1, aIF] at h1
  simp only [aHs, aHJ, aGV, List.count_nil, aG3]
  rw [aGX h1]; simp
theorem asY {ps S : List Int} {i s : Nat} (h : s < ps.length) : (nxt ps S i)[s]'(by rw [WS]; exact h) = cR ps[s] + ((S.take i).count (s : Int) : Nat) := by
 unfold nxt
 simp only [aHs, aHJ, aG3]
 rw [aGX h] <;> rfl
theorem aD1 {ps S : List Int} {i s : Nat} (h : i < S.length) (hs : s < ps.length) (e : S[i] = (s : Int)) : (nxt ps S i).set s (cR ps[s] + ((S.take i).count (s : Int) : Nat) + 1) = nxt ps S (i + 1) := by
 apply aHN
 .simp [nxt]
 .intro j h1 h2
  have hj : j < ps.length := by simpa [nxt] using h2
  rw [aIL, asY hj, asY hj, aHA, aGX h, aHX]
  simp only [Option.toList, e, aIv]
  by_cases hij : s = j
  .subst hij; simp; omega
  .have : ((s : Int) == (j : Int)) = false := by simp; omega
   rw [if_neg hij, this]; simp
theorem aEb {k b : Nat} (hb : b <= 64) (h : k * 2 ^ b <= 9223372036854775807) : IntKind.i64.wrap ((k : Int) * 2 ^ (min b IntKind.i64.bits)) = ((k * 2 ^ b : Nat) : Int) := by
 have e : min b IntKind.i64.bits = b := by simp only [IntKind.bits]; omega
 rw [e]
 have : (k : Int) * 2 ^ b = ((k * 2 ^ b : Nat) : Int) := by simp
 rw [this]
 exact aT (by omega) (by omega)
section
variable {log : Nat} {ps S : List Int} {w0 w1 : aJa} {p1 p2 p4 b nb N : Nat} {sv : aJb}
theorem ayP (hm : Sw log ps) (L : Lay log ps S) (hN : 2 ^ log = N) {i : Nat} (hlt : i < N) {w3 : aJa}
 (on3 : cJ w3 nb ((nxt ps S i).map (Value.int .i64))) (ob3 : cJ w3 b (fe .u8 (Es log ps S i)))
 (o13 : cJ w3 p1 [.int .i64 log, sv]) (o43 : cJ w3 p4 [.int .i64 log, .slice (some ⟨b, 0, none⟩) N N])
 (hne : p1 ≠ b /\ p4 ≠ b /\ nb ≠ b /\ p1 ≠ nb /\ p4 ≠ nb) {t2 : aJb} {kn : aJb -> aJb -> aJb -> aJb -> aJb -> aJb -> aJa -> Prop}
 (hk : ∀ w', cJ w' nb ((nxt ps S (i + 1)).map (Value.int .i64)) -> cJ w' b (fe .u8 (Es log ps S (i + 1))) -> aS w3 w' (fun y => y = nb ∨ y = b) →
  kn (.pointer (some ⟨p1, 0, none⟩)) t2 (.pointer (some ⟨p4, 0, none⟩)) (.slice (some ⟨nb, 0, none⟩) ps.length ps.length) (.int .i64 N) (.int .i64 ((i + 1 : Nat) : Int)) w') :
 ID kn (.pointer (some ⟨p1, 0, none⟩)) t2 (.pointer (some ⟨p4, 0, none⟩)) (.slice (some ⟨nb, 0, none⟩) ps.length ps.length) (.int .i64 N) (.int .i64 i) w3 := by
 have h5 := hm.log5
 have h15 := hm.log15
 have hlen := hm.len256
 have hN2 : 2 ^ log <= 2 ^ 15 := aG0 (by omega) h15
 have hSl : S.length = 2 ^ log := L.len
 have c40 := o43.cell (off := 0)
 have c41 := o43.cell (off := 1)
 have c10 := o13.cell (off := 0)
 simp only [aGQ, aGR] at c40 c41 c10
 have hltN : i < 2 ^ log := by omega
 obtain ⟨s, hsl, hsS, hp1, hp2, hk', hcnt⟩ := Xg hm L hltN
 obtain ⟨k, hkk⟩ : ∃ k, k = kAt ps S i := ⟨_, rfl⟩
 rw [<- hkk] at hk'
 have hk2 : k < 2 ^ (log + 1) := by rw [aHf]; omega
 obtain ⟨eb1, eb2, eb3, eb4⟩ := akM (log := log) (k := k) (by omega) hk2
 have hel : i < (Es log ps S i).length := by rw [ET]; exact hltN
 obtain ⟨f0, f1, f2⟩ := adI .u8 (Es log ps S i) i hel
 rw [aCG hltN] at f0
 simp only at f0
 rw [hsS] at f0
 have g0 := ob3.cell (off := i * 3)
 rw [f0] at g0
 have hnx : ((nxt ps S i).map (Value.int .i64))[s]? = some (.int .i64 k) := by
  rw [aHg, aGX (by rw [WS]; exact hsl), asY hsl, hk']
  simp; omega
 have gn := on3.cell (off := s)
 rw [hnx] at gn
 have hkb : k < 131072 := by
  have : 2 ^ (log + 1) <= 2 ^ 16 := aG0 (by omega) (by omega)
  omega
 have hpn := lK (hm.low _ (aG7 hsl))
 have hSi : S[i]'(by omega) = (s : Int) := by rw [<- hsS, aG3, aGX (by omega)] <;> rfl
 have hns := aD1 (ps := ps) (S := S) (i := i) (s := s) (by omega) hsl hSi
 have hkv : cR ps[s] + ((S.take i).count (s : Int) : Nat) + 1 = (k : Int) + 1 := by rw [hk']; omega
 rw [hkv] at hns
 have hent : F2 log ps S i = Da log (s : Int) k := by unfold F2; rw [hsS, <- hkk]
 have hes := aDn (log := log) (ps := ps) (S := S) (i := i) hltN
 rw [hent] at hes
 have hE0 : (Es log ps S i)[i]'hel = ((s : Int), 0, 0) := by rw [aCG hltN, hsS]
 clear hkk hcnt
 unfold ID PE XH Qk
 simp (disch := omega) only [aC, bY, aGP, aA, dS, c41, aI, lP, aGO, rB, fS, mI, g0, dJ, bZ, gn, bM, aT]
 refine sH on3 rfl (by simp [WS]; omega) fun w4 on4 x4 s4 => ?_
 rw [<- aIq, hns] at on4
 unfold Qi Qh
 have o14 := dO (o13.ext x4 (by omega))
 have o44 := o43.ext x4 (by omega)
 have ob4 := ob3.ext x4 (by omega)
 have c10 := o14.cell (off := 0)
 simp only [aGQ] at c10
 simp (disch := omega) only [aC, dK, lD, hJ, eC, Result.ok.injEq, Next.value.injEq, and_true, rB, aA, jT, true_and, bZ, c10, aI]
 refine (aCy k (by omega) _).mono ?_
 rintro r w5 ⟨rfl, rfl⟩
 obtain ⟨nbits, hnbits⟩ : ∃ x, x = log + 1 - bl k := ⟨_, rfl⟩
 have e2 : (log : Int) - (bl k : Int) + 1 = (nbits : Int) := by omega
 have e3 : IntKind.i64.wrap ((log : Int) - (bl k : Int)) = (log : Int) - (bl k : Int) := aT (by omega) (by omega)
 simp (disch := omega) only [c10, aI, dZ, e3, aA, bM, e2, aT, true_and]
 have ob4 := dO ob4
 refine sH ob4 rfl (by rw [kR, ET]; omega) fun w5 ob5 x5 s5 => ?_
 rw [(adZ .u8 (Es log ps S i) i hel _).2.1, hE0] at ob5
 unfold IJ
 have o45 := dO ((dO o44).ext x5 (by omega))
 have ob5 := dO ob5
 have on5 := dO ((dO on4).ext x5 (by omega))
 have c41 := o45.cell (off := 1)
 simp only [aGQ, aGR] at c41
 have hel5 : i < ((Es log ps S i).set i ((s : Int), (nbits : Int), 0)).length := by simpa using hel
 obtain ⟨-, f1, -⟩ := adI .u8 _ i hel5
 simp only [aIH] at f1
 have g1 := ob5.cell (off := i * 3 + 1)
 rw [f1] at g1
 have hnb2 : k * 2 ^ nbits <= 2 ^ 16 := by
  rw [hnbits]
  have : 2 ^ (log + 1) <= 2 ^ 16 := aG0 (by omega) (by omega)
  have := aHt (2 ^ (log + 1 - bl k)) (show k <= k + 1 by omega)
  omega
 have e4 := aEb (k := k) (b := nbits) (by omega) (by omega)
 have e5 : (((k * 2 ^ nbits : Nat) : Int) - (N : Int)) = (Da log (s : Int) k).2.2 := by
  unfold Da
  simp only
  rw [<- hnbits, <- hN]
  simp
 have e6 : IntKind.i64.wrap (((k * 2 ^ nbits : Nat) : Int) - (N : Int)) = ((k * 2 ^ nbits : Nat) : Int) - (N : Int) := aT (by omega) (by omega)
 rw [e5] at e6
 have e7 : (Da log (s : Int) k) = ((s : Int), (nbits : Int), (Da log (s : Int) k).2.2) := by unfold Da; rw [hnbits]
 generalize hq : k * 2 ^ nbits = q at *
 generalize hbase : (Da log (s : Int) k).2.2 = base at *
 simp (disch := omega) only [aC, rB, bY, aGP, aA, lF, true_and, dS, c41, aI, hY, jT, bZ, g1, mE, aGO, e4, dZ, e5, e6]
 refine sH ob5 rfl (by rw [kR]; simp [ET]; omega) fun w6 ob6 x6 s6 => ?_
 rw [(adZ .u8 _ i hel5 _).2.2] at ob6
 simp only [aIH, List.set_set] at ob6
 rw [<- e7, hes] at ob6
 have xx : aS w3 w6 (fun y => y = nb ∨ y = b) :=
  ((((x4.mono fun _ _ h => .inl h : aS w3 w4 (fun y => y = nb ∨ y = b)).seq (aS.dr _ _)).seq (x5.mono fun _ _ h => .inr h)).seq (aS.dr _ _)).seq (x6.mono fun _ _ h => .inr h)
 unfold IN
 simp (disch := omega) only [aC, bM, aT, aA]
 exact hk _ (on5.ext x6 (by omega)) ob6 xx
theorem aBC (hm : Sw log ps) (L : Lay log ps S) (hN : 2 ^ log = N) {w3 : aJa}
 (on3 : cJ w3 nb ((nxt ps S 0).map (Value.int .i64))) (ob3 : cJ w3 b (fe .u8 (m3 S)))
 (o13 : cJ w3 p1 [.int .i64 log, sv]) (o23 : cJ w3 p2 [.int .i64 0, .slice none 0 0]) (o43 : cJ w3 p4 [.int .i64 log, .slice (some ⟨b, 0, none⟩) N N])
 (hne : p1 ≠ b /\ p4 ≠ b /\ nb ≠ b /\ p1 ≠ nb /\ p4 ≠ nb /\ p2 ≠ b /\ p2 ≠ nb) (hlo : w0.heap.size <= p2 /\ w0.heap.size <= b /\ w0.heap.size <= nb) (hx : aS w0 w3 cM) {R : aJb -> aJa -> Prop}
 (hR : ∀ w', cJ w' b (fe .u8 (Es log ps S N)) -> aS w0 w' cM -> R (.tuple #[.agg #[.int .i64 log, .slice (some ⟨b, 0, none⟩) N N], .int .i64 0]) w') :
 Fl R (.pointer (some ⟨p1, 0, none⟩)) (.pointer (some ⟨p2, 0, none⟩)) (.pointer (some ⟨p4, 0, none⟩)) (.slice (some ⟨nb, 0, none⟩) ps.length ps.length) w3 := by
 have hN2 : 2 ^ log <= 2 ^ 15 := aG0 (by omega) hm.log15
 have c41 := o43.cell (off := 1)
 simp only [aGQ, aGR] at c41
 unfold Fl M7 Mo NY Mj
 simp (disch := omega) only [aC, bY, aGP, aA, dS, c41, aI, hY]
 have ob0 : cJ w3 b (fe .u8 (Es log ps S 0)) := by rw [azS L.len]; exact ob3
 refine cG.rule (fun m t w' => ∃ i : Nat, m = N - i /\ t = .int .i64 i /\ i <= N /\ cJ w' nb ((nxt ps S i).map (Value.int .i64)) /\ cJ w' b (fe .u8 (Es log ps S i)) /\ aS w3 w' (fun y => y = nb ∨ y = b)) N
  ⟨0, rfl, rfl, by omega, on3, ob0, aS.refl _ _⟩ ?_
 rintro m t w4 ⟨i, rfl, rfl, hi, on4, ob4, x4⟩
 unfold Fk MF
 have o44 := o43.ext x4 (by omega)
 have o24 := o23.ext x4 (by omega)
 by_cases hlt : i < N
 .have d1 : decide ((i : Int) < (N : Int)) = true := by simp only [decide_eq_true_eq]; omega
  simp (disch := omega) only [aC, aX, d1, aA, aF]
  refine ayP hm L hN hlt on4 ob4 (o13.ext x4 (by omega)) o44 ⟨hne.1, hne.2.1, hne.2.2.1, hne.2.2.2.1, hne.2.2.2.2.1⟩ fun w5 on5 ob5 x5 => ?_
  exact ⟨N - (i + 1), by omega, i + 1, rfl, rfl, by omega, on5, ob5, x4.trans x5 (fun _ _ h => h)⟩
 .have d1 : decide ((i : Int) < (N : Int)) = false := by simp only [decide_eq_false_iff_not]; omega
  have : i = N := by omega
  subst this
  have l4 := gI (off := 0) o44 (by simp)
  simp only [aGT, aGN, aGV] at l4
  simp (disch := omega) only [aC, aX, d1, aA, aE]
  unfold Is
  simp (disch := omega) only [aC, l4, aA]
  refine eI o24 rfl (by simp [one]) (by simp) fun w5 o25 x5 s5 => ?_
  refine pR o25 (by simp [aV]) ?_
  simp only [aV, aGS, aGU, aGT, aGN, aGV]
  exact hR _ (ob4.ext x5 (by omega)) ((hx.trans x4 (fun y hy hh => by omega)).new x5 hlo.1)
theorem axB (hm : Sw log ps) (L : Lay log ps S) (hN : 2 ^ log = N) {w : aJa} (hs : Sl w0 sv (ps.map (Value.int .i64)))
 (o1 : cJ w p1 [.int .i64 log, sv]) (o2 : cJ w p2 [.int .i64 0, .slice none 0 0]) (o4 : cJ w p4 [.int .i64 log, .slice (some ⟨b, 0, none⟩) N N]) (ob : cJ w b (fe .u8 (m3 S)))
 (hlo : w0.heap.size <= p2 /\ w0.heap.size <= b) (hne : p1 ≠ b /\ p2 ≠ b /\ p4 ≠ b) (hx : aS w0 w cM) {R : aJb -> aJa -> Prop}
 (hR : ∀ w', cJ w' b (fe .u8 (Es log ps S N)) -> aS w0 w' cM -> R (.tuple #[.agg #[.int .i64 log, .slice (some ⟨b, 0, none⟩) N N], .int .i64 0]) w') :
 AI R (.pointer (some ⟨p1, 0, none⟩)) (.pointer (some ⟨p2, 0, none⟩)) (.pointer (some ⟨p4, 0, none⟩)) w := by
 have hlen := hm.len256
 have hN2 : 2 ^ log <= 2 ^ 15 := aG0 (by omega) hm.log15
 obtain ⟨a, c, rfl, hc⟩ := hs.lenI
 have c1 := o1.cell (off := 1)
 simp only [aGQ, aGR] at c1
 unfold AI Nj
 simp (disch := omega) only [aC, bK, aGP, aA, cL, c1, aI, eA]
 refine aqH (by omega) (by omega) fun w1 on x1 s1 => ?_
 rw [aGO] at on ⊢
 have l1 := o1.lt
 have l2 := o2.lt
 have l4 := o4.lt
 have lb := ob.lt
 have o1 := o1.ext x1 (fun h => h)
 have o2 := o2.ext x1 (fun h => h)
 have o4 := o4.ext x1 (fun h => h)
 have ob := ob.ext x1 (fun h => h)
 have x01 := hx.seq x1
 have c1 := o1.cell (off := 1)
 simp only [aGQ, aGR] at c1
 have hwn : w0.heap.size <= w.heap.size := hx.size
 generalize w.heap.size = nb at *
 unfold Nk NW Oe NL Nu
 simp (disch := omega) only [aC, bK, aGP, aA, cL, c1, aI, eA]
 refine cG.rule (fun m t w' => ∃ i : Nat, m = ps.length - i /\ t = .int .i64 i /\ i <= ps.length /\ cJ w' nb (((ps.take i).map cR ++ List.replicate (ps.length - i) 0).map (Value.int .i64)) /\ aS w0 w' cM /\ aS w1 w' (fun y => y = nb)) ps.length
  ⟨0, rfl, rfl, by omega, by simpa using on, x01, aS.refl _ _⟩ ?_
 rintro m t w2 ⟨i, rfl, rfl, hi, on2, x2, y2⟩
 by_cases hlt : i < ps.length
 .have d1 : decide ((i : Int) < (ps.length : Int)) = true := by simp; omega
  obtain ⟨b', off', c', e, _, hcell⟩ := (hs.ext x2 (cD _)).openI (by omega)
  cases e
  have g1 := hcell i hlt
  have hp := hm.low _ (aG7 hlt)
  have hple := VX hm hlt
  have hpv : cR ps[i] = ps[i] ∨ ps[i] = -1 := by unfold cR; split <;> omega
  have hpn := lK hp
  have emax : (if (0 - ps[i]) > ps[i] then (0 - ps[i]) else ps[i]) = cR ps[i] := by unfold cR; split <;> split <;> omega
  unfold AG
  simp (disch := omega) only [aC, aX, d1, dJ, aGO, aGP, bM, aT, aA, bZ, g1, aI, aCK, amS, emax, aF]
  refine sH on2 rfl (by simp; omega) fun w3 on3 x3 s3 => ?_
  refine ⟨ps.length - (i + 1), by omega, i + 1, rfl, rfl, by omega, ?_, x2.new x3 hwn, y2.trans x3 (fun _ _ h => h)⟩
  rw [<- aIq] at on3
  have e : ((ps.take i).map cR ++ List.replicate (ps.length - i) 0).set i (cR ps[i]) = (ps.take (i + 1)).map cR ++ List.replicate (ps.length - (i + 1)) 0 := by
   rw [show ps.length - i = (ps.length - (i + 1)) + 1 from by omega, aHO, aIr _ _ (by rw [aG1, aG4]; omega)]
   have : i - ((ps.take i).map cR).length = 0 := by rw [aG1, aG4]; omega
   rw [this, aGS, aHA, aGX hlt, aHw, aG2]
   rfl
  rw [e] at on3
  exact on3
 .have d1 : decide ((i : Int) < (ps.length : Int)) = false := by simp; omega
  have : i = ps.length := by omega
  subst this
  have on2 : cJ w2 nb ((nxt ps S 0).map (Value.int .i64)) := by rw [aCo]; simpa using on2
  unfold AG
  simp (disch := omega) only [aC, aX, d1, bM, aT, aA, aE]
  exact aBC hm L hN on2 (ob.ext y2 (by omega)) (o1.ext y2 (by omega)) (o2.ext y2 (by omega)) (o4.ext y2 (by omega)) (by omega) (by omega) x2 hR
def Tbl (w : aJa) (base b log : Nat) (L : List T3) (v : aJb) : Prop := v = .agg #[.int .i64 log, .slice (some ⟨b, 0, none⟩) L.length L.length] /\ base <= b /\ cJ w b (fe .u8 L)
theorem aAk {log most : Nat} {ps : List Int} (h : Sw log ps) (hl : log <= most) : atN log ps most = 0 := by
 unfold atN; rw [h.b]; simp; omega
theorem akF {w : aJa} (hm : Sw log ps) (hs : Sl w sv (ps.map (Value.int .i64))) :
 aR pg rZ #[.agg #[.int .i64 log, sv]] w (fun r w' => ∃ b v, r = .tuple #[v, .int .i64 0] /\ Tbl w' w.heap.size b log (jY log ps) v /\ aS w w' cM) := by
 refine Ub ?_
 have hlen := hm.len256
 unfold adK Fu FX
 refine fY fun w1 o1 x1 s1 => ?_
 refine iK fun w2 o2 x2 s2 => ?_
 have o1 := o1.ext x2 (fun h => h)
 have l1 := gG (off := 0) o1 (by simp [Value.cells])
 simp only [Value.cells, aGT, aGN, aGV] at l1
 simp (disch := omega) only [aC, l1, fF, aA, dK, eC, Result.ok.injEq, Next.value.injEq, and_true, bZ, true_and]
 refine (aAe (most := 15) ((hs.ext x1 (cD _)).ext x2 (cD _)) (by omega)).mono ?_
 rintro r w3 ⟨rfl, x3⟩
 have hce := aAk (most := 15) hm hm.log15
 rw [show (((15 : Nat) : Int)) = 15 from rfl] at hce
 rw [hce]
 have e0 : ((0 : Int) != 0) = false := rfl
 have x03 : aS w w3 cM := (x1.seq x2).seq x3
 have o1 := dO (o1.ext x3 (fun h => h))
 have o2 := dO (o2.ext x3 (fun h => h))
 have c0 := o1.cell (off := 0)
 simp only [Value.cells, aGQ] at c0
 have l1 := gG (off := 0) o1 (by simp [Value.cells])
 simp only [Value.cells, aGT, aGN, aGV] at l1
 have hz2 := o2.lt
 have fin : ∀ {b p4 : Nat} {w' : aJa}, cJ w' w.heap.size [.int .i64 log, sv] -> cJ w' w1.heap.size [.int .i64 0, .slice none 0 0] -> cJ w' p4 [.int .i64 log, .slice (some ⟨b, 0, none⟩) (2 ^ log) (2 ^ log)] -> cJ w' b (fe .u8 (m3 (gD 0 log ps))) -> w2.heap.size <= b -> p4 ≠ b -> aS w w' cM →
     AI (fun r w' => ∃ b v, r = .tuple #[v, .int .i64 0] /\ Tbl w' w.heap.size b log (jY log ps) v /\ aS w w' cM) (.pointer (some ⟨w.heap.size, 0, none⟩)) (.pointer (some ⟨w1.heap.size, 0, none⟩)) (.pointer (some ⟨p4, 0, none⟩)) w' := by
  intro b p4 w' h1 h2 h3 h4 h5 h6 h7
  refine axB hm (uY hm 0) rfl hs h1 h2 h3 h4 (by omega) (by omega) h7 fun w'' ho hx => ?_
  rw [aCM] at ho
  exact ⟨b, _, rfl, ⟨by rw [iW], by omega, ho⟩, hx⟩
 simp (disch := omega) only [eT, e0, aA, aE]
 have hdr : (dr w3).heap.size = w3.heap.size := rfl
 have h23 := x3.size
 refine Ld ?_ ?_
 .simp (disch := omega) only [c0, aI, l1, aA, true_and]
  refine (avU hm ((hs.ext x03 (cD _)).dr)).mono ?_
  rintro r w4 ⟨b, rfl, hb, ob, x4⟩
  have o1 := o1.ext x4 (fun h => h)
  have c0 := o1.cell (off := 0)
  simp only [Value.cells, aGQ] at c0
  simp (disch := omega) only [c0, aI, zL, Result.ok.injEq, Next.value.injEq, and_true, aA, true_and]
  refine iK fun w5 o5 x5 s5 => ?_
  have o1 := o1.ext x5 (fun h => h)
  have c0 := o1.cell (off := 0)
  simp only [Value.cells, aGQ] at c0
  simp (disch := omega) only [c0, aI, true_and]
  have hlb := ob.lt
  refine eI o5 rfl (by simp [one]) (by simp) fun w6 o6 x6 s6 => ?_
  have h45 := x4.size
  refine fin (o1.ext x6 (by omega)) (((o2.ext x4 (fun h => h)).ext x5 (fun h => h)).ext x6 (by omega)) o6 ((ob.ext x5 (fun h => h)).ext x6 (by omega)) (by omega) (by omega) ?_
  exact (((x03.seq (aS.dr _ _)).seq x4).seq x5).new x6 (by omega)
 .simp (disch := omega) only [c0, aI, l1, aA, true_and]
  refine iK fun w4 o4 x4 s4 => ?_
  have o1 := o1.ext x4 (fun h => h)
  have c0 := o1.cell (off := 0)
  simp only [Value.cells, aGQ] at c0
  have l1 := gG (off := 0) o1 (by simp [Value.cells])
  simp only [Value.cells, aGT, aGN, aGV] at l1
  simp (disch := omega) only [l1, c0, aI, and_true, true_and]
  refine (avU hm ((((hs.ext x03 (cD _)).dr).ext x4 (cD _)))).mono ?_
  rintro r w5 ⟨b, rfl, hb, ob, x5⟩
  have o1 := o1.ext x5 (fun h => h)
  have c0 := o1.cell (off := 0)
  simp only [Value.cells, aGQ] at c0
  simp (disch := omega) only [c0, aI, zL, aA, true_and]
  refine eI (o4.ext x5 (fun h => h)) rfl (by simp [one]) (by simp) fun w6 o6 x6 s6 => ?_
  refine fin (o1.ext x6 (by omega)) (((o2.ext x4 (fun h => h)).ext x5 (fun h => h)).ext x6 (by omega)) o6 (ob.ext x6 (by omega)) (by omega) (by omega) ?_
  exact (((x03.seq (aS.dr _ _)).seq x4).seq x5).new x6 (by omega)
theorem aAY {log : Int} {w : aJa} (hm : Tx log ps = false) (hs : Sl w sv (ps.map (Value.int .i64))) (hl : ps.length <= 9223372036854775807) :
 aR pg rZ #[.agg #[.int .i64 log, sv]] w (fun r w' => r = .tuple #[.agg #[.int .i64 0, .slice none 0 0], .int .i64 1] /\ aS w w' cM) := by
 refine Ub ?_
 unfold adK Fu FX
 refine fY fun w1 o1 x1 s1 => ?_
 refine iK fun w2 o2 x2 s2 => ?_
 have o1 := o1.ext x2 (fun h => h)
 have l1 := gG (off := 0) o1 (by simp [Value.cells])
 simp only [Value.cells, aGT, aGN, aGV] at l1
 simp (disch := omega) only [aC, l1, fF, aA, dK, eC, Result.ok.injEq, Next.value.injEq, and_true, bZ, true_and]
 refine (aAe (most := 15) ((hs.ext x1 (cD _)).ext x2 (cD _)) (by omega)).mono ?_
 rintro r w3 ⟨rfl, x3⟩
 have hce : atN log ps 15 = 1 := by unfold atN; rw [hm] <;> rfl
 rw [hce]
 have e0 : ((1 : Int) != 0) = true := rfl
 simp (disch := omega) only [eT, e0, aA, aF]
 refine eI (o2.ext x3 (fun h => h)) rfl (by simp [one]) (by simp) fun w6 o6 x6 s6 => ?_
 refine pR o6 (by simp [aV]) ⟨rfl, ?_⟩
 exact ((x1.seq x2).seq x3).new x6 (by omega)
end
end Go.Proofs.YtaggdjhhmbnhoaaDoor
namespace Go.Pu
def inE (sym s : Int) (e : Int × Int × Int) : Bool := decide (e.1 = sym /\ e.2.2 <= s /\ s < e.2.2 + 2 ^ e.2.1.toNat)
theorem aE0 {log x j : Nat} (h1 : 2 ^ log <= x) (h2 : x < 2 ^ (log + 1)) (hj : j <= log) : bl (x / 2 ^ j) = log + 1 - j := by
 have hp := aHp j
 have a : 2 ^ (log - j) <= x / 2 ^ j := by
  rw [aII hp, <- aID]
  rw [show log - j + j = log from by omega]; exact h1
 have b : x / 2 ^ j < 2 ^ (log - j + 1) := by
  rw [aIi hp, <- aID]
  rw [show log - j + 1 + j = log + 1 from by omega]; exact h2
 rw [aBY a b]; omega
theorem aF7 {log x k : Nat} (h1 : 2 ^ log <= x) (h2 : x < 2 ^ (log + 1)) (hk1 : 1 <= k) (hk2 : k < 2 ^ (log + 1)) :
 (k * 2 ^ (log + 1 - bl k) <= x /\ x < (k + 1) * 2 ^ (log + 1 - bl k)) ↔ ∃ j, j <= log /\ x / 2 ^ j = k := by
 have hb1 := GS (k := k) (by omega)
 have hb2 := qT hk2
 constructor
 .rintro ⟨a, b⟩
  refine ⟨log + 1 - bl k, by omega, ?_⟩
  have hp := aHp (log + 1 - bl k)
  apply Nat.le_antisymm
  .have := (aIi hp).2 b; omega
  .exact (aII hp).2 a
 .rintro ⟨j, hj, rfl⟩
  rw [aE0 h1 h2 hj, show log + 1 - (log + 1 - j) = j from by omega]
  have hp := aHp j
  exact ⟨aIN _ _, by rw [aHU]; exact Nat.lt_mul_div_succ x hp⟩
theorem aGs {log x q : Nat} (h1 : 2 ^ log <= x) (h2 : x < 2 ^ (log + 1)) (hq1 : 1 <= q) (hq2 : q <= 2 ^ log) : ∃ j, j <= log /\ q <= x / 2 ^ j /\ x / 2 ^ j < 2 * q := by
 have key : ∀ j, j <= log -> x / 2 ^ j < 2 * q -> ∃ j, j <= log /\ q <= x / 2 ^ j /\ x / 2 ^ j < 2 * q := by
  intro j
  induction j with
  | zero =>
    intro _ h
    refine ⟨0, by omega, ?_, h⟩
    rw [Nat.pow_zero, Nat.div_one]; omega
  | succ j ih =>
    intro hj h
    by_cases hx : x / 2 ^ j < 2 * q
    .exact ih (by omega) hx
    .refine ⟨j + 1, hj, ?_, h⟩
     rw [aHf, <- aIE]
     omega
 refine key log (aGZ _) ?_
 have : x / 2 ^ log < 2 := by
  rw [aIi (aHp _), aHU, <- aHf]; exact h2
 omega
theorem aFL {x q i j : Nat} (hi1 : q <= x / 2 ^ i) (hi2 : x / 2 ^ i < 2 * q) (hj1 : q <= x / 2 ^ j) (hj2 : x / 2 ^ j < 2 * q) : x / 2 ^ i = x / 2 ^ j := by
 have half : ∀ {a b : Nat}, a < b -> x / 2 ^ b <= x / 2 ^ a / 2 := by
  intro a b h
  rw [aIE, <- aHf]
  exact Nat.div_le_div_left (aG0 (by omega) h) (aHp _)
 rcases aIm i j with h | h | h
 .have := half h; omega
 .rw [h]
 .have := half h; omega
theorem aEi {S : List Int} {v : Int} : ∀ (n c : Nat), c < (S.take n).count v -> ∃ i, ∃ h : i < S.length, i < n /\ S[i] = v /\ (S.take i).count v = c := by
 intro n
 induction n with
 | zero => intro c h; simp at h
 | succ n ih =>
   intro c h
   by_cases hn : n < S.length
   .rw [aHA, aGX hn, aHX] at h
    simp only [Option.toList, aIv] at h
    by_cases hc : c < (S.take n).count v
    .obtain ⟨i, h1, h2, h3, h4⟩ := ih c hc
     exact ⟨i, h1, by omega, h3, h4⟩
    .by_cases hv : S[n] = v
     .have : (S[n] == v) = true := by simpa using hv
      rw [this] at h
      simp only [if_true] at h
      exact ⟨n, hn, by omega, hv, by omega⟩
     .have : (S[n] == v) = false := by simpa using hv
      rw [this] at h
      simp at h; omega
   .rw [aHk (by omega)] at h
    have := ih c (by rw [aHk (by omega)]; exact h)
    obtain ⟨i, h1, h2, h3, h4⟩ := this
    exact ⟨i, h1, by omega, h3, h4⟩
theorem aCa {S : List Int} {v : Int} {i j : Nat} (hi : i < S.length) (hv : S[i] = v) (hij : i < j) : (S.take i).count v < (S.take j).count v := by
 obtain ⟨d, rfl⟩ : ∃ d, j = i + 1 + d := ⟨j - (i + 1), by omega⟩
 rw [List.take_add, aHX, aHA, aGX hi, aHX]
 simp only [Option.toList, aIv]
 have : (S[i] == v) = true := by simpa using hv
 rw [this]; simp; omega
theorem acX {log : Nat} {ps : List Int} {i : Nat} (h : i < 2 ^ log) : (jY log ps)[i]? = some (F2 log ps (gD 0 log ps) i) := by
 unfold jY
 rw [aHg, List.getElem?_range h] <;> rfl
theorem aAC {log : Nat} {ps : List Int} (hm : Sw log ps) {sy i s : Nat} (hsy : sy < ps.length) (hi : i < 2 ^ log) (hs : s < 2 ^ log) :
 inE (sy : Int) s (F2 log ps (gD 0 log ps) i) = true ↔
  ((gD 0 log ps).getD i 0 = (sy : Int) /\ ∃ j, j <= log /\ (s + 2 ^ log) / 2 ^ j = (cR ps[sy]).toNat + ((gD 0 log ps).take i).count (sy : Int)) := by
 have L := uY hm 0
 obtain ⟨s', hs', hg, hp1, hp2, hk, hc⟩ := Xg hm L hi
 generalize hS : gD 0 log ps = S at *
 obtain ⟨k, hkk⟩ : ∃ k, k = kAt ps S i := ⟨_, rfl⟩
 rw [<- hkk] at hk
 have hk2 : k < 2 ^ (log + 1) := by rw [aHf]; omega
 obtain ⟨e1, e2, e3, e4⟩ := akM (log := log) (k := k) (by omega) hk2
 unfold inE F2 Da
 rw [hg, <- hkk]
 simp only [decide_eq_true_eq, aGO]
 have hpow : ((2 ^ log : Nat) : Int) = (2 : Int) ^ log := by simp
 have hpow2 : ((2 ^ (log + 1 - bl k) : Nat) : Int) = (2 : Int) ^ (log + 1 - bl k) := by simp
 rw [<- hpow, <- hpow2]
 have hx1 : 2 ^ log <= s + 2 ^ log := by omega
 have hx2 : s + 2 ^ log < 2 ^ (log + 1) := by rw [aHf]; omega
 have hki := aF7 hx1 hx2 (k := k) (by omega) hk2
 constructor
 .rintro ⟨a, b, c⟩
  have hss : s' = sy := by omega
  subst hss
  refine ⟨rfl, ?_⟩
  rw [<- hk]
  refine hki.1 ⟨by omega, ?_⟩
  rw [aIT]; omega
 .rintro ⟨a, j, hj, hje⟩
  have hss : s' = sy := by omega
  subst hss
  rw [<- hk] at hje
  obtain ⟨b, c⟩ := hki.2 ⟨j, hj, hje⟩
  rw [aIT] at c
  exact ⟨rfl, by omega, by omega⟩
theorem aEk {log : Nat} {ps : List Int} (hm : Sw log ps) {sy s : Nat} (hsy : sy < ps.length) (hp : ps[sy] ≠ 0) (hs : s < 2 ^ log) :
 ∃ i, ∃ hi : i < 2 ^ log, inE (sy : Int) s (F2 log ps (gD 0 log ps) i) = true /\ ∀ j, j < 2 ^ log -> inE (sy : Int) s (F2 log ps (gD 0 log ps) j) = true -> j = i := by
 have L := uY hm 0
 have hl := hm.low _ (aG7 hsy)
 have hq1 : 1 <= (cR ps[sy]).toNat := by unfold cR; split <;> omega
 have hq2 := VX hm hsy
 have hcnt := L.cnt sy hsy
 obtain ⟨j, hj, a, b⟩ := aGs (log := log) (x := s + 2 ^ log) (q := (cR ps[sy]).toNat) (by omega) (by rw [aHf]; omega) hq1 hq2
 have hfind := aEi (S := gD 0 log ps) (v := (sy : Int)) (2 ^ log) ((s + 2 ^ log) / 2 ^ j - (cR ps[sy]).toNat) (by
  rw [aHk (by rw [L.len]; exact aGZ _), hcnt]; omega)
 obtain ⟨i, h1, h2, h3, h4⟩ := hfind
 have hgd : ∀ {i} (h : i < (gD 0 log ps).length), (gD 0 log ps).getD i 0 = (gD 0 log ps)[i] := fun h => by rw [aG3, aGX h] <;> rfl
 refine ⟨i, h2, (aAC hm hsy h2 hs).2 ⟨by rw [hgd h1, h3], j, hj, by rw [h4]; omega⟩, fun i' hi' h => ?_⟩
 obtain ⟨g, j', hj', e⟩ := (aAC hm hsy hi' hs).1 h
 have hi'l : i' < (gD 0 log ps).length := by rw [L.len]; exact hi'
 rw [hgd hi'l] at g
 have hclt := Vn hi'l
 rw [g, hcnt] at hclt
 have := aFL (x := s + 2 ^ log) (q := (cR ps[sy]).toNat) (i := j) (j := j') a b (by omega) (by omega)
 have hceq : ((gD 0 log ps).take i').count (sy : Int) = ((gD 0 log ps).take i).count (sy : Int) := by omega
 rcases aIm i' i with h | h | h
 .have := aCa hi'l g h; omega
 .exact h
 .have := aCa h1 h3 h; omega
end Go.Pu
namespace Go.Proofs.YtaggdjhhmbnhoaaDoor
open Go Go.En Go.Pu
set_option maxRecDepth 4000
theorem Tbl.ext {w w' : aJa} {base b log : Nat} {L : List T3} {v : aJb} {M : Nat -> Prop} (h : Tbl w base b log L v) (hx : aS w w' M) (hM : ¬ M b) : Tbl w' base b log L v := ⟨h.1, h.2.1, h.2.2.ext hx hM⟩
theorem arI {k : IntKind} {L : List T3} {i : Nat} (h : i < L.length) : ((fe k L).drop (i * 3)).take 3 = [.int k L[i].1, .int .i64 L[i].2.1, .int .i64 L[i].2.2] := by
 obtain ⟨h0, h1, h2⟩ := adI k L i h
 apply aIY
 intro j
 match j with
 | 0 => rw [aHr (by omega), aIa]; exact h0
 | 1 => rw [aHr (by omega), aIa]; exact h1
 | 2 => rw [aHr (by omega), aIa]; exact h2
 | j + 3 => rw [aHa (by rw [aG4]; omega), aHa (by simp)]
theorem Wt (log : Nat) (ps : List Int) {i : Nat} (h : i < 2 ^ log) : ((jY log ps)[i]'(by rw [iW]; exact h)).1 = (gD 0 log ps).getD i 0 := by
 unfold jY F2 Da; simp
theorem aoF {log : Nat} {ps : List Int} (hm : Sw log ps) {s : Nat} (hs : s < ps.length) (hp : ps[s] ≠ 0) : ∃ i, ∃ h : i < (jY log ps).length, ((jY log ps)[i]'h).1 = (s : Int) := by
 have L := uY hm 0
 have hc := L.cnt s hs
 have hl := hm.low _ (aG7 hs)
 have hpos : 0 < (gD 0 log ps).count (s : Int) := by rw [hc]; unfold cR; split <;> omega
 obtain ⟨i, hi, e⟩ := aHl (List.count_pos_iff.1 hpos)
 have hi2 : i < 2 ^ log := by rw [<- L.len]; exact hi
 refine ⟨i, by rw [iW]; exact hi2, ?_⟩
 rw [Wt log ps hi2, aG3, aGX hi, e] <;> rfl
def cn (S : List Int) (i : Nat) : List Int := (List.range 256).map fun (s : Nat) => (((S.take i).count (s : Int) : Nat) : Int)
theorem adR (S : List Int) (i : Nat) : (cn S i).length = 256 := by simp [cn]
theorem aDN (S : List Int) : cn S 0 = List.replicate 256 0 := by
 unfold cn
 apply aHN
 .simp
 .intro i h1 h2
  simp only [aHs, aHJ, aGV, List.count_nil, aI0]; rfl
theorem axQ {S : List Int} {i s : Nat} (h : s < 256) : (cn S i)[s]'(by rw [adR]; exact h) = (((S.take i).count (s : Int) : Nat) : Int) := by simp [cn]
theorem aE1 {S : List Int} {i s : Nat} (hi : i < S.length) (hs : s < 256) (e : S[i] = (s : Int)) : (cn S i).set s ((((S.take i).count (s : Int) : Nat) : Int) + 1) = cn S (i + 1) := by
 apply aHN
 .simp [cn]
 .intro j h1 h2
  have hj : j < 256 := by simpa [cn] using h2
  rw [aIL, axQ hj, axQ hj, aHA, aGX hi, aHX]
  simp only [Option.toList, e, aIv]
  by_cases hij : s = j
  .subst hij; simp
  .have : ((s : Int) == (j : Int)) = false := by simp; omega
   rw [if_neg hij, this]; simp
theorem PL {k : IntKind} {L : List T3} {i : Nat} {e : T3} (h : L[i]? = some e) : (fe k L)[i * 3]? = some (.int k e.1) /\ (fe k L)[i * 3 + 1]? = some (.int .i64 e.2.1) /\ (fe k L)[i * 3 + 2]? = some (.int .i64 e.2.2) := by
 have hi : i < L.length := by
  rcases aHd i L.length with h' | h'
  .exact h'
  .rw [aHa h'] at h; cases h
 rw [aGX hi] at h
 have := adI k L i hi
 rw [aG8 h] at this
 exact this
def Low (L : List T3) : Prop := ∀ e ∈ L, ∃ n : Nat, e.2.1 = (n : Int) /\ n <= 20 /\ 0 <= e.2.2 /\ e.2.2 <= 100000
theorem azE {log : Nat} {ps : List Int} (hm : Sw log ps) : Low (jY log ps) := by
 intro e he
 obtain ⟨i, hi', rfl⟩ := aHl he
 have hi := hi'
 rw [iW] at hi
 have hat := acX (ps := ps) hi
 rw [aGX hi'] at hat
 rw [aG8 hat]
 have L := uY hm 0
 obtain ⟨s, hs, hg, hp1, hp2, hk, hc⟩ := Xg hm L hi
 have hk2 : kAt ps (gD 0 log ps) i < 2 ^ (log + 1) := by rw [aHf]; omega
 obtain ⟨e1, e2, e3, e4⟩ := akM (log := log) (k := kAt ps (gD 0 log ps) i) (by omega) hk2
 have h15 := hm.log15
 have hb : 2 ^ (log + 1) <= 2 ^ 16 := aG0 (by omega) (by omega)
 have hpow : ((2 ^ log : Nat) : Int) = (2 : Int) ^ log := by simp
 unfold F2 Da
 rw [<- hpow]
 rw [aIT] at e2
 have hA := aHS (aHS (Nat.le_add_right _ _) e2) hb
 generalize hX : kAt ps (gD 0 log ps) i * 2 ^ (log + 1 - bl (kAt ps (gD 0 log ps) i)) = X at *
 refine ⟨_, rfl, by omega, ?_, ?_⟩
 .show (0 : Int) <= (X : Int) - ((2 ^ log : Nat) : Int)
  omega
 .show (X : Int) - ((2 ^ log : Nat) : Int) <= 100000
  omega
theorem aAc (s : Int) (w : aJa) : aR pg EG #[.int .u8 s] w (fun r w' => ∃ b, Tbl w' w.heap.size b 0 [(s, 0, 0)] r /\ aS w w' cM) := by
 refine arX ?_
 unfold azX VU
 refine iK fun w1 o1 x1 s1 => ?_
 simp (disch := omega) only [aC, KZ, aA]
 refine ahK (cells := #[.int .u8 s, .int .i64 0, .int .i64 0]) (by decide) (by decide) (by kernel_rfl) fun w2 o2 x2 s2 => ?_
 simp (disch := omega) only [Ju, aA]
 have l1 := o1.lt
 refine eI (o1.ext x2 (fun h => h)) rfl (by simp [one]) (by simp) fun w3 o3 x3 s3 => ?_
 refine pR o3 (by simp [aV]) ?_
 simp only [aV, aGS, aGU, aGT, aGN, aGV]
 exact ⟨w1.heap.size, ⟨rfl, by omega, o2.ext x3 (by omega)⟩, (x1.seq x2).new x3 (aGZ _)⟩
abbrev aoV (w : aJa) (g : Nat) (zs : List Int) : Prop := ∀ i (h : i < zs.length), w.cell? ⟨g, i, none⟩ = some (.int .i64 zs[i])
theorem aoV.ext {w w' : aJa} {g : Nat} {zs : List Int} {M : Nat -> Prop} (h : aoV w g zs) (x : aS w w' M) (hM : ¬ M g) : aoV w' g zs := fun i hi => by
 have hc := h i hi
 have hg : g < w.heap.size := by
  rcases aHd g w.heap.size with h | h
  .exact h
  .unfold World.cell? at hc
   rw [aIB h] at hc
   cases hc
 rw [<- hc]
 unfold World.cell?
 rw [x.keep g hg hM]
theorem aoV.ld {w : aJa} {g : Nat} {zs : List Int} (h : aoV w g zs) : ∀ j, j < (zs.map (Value.int .i64)).length -> w.cell? ⟨g, 0 + j, none⟩ = (zs.map (Value.int .i64))[j]? := fun j hj => by
 rw [aG1] at hj
 rw [aGP, h j hj, aHg, aGX hj] <;> rfl
theorem SP (zs : List Int) (i : Nat) (h : i < zs.length) : zs.getD i 0 = zs[i] := by
 rw [aG3, aGX h] <;> rfl
theorem ayX (xs cs : List aJb) (h : cs.length = xs.length) : aV cs 0 xs = xs := by
 have := Ml xs [] cs (by omega)
 rw [aHv, aHW (by omega), aHC, aHv] at this
 exact this
theorem Tm {w : aJa} {b n : Nat} {zs : List Int} (o : cJ w b (zs.map (Value.int .i64))) (h : zs.length = n) : Sl w (.slice (some ⟨b, 0, none⟩) n n) (zs.map (Value.int .i64)) := by
 refine ⟨_, _, _, rfl, by rw [aG1, h], aGZ _, fun _ => ⟨_, _, rfl, fun i hi => ?_⟩⟩
 rw [o.cell, aGP]
theorem I6 (zs : List Int) (n : Nat) (hz : zs.length = n) (cs : List aJb) (h : cs.length = n) : aV cs 0 (zs.map (Value.int .i64)) = zs.map (Value.int .i64) := ayX _ cs (by rw [h, aG1, hz])
theorem Uc (zs : List Int) : ∀ x ∈ (zs.map (Value.int .i64)).toArray.toList, one x = true := fun x hx => by
 rw [aIe] at hx
 obtain ⟨z, _, rfl⟩ := aHH.1 hx
 rfl
def zCL : List Int := [1, 1, 1, 1, 2, 2, 3, 3, 4, 6, 7, 8, 9, 10, 11, 12, 13, 14, 15, 16]
def zCM : List Int := [1, 1, 1, 1, 2, 2, 3, 3, 4, 4, 5, 7, 8, 9, 10, 11, 12, 13, 14, 15, 16]
def zTL : List Int := [4, 3, 2, 2, 2, 2, 2, 2, 2, 2, 2, 2, 2, 1, 1, 1, 2, 2, 2, 2, 2, 2, 2, 2, 2, 3, 2, 1, 1, 1, 1, 1, -1, -1, -1, -1]
def zTO : List Int := [1, 1, 1, 1, 1, 1, 2, 2, 2, 1, 1, 1, 1, 1, 1, 1, 1, 1, 1, 1, 1, 1, 1, 1, -1, -1, -1, -1, -1]
def zTM : List Int := [1, 4, 3, 2, 2, 2, 2, 2, 2, 1, 1, 1, 1, 1, 1, 1, 1, 1, 1, 1, 1, 1, 1, 1, 1, 1, 1, 1, 1, 1, 1, 1, 1, 1, 1, 1, 1, 1, 1, 1, 1, 1, 1, 1, 1, 1, -1, -1, -1, -1, -1, -1, -1]
structure uA (w : aJa) : Prop where
 cl : aoV w 3 zCL
 cm : aoV w 4 zCM
 tl : aoV w 0 zTL
 to : aoV w 1 zTO
 tm : aoV w 2 zTM
theorem uA.ext {w w' : aJa} (h : uA w) (x : aS w w' cM) : uA w' :=
 ⟨h.cl.ext x (fun h => h), h.cm.ext x (fun h => h), h.tl.ext x (fun h => h), h.to.ext x (fun h => h), h.tm.ext x (fun h => h)⟩
def avO (a : Int) : Int := if a = 0 then 16 else if a = 2 then 32 else 0
def aE6 (a : Int) : Int := if a = 2 then 3 else 0
def aoS (a : Int) : List Int := if a = 0 then zCL else if a = 2 then zCM else []
def mM (a : Int) : Int := if a = 0 then 35 else if a = 1 then 31 else if a = 2 then 52 else -1
theorem aCn {a : Int} {w : aJa} (hg : uA w) :
 aR pg Ck #[.int .i64 a] w (fun r w' => ∃ v, r = .tuple #[.int .i64 (avO a), .int .u32 (aE6 a), v] /\ Sl w' v ((aoS a).map (Value.int .i64)) /\ aS w w' cM) := by
 refine akY ?_
 unfold aqI Qm avO aE6 aoS
 by_cases h0 : a = 0
 .subst h0
  have n1 : ((0 : Int) == 0) = true := rfl
  have l1 := asS (b := 3) (off := 0) (l := zCL.map (Value.int .i64)) rfl hg.cl.ld
  simp (disch := omega) only [aC, cW, n1, if_true, true_and, aA, l1, aF]
  refine awE fun w2 o2 x2 s2 => ?_
  refine atB o2 rfl (Uc _) (by simp) fun w3 o3 x3 s3 => ?_
  have o3 : cJ w3 w.heap.size (zCL.map (Value.int .i64)) := by
   rw [aIe, I6 zCL 20 rfl] at o3
   .exact o3
   .rfl
  have x13 : aS w w3 cM := x2.new x3 (by omega)
  have hsh : uN ⟨w.heap.size, 0, none⟩ 20 0 1 = ⟨w.heap.size, 0, none⟩ := El (by decide)
  simp (disch := omega) only [Hf, hsh, aA, true_and]
  exact ⟨_, rfl, Tm (dO o3) rfl, x13.seq (aS.dr _ _)⟩
 .rw [if_neg h0, if_neg h0]
  have n1 : (a == 0) = false := beq_eq_false_iff_ne.2 h0
  by_cases h2 : a = 2
  .subst h2
   have n2 : ((2 : Int) == 2) = true := rfl
   have l1 := aqV (b := 4) (off := 0) (l := zCM.map (Value.int .i64)) rfl hg.cm.ld
   simp (disch := omega) only [aC, cW, n1, if_true, true_and, n2, aA, aF, l1, aE]
   refine atO fun w2 o2 x2 s2 => ?_
   refine arQ o2 rfl (Uc _) (by simp) fun w3 o3 x3 s3 => ?_
   have o3 : cJ w3 w.heap.size (zCM.map (Value.int .i64)) := by
    rw [aIe, I6 zCM 21 rfl] at o3
    .exact o3
    .rfl
   have x13 : aS w w3 cM := x2.new x3 (by omega)
   have hsh : uN ⟨w.heap.size, 0, none⟩ 21 0 1 = ⟨w.heap.size, 0, none⟩ := El (by decide)
   simp (disch := omega) only [GC, hsh, aA, true_and]
   exact ⟨_, rfl, Tm (dO o3) rfl, x13.seq (aS.dr _ _)⟩
  .rw [if_neg h2, if_neg h2, if_neg h2]
   have n2 : (a == 2) = false := beq_eq_false_iff_ne.2 h2
   simp (disch := omega) only [aC, cW, n1, true_and, n2, aA, aE]
   exact ⟨_, rfl, Sl.nil _, aS.refl _ _⟩
theorem arT {a : Int} {w : aJa} (hg : uA w) :
 aR pg uV #[.int .i64 a] w (fun r w' => r = .int .i64 (mM a) /\ aS w w' cM) := by
 refine ajX ?_
 unfold akZ Nh
 by_cases h1 : a = 1
 .subst h1
  have n1 : ((1 : Int) == 1) = true := rfl
  simp (disch := omega) only [aC, cW, n1, aA, aF]
  exact ⟨rfl, aS.refl _ _⟩
 have n1 : (a == 1) = false := beq_eq_false_iff_ne.2 h1
 simp (disch := omega) only [aC, cW, n1, aA, aE]
 refine (aCn hg).mono ?_
 rintro r w1 ⟨v, rfl, hs, x1⟩
 obtain ⟨av, cv, rfl, _⟩ := hs.lenI
 have e : avO a + ((aoS a).length : Int) - 1 = mM a /\ -10 <= avO a /\ avO a <= 100 /\ (aoS a).length <= 100 := by
  unfold avO aoS mM
  by_cases h0 : a = 0
  .subst h0; exact ⟨rfl, by decide, by decide, by decide⟩
  .by_cases h2 : a = 2
   .subst h2; exact ⟨rfl, by decide, by decide, by decide⟩
   .simp [h0, h1, h2]
 obtain ⟨e1, e2, e3, e4⟩ := e
 generalize avO a = p at *
 generalize (aoS a).length = q at *
 simp (disch := omega) only [SE, SF, SD, aA, eA, bM, aT, dZ, e1, true_and]
 exact x1
end Go.Proofs.YtaggdjhhmbnhoaaDoor
namespace Go.Pu
open Go Go.En
structure aaI (B : List Bool) (l : List UInt8) : Prop where
 len : l.length = (B.length + 7) / 8
 bits : bE l = B ++ List.replicate (8 * l.length - B.length) false
theorem avW : aaI [] [] := ⟨rfl, rfl⟩
theorem ayI : Pp 0 = List.replicate 8 false := by decide
theorem apA {B : List Bool} {l : List UInt8} (h : aaI B l) (h8 : B.length % 8 = 0) : bE (l ++ [0]) = B ++ List.replicate (8 * (l.length + 1) - B.length) false /\ (l ++ [(0 : UInt8)]).length = (B.length + 1 + 7) / 8 := by
 have hl := h.len
 refine ⟨?_, by rw [aGY, aH8]; omega⟩
 rw [IW, h.bits, bE, bE, ayI, aHC, aG2]
 congr 1
 rw [show 8 * l.length - B.length = 0 from by omega, show 8 * (l.length + 1) - B.length = 8 from by omega]
 rfl
theorem aCV (c : UInt8) (r : Nat) (hr : r < 8) (y : Bool) (h : c.toNat.testBit r = false) : Pp (UInt8.ofNat (c.toNat + 2 ^ r * y.toNat)) = (Pp c).set r y /\ c.toNat + 2 ^ r * y.toNat < 256 /\ c.toNat ||| (y.toNat * 2 ^ r) = c.toNat + 2 ^ r * y.toNat := by
 have key : ∀ (c : Fin 256) (r : Fin 8) (y : Bool), c.val.testBit r.val = false -> Pp (UInt8.ofNat (c.val + 2 ^ r.val * y.toNat)) = (Pp (UInt8.ofNat c.val)).set r.val y /\ c.val + 2 ^ r.val * y.toNat < 256 /\ c.val ||| (y.toNat * 2 ^ r.val) = c.val + 2 ^ r.val * y.toNat := by decide +kernel
 have := key ⟨c.toNat, aHi c⟩ ⟨r, hr⟩ y h
 simpa using this
theorem aqQ : ∀ (l : List UInt8) (i r : Nat) (c : UInt8) (y : Bool) (hi : i < l.length), r < 8 -> Pp c = (Pp l[i]).set r y -> bE (l.set i c) = (bE l).set (8 * i + r) y
 | [], i, r, c, y, hi, hr, h => by simp at hi
 | x :: l, 0, r, c, y, hi, hr, h => by
   rw [aGS, bE, bE, h, aIl _ _ (by rw [uC]; omega)]
   simp
 | x :: l, i + 1, r, c, y, hi, hr, h => by
   rw [aGU, bE, bE, aIr _ _ (by rw [uC]; omega), uC, aqQ l i r c y (by simpa using hi) hr (by simpa using h)]
   congr 2
   omega
theorem auD {B : List Bool} {l : List UInt8} {y : Bool} (hb : bE l = B ++ List.replicate (8 * l.length - B.length) false) (hl : l.length = (B.length + 1 + 7) / 8) :
 ∃ hi : B.length / 8 < l.length, aaI (B ++ [y]) (l.set (B.length / 8) (UInt8.ofNat ((l[B.length / 8]'hi).toNat + 2 ^ (B.length % 8) * y.toNat))) /\
   (l[B.length / 8]'hi).toNat + 2 ^ (B.length % 8) * y.toNat < 256 /\ (l[B.length / 8]'hi).toNat ||| (y.toNat * 2 ^ (B.length % 8)) = (l[B.length / 8]'hi).toNat + 2 ^ (B.length % 8) * y.toNat := by
 have hi : B.length / 8 < l.length := by omega
 have hbit := I5 l B.length (by omega)
 rw [hb, aHy (aGZ _), aIp, aIy, if_pos (by omega)] at hbit
 have hbit := (aG8 hbit).symm
 obtain ⟨h1, h2, h3⟩ := aCV _ (B.length % 8) (by omega) y hbit
 refine ⟨hi, ⟨?_, ?_⟩, h2, h3⟩
 .rw [aIA, aGY, aH8]; exact hl
 .rw [aqQ l _ (B.length % 8) _ y hi (by omega) h1, hb, show 8 * (B.length / 8) + B.length % 8 = B.length from by omega, aIr _ _ (aGZ _), aIp, aIA, aGY, aH8, aG2]
  congr 1
  rw [show 8 * l.length - B.length = (8 * l.length - (B.length + 1)) + 1 from by omega, aHO, aGS]
  rfl
theorem aDk {B : List Bool} {l : List UInt8} (h : aaI (B ++ [true]) l) : Zp l = some B.length /\ (bE l).take B.length = B := by
 have hl := h.len
 have hb := h.bits
 rw [aGY, aH8] at hl hb
 have h0 : 0 < l.length := by omega
 have htop : (bE l)[B.length]? = some true := by
  rw [hb, aG2, aHy (aGZ _), aIp] <;> rfl
 have hoff : ∀ j, B.length < j -> j < 8 * l.length -> (bE l)[j]? = some false := by
  intro j h1 h2
  rw [hb, aG2, aHy (by omega), List.singleton_append, List.getElem?_cons, if_neg (by omega), aIy, if_pos (by omega)]
 refine ⟨?_, by rw [hb, aG2, List.take_left'] <;> rfl⟩
 cases he : Zp l with
 | none =>
   rw [I4 h0] at he
   split at he
   .rename_i hz
    rw [I5 l _ (by omega)] at htop
    have e : B.length / 8 = l.length - 1 := by omega
    simp only [e, hz] at htop
    simp at htop
   .cases he
 | some k =>
   obtain ⟨_, h1, _, h2, h3⟩ := OC he
   rcases aIm k B.length with h | h | h
   .rw [h3 _ h (by omega)] at htop; simp at htop
   .rw [h]
   .rw [hoff _ h h1] at h2; simp at h2
theorem atJ {x n : Nat} (h : x < 2 ^ n) : sP (gC x n) = x := by rw [anG, aHm h]
theorem ayE {B : List Bool} {x n : Nat} (h : x < 2 ^ n) : sO (B ++ gC x n) n = x := by
 unfold sO
 rw [aGY, dH, show min n (B.length + n) = n from by omega, aIp, aHK, aIX, atJ h]; simp
def rF (k : Nat) : List Nat := if k = 0 then [0, 1, 2, 3, 4, 5, 6, 7, 8, 9, 10, 11, 12, 13, 14, 15, 16, 18, 20, 22, 24, 28, 32, 40, 48, 64, 128, 256, 512, 1024, 2048, 4096, 8192, 16384, 32768, 65536]
 else if k = 1 then [1, 2, 4, 8, 16, 32, 64, 128, 256, 512, 1024, 2048, 4096, 8192, 16384, 32768, 65536, 131072, 262144, 524288, 1048576, 2097152, 4194304, 8388608, 16777216, 33554432, 67108864, 134217728, 268435456, 536870912, 1073741824, 2147483648]
 else [3, 4, 5, 6, 7, 8, 9, 10, 11, 12, 13, 14, 15, 16, 17, 18, 19, 20, 21, 22, 23, 24, 25, 26, 27, 28, 29, 30, 31, 32, 33, 34, 35, 37, 39, 41, 43, 47, 51, 59, 67, 83, 99, 131, 259, 515, 1027, 2051, 4099, 8195, 16387, 32771, 65539]
def kL (k : Nat) : List Nat := if k = 0 then [0, 0, 0, 0, 0, 0, 0, 0, 0, 0, 0, 0, 0, 0, 0, 0, 1, 1, 1, 1, 2, 2, 3, 3, 4, 6, 7, 8, 9, 10, 11, 12, 13, 14, 15, 16]
 else if k = 1 then List.range 32
 else [0, 0, 0, 0, 0, 0, 0, 0, 0, 0, 0, 0, 0, 0, 0, 0, 0, 0, 0, 0, 0, 0, 0, 0, 0, 0, 0, 0, 0, 0, 0, 0, 1, 1, 1, 1, 2, 2, 3, 3, 4, 4, 5, 7, 8, 9, 10, 11, 12, 13, 14, 15, 16]
abbrev kZ (k : Nat) : Nat := (rF k).length
theorem aCp {k : Nat} (h : k < 3) : (kL k).length = kZ k := by
 rcases (show k = 0 ∨ k = 1 ∨ k = 2 by omega) with rfl | rfl | rfl <;> rfl
theorem aqS {k : Nat} (h : k < 3) (c : Nat) (hc : c + 1 < kZ k) : (rF k).getD (c + 1) 0 = (rF k).getD c 0 + 2 ^ (kL k).getD c 0 := by
 have h0 : ∀ c, c < 53 -> c + 1 < kZ 0 -> (rF 0).getD (c + 1) 0 = (rF 0).getD c 0 + 2 ^ (kL 0).getD c 0 := by decide +kernel
 have h1 : ∀ c, c < 53 -> c + 1 < kZ 1 -> (rF 1).getD (c + 1) 0 = (rF 1).getD c 0 + 2 ^ (kL 1).getD c 0 := by decide +kernel
 have h2 : ∀ c, c < 53 -> c + 1 < kZ 2 -> (rF 2).getD (c + 1) 0 = (rF 2).getD c 0 + 2 ^ (kL 2).getD c 0 := by decide +kernel
 have hl : kZ k <= 53 := by rcases (show k = 0 ∨ k = 1 ∨ k = 2 by omega) with rfl | rfl | rfl <;> decide
 rcases (show k = 0 ∨ k = 1 ∨ k = 2 by omega) with rfl | rfl | rfl
 .exact h0 c (by omega) hc
 .exact h1 c (by omega) hc
 .exact h2 c (by omega) hc
theorem Zq {k : Nat} (h : k < 3) (c : Nat) : (kL k).getD c 0 <= 31 := by
 have : ∀ x ∈ kL k, x <= 31 := by
  rcases (show k = 0 ∨ k = 1 ∨ k = 2 by omega) with rfl | rfl | rfl <;> decide
 rw [aG3]
 cases hc : (kL k)[c]? with
 | none => simp
 | some x => simpa using this x (aIc hc)
theorem aEg {k : Nat} (h : k < 3) (c : Nat) (hc : c < kZ k) : (rF k).getD c 0 + 2 ^ (kL k).getD c 0 <= 4294967296 := by
 have h0 : ∀ c, c < 53 -> c < kZ 0 -> (rF 0).getD c 0 + 2 ^ (kL 0).getD c 0 <= 4294967296 := by decide +kernel
 have h1 : ∀ c, c < 53 -> c < kZ 1 -> (rF 1).getD c 0 + 2 ^ (kL 1).getD c 0 <= 4294967296 := by decide +kernel
 have h2 : ∀ c, c < 53 -> c < kZ 2 -> (rF 2).getD c 0 + 2 ^ (kL 2).getD c 0 <= 4294967296 := by decide +kernel
 have hl : kZ k <= 53 := by rcases (show k = 0 ∨ k = 1 ∨ k = 2 by omega) with rfl | rfl | rfl <;> decide
 rcases (show k = 0 ∨ k = 1 ∨ k = 2 by omega) with rfl | rfl | rfl
 .exact h0 c (by omega) hc
 .exact h1 c (by omega) hc
 .exact h2 c (by omega) hc
def tW (k v c : Nat) : Prop := c < kZ k /\ (rF k).getD c 0 <= v /\ v < (rF k).getD c 0 + 2 ^ (kL k).getD c 0
theorem OT {k : Nat} (h : k < 3) : ∀ {c d : Nat}, c < d -> d < kZ k -> (rF k).getD c 0 + 2 ^ (kL k).getD c 0 <= (rF k).getD d 0
 | c, d + 1, hcd, hd => by
   have e := aqS h d (by omega)
   rcases aHd c d with h' | h'
   .have := OT h h' (by omega)
    have := aHp ((kL k).getD d 0)
    omega
   .have : c = d := by omega
    subst this; omega
theorem tW.one {k v c d : Nat} (hk : k < 3) (hc : tW k v c) (hd : tW k v d) : c = d := by
 rcases aIm c d with h | h | h
 .have := OT hk h hd.1; have := hc.2.2; have := hd.2.1; omega
 .exact h
 .have := OT hk h hc.1; have := hd.2.2; have := hc.2.1; omega
theorem tW.lt {k v c : Nat} (hk : k < 3) (hc : tW k v c) : v < 4294967296 := by
 have := aEg hk c hc.1; have := hc.2.2; omega
structure Sq where
 ll : Nat
 ml : Nat
 of : Nat
deriving DecidableEq
def sAt (L : List (Int × Int × Int)) (s : Int) : Nat := if 0 <= s then (match L[s.toNat]? with | some e => e.1.toNat | none => 0) else 0
def bAt (L : List (Int × Int × Int)) (s : Int) : Nat := if 0 <= s then (match L[s.toNat]? with | some e => e.2.1.toNat | none => 0) else 0
def nAt (L : List (Int × Int × Int)) (s : Int) (x : Nat) : Int := if 0 <= s then (match L[s.toNat]? with | some e => e.2.2 + x | none => 0) else 0
def rdL (B : List Bool) (left : Int) (n : Nat) : Nat := sO (B.take left.toNat) n
def vR (k : Nat) (L : List (Int × Int × Int)) (s : Int) (B : List Bool) (left : Int) : Nat × Int :=
 ((rF k).getD (sAt L s) 0 + rdL B left ((kL k).getD (sAt L s) 0), left - (kL k).getD (sAt L s) 0)
def nR (L : List (Int × Int × Int)) (s : Int) (B : List Bool) (left : Int) : Int × Int := (nAt L s (rdL B left (bAt L s)), left - bAt L s)
def sqR (L0 L1 L2 : List (Int × Int × Int)) (B : List Bool) : Nat -> Int -> Int -> Int -> Int -> List Sq × Int
 | 0, _, _, _, left => ([], left)
 | n + 1, s0, s1, s2, left =>
   let o := vR 1 L1 s1 B left
   let m := vR 2 L2 s2 B o.2
   let l := vR 0 L0 s0 B m.2
   if n = 0 then ([⟨l.1, m.1, o.1⟩], l.2)
   else
    let a := nR L0 s0 B l.2
    let c := nR L2 s2 B a.2
    let b := nR L1 s1 B c.2
    let r := sqR L0 L1 L2 B n a.1 b.1 c.1 b.2
    (⟨l.1, m.1, o.1⟩ :: r.1, r.2)
def ValB (k : Nat) (L : List (Int × Int × Int)) (s v : Nat) (u : List Bool) : Prop :=
 ∃ (c : Nat) (e : Int × Int × Int), tW k v c /\ L[s]? = some e /\ e.1 = c /\ u = gC (v - (rF k).getD c 0) ((kL k).getD c 0)
def StB (L : List (Int × Int × Int)) (s t : Nat) (u : List Bool) : Prop :=
 ∃ (e : Int × Int × Int) (n x : Nat), L[s]? = some e /\ e.2.1 = n /\ x < 2 ^ n /\ e.2.2 + (x : Int) = (t : Int) /\ u = gC x n
inductive Enc (L0 L1 L2 : List (Int × Int × Int)) : List Sq -> Nat -> Nat -> Nat -> List Bool -> Prop
 | one {q : Sq} {s0 s1 s2 : Nat} {v0 v1 v2 : List Bool} : ValB 0 L0 s0 q.ll v0 -> ValB 1 L1 s1 q.of v1 -> ValB 2 L2 s2 q.ml v2 -> Enc L0 L1 L2 [q] s0 s1 s2 (v0 ++ v2 ++ v1)
 | cons {q p : Sq} {r : List Sq} {s0 s1 s2 t0 t1 t2 : Nat} {B u0 u1 u2 v0 v1 v2 : List Bool} : Enc L0 L1 L2 (p :: r) t0 t1 t2 B -> StB L1 s1 t1 u1 -> StB L2 s2 t2 u2 -> StB L0 s0 t0 u0 →
  ValB 0 L0 s0 q.ll v0 -> ValB 1 L1 s1 q.of v1 -> ValB 2 L2 s2 q.ml v2 -> Enc L0 L1 L2 (q :: p :: r) s0 s1 s2 (B ++ u1 ++ u2 ++ u0 ++ v0 ++ v2 ++ v1)
theorem amL {T B X u : List Bool} {x n : Nat} (hT : T.take (X ++ u).length = X ++ u) (hu : u = gC x n) (hx : x < 2 ^ n) : rdL T ((X ++ u).length : Nat) n = x /\ (((X ++ u).length : Nat) : Int) - n = ((X.length : Nat) : Int) /\ T.take X.length = X := by
 subst hu
 have hl : (X ++ gC x n).length = X.length + n := by rw [aGY, dH]
 refine ⟨?_, by omega, ?_⟩
 .unfold rdL
  rw [aGO, hT, ayE hx]
 .have := congrArg (List.take X.length) hT
  rw [List.take_take, aHG (by omega), List.take_append_of_le_length (aGZ _), aHk (aGZ _)] at this
  exact this
theorem adJ {T X u : List Bool} {k : Nat} {L : List (Int × Int × Int)} {s v : Nat} (h : ValB k L s v u) (hT : T.take (X ++ u).length = X ++ u) : vR k L s T ((X ++ u).length : Nat) = (v, ((X.length : Nat) : Int)) /\ T.take X.length = X := by
 obtain ⟨c, e, hc, he, hec, hu⟩ := h
 have hs : sAt L s = c := by unfold sAt; rw [if_pos (by omega)]; simp [he, hec]
 obtain ⟨h1, h2, h3⟩ := amL (B := []) hT hu (by have := hc.2.2; have := hc.2.1; omega)
 refine ⟨?_, h3⟩
 unfold vR
 rw [hs, h1, h2]
 have := hc.2.1
 congr 1
 omega
theorem axN {T X u : List Bool} {L : List (Int × Int × Int)} {s t : Nat} (h : StB L s t u) (hT : T.take (X ++ u).length = X ++ u) : nR L s T ((X ++ u).length : Nat) = ((t : Int), ((X.length : Nat) : Int)) /\ T.take X.length = X := by
 obtain ⟨e, n, x, he, hn, hx, ht, hu⟩ := h
 have hb : bAt L s = n := by unfold bAt; rw [if_pos (by omega)]; simp [he, hn]
 obtain ⟨h1, h2, h3⟩ := amL (B := []) hT hu hx
 refine ⟨?_, h3⟩
 unfold nR
 rw [hb, h1, h2]
 congr 1
 unfold nAt
 rw [if_pos (by omega)]
 simp only [aGO, he]
 exact ht
theorem aB4 {L0 L1 L2 : List (Int × Int × Int)} {T : List Bool} {qs : List Sq} {s0 s1 s2 : Nat} {B : List Bool} (h : Enc L0 L1 L2 qs s0 s1 s2 B) : T.take B.length = B -> sqR L0 L1 L2 T qs.length s0 s1 s2 (B.length : Nat) = (qs, 0) := by
 induction h with
 | @one q s0 s1 s2 v0 v1 v2 h0 h1 h2 =>
   intro hT
   obtain ⟨a1, a2⟩ := adJ h1 hT
   obtain ⟨b1, b2⟩ := adJ h2 a2
   have b2' : T.take ([] ++ v0).length = [] ++ v0 := by simpa using b2
   obtain ⟨c1, c2⟩ := adJ h0 b2'
   rw [aHv] at c1
   show sqR L0 L1 L2 T (0 + 1) s0 s1 s2 _ = _
   rw [sqR]
   simp only [a1, b1, c1, if_true]
   rfl
 | @cons q p r s0 s1 s2 t0 t1 t2 B u0 u1 u2 v0 v1 v2 he g1 g2 g0 h0 h1 h2 ih =>
   intro hT
   obtain ⟨a1, a2⟩ := adJ h1 hT
   obtain ⟨b1, b2⟩ := adJ h2 a2
   obtain ⟨c1, c2⟩ := adJ h0 b2
   obtain ⟨d1, d2⟩ := axN g0 c2
   obtain ⟨e1, e2⟩ := axN g2 d2
   obtain ⟨f1, f2⟩ := axN g1 e2
   have ih := ih f2
   show sqR L0 L1 L2 T ((r.length + 1) + 1) s0 s1 s2 _ = _
   rw [sqR, if_neg (by omega)]
   simp only [a1, b1, c1, d1, e1, f1]
   rw [show r.length + 1 = (p :: r).length from rfl, ih]
def zW (k : Nat) : Nat := if k = 0 then 16 else 32
def Ac (k : Nat) : Nat := if k = 2 then 3 else 0
theorem VO {k : Nat} (h : k = 0 ∨ k = 2) : zW k < kZ k /\ kZ k <= 53 := by rcases h with rfl | rfl <;> decide
theorem asX {k : Nat} (h : k = 0 ∨ k = 2) {c : Nat} (hc : c < zW k) : (rF k).getD c 0 = Ac k + c /\ (kL k).getD c 0 = 0 := by
 have h0 : ∀ c, c < 32 -> c < zW 0 -> (rF 0).getD c 0 = Ac 0 + c /\ (kL 0).getD c 0 = 0 := by decide +kernel
 have h2 : ∀ c, c < 32 -> c < zW 2 -> (rF 2).getD c 0 = Ac 2 + c /\ (kL 2).getD c 0 = 0 := by decide +kernel
 have h32 : zW k <= 32 := by rcases h with rfl | rfl <;> decide
 rcases h with rfl | rfl
 .exact h0 c (by omega) hc
 .exact h2 c (by omega) hc
theorem aFa {k : Nat} (h : k = 0 ∨ k = 2) : (rF k).getD (zW k) 0 = Ac k + zW k := by rcases h with rfl | rfl <;> decide
theorem aEa {c : Nat} (hc : c < 32) : (rF 1).getD c 0 = 2 ^ c /\ (kL 1).getD c 0 = c := by
 have h0 : ∀ c, c < 32 -> (rF 1).getD c 0 = 2 ^ c /\ (kL 1).getD c 0 = c := by decide +kernel
 exact h0 c hc
def eS (k : Nat) : Nat -> Nat
 | 0 => (rF k).getD (zW k) 0
 | i + 1 => eS k i + 2 ^ ((kL k).getD (zW k + i) 0)
theorem apK {k : Nat} (h : k < 3) : ∀ i, zW k + i < kZ k -> eS k i = (rF k).getD (zW k + i) 0
 | 0, _ => rfl
 | i + 1, hi => by
   rw [eS, apK h i (by omega), <- aIf, aqS h _ (by omega)]
theorem aGf {k : Nat} (h : k = 0 ∨ k = 2) {c : Nat} (hc : c < kZ k) : (rF k).getD c 0 + 2 ^ (kL k).getD c 0 <= 131075 := by
 have h0 : ∀ c, c < 53 -> c < kZ 0 -> (rF 0).getD c 0 + 2 ^ (kL 0).getD c 0 <= 131075 := by decide +kernel
 have h2 : ∀ c, c < 53 -> c < kZ 2 -> (rF 2).getD c 0 + 2 ^ (kL 2).getD c 0 <= 131075 := by decide +kernel
 have := (VO h).2
 rcases h with rfl | rfl
 .exact h0 c (by omega) hc
 .exact h2 c (by omega) hc
theorem aFU {k : Nat} (h : k = 0 ∨ k = 2) : ∀ {i : Nat}, zW k + i <= kZ k -> eS k i <= 131075
 | 0, _ => by rcases h with rfl | rfl <;> decide
 | i + 1, hi => by
   rw [eS, apK (by omega) i (by omega)]
   exact aGf h (by omega)
theorem aEB {k : Nat} (h : k = 0 ∨ k = 2) {c : Nat} (hc : c < kZ k) : (kL k).getD c 0 <= 16 := by
 have h0 : ∀ c, c < 53 -> c < kZ 0 -> (kL 0).getD c 0 <= 16 := by decide +kernel
 have h2 : ∀ c, c < 53 -> c < kZ 2 -> (kL 2).getD c 0 <= 16 := by decide +kernel
 have := (VO h).2
 rcases h with rfl | rfl
 .exact h0 c (by omega) hc
 .exact h2 c (by omega) hc
theorem axU {k v : Nat} (h : k = 0 ∨ k = 2) (hv : v < Ac k) (c : Nat) : ¬ tW k v c := by
 intro hc
 have h0 : (rF k).getD 0 0 = Ac k := (asX h (c := 0) (by unfold zW; split <;> omega)).1
 rcases aHT c with rfl | h1
 .have := hc.2.1; omega
 .have := OT (show k < 3 by omega) h1 hc.1
  have := aHp ((kL k).getD 0 0)
  have := hc.2.1; omega
theorem avE (c : Nat) : ¬ tW 1 0 c := by
 intro hc
 have h1 : c < 32 := hc.1
 have := (aEa h1).1
 have := aHp c
 have := hc.2.1
 omega
theorem awN {k v : Nat} (h : k = 0 ∨ k = 2) (hv : eS k (kZ k - zW k) <= v) (c : Nat) : ¬ tW k v c := by
 intro hc
 have hp := (VO h).1
 have h1 := hc.1
 obtain ⟨m, hm⟩ : ∃ m, kZ k - zW k = m + 1 := ⟨kZ k - zW k - 1, by omega⟩
 rw [hm, eS, apK (by omega) m (by omega), show zW k + m = kZ k - 1 by omega] at hv
 rcases aHd c (kZ k - 1) with h2 | h2
 .have := OT (show k < 3 by omega) h2 (by omega)
  have := aHp ((kL k).getD (kZ k - 1) 0)
  have := hc.2.2; omega
 .have : c = kZ k - 1 := by omega
  subst this
  have := hc.2.2; omega
theorem avF {v : Nat} (h0 : 0 < v) (hv : v < 4294967296) : tW 1 v (bl v - 1) := by
 have h1 := GS (k := v) (by omega)
 have h2 := Ua (k := v) (by omega)
 have h3 := Vw v
 have h4 : bl v <= 32 := qT (n := 32) hv
 have h5 := aEa (c := bl v - 1) (by omega)
 refine ⟨show bl v - 1 < 32 by omega, by rw [h5.1]; exact h2, ?_⟩
 rw [h5.1, h5.2, <- Nat.two_mul, aHU, <- aHf, show (bl v - 1).succ = bl v by omega]
 exact h3
theorem alP {k v : Nat} (h : k = 0 ∨ k = 2) (hl : Ac k <= v) (hv : v - Ac k < zW k) : tW k v (v - Ac k) := by
 have hp := asX h hv
 have := (VO h).1
 exact ⟨by omega, by omega, by rw [hp.1, hp.2]; omega⟩
theorem apN {k v i : Nat} (h : k = 0 ∨ k = 2) (hi : zW k + i < kZ k) (hl : eS k i <= v) (hv : v < eS k i + 2 ^ ((kL k).getD (zW k + i) 0)) : tW k v (zW k + i) := by
 rw [apK (by omega) i hi] at hl hv
 exact ⟨hi, hl, hv⟩
end Go.Pu

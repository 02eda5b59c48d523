/- Parts of the proof of SequencesCut: merged and given short names by a program of ours. -/
import Derived.Laws.IdiomStrings
import Derived.Test.YtaggdjhhmbnhoaaDoorScB
set_option linter.unusedVariables false
set_option linter.unusedSimpArgs false
open Array renaming length_toList → aIZ, getElem?_eq_none → aJw
open Bool renaming and_eq_true → aH4, false_eq_true → aHP, not_false → aI7, not_true → aIt, or_eq_false_iff → aJE
open Int renaming toNat_natCast → aHH, tmod_eq_emod_of_nonneg → aIa, tdiv_eq_ediv_of_nonneg → aId, fdiv_eq_ediv_of_nonneg → aJn
open List renaming mem_cons_of_mem → aH0, getElem_mem → aH1, getElem?_eq_none → aH3, length_cons → aH5, getElem?_map → aH9, take_succ_cons → aHG, getElem?_cons_zero → aHJ, getElem?_cons_succ → aHK, set_cons_zero → aHL, drop_zero → aHM, set_cons_succ → aHN, take_zero → aHO, getElem?_eq_getElem → aHQ, length_append → aHR, length_map → aHU, append_assoc → aHV, getElem?_append_left → aHW, getD_eq_getElem?_getD → aHX, length_take → aHZ, mem_append → aI2, length_singleton → aI3, map_congr_left → aI8, toList_toArray → aI9, getElem_range → aIC, ext_getElem → aIG, replicate_succ → aIH, cons_append → aIP, drop_of_length_le → aIQ, count_append → aIR, getElem?_toArray → aIS, getElem?_drop → aIV, mem_of_getElem? → aIX, length_drop → aIb, take_of_length_le → aIe, getElem_of_mem → aIf, drop_eq_getElem_cons → aIh, length_eq_zero_iff → aIk, getElem?_take_of_lt → aIl, getElem_map → aIm, getElem?_append_right → aIn, map_append → aIo, take_add_one → aIr, drop_succ_cons → aIs, nil_append → aIv, mem_range → aIw, mem_map → aIx, append_nil → aIy, mem_cons → aIz, getElem_set_self → aJB, getElem_set → aJF, range_succ → aJH, length_erase_of_mem → aJL, map_replicate → aJO, drop_left → aJQ, ext_getElem? → aJR, getElem_cons_succ → aJS, getElem_replicate → aJT, map_drop → aJW, mem_filter → aJZ, take_append_drop → aJb, count_cons → aJe, set_append_left → aJf, map_cons → aJh, take_length → aJi, getElem_cons_zero → aJj, map_set → aJl, set_append_right → aJm, length_range → aJp, getLast?_eq_getElem? → aJq, count_singleton → aJr, getElem?_replicate → aJt, map_take → aJu, length_set → aJv
open Nat renaming lt_or_ge → aH6, pow_succ → aH8, zero_add → aHI, le_refl → aHS, pow_le_pow_right → aHT, mod_lt → aI1, add_assoc → aI5, min_eq_left → aIA, add_zero → aIB, add_sub_cancel → aID, add_mul → aIJ, le_trans → aIM, eq_zero_or_pos → aIN, mul_comm → aIO, testBit_eq_decide_div_mod_eq → aIY, mod_eq_of_lt → aIg, two_pow_pos → aIj, mul_le_mul_right → aIp, le_div_iff_mul_le → aJC, div_mul_le_self → aJG, div_le_self → aJI, succ_mul → aJM, sub_zero → aJN, div_lt_iff_lt_mul → aJc, lt_trichotomy → aJg, sub_self → aJk, mul_one → aJx, pow_add → aJy, div_div_eq_div_mul → aJz
open Option renaming isNone_some → aH7, map_some → aIu
open Option.some renaming inj → aH2
open UInt8 renaming toNat_lt → aIc
namespace Go.En
open Go
section
variable {P : Program} {w : aJ2} {t : TypeId} {ox oy : Operand} {k : IntKind} {a b : Int}
theorem qG (s : Sem aJ3) : (V s).run P w = (s.run P w).andThen fun v w => .ok (.value v) w := by
 unfold V; rw [Sem.run_bind] <;> rfl
theorem aHj (s : Sem Unit) : (U s).run P w = (s.run P w).andThen fun _ w => .ok .skip w := by
 unfold U; rw [Sem.run_bind] <;> rfl
theorem bM : (aG .add t ox oy (.int k a) (.int k b)).run P w = .ok (.value (.int k (k.wrap (a + b)))) w := by
 simp [aG, JY, qG, binOp, Op.intArith]
theorem eA : (aG .sub t ox oy (.int k a) (.int k b)).run P w = .ok (.value (.int k (k.wrap (a - b)))) w := by
 simp [aG, JY, qG, binOp, Op.intArith]
theorem pS : (aG .mul t ox oy (.int k a) (.int k b)).run P w = .ok (.value (.int k (k.wrap (a * b)))) w := by
 simp [aG, JY, qG, binOp, Op.intArith]
theorem Ee (h : b ≠ 0) : (aG .quo t ox oy (.int k a) (.int k b)).run P w = .ok (.value (.int k (k.wrap (a.tdiv b)))) w := by
 simp [aG, JY, qG, binOp, Op.intDiv, h]
theorem CA (h : b ≠ 0) : (aG .rem t ox oy (.int k a) (.int k b)).run P w = .ok (.value (.int k (a.tmod b))) w := by
 simp [aG, JY, qG, binOp, Op.intDiv, h]
def aoM (k : IntKind) (a b : Int) : Int := k.wrap (BitVec.ofInt k.bits a &&& BitVec.ofInt k.bits b).toNat
def orI (k : IntKind) (a b : Int) : Int := k.wrap (BitVec.ofInt k.bits a ||| BitVec.ofInt k.bits b).toNat
def aEY (k : IntKind) (a b : Int) : Int := k.wrap (BitVec.ofInt k.bits a ^^^ BitVec.ofInt k.bits b).toNat
def aBi (k : IntKind) (a b : Int) : Int := k.wrap (BitVec.ofInt k.bits a &&& ~~~BitVec.ofInt k.bits b).toNat
theorem R9 : (aG .and t ox oy (.int k a) (.int k b)).run P w = .ok (.value (.int k (aoM k a b))) w := by
 simp [aG, JY, qG, binOp, Op.intBits, aoM]
theorem auM : (aG .or t ox oy (.int k a) (.int k b)).run P w = .ok (.value (.int k (orI k a b))) w := by
 simp [aG, JY, qG, binOp, Op.intBits, orI]
theorem aFn : (aG .xor t ox oy (.int k a) (.int k b)).run P w = .ok (.value (.int k (aEY k a b))) w := by
 simp [aG, JY, qG, binOp, Op.intBits, aEY]
theorem axE : (aG .andNot t ox oy (.int k a) (.int k b)).run P w = .ok (.value (.int k (aBi k a b))) w := by
 simp [aG, JY, qG, binOp, Op.intBits, aBi]
theorem mN {k' : IntKind} (h : 0 <= b) : (aG .shl t ox oy (.int k a) (.int k' b)).run P w = .ok (.value (.int k (k.wrap (a * 2 ^ (min b.toNat k.bits))))) w := by
 simp [aG, JY, qG, binOp, Op.shift, Int.not_lt.2 h]
theorem xL {k' : IntKind} (h : 0 <= b) : (aG .shr t ox oy (.int k a) (.int k' b)).run P w = .ok (.value (.int k (a.fdiv (2 ^ (min b.toNat k.bits))))) w := by
 simp [aG, JY, qG, binOp, Op.shift, Int.not_lt.2 h]
theorem cR : (aG .eql t ox oy (.int k a) (.int k b)).run P w = .ok (.value (.bool (a == b))) w := by
 simp [aG, JY, qG, binOp, Op.intCmp, eqGuard]
theorem eT : (aG .neq t ox oy (.int k a) (.int k b)).run P w = .ok (.value (.bool (a != b))) w := by
 simp [aG, JY, qG, binOp, Op.intCmp, eqGuard]
theorem aX : (aG .lss t ox oy (.int k a) (.int k b)).run P w = .ok (.value (.bool (decide (a < b)))) w := by
 simp [aG, JY, qG, binOp, Op.intCmp]
theorem avG : (aG .leq t ox oy (.int k a) (.int k b)).run P w = .ok (.value (.bool (decide (a <= b)))) w := by
 simp [aG, JY, qG, binOp, Op.intCmp]
theorem dM : (aG .gtr t ox oy (.int k a) (.int k b)).run P w = .ok (.value (.bool (decide (b < a)))) w := by
 simp [aG, JY, qG, binOp, Op.intCmp]
theorem pG : (aG .geq t ox oy (.int k a) (.int k b)).run P w = .ok (.value (.bool (decide (b <= a)))) w := by
 simp [aG, JY, qG, binOp, Op.intCmp]
theorem aEb : (sUn .neg (.int k a)).run P w = .ok (.value (.int k (k.wrap (0 - a)))) w := by
 simp [sUn, qG, Op.unary, Op.intArith]
theorem aFj : (sUn .xor (.int k a)).run P w = .ok (.value (.int k (aEY k (if k.signed then -1 else k.max) a))) w := by
 simp [sUn, qG, Op.unary, Op.intBits, aEY]
theorem Gz (c : Bool) : (sUn .not (.bool c)).run P w = .ok (.value (.bool !c)) w := by
 simp [sUn, qG, Op.unary]
theorem bN (c : Bool) (x y : aJ3) : (fI (.bool c) x y).run P w = .ok (.value (if c then x else y)) w := by
 simp [fI, asBool]
theorem axG {x y : aJ3} {r : Bool} (hg : eqGuard .eql t ox oy x y = pure ()) (hb : binOp .eql t x y = (do pure (.bool (<- Op.equal t x y)))) (he : (Op.equal t x y).run P w = .ok r w) :
 (aG .eql t ox oy x y).run P w = .ok (.value (.bool r)) w := by
 unfold aG
 simp only [JY, qG, hg, hb, pure_bind]
 rw [Sem.run_bind, he] <;> rfl
theorem aDd {x y : aJ3} {r : Bool} (hg : eqGuard .neq t ox oy x y = pure ()) (hb : binOp .neq t x y = (do pure (.bool (!(<- Op.equal t x y))))) (he : (Op.equal t x y).run P w = .ok r w) :
 (aG .neq t ox oy x y).run P w = .ok (.value (.bool (!r))) w := by
 unfold aG
 simp only [JY, qG, hg, hb, pure_bind]
 rw [Sem.run_bind, he] <;> rfl
theorem aT {n : Int} (h0 : -9223372036854775808 <= n) (h1 : n <= 9223372036854775807) : IntKind.i64.wrap n = n := by
 unfold IntKind.wrap; simp [IntKind.bits, IntKind.signed]; split <;> omega
theorem hP {n : Int} (h0 : 0 <= n) (h1 : n <= 18446744073709551615) : IntKind.u64.wrap n = n := by
 unfold IntKind.wrap; simp [IntKind.bits, IntKind.signed]; omega
theorem aFu {n : Int} (h0 : -2147483648 <= n) (h1 : n <= 2147483647) : IntKind.i32.wrap n = n := by
 unfold IntKind.wrap; simp [IntKind.bits, IntKind.signed]; split <;> omega
theorem Z2 {n : Int} (h0 : 0 <= n) (h1 : n <= 4294967295) : IntKind.u32.wrap n = n := by
 unfold IntKind.wrap; simp [IntKind.bits, IntKind.signed]; omega
theorem aFx {n : Int} (h0 : 0 <= n) (h1 : n <= 65535) : IntKind.u16.wrap n = n := by
 unfold IntKind.wrap; simp [IntKind.bits, IntKind.signed]; omega
theorem QN {n : Int} (h0 : 0 <= n) (h1 : n <= 255) : IntKind.u8.wrap n = n := by
 unfold IntKind.wrap; simp [IntKind.bits, IntKind.signed]; omega
theorem afI (x y : ByteArray) : (aG .eql t ox oy (.string x) (.string y)).run P w = .ok (.value (.bool (x.toList == y.toList))) w := by
 simp [aG, JY, qG, binOp, Op.stringOp, eqGuard]
theorem aDD (n : Nat) {e : TypeId} (hu : P.underlying t = some (.pointer e)) (x : Option Addr) : (Op.equalIn (n + 1) t (.pointer x) (.pointer none)).run P w = .ok x.isNone w := by
 simp only [Op.equalIn, underlying]
 cases x <;> simp [hu]
theorem aDc {e : TypeId} (hu : P.underlying t = some (.pointer e)) (x : Option Addr) : (Op.equal t (.pointer x) (.pointer none)).run P w = .ok x.isNone w := aDD 9999 hu x
theorem aEW (m : Nat) {e : TypeId} (hu : P.underlying t = some (.slice e)) (x : Option Addr) (n c : Nat) : (Op.equalIn (m + 1) t (.slice x n c) (.slice none 0 0)).run P w = .ok x.isNone w := by
 simp only [Op.equalIn, underlying]
 cases x <;> simp [hu]
theorem aGH {e : TypeId} (hu : P.underlying t = some (.slice e)) (x : Option Addr) (n c : Nat) : (Op.equal t (.slice x n c) (.slice none 0 0)).run P w = .ok x.isNone w := aEW 9999 hu x n c
theorem apB {e : TypeId} (hu : P.underlying t = some (.pointer e)) (x : Option Addr) : (aG .eql t ox oy (.pointer x) (.pointer none)).run P w = .ok (.value (.bool x.isNone)) w :=
 axG rfl rfl (aDc hu x)
theorem aFF {e : TypeId} (hu : P.underlying t = some (.pointer e)) (x : Option Addr) : (aG .neq t ox oy (.pointer x) (.pointer none)).run P w = .ok (.value (.bool (!x.isNone))) w :=
 aDd rfl rfl (aDc hu x)
theorem aEN {e : TypeId} (hu : P.underlying t = some (.slice e)) (x : Option Addr) (n c : Nat) : (aG .eql t ox oy (.slice x n c) (.slice none 0 0)).run P w = .ok (.value (.bool x.isNone)) w :=
 axG rfl rfl (aGH hu x n c)
theorem CN {s : TypeId} {d : TypeDesc} {kd : IntKind} (hs : P.underlying s = some d) (hu : P.underlying t = some (.int kd)) : (fL s t (.int k a)).run P w = .ok (.value (.int kd (kd.wrap a))) w := by
 cases d <;> simp [fL, qG, convert, underlying, hs, hu, Conv.intToInt]
theorem Xw {ty : TypeId} {e : TypeId} (hu : P.underlying t = some (.slice e)) (x : Option Addr) (n c : Nat) : (jM .len #[t] ty [.slice x n c]).run P w = .ok (.value (.int .i64 n)) w := by
 simp [jM, builtin, Builtin.len_, underlying, hu, goInt]
theorem aFC {ty : TypeId} (hu : P.underlying t = some .string) (x : ByteArray) : (jM .len #[t] ty [.string x]).run P w = .ok (.value (.int .i64 x.size)) w := by
 simp [jM, builtin, Builtin.len_, underlying, hu, goInt]
theorem aEh {ats : Array TypeId} {ty : TypeId} : (jM .min ats ty [.int k a, .int k b]).run P w = .ok (.value (.int k (if b < a then b else a))) w := by
 simp [jM, builtin, Builtin.min_, Builtin.min2]
theorem aoW {ats : Array TypeId} {ty : TypeId} : (jM .max ats ty [.int k a, .int k b]).run P w = .ok (.value (.int k (if b > a then b else a))) w := by
 simp [jM, builtin, Builtin.max_, Builtin.max2]
theorem B9 (a b : aJ3) : (aW (.tuple #[a, b]) 0).run P w = .ok (.value a) w := Eq.trans rfl rfl
theorem B7 (a b : aJ3) : (aW (.tuple #[a, b]) 1).run P w = .ok (.value b) w := Eq.trans rfl rfl
theorem RQ (a b c : aJ3) : (aW (.tuple #[a, b, c]) 0).run P w = .ok (.value a) w := Eq.trans rfl rfl
theorem Sd (a b c : aJ3) : (aW (.tuple #[a, b, c]) 1).run P w = .ok (.value b) w := Eq.trans rfl rfl
theorem RN (a b c : aJ3) : (aW (.tuple #[a, b, c]) 2).run P w = .ok (.value c) w := Eq.trans rfl rfl
theorem x40 (a b c d : aJ3) : (aW (.tuple #[a, b, c, d]) 0).run P w = .ok (.value a) w := Eq.trans rfl rfl
theorem x41 (a b c d : aJ3) : (aW (.tuple #[a, b, c, d]) 1).run P w = .ok (.value b) w := Eq.trans rfl rfl
theorem x42 (a b c d : aJ3) : (aW (.tuple #[a, b, c, d]) 2).run P w = .ok (.value c) w := Eq.trans rfl rfl
theorem x43 (a b c d : aJ3) : (aW (.tuple #[a, b, c, d]) 3).run P w = .ok (.value d) w := Eq.trans rfl rfl
theorem rM (x : Addr) : (qJ (.pointer (some x))).run P w = .ok (.value (.pointer (some x))) w := Eq.trans rfl rfl
theorem iZ {fs : Array Field} {f : Field} {i : Nat} {inf : TypeInfo} (hu : P.underlying t = some (.struct fs)) (hf : fs[i]? = some f)
 (hi : P.info? f.type = some inf) (hz : inf.size ≠ 0) (x : Addr) : (aL t (.pointer (some x)) i).run P w = .ok (.value (.pointer (some (x.add f.offset)))) w := by
 simp [aL, qG, Instr.fieldAt, underlying, hu, hf, Instr.sureAddr, fieldPlace, sizeOf, typeInfo, hi, hz]
theorem axM {e : TypeId} {inf : TypeInfo} (hu : P.underlying t = some (.slice e)) (hi : P.info? e = some inf) (x : Addr) (n c : Nat) (h0 : 0 <= a) (h1 : a < n) :
 (bA t (.slice (some x) n c) (.int k a)).run P w = .ok (.value (.pointer (some (x.add (a.toNat * inf.size))))) w := by
 simp [bA, qG, Instr.indexAt, asIntOf, underlying, hu, h0, h1, sizeOf, typeInfo, hi]
theorem awB {e : TypeId} {len : Nat} {inf : TypeInfo} (hu : P.underlying t = some (.array len e)) (hi : P.info? e = some inf) (x : Addr) (h0 : 0 <= a) (h1 : a < len) :
 (bA t (.pointer (some x)) (.int k a)).run P w = .ok (.value (.pointer (some (x.add (a.toNat * inf.size))))) w := by
 simp [bA, qG, Instr.indexAt, asIntOf, underlying, hu, h0, h1, sizeOf, typeInfo, hi, Instr.sureAddr]
theorem aFO (hu : P.underlying t = some .string) (x : ByteArray) (h0 : 0 <= a) (h1 : a.toNat < x.size) :
 (HM t (.string x) (.int k a)).run P w = .ok (.value (.int .u8 (x[a.toNat]'h1).toNat)) w := by
 simp [HM, qG, Instr.index, asIntOf, underlying, hu, h0, h1]
end
def cJ (w : aJ2) (b : Nat) (cs : List aJ3) : Prop :=
 ∃ T lo hi, w.heap[b]? = some (.cells cs.toArray T (lo, hi)) /\ (cs.length <= lo ∨ hi = lo)
structure aS (w w' : aJ2) (M : Nat -> Prop) : Prop where
 os : w'.os = w.os
 tape : w'.tape = w.tape
 output : w'.output = w.output
 size : w.heap.size <= w'.heap.size
 keep : ∀ b, b < w.heap.size -> ¬ M b -> w'.heap[b]? = w.heap[b]?
def cM : Nat -> Prop := fun _ => False
theorem aS.refl (w : aJ2) (M : Nat -> Prop) : aS w w M := ⟨rfl, rfl, rfl, aHS _, fun _ _ _ => rfl⟩
theorem aS.mono {w w' : aJ2} {M N : Nat -> Prop} (h : aS w w' M) (hm : ∀ b, b < w.heap.size -> M b -> N b) : aS w w' N :=
 ⟨h.os, h.tape, h.output, h.size, fun b hb hn => h.keep b hb fun hM => hn (hm b hb hM)⟩
theorem aS.trans {a b c : aJ2} {M N : Nat -> Prop} (h : aS a b M) (k : aS b c N) (hn : ∀ x, x < a.heap.size -> N x -> M x) : aS a c M :=
 ⟨k.os.trans h.os, k.tape.trans h.tape, k.output.trans h.output, aIM h.size k.size,
   fun x hx hM => (k.keep x (Nat.lt_of_lt_of_le hx h.size) fun h => hM (hn x hx h)).trans (h.keep x hx hM)⟩
theorem aS.seq {a b c : aJ2} {M : Nat -> Prop} (h : aS a b M) (k : aS b c M) : aS a c M := h.trans k fun _ _ h => h
theorem aS.new {a b c : aJ2} {M : Nat -> Prop} {x : Nat} (h : aS a b M) (k : aS b c (fun y => y = x)) (hx : a.heap.size <= x) : aS a c M :=
 h.trans k fun y hy e => absurd hy (by subst e; omega)
theorem aS.more {a b c : aJ2} {M : Nat -> Prop} (h : aS a b M) (k : aS b c (fun _ => False)) : aS a c M := h.trans k fun _ _ h => h.elim
theorem aS.below {w w' : aJ2} (h : aS w w' cM) : Go.RowKit.Below w.heap.size w w' :=
 ⟨h.os, h.tape, h.output, h.size, fun k hk => h.keep k hk fun h => h⟩
theorem aS.dr (w : aJ2) (M : Nat -> Prop) : aS w (dr w) M := ⟨rfl, rfl, rfl, aHS _, fun _ _ _ => rfl⟩
theorem aS.alloc (w : aJ2) (o : Obj) (M : Nat -> Prop) : aS w (w.alloc o) M :=
 ⟨rfl, rfl, rfl, by simp, fun b hb _ => by show (w.heap.push o)[b]? = _; rw [Array.getElem?_push, if_neg (by omega)]⟩
theorem ajA (w : aJ2) (a : Addr) (v : aJ3) (b : Nat) (h : b ≠ a.block) : (w.setCell a v).heap[b]? = w.heap[b]? := Go.RowKit.Below.heap_setCell w a v b h
theorem aS.setCell (w : aJ2) (a : Addr) (v : aJ3) {M : Nat -> Prop} (h : a.block < w.heap.size -> M a.block) : aS w (w.setCell a v) M :=
 ⟨rfl, rfl, rfl, by simp, fun b hb hM => ajA w a v b fun e => hM (e ▸ h (e ▸ hb))⟩
theorem cJ.lt {w : aJ2} {b : Nat} {cs : List aJ3} (h : cJ w b cs) : b < w.heap.size := by
 obtain ⟨T, lo, hi, h, _⟩ := h
 rcases aH6 b w.heap.size with h' | h'
 .exact h'
 .rw [aJw h'] at h; cases h
theorem cJ.ext {w w' : aJ2} {b : Nat} {cs : List aJ3} {M : Nat -> Prop} (h : cJ w b cs) (hx : aS w w' M) (hM : ¬ M b) : cJ w' b cs := by
 have := h.lt
 obtain ⟨T, lo, hi, h, k⟩ := h
 exact ⟨T, lo, hi, by rw [hx.keep b this hM]; exact h, k⟩
theorem cJ.cell {w : aJ2} {b off : Nat} {cs : List aJ3} (h : cJ w b cs) : w.cell? ⟨b, off, none⟩ = cs[off]? := by
 obtain ⟨T, lo, hi, h, _⟩ := h
 simp [World.cell?, h]
theorem cJ.free {w : aJ2} {b off : Nat} {cs : List aJ3} {s : Option Nat} (h : cJ w b cs) (ho : off < cs.length) : w.frozen? ⟨b, off, s⟩ = false := by
 obtain ⟨T, lo, hi, h, k⟩ := h
 simp only [World.frozen?, h]
 rcases k with k | k <;> (simp; omega)
theorem cJ.setCell {w : aJ2} {b off : Nat} {cs : List aJ3} (h : cJ w b cs) (v : aJ3) : cJ (w.setCell ⟨b, off, none⟩ v) b (cs.set off v) := by
 have hb := h.lt
 obtain ⟨T, lo, hi, h, k⟩ := h
 refine ⟨T, lo, hi, ?_, by simpa using k⟩
 simp only [World.setCell, Array.getElem?_modify, h]
 simp
theorem cJ.alloc (w : aJ2) (cs : List aJ3) (T : TypeId) : cJ (w.alloc (.cells cs.toArray T)) w.heap.size cs :=
 ⟨T, 0, 0, by show (w.heap.push _)[w.heap.size]? = _; simp, .inr rfl⟩
theorem aoN {w w' : aJ2} {M : Nat -> Prop} {a : Addr} {v : aJ3} (h : w.cell? a = some v) (hx : aS w w' M) (hM : ¬ M a.block) : w'.cell? a = some v := by
 have hb := World.block_lt_of_cell? w a h
 have e := hx.keep _ hb hM
 unfold World.cell? at h ⊢
 rw [e]; exact h
section
variable {P : Program} {w : aJ2} {t : TypeId}
def axP (d : TypeDesc) : Bool := match d with | .struct _ | .array _ _ => true | _ => false
theorem PG {d : TypeDesc} (hu : P.underlying t = some d) : (isAgg t).run P w = .ok (axP d) w := by
 cases d <;> simp [isAgg, underlying, hu, axP]
theorem gM {i : TypeInfo} (hi : P.info? t = some i) : (sizeOf t).run P w = .ok i.size w := by simp [sizeOf, typeInfo, hi]
theorem aaF {b off : Nat} {cs : List aJ3} (ho : cJ w b cs) : ∀ (n i : Nat) (acc : Array aJ3), off + i + n <= cs.length →
 (loadCellsFrom ⟨b, off, none⟩ i n acc).run P w = .ok (acc ++ ((cs.drop (off + i)).take n).toArray) w := by
 intro n
 induction n with
 | zero => intro i acc _; simp [loadCellsFrom]
 | succ n ih =>
   intro i acc h
   have hc : w.cell? ((⟨b, off, none⟩ : Addr).add i) = some cs[off + i] := by
    unfold Addr.add
    split
    .rename_i hi; subst hi; rw [ho.cell]; simp
    .show w.cell? ⟨b, off + i, none⟩ = _; rw [ho.cell]; simp
   simp only [loadCellsFrom, Sem.run_bind, run_load, hc, Result.andThen_ok]
   rw [ih (i + 1) _ (by omega)]
   congr 1
   rw [aIh (by omega : off + i < cs.length)]
   simp [aI5]
theorem VZ {b off n : Nat} {cs : List aJ3} (ho : cJ w b cs) (h : off + n <= cs.length) :
 (loadCells ⟨b, off, none⟩ n).run P w = .ok ((cs.drop off).take n).toArray w := by
 unfold loadCells
 rw [aaF ho n 0 #[] (by omega)]
 simp
theorem zS {d : TypeDesc} {i : TypeInfo} (hu : P.underlying t = some d) (hd : axP d = true) (hi : P.info? t = some i) {b off : Nat} {cs : List aJ3} (ho : cJ w b cs) (h : off + i.size <= cs.length) :
 (aH t (.pointer (some ⟨b, off, none⟩))).run P w = .ok (.value (.agg ((cs.drop off).take i.size).toArray)) w := by
 unfold aH
 rw [qG]
 simp only [Instr.loadAt, Instr.sureAddr, loadVar, pure_bind, Sem.run_bind, PG hu, hd, Result.andThen_ok, if_true, gM hi, VZ ho h, Sem.run_pure]
def one (v : aJ3) : Bool := match v with | .agg _ | .tuple _ => false | _ => true
theorem azQ {a : Addr} {v x : aJ3} (hv : one v = true) (hc : w.cell? a = some x) (hf : w.frozen? a = false) : (store a v).run P w = .ok () (w.setCell a v) := by
 unfold store
 cases v <;> simp [one] at hv <;> simp [Sem.run, hc, hf]
def aV (cs : List aJ3) (off : Nat) : List aJ3 -> List aJ3
 | [] => cs
 | v :: vs => aV (cs.set off v) (off + 1) vs
theorem Lp {b : Nat} {M : Nat -> Prop} (hM : M b) : ∀ (vs : List aJ3) (w : aJ2) (off i : Nat) (cs : List aJ3), cJ w b cs -> off + i + vs.length <= cs.length -> (∀ v ∈ vs, one v = true) →
 ∃ w', (storeCells ⟨b, off, none⟩ vs i).run P w = .ok () w' /\ cJ w' b (aV cs (off + i) vs) /\ aS w w' M /\ w'.heap.size = w.heap.size /\ w'.drawn = w.drawn := by
 intro vs
 induction vs with
 | nil => intro w off i cs ho _ _; exact ⟨w, by simp [storeCells], ho, aS.refl _ _, rfl, rfl⟩
 | cons v vs ih =>
   intro w off i cs ho h hv
   simp only [aH5] at h
   have ha : (⟨b, off, none⟩ : Addr).add i = ⟨b, off + i, none⟩ := by
    unfold Addr.add; split
    .rename_i hi; subst hi; rfl
    .rfl
   have hlt : off + i < cs.length := by omega
   have hc : w.cell? ⟨b, off + i, none⟩ = some cs[off + i] := by rw [ho.cell]; simp
   have hs := azQ (P := P) (hv v (by simp)) hc (ho.free hlt)
   obtain ⟨w', h1, h2, h3, h4, h5⟩ := ih (w.setCell ⟨b, off + i, none⟩ v) off (i + 1) (cs.set (off + i) v) (ho.setCell v) (by simp; omega) (fun x hx => hv x (aH0 _ hx))
   refine ⟨w', ?_, h2, (aS.setCell w _ v fun _ => hM).trans h3 (fun _ _ h => h), by rw [h4]; simp, by rw [h5] <;> rfl⟩
   simp only [storeCells, Sem.run_bind, ha, hs, Result.andThen_ok]
   exact h1
theorem kF {i : TypeInfo} (hi : P.info? t = some i) {b off : Nat} {cs : List aJ3} (ho : cJ w b cs) {v : aJ3} (hs : v.cells.size = i.size)
 (hv : ∀ x ∈ v.cells.toList, one x = true) (h : off + i.size <= cs.length) {K : aJ3 -> aJ2 -> Prop}
 (hk : ∀ w', cJ w' b (aV cs off v.cells.toList) -> aS w w' (fun x => x = b) -> w'.heap.size = w.heap.size -> K undef w') : aC P (aJ t (.pointer (some ⟨b, off, none⟩)) v) w K := by
 obtain ⟨w', h1, h2, h3, h4, _⟩ := Lp (P := P) (M := fun x => x = b) rfl v.cells.toList w off 0 cs ho (by simp [hs]; omega) hv
 have : (aJ t (.pointer (some ⟨b, off, none⟩)) v).run P w = .ok .skip w' := by
  unfold aJ
  rw [aHj]
  simp only [Instr.storeAt, Instr.sureAddr, storeVar, pure_bind, Sem.run_bind, gM hi, Result.andThen_ok, hs]
  simp [h1]
 unfold aC
 rw [this]
 exact hk w' h2 h3 h4
theorem arW {v : aJ3} (hv : one v = true) : v.cells = #[v] := by cases v <;> simp [one] at hv <;> rfl
theorem vU {i : TypeInfo} (hi : P.info? t = some i) (h1 : i.size = 1) {b off : Nat} {cs : List aJ3} (ho : cJ w b cs) {v : aJ3} (hv : one v = true) (h : off < cs.length) {K : aJ3 -> aJ2 -> Prop}
 (hk : ∀ w', cJ w' b (cs.set off v) -> aS w w' (fun x => x = b) -> w'.heap.size = w.heap.size -> K undef w') : aC P (aJ t (.pointer (some ⟨b, off, none⟩)) v) w K := by
 have e := arW hv
 refine kF hi ho (by rw [e, h1] <;> rfl) (by rw [e]; simpa using hv) (by omega) fun w' a b c => hk w' ?_ b c
 rw [e] at a; exact a
def ldC (c : Option aJ3) (w : aJ2) (far : Result Next) : Result Next := match c with | some v => .ok (.value v) w | none => far
def far (P : Program) (t : TypeId) (x : Addr) (w : aJ2) : Result Next := (aH t (.pointer (some x))).run P w
theorem aI (v : aJ3) (w : aJ2) (f : Result Next) : ldC (some v) w f = .ok (.value v) w := rfl
theorem amV {d : TypeDesc} (hu : P.underlying t = some d) (hd : axP d = false) (x : Addr) (w : aJ2) :
 (aH t (.pointer (some x))).run P w = ldC (w.cell? x) w (far P t x w) := by
 cases h : w.cell? x with
 | none => rfl
 | some v =>
   unfold aH
   rw [qG]
   simp only [Instr.loadAt, Instr.sureAddr, loadVar, pure_bind, Sem.run_bind, PG hu, hd, Result.andThen_ok, aHP, if_false, run_load, h, ldC]
theorem CS {d : TypeDesc} {i : TypeInfo} (hu : P.underlying t = some d) (hd : axP d = true) (hi : P.info? t = some i) {b off : Nat} {cs : List aJ3} (ho : cJ w b cs) (h : off + i.size <= cs.length) {K : aJ3 -> Prop}
 (hk : K (.agg ((cs.drop off).take i.size).toArray)) : kI P t (.pointer (some ⟨b, off, none⟩)) w K := by
 refine ⟨_, ?_, hk⟩
 simp only [asAddr, loadVar, pure_bind, Sem.run_bind, PG hu, hd, Result.andThen_ok, if_true, gM hi, VZ ho h, Sem.run_pure]
theorem fV {v : aJ3} {K : aJ3 -> aJ2 -> Prop} (hk : ∀ w', cJ w' w.heap.size v.cells.toList -> aS w w' cM -> w'.heap.size = w.heap.size + 1 -> K (.pointer (some ⟨w.heap.size, 0, none⟩)) w') :
 aC P (rL t v) w K := by
 have : (rL t v).run P w = .ok (.value (.pointer (some ⟨w.heap.size, 0, none⟩))) (w.alloc (.cells v.cells.toList.toArray t)) := by
  unfold rL; rw [qG]
  simp [Instr.box, newVar, newRow]
 unfold aC
 rw [this]
 exact hk _ (cJ.alloc _ _ _) (aS.alloc _ _ _) (by simp)
theorem jP {i : TypeInfo} {z : aJ3} (hi : P.info? t = some i) (hz : i.zero = some z) {K : aJ3 -> aJ2 -> Prop}
 (hk : ∀ w', cJ w' w.heap.size z.cells.toList -> aS w w' cM -> w'.heap.size = w.heap.size + 1 -> K (.pointer (some ⟨w.heap.size, 0, none⟩)) w') :
 aC P (bS t) w K := by
 have : (bS t).run P w = .ok (.value (.pointer (some ⟨w.heap.size, 0, none⟩))) (w.alloc (.cells z.cells.toList.toArray t)) := by
  unfold bS; rw [qG]
  simp [Instr.alloc, zeroValue, typeInfo, hi, hz, newVar, newRow]
 unfold aC
 rw [this]
 exact hk _ (cJ.alloc _ _ _) (aS.alloc _ _ _) (by simp)
end
theorem zY {P : Program} {w : aJ2} {k : IntKind} {a : Int} {y : Nat} {code : BoundsCode} (h0 : 0 <= a) (h1 : a <= y) : (Instr.sliceBound (.int k a) y code).run P w = .ok a.toNat w := by
 simp [Instr.sliceBound, asIntOf, h0, h1]
section
variable {P : Program} {w : aJ2} {t e : TypeId} {k k' : IntKind} {lo hi : Int} {i : TypeInfo}
def iH (x : Option Addr) (m l sz : Nat) : Option Addr := if m = l then x else x.map (·.add (l * sz))
theorem anS (hu : P.underlying t = some (.slice e)) (hi' : P.info? e = some i) (x : Option Addr) (n c : Nat) (h0 : 0 <= lo) (h1 : lo <= n) :
 (fH t (.slice x n c) (some (.int k lo)) none none).run P w = .ok (.value (.slice (iH x c lo.toNat i.size) (n - lo.toNat) (c - lo.toNat))) w := by
 simp only [fH, qG, Instr.sliceAt, underlying, hu, Sem.run_bind, run_program, Result.andThen_ok, Sem.run_pure, Instr.slice, Instr.sliceBounds, pure_bind, zY h0 h1, gM hi', iH]
theorem QT (hu : P.underlying t = some (.slice e)) (hi' : P.info? e = some i) (x : Option Addr) (n c : Nat) (h0 : 0 <= hi) (h1 : hi <= c) :
 (fH t (.slice x n c) none (some (.int k hi)) none).run P w = .ok (.value (.slice (iH x c 0 i.size) (hi.toNat - 0) (c - 0))) w := by
 simp only [fH, qG, Instr.sliceAt, underlying, hu, Sem.run_bind, run_program, Result.andThen_ok, Sem.run_pure, Instr.slice, Instr.sliceBounds, pure_bind, zY h0 h1, gM hi', iH]
theorem asR (hu : P.underlying t = some (.slice e)) (hi' : P.info? e = some i) (x : Option Addr) (n c : Nat) (h0 : 0 <= lo) (h1 : lo <= hi) (h2 : hi <= c) :
 (fH t (.slice x n c) (some (.int k lo)) (some (.int k' hi)) none).run P w = .ok (.value (.slice (iH x c lo.toNat i.size) (hi.toNat - lo.toNat) (c - lo.toNat))) w := by
 have h3 : (0 : Int) <= hi := by omega
 have h4 : lo <= (hi.toNat : Int) := by omega
 simp only [fH, qG, Instr.sliceAt, underlying, hu, Sem.run_bind, run_program, Result.andThen_ok, Sem.run_pure, Instr.slice, Instr.sliceBounds, pure_bind, zY h3 h2, zY h0 h4, gM hi', iH]
theorem awE (hu : P.underlying t = some .string) (x : ByteArray) (h0 : 0 <= lo) (h1 : lo <= x.size) :
 (fH t (.string x) (some (.int k lo)) none none).run P w = .ok (.value (.string (x.extract lo.toNat x.size))) w := by
 simp only [fH, qG, Instr.sliceAt, underlying, hu, Sem.run_bind, run_program, Result.andThen_ok, Sem.run_pure, Instr.slice, Instr.sliceBounds, pure_bind, Option.isSome_none, aHP, if_false, zY h0 h1]
theorem awY (hu : P.underlying t = some .string) (x : ByteArray) (h0 : 0 <= hi) (h1 : hi <= x.size) :
 (fH t (.string x) none (some (.int k hi)) none).run P w = .ok (.value (.string (x.extract 0 hi.toNat))) w := by
 simp only [fH, qG, Instr.sliceAt, underlying, hu, Sem.run_bind, run_program, Result.andThen_ok, Sem.run_pure, Instr.slice, Instr.sliceBounds, pure_bind, Option.isSome_none, aHP, if_false, zY h0 h1]
def uX (a : Addr) (m l sz : Nat) : Addr := if m = l then a else a.add (l * sz)
theorem awG {n : Nat} (hu : P.underlying t = some (.array n e)) (hi' : P.info? e = some i) (x : Addr) (h0 : 0 <= hi) (h1 : hi <= n) :
 (fH t (.pointer (some x)) none (some (.int k hi)) none).run P w = .ok (.value (.slice (some (uX x n 0 i.size)) (hi.toNat - 0) (n - 0))) w := by
 simp only [fH, qG, Instr.sliceAt, Instr.sureAddr, underlying, hu, Sem.run_bind, run_program, Result.andThen_ok, Sem.run_pure, Instr.sliceBounds, pure_bind, zY h0 h1, gM hi', uX]
theorem CI {n : Nat} (hu : P.underlying t = some (.array n e)) (hi' : P.info? e = some i) (x : Addr) :
 (fH t (.pointer (some x)) none none none).run P w = .ok (.value (.slice (some (uX x n 0 i.size)) (n - 0) (n - 0))) w := by
 simp only [fH, qG, Instr.sliceAt, Instr.sureAddr, underlying, hu, Sem.run_bind, run_program, Result.andThen_ok, Sem.run_pure, Instr.sliceBounds, pure_bind, gM hi', uX]
end
def Sl (w : aJ2) (v : aJ3) (l : List aJ3) : Prop :=
 ∃ a n c, v = .slice a n c /\ n = l.length /\ n <= c /\ (0 < n -> ∃ b off, a = some ⟨b, off, none⟩ /\ ∀ i, i < n -> w.cell? ⟨b, off + i, none⟩ = l[i]?)
def inB (v : aJ3) (M : Nat -> Prop) : Prop := match v with | .slice (some a) (_ + 1) _ => M a.block | _ => False
theorem Sl.ext {w w' : aJ2} {v : aJ3} {l : List aJ3} {M : Nat -> Prop} (h : Sl w v l) (hx : aS w w' M) (hM : ¬ inB v M) : Sl w' v l := by
 obtain ⟨a, n, c, rfl, hn, hc, h⟩ := h
 refine ⟨a, n, c, rfl, hn, hc, fun h0 => ?_⟩
 obtain ⟨b, off, rfl, h2⟩ := h h0
 refine ⟨b, off, rfl, fun i hi => ?_⟩
 have h1 := h2 i hi
 obtain ⟨v, hv⟩ : ∃ v, l[i]? = some v := ⟨l[i], by simp⟩
 rw [hv] at h1 ⊢
 refine aoN h1 hx ?_
 obtain ⟨m, rfl⟩ : ∃ m, n = m + 1 := ⟨n - 1, by omega⟩
 exact hM
theorem Sl.old {w : aJ2} {v : aJ3} {l : List aJ3} (h : Sl w v l) : ¬ inB v (fun b => w.heap.size <= b) := by
 obtain ⟨a, n, c, rfl, hn, hc, h⟩ := h
 unfold inB
 split
 .rename_i x m _ e
  obtain ⟨rfl, rfl, rfl⟩ : a = some x /\ n = m + 1 /\ c = _ := by simpa using e
  obtain ⟨b, off, e, h2⟩ := h (by omega)
  have e := aH2 e; subst e
  have h1 := h2 0 (by omega)
  obtain ⟨v, hv⟩ : ∃ v, l[0]? = some v := ⟨l[0], by simp⟩
  rw [hv] at h1
  have := World.block_lt_of_cell? _ _ h1
  simp at this ⊢; omega
 .simp
def GI (x : UInt8) : aJ3 := .int .u8 x.toNat
abbrev Bs (w : aJ2) (v : aJ3) (l : List UInt8) : Prop := Sl w v (l.map GI)
theorem Fb (b o n : Nat) : (⟨b, o, none⟩ : Addr).add n = ⟨b, o + n, none⟩ := by
 unfold Addr.add; split
 .rename_i h; subst h; rfl
 .rfl
section
variable {P : Program} {w : aJ2} {t e : TypeId} {k : IntKind} {a : Int}
theorem adW {inf : TypeInfo} {sz : Nat} (hz : inf.size = sz) (hu : P.underlying t = some (.slice e)) (hi : P.info? e = some inf) (b o n c : Nat) (h0 : 0 <= a) (h1 : a < n) :
 (bA t (.slice (some ⟨b, o, none⟩) n c) (.int k a)).run P w = .ok (.value (.pointer (some ⟨b, o + a.toNat * sz, none⟩))) w := by
 rw [axM hu hi _ n c h0 h1, Fb, hz]
theorem US {inf : TypeInfo} (hz : inf.size = 1) (hu : P.underlying t = some (.slice e)) (hi : P.info? e = some inf) (b o n c : Nat) (h0 : 0 <= a) (h1 : a < n) :
 (bA t (.slice (some ⟨b, o, none⟩) n c) (.int k a)).run P w = .ok (.value (.pointer (some ⟨b, o + a.toNat, none⟩))) w := by
 rw [axM hu hi _ n c h0 h1, Fb, hz, aJx]
theorem arO {inf : TypeInfo} {sz len : Nat} (hz : inf.size = sz) (hu : P.underlying t = some (.array len e)) (hi : P.info? e = some inf) (b o : Nat) (h0 : 0 <= a) (h1 : a < (len : Int)) :
 (bA t (.pointer (some ⟨b, o, none⟩)) (.int k a)).run P w = .ok (.value (.pointer (some ⟨b, o + a.toNat * sz, none⟩))) w := by
 rw [awB hu hi _ h0 h1, Fb, hz]
theorem Jn {inf : TypeInfo} {len : Nat} (hz : inf.size = 1) (hu : P.underlying t = some (.array len e)) (hi : P.info? e = some inf) (b o : Nat) (h0 : 0 <= a) (h1 : a < (len : Int)) :
 (bA t (.pointer (some ⟨b, o, none⟩)) (.int k a)).run P w = .ok (.value (.pointer (some ⟨b, o + a.toNat, none⟩))) w := by
 rw [awB hu hi _ h0 h1, Fb, hz, aJx]
end
def lL (x : ByteArray) : List UInt8 := x.data.toList
theorem kK (x : ByteArray) : (lL x).length = x.size := by unfold lL; rw [aIZ] <;> rfl
theorem abN (x : ByteArray) (i : Nat) (h : i < x.size) : x[i]'h = (lL x)[i]'(by rw [kK]; exact h) := rfl
theorem L9 (x : ByteArray) (a b : Nat) : lL (x.extract a b) = ((lL x).drop a).take (b - a) := by
 unfold lL; rw [ByteArray.data_extract, Array.toList_extract, List.extract_eq_take_drop]
theorem aD5 (l : List UInt8) : lL ⟨l.toArray⟩ = l := rfl
theorem aBe {x y : ByteArray} (h : lL x = lL y) : x = y := by
 cases x; cases y; unfold lL at h; congr; exact Array.toList_inj.1 h
section
variable {P : Program} {w : aJ2} {s d e : TypeId}
theorem aDl (hs : P.underlying s = some (.slice e)) (hd : P.underlying d = some .string) (he : P.underlying e = some (.int .u8)) {l : List UInt8} {v : aJ3} (h : Bs w v l) :
 (fL s d v).run P w = .ok (.value (.string ⟨l.toArray⟩)) w := by
 obtain ⟨a, n, c, rfl, hn, hc, h⟩ := h
 simp only [aHU] at hn
 unfold fL
 rw [qG]
 have key : (convert s d (.slice a n c)).run P w = .ok (.string ⟨l.toArray⟩) w := by
  cases a with
  | none =>
    have hl : l = [] := by
     cases l with
     | nil => rfl
     | cons x l => obtain ⟨b, off, e, _⟩ := h (by rw [hn]; simp); cases e
    subst hl
    rw [run_convert_bytes_string w s d e none n c hs he hd]
    rfl
  | some x =>
    subst hn
    refine run_convert_bytes_back w s d e x c l hs he hd fun j hj => ?_
    obtain ⟨b, off, hx, h2⟩ := h (by omega)
    have hx := aH2 hx
    subst hx
    rw [Fb, h2 j hj]
    simp [GI, hj]
 rw [key] <;> rfl
end
theorem azN (l : List UInt8) : ∀ x ∈ l.map GI, one x = true := by
 intro x hx
 obtain ⟨c, _, rfl⟩ := aIx.1 hx
 rfl
theorem aCk {b o m l sz : Nat} (h : l ≠ m) : uX ⟨b, o, none⟩ m l sz = ⟨b, o + l * sz, none⟩ := by
 unfold uX; rw [if_neg (fun e => h e.symm), Fb]
theorem EB {b o m l : Nat} (h : l ≠ m) : uX ⟨b, o, none⟩ m l 1 = ⟨b, o + l, none⟩ := by rw [aCk h, aJx]
theorem Sl.drop {w : aJ2} {b o n c : Nat} {l : List aJ3} (h : Sl w (.slice (some ⟨b, o, none⟩) n c) l) {k : Nat} (hk : k <= n) :
 Sl w (.slice (iH (some ⟨b, o, none⟩) c k 1) (n - k) (c - k)) (l.drop k) := by
 obtain ⟨x, m, c', e, hm, hc, hh⟩ := h
 cases e
 refine ⟨_, _, _, rfl, by rw [aIb]; omega, by omega, fun h0 => ?_⟩
 obtain ⟨b', o', e, h2⟩ := hh (by omega)
 cases e
 have hne : ¬ c = k := by omega
 refine ⟨b, o + k, by unfold iH; rw [if_neg hne, aIu, Fb, aJx], fun i hi => ?_⟩
 rw [aI5, h2 (k + i) (by omega), aIV]
theorem Sl.take {w : aJ2} {b o n c : Nat} {l : List aJ3} (h : Sl w (.slice (some ⟨b, o, none⟩) n c) l) {k : Nat} (hk : k <= n) :
 Sl w (.slice (iH (some ⟨b, o, none⟩) c 0 1) (k - 0) (c - 0)) (l.take k) := by
 obtain ⟨x, m, c', e, hm, hc, hh⟩ := h
 cases e
 refine ⟨_, _, _, rfl, by rw [aHZ]; omega, by omega, fun h0 => ?_⟩
 obtain ⟨b', o', e, h2⟩ := hh (by omega)
 cases e
 have hne : ¬ c = 0 := by omega
 refine ⟨b, o, by unfold iH; rw [if_neg hne, aIu, Fb] <;> rfl, fun i hi => ?_⟩
 rw [h2 i (by omega), aIl (by omega)]
theorem cJ.bs {w : aJ2} {b off c : Nat} {cs : List aJ3} {l : List UInt8} (h : cJ w b cs) (hc : l.length <= c) (hl : ∀ i (hi : i < l.length), cs[off + i]? = some (GI l[i])) : Bs w (.slice (some ⟨b, off, none⟩) l.length c) l :=
 ⟨_, _, _, rfl, by simp, hc, fun _ => ⟨b, off, rfl, fun i hi => by rw [h.cell, hl i hi]; simp [hi]⟩⟩
section
variable {P : Program} {w : aJ2} {t e : TypeId} {k : IntKind} {a : Int}
theorem aGh {len : Nat} {d : TypeDesc} {i : TypeInfo} (hu : P.underlying t = some (.array len e)) (hd : P.underlying e = some d) (ha : axP d = false) (hi : P.info? e = some i) (h1 : i.size = 1)
 (cs : Array aJ3) (h0 : 0 <= a) (hl : a < (len : Int)) {v : aJ3} (hv : cs[a.toNat]? = some v) : (HM t (.agg cs) (.int k a)).run P w = .ok (.value v) w := by
 unfold HM
 rw [qG]
 simp only [Instr.index, asIntOf, pure_bind, underlying, hu, Sem.run_bind, run_program, Result.andThen_ok, Sem.run_pure, h0, hl, and_self, if_true, gM hi, h1, aJx, part, PG hd, ha, aHP, if_false, hv]
def aF2 (P : Program) (t : TypeId) (cs : Array aJ3) (k : IntKind) (a : Int) (w : aJ2) : Result Next := (HM t (.agg cs) (.int k a)).run P w
theorem aCC {len : Nat} {d : TypeDesc} {i : TypeInfo} (hu : P.underlying t = some (.array len e)) (hd : P.underlying e = some d) (ha : axP d = false) (hi : P.info? e = some i) (h1 : i.size = 1)
 (cs : Array aJ3) (h0 : 0 <= a) (hl : a < (len : Int)) : (HM t (.agg cs) (.int k a)).run P w = ldC cs[a.toNat]? w (aF2 P t cs k a w) := by
 cases hv : cs[a.toNat]? with
 | none => rfl
 | some v => exact aGh hu hd ha hi h1 cs h0 hl hv
theorem auQ {b off : Nat} {l : List aJ3} (h : ∀ i, i < l.length -> w.cell? ⟨b, off + i, none⟩ = l[i]?) (n : Nat) (hn : n <= l.length) :
 (loadCells ⟨b, off, none⟩ n).run P w = .ok (l.take n).toArray w := by
 have key : ∀ (m i : Nat) (acc : Array aJ3), i + m <= l.length -> (loadCellsFrom ⟨b, off, none⟩ i m acc).run P w = .ok (acc ++ ((l.drop i).take m).toArray) w := by
  intro m
  induction m with
  | zero => intro i acc _; simp [loadCellsFrom]
  | succ m ih =>
    intro i acc hm
    have hc := h i (by omega)
    rw [aHQ (by omega)] at hc
    simp only [loadCellsFrom, Sem.run_bind, run_load, Fb, hc, Result.andThen_ok]
    rw [ih (i + 1) _ (by omega), aIh (by omega : i < l.length), aHG]
    simp
 unfold loadCells
 rw [key n 0 #[] (by omega)]
 simp
theorem aD3 {i : TypeInfo} {z : aJ3} (hu : P.underlying t = some (.slice e)) (hi : P.info? e = some i) (h1 : i.size = 1) (hz : i.zero = some z) (hz1 : one z = true) {n : Int} (h0 : 0 <= n) (hn : i.bytes * n <= 2 ^ 48) (hn2 : n <= 9223372036854775807)
 {K : aJ3 -> aJ2 -> Prop}
 (hk : ∀ w', cJ w' w.heap.size (List.replicate n.toNat z) -> aS w w' cM -> w'.heap.size = w.heap.size + 1 -> K (.slice (some ⟨w.heap.size, 0, none⟩) n.toNat n.toNat) w') :
 aC P (xZ t (.int k n) (.int k n)) w K := by
 have hw : IntKind.i64.wrap n = n := aT (by omega) hn2
 have hcells : z.cells = #[z] := arW hz1
 have harr : (Array.range n.toNat).map (fun j => (#[z] : Array aJ3)[j % (#[z] : Array aJ3).size]!) = (List.replicate n.toNat z).toArray := by
  apply Array.ext
  .simp
  .intro j h1 h2; simp [Nat.mod_one]
 have hz' : (zeroValue e).run P w = .ok z w := by simp [zeroValue, typeInfo, hi, hz]
 have : (xZ t (.int k n) (.int k n)).run P w = .ok (.value (.slice (some ⟨w.heap.size, 0, none⟩) n.toNat n.toNat)) (w.alloc (.cells (List.replicate n.toNat z).toArray e)) := by
  unfold xZ
  rw [qG]
  have t1 : (decide (n < 0) || decide ((i.bytes : Int) * n > 2 ^ 48) || decide (n < 0) || decide (n > n)) = false := by
   simp only [aJE, decide_eq_false_iff_not]; omega
  by_cases hn0 : n.toNat = 0
  .simp only [Instr.makeSlice, underlying, typeInfo, asInt, asIntOf, pure_bind, Sem.run_bind, run_program, Result.andThen_ok, hu, hi, Sem.run_pure, hw, t1, aHP, if_false, run_askRoom, gM hi, h1, aJx, hn0, if_true, newRow, run_newObj]
   have : (Array.range 0).map (fun x => (#[] : Array aJ3)[x % (#[] : Array aJ3).size]!) = (List.replicate 0 z).toArray := by simp
   rw [this]
   rfl
  .simp only [Instr.makeSlice, underlying, typeInfo, asInt, asIntOf, pure_bind, Sem.run_bind, run_program, Result.andThen_ok, hu, hi, Sem.run_pure, hw, t1, aHP, if_false, run_askRoom, gM hi, h1, aJx, hn0, hz', hcells, newRow, run_newObj, harr]
   rfl
 unfold aC
 rw [this]
 exact hk _ (cJ.alloc _ _ _) (aS.alloc _ _ _) (by simp)
end
def Cl (w : aJ2) (sz : Nat) (v : aJ3) (n : Nat) (l : List aJ3) : Prop :=
 ∃ a c, v = .slice a n c /\ l.length = n * sz /\ (0 < n -> ∃ b off, a = some ⟨b, off, none⟩ /\ ∀ i, i < l.length -> w.cell? ⟨b, off + i, none⟩ = l[i]?)
def rN (w : aJ2) (base sz : Nat) (v : aJ3) (n : Nat) (l : List aJ3) : Prop :=
 l.length = n * sz /\ ((v = .slice none 0 0 /\ n = 0) ∨
   ∃ b c rest, v = .slice (some ⟨b, 0, none⟩) n c /\ base <= b /\ cJ w b (l ++ rest) /\ (l ++ rest).length = c * sz /\ n <= c)
def OSS (w : aJ2) (S : Nat -> Prop) (sz : Nat) (v : aJ3) (n : Nat) (l : List aJ3) : Prop :=
 l.length = n * sz /\ ((v = .slice none 0 0 /\ n = 0) ∨
   ∃ b c rest, v = .slice (some ⟨b, 0, none⟩) n c /\ S b /\ cJ w b (l ++ rest) /\ (l ++ rest).length = c * sz /\ n <= c)
theorem Sl.cl {w : aJ2} {v : aJ3} {l : List aJ3} (h : Sl w v l) : Cl w 1 v l.length l := by
 obtain ⟨a, n, c, rfl, rfl, hc, h⟩ := h
 exact ⟨a, c, rfl, by omega, fun h0 => h h0⟩
theorem cJ.cl {w : aJ2} {b sz n c off : Nat} {cs l : List aJ3} (h : cJ w b cs) (hl : l.length = n * sz) (hcs : ∀ i, i < l.length -> cs[off + i]? = l[i]?) : Cl w sz (.slice (some ⟨b, off, none⟩) n c) n l :=
 ⟨_, _, rfl, hl, fun _ => ⟨b, off, rfl, fun i hi => by rw [h.cell, hcs i hi]⟩⟩
theorem rN.nil (w : aJ2) (base sz : Nat) : rN w base sz (.slice none 0 0) 0 [] := ⟨by simp, .inl ⟨rfl, rfl⟩⟩
theorem rN.ext {w w' : aJ2} {base sz n : Nat} {v : aJ3} {l : List aJ3} {M : Nat -> Prop} (h : rN w base sz v n l) (hx : aS w w' M) (hM : ∀ b, base <= b -> ¬ M b) : rN w' base sz v n l := by
 refine ⟨h.1, ?_⟩
 rcases h.2 with h2 | ⟨b, c, rest, h1, h2, h3, h4, h5⟩
 .exact .inl h2
 .exact .inr ⟨b, c, rest, h1, h2, h3.ext hx (hM b h2), h4, h5⟩
theorem rN.cl {w : aJ2} {base sz n : Nat} {v : aJ3} {l : List aJ3} (h : rN w base sz v n l) : Cl w sz v n l := by
 rcases h.2 with ⟨rfl, rfl⟩ | ⟨b, c, rest, rfl, h2, h3, h4, h5⟩
 .exact ⟨_, _, rfl, h.1, fun h => by omega⟩
 .refine ⟨_, _, rfl, h.1, fun _ => ⟨b, 0, rfl, fun i hi => ?_⟩⟩
  rw [h3.cell, aHI, aHW hi]
theorem rN.sl {w : aJ2} {base n : Nat} {v : aJ3} {l : List aJ3} (h : rN w base 1 v n l) : Sl w v l := by
 have hl := h.1
 rcases h.2 with ⟨rfl, rfl⟩ | ⟨b, c, rest, rfl, h2, h3, h4, h5⟩
 .exact ⟨_, _, _, rfl, by omega, by omega, fun h => by omega⟩
 .refine ⟨_, _, _, rfl, by omega, h5, fun _ => ⟨b, 0, rfl, fun i hi => ?_⟩⟩
  rw [h3.cell, aHI, aHW (by omega)]
section
variable {P : Program} {w : aJ2} {t e : TypeId}
theorem YN {b off : Nat} {l : List aJ3} (h : ∀ i, i < l.length -> w.cell? ⟨b, off + i, none⟩ = l[i]?) : (loadCells ⟨b, off, none⟩ l.length).run P w = .ok l.toArray w := by
 have := auQ (P := P) h l.length (aHS _)
 rwa [aJi] at this
theorem AG {sz n : Nat} {v : aJ3} {l : List aJ3} (h : Cl w sz v n l) : (Builtin.firstCells sz n v).run P w = .ok l.toArray w := by
 obtain ⟨x, c, rfl, hl, hh⟩ := h
 cases x with
 | none =>
   have : n = 0 := by
    rcases aIN n with h | h
    .exact h
    .obtain ⟨b, off, e, _⟩ := hh h; cases e
   subst this
   have : l = [] := aIk.1 (by omega)
   subst this
   simp [Builtin.firstCells]
 | some x =>
   simp only [Builtin.firstCells]
   rw [<- hl]
   by_cases h0 : 0 < n
   .obtain ⟨b, off, e, h2⟩ := hh h0
    have e := aH2 e; subst e
    exact YN h2
   .have : n = 0 := by omega
    subst this
    have : l = [] := aIk.1 (by omega)
    subst this
    simp [loadCells, loadCellsFrom]
theorem qL (zs : Array aJ3) (n : Nat) : (Builtin.zeroCells zs n).size = n * zs.size := by simp [Builtin.zeroCells]
theorem OA (vs : List aJ3) : ∀ (aHF rest : List aJ3), vs.length <= rest.length -> aV (aHF ++ rest) aHF.length vs = aHF ++ vs ++ rest.drop vs.length := by
 induction vs with
 | nil => intro aHF rest _; simp [aV]
 | cons v vs ih =>
   intro aHF rest h
   cases rest with
   | nil => simp at h
   | cons r rest =>
     have := ih (aHF ++ [v]) rest (by simpa using h)
     simp only [aV, aHR, aH5, List.length_nil, aHV, aIP, aIv] at this ⊢
     rw [aIs, <- this, aJm _ _ (aHS _), aJk, aHL, aHI]
theorem uL {S : Nat -> Prop} {sz n m : Nat} {i : TypeInfo} {z : aJ3} {ty t2 e2 : TypeId} (hu : P.underlying t = some (.slice e)) (hu2 : P.underlying t2 = some (.slice e2)) (hi : P.info? e = some i) (hsz : i.size = sz) (hz : i.zero = some z) (hzs : z.cells.size = sz)
 {v x : aJ3} {l news : List aJ3} (h : OSS w S sz v n l) (hx : Cl w sz x m news) (hone : ∀ y ∈ news, one y = true) (hb : ∀ b, w.heap.size <= b -> S b)
 (hn : n + m <= 9223372036854775807) (hbytes : (n + m) * i.bytes <= 140737488355328) (_hpos : i.bytes ≠ 0)
 {K : aJ3 -> aJ2 -> Prop} (hk : ∀ v' w', OSS w' S sz v' (n + m) (l ++ news) -> aS w w' S -> K v' w') : aC P (jM .append #[t, t2] ty [v, x]) w K := by
 have hlx : (Builtin.lenOf x).run P w = .ok m w := by
  obtain ⟨a, c, rfl, _⟩ := hx; simp [Builtin.lenOf]
 have hnl := hx.choose_spec.choose_spec.2.1
 have hfx := AG (P := P) hx
 have hmax : IntKind.i64.max = 9223372036854775807 := by decide
 have hnot : ¬ (((n + m : Nat) : Int) > IntKind.i64.max /\ (False ∨ i.bytes = 0)) := by rw [hmax]; omega
 have hz' : ∀ w, (zeroValue e).run P w = .ok z w := fun w => by simp [zeroValue, typeInfo, hi, hz]
 have hlen := h.1
 rcases h.2 with ⟨rfl, rfl⟩ | ⟨b, c, rest, rfl, h2, h3, h4, h5⟩
 .
  have hl0 : l = [] := aIk.1 (by omega)
  subst hl0
  by_cases hm : m = 0
  .subst hm
   have hn0 : news = [] := aIk.1 (by omega)
   subst hn0
   have : (jM .append #[t, t2] ty [.slice none 0 0, x]).run P w = .ok (.value (.slice none 0 0)) w := by
    unfold jM builtin
    simp only [Builtin.append_, aIS, aHJ, aHK]
    simp only [underlying, Sem.run_bind, run_program, Result.andThen_ok, hu, hu2, Sem.run_pure, gM hi, hsz, aHP, if_false, hlx, aHS, aIB, if_true, aI7, hfx]
   unfold aC
   rw [this]
   exact hk _ _ ⟨by simp, .inl ⟨rfl, by omega⟩⟩ (aS.refl _ _)
  .have hfit := growslice_fits (need := 0 + m) (old := 0) (bytes := i.bytes) (by omega) (by omega)
   have hfit' : ¬ (Builtin.nextslicecap (0 + m) 0 * i.bytes > 2 ^ 48) := by omega
   have hle : ¬ (0 + m <= 0) := by omega
   have hq : (Question.appendCap (0 + m) 0 e).forced = false := rfl
   obtain ⟨r, hr⟩ : ∃ r, (Question.appendCap (0 + m) 0 e).cut (w.tape w.drawn (.appendCap (0 + m) 0 e)) = m + r :=
    ⟨(w.tape w.drawn (.appendCap (0 + m) 0 e)) % (2 ^ 63 - (0 + m)), by simp only [Question.cut]; omega⟩
   have : (jM .append #[t, t2] ty [.slice none 0 0, x]).run P w = .ok (.value (.slice (some ⟨w.heap.size, 0, none⟩) (0 + m) (m + r))) ((dr w).alloc (.cells (news ++ (Builtin.zeroCells z.cells (m + r - (0 + m))).toList).toArray e)) := by
    have hfx' := AG (P := P) (w := dr w) hx
    unfold jM builtin
    simp only [Builtin.append_, aIS, aHJ, aHK]
    simp only [underlying, typeInfo, Sem.run_bind, run_program, Result.andThen_ok, hu, hu2, hi, Sem.run_pure, gM hi, hsz, aHP, if_false, hlx, hle, aI7, if_true, hnot, hfit', run_choose, hq, hr, run_askRoom]
    change ((Sem.run P _ (dr w)).andThen _).andThen _ = _
    simp only [Sem.run_bind, hfx', run_firstCells_none, Result.andThen_ok, hz', Sem.run_pure, newRow, run_newObj]
    have e1 : (#[] ++ news.toArray ++ Builtin.zeroCells z.cells (m + r - (0 + m)) : Array aJ3) = (news ++ (Builtin.zeroCells z.cells (m + r - (0 + m))).toList).toArray := by
     apply Array.ext'; simp
    rw [e1]
    rfl
   unfold aC
   rw [this]
   refine hk _ _ ⟨by simp only [aIv]; rw [hnl, aHI], .inr ⟨w.heap.size, m + r, (Builtin.zeroCells z.cells (m + r - (0 + m))).toList, by rw [aHI], hb _ (aHS _), cJ.alloc (dr w) _ _, ?_, by omega⟩⟩ ((aS.dr w _).seq (aS.alloc _ _ _))
   simp only [aIv, aHR, aIZ, qL, hzs, hnl]
   rw [show m + r - (0 + m) = r from by omega, aIJ]
 .by_cases hc : n + m <= c
  .
   have hroom : news.length <= rest.length := by
    rw [aHR, hlen] at h4
    have : (n + m) * sz <= c * sz := aIp _ hc
    rw [aIJ] at this; omega
   obtain ⟨w', s1, s2, s3, s4, _⟩ := Lp (P := P) (M := S) h2 news w (n * sz) 0 (l ++ rest) h3 (by rw [aHR, hlen]; omega) hone
   have : (jM .append #[t, t2] ty [.slice (some ⟨b, 0, none⟩) n c, x]).run P w = .ok (.value (.slice (some ⟨b, 0, none⟩) (n + m) c)) w' := by
    unfold jM builtin
    simp only [Builtin.append_, aIS, aHJ, aHK]
    simp only [underlying, Sem.run_bind, run_program, Result.andThen_ok, hu, hu2, Sem.run_pure, gM hi, hsz, aHP, if_false, hlx, hc, if_true, aI7, hfx, Fb, aHI, s1]
   unfold aC
   rw [this]
   rw [aIB, <- hlen, OA _ _ _ hroom] at s2
   refine hk _ _ ⟨by rw [aHR, hlen, hnl, aIJ], .inr ⟨b, c, rest.drop news.length, rfl, h2, s2, ?_, hc⟩⟩ s3
   rw [<- h4]; simp; omega
  .
   have hfit := growslice_fits (need := n + m) (old := c) (bytes := i.bytes) (by omega) hbytes
   have hfit' : ¬ (Builtin.nextslicecap (n + m) c * i.bytes > 2 ^ 48) := by omega
   have hq : (Question.appendCap (n + m) c e).forced = false := rfl
   obtain ⟨r, hr⟩ : ∃ r, (Question.appendCap (n + m) c e).cut (w.tape w.drawn (.appendCap (n + m) c e)) = n + m + r :=
    ⟨(w.tape w.drawn (.appendCap (n + m) c e)) % (2 ^ 63 - (n + m)), by simp only [Question.cut]⟩
   have hold : Cl (dr w) sz (.slice (some ⟨b, 0, none⟩) n c) n l := ⟨_, _, rfl, hlen, fun _ => ⟨b, 0, rfl, fun i hi => by
    show w.cell? _ = _
    rw [h3.cell, aHI, aHW hi]⟩⟩
   have : (jM .append #[t, t2] ty [.slice (some ⟨b, 0, none⟩) n c, x]).run P w = .ok (.value (.slice (some ⟨w.heap.size, 0, none⟩) (n + m) (n + m + r))) ((dr w).alloc (.cells (l ++ news ++ (Builtin.zeroCells z.cells (n + m + r - (n + m))).toList).toArray e)) := by
    have hfx' := AG (P := P) (w := dr w) hx
    have hfo := AG (P := P) hold
    unfold jM builtin
    simp only [Builtin.append_, aIS, aHJ, aHK]
    simp only [underlying, typeInfo, Sem.run_bind, run_program, Result.andThen_ok, hu, hu2, hi, Sem.run_pure, gM hi, hsz, aHP, if_false, hlx, hc, aI7, if_true, hnot, hfit', run_choose, hq, hr, run_askRoom]
    change ((Sem.run P _ (dr w)).andThen _).andThen _ = _
    simp only [Sem.run_bind, hfx', hfo, Result.andThen_ok, hz', Sem.run_pure, newRow, run_newObj]
    have e1 : (l.toArray ++ news.toArray ++ Builtin.zeroCells z.cells (n + m + r - (n + m)) : Array aJ3) = (l ++ news ++ (Builtin.zeroCells z.cells (n + m + r - (n + m))).toList).toArray := by
     apply Array.ext'; simp
    rw [e1]
    rfl
   unfold aC
   rw [this]
   refine hk _ _ ⟨by rw [aHR, hlen, hnl, aIJ], .inr ⟨w.heap.size, n + m + r, _, rfl, hb _ (aHS _), cJ.alloc (dr w) _ _, ?_, by omega⟩⟩ ((aS.dr w _).seq (aS.alloc _ _ _))
   simp only [aHR, aIZ, qL, hzs, hnl, hlen]
   rw [show n + m + r - (n + m) = r from by omega, aIJ, aIJ]
theorem EO {base sz n m : Nat} {i : TypeInfo} {z : aJ3} {ty t2 e2 : TypeId} (hu : P.underlying t = some (.slice e)) (hu2 : P.underlying t2 = some (.slice e2)) (hi : P.info? e = some i) (hsz : i.size = sz) (hz : i.zero = some z) (hzs : z.cells.size = sz)
 {v x : aJ3} {l news : List aJ3} (h : rN w base sz v n l) (hx : Cl w sz x m news) (hone : ∀ y ∈ news, one y = true) (hb : base <= w.heap.size)
 (hn : n + m <= 9223372036854775807) (hbytes : (n + m) * i.bytes <= 140737488355328) (_hpos : i.bytes ≠ 0)
 {K : aJ3 -> aJ2 -> Prop} (hk : ∀ v' w', rN w' base sz v' (n + m) (l ++ news) -> aS w w' (fun y => base <= y) -> K v' w') : aC P (jM .append #[t, t2] ty [v, x]) w K :=
 uL (S := fun y => base <= y) hu hu2 hi hsz hz hzs h hx hone (fun _ h => aIM hb h) hn hbytes _hpos hk
end
section
variable {P : Program} {w : aJ2} {t e : TypeId}
theorem Bv {i : TypeInfo} {z : aJ3} {n : Nat} {ps : List (Nat × aJ3)} {cells : Array aJ3} (hu : P.underlying t = some (.slice e)) (hi : P.info? e = some i) (hz : i.zero = some z)
 (h1 : ¬ n * i.size > 2 ^ 24) (h0 : ¬ n * i.size = 0) (hf : Instr.fill (fun j => some (j * i.size, i.size)) ((Array.range (n * i.size)).map (z.cells[· % z.cells.size]!)) ps = some cells)
 {K : aJ3 -> aJ2 -> Prop} (hk : ∀ w', cJ w' w.heap.size cells.toList -> aS w w' cM -> w'.heap.size = w.heap.size + 1 -> K (.slice (some ⟨w.heap.size, 0, none⟩) n n) w') :
 aC P (bX t n ps) w K := by
 have hz' : (zeroValue e).run P w = .ok z w := by simp [zeroValue, typeInfo, hi, hz]
 have : (bX t n ps).run P w = .ok (.value (.slice (some ⟨w.heap.size, 0, none⟩) n n)) (w.alloc (.cells cells.toList.toArray e)) := by
  unfold bX; rw [qG]
  simp only [Instr.buildSlice, underlying, pure_bind, Sem.run_bind, run_program, Result.andThen_ok, hu, Sem.run_pure, gM hi, h1, h0, if_false, hz', hf, newRow, run_newObj]
  rfl
 unfold aC
 rw [this]
 exact hk _ (cJ.alloc _ _ _) (aS.alloc _ _ _) (by simp)
end
section
variable {P : Program} {w : aJ2} {t e : TypeId}
def Grown (es : Array MapEntry) (clock : Nat) : Prop := (es.toList.map (·.born)).Pairwise (· < ·) /\ ∀ e ∈ es.toList, e.born < clock
def Mp {κ : Type} (w : aJ2) (m : Nat) (enc : κ -> aJ3) (l : List (κ × aJ3)) : Prop :=
 ∃ es clock, w.heap[m]? = some (.map es clock) /\ es.toList.map (fun e => (e.key, e.val)) = l.map (fun p => (enc p.1, p.2)) /\ Grown es clock /\ (l.map (·.1)).Nodup
theorem Mp.lt {κ : Type} {m : Nat} {enc : κ -> aJ3} {l : List (κ × aJ3)} (h : Mp w m enc l) : m < w.heap.size := by
 obtain ⟨es, c, h, _⟩ := h
 rcases aH6 m w.heap.size with h' | h'
 .exact h'
 .rw [aJw h'] at h; cases h
theorem Mp.ext {κ : Type} {w w' : aJ2} {m : Nat} {enc : κ -> aJ3} {l : List (κ × aJ3)} {M : Nat -> Prop} (h : Mp w m enc l) (hx : aS w w' M) (hM : ¬ M m) : Mp w' m enc l := by
 have := h.lt
 obtain ⟨es, c, h, k⟩ := h
 exact ⟨es, c, by rw [hx.keep m this hM]; exact h, k⟩
theorem Mp.dr {κ : Type} {w : aJ2} {m : Nat} {enc : κ -> aJ3} {l : List (κ × aJ3)} (h : Mp w m enc l) : Mp (dr w) m enc l := h
variable {κ : Type} [DecidableEq κ] {enc : κ -> aJ3}
theorem UR {d : TypeDesc} {i : TypeInfo} (hu : P.underlying t = some d) (hd : axP d = true) (hi : P.info? t = some i) {b off : Nat} {l : List aJ3} (hl : i.size = l.length) (h : ∀ j, j < l.length -> w.cell? ⟨b, off + j, none⟩ = l[j]?) :
 (aH t (.pointer (some ⟨b, off, none⟩))).run P w = .ok (.value (.agg l.toArray)) w := by
 unfold aH
 rw [qG]
 simp only [Instr.loadAt, Instr.sureAddr, loadVar, pure_bind, Sem.run_bind, PG hu, hd, Result.andThen_ok, if_true, gM hi, hl, YN h, Sem.run_pure]
end
theorem dN {w : aJ2} {b : Nat} {cs : List aJ3} (h : cJ w b cs) : cJ (dr w) b cs := h.ext (aS.dr w cM) (fun h => h)
theorem Sl.dr {w : aJ2} {v : aJ3} {l : List aJ3} (h : Sl w v l) : Sl (dr w) v l := h
theorem Sl.open {w : aJ2} {v : aJ3} {l : List UInt8} (h : Bs w v l) (h0 : 0 < l.length) : ∃ b off c, v = .slice (some ⟨b, off, none⟩) l.length c /\ l.length <= c /\ ∀ i, (h : i < l.length) -> w.cell? ⟨b, off + i, none⟩ = some (GI l[i]) := by
 obtain ⟨a, n, c, rfl, hn, hc, h⟩ := h
 simp only [aHU] at hn
 subst hn
 obtain ⟨b, off, rfl, hh⟩ := h h0
 exact ⟨b, off, c, rfl, hc, fun i hi => by rw [hh i hi]; simp [hi]⟩
theorem Sl.len {w : aJ2} {v : aJ3} {l : List aJ3} (h : Sl w v l) : ∃ a c, v = .slice a l.length c /\ l.length <= c := by
 obtain ⟨a, n, c, rfl, rfl, hc, _⟩ := h
 exact ⟨a, c, rfl, hc⟩
theorem cB (v : aJ3) : ¬ inB v cM := by unfold inB cM; split <;> simp
theorem aAq {b o m l : Nat} (h : l ≠ m) : iH (some ⟨b, o, none⟩) m l 1 = some ⟨b, o + l, none⟩ := by
 unfold iH; rw [if_neg (fun e => h e.symm)]; simp [Fb]
theorem axV {v : aJ3} {M N : Nat -> Prop} (h : inB v M) (hm : ∀ b, M b -> N b) : inB v N := by
 unfold inB at *
 split at h
 .exact hm _ h
 .exact h
theorem rN.len {w : aJ2} {b sz n : Nat} {v : aJ3} {l : List aJ3} (h : rN w b sz v n l) : ∃ a c, v = .slice a n c := by
 rcases h.2 with ⟨rfl, rfl⟩ | ⟨x, c, r, rfl, _⟩
 .exact ⟨_, _, rfl⟩
 .exact ⟨_, _, rfl⟩
theorem rN.lower {w : aJ2} {a b sz n : Nat} {v : aJ3} {l : List aJ3} (h : rN w b sz v n l) (hab : a <= b) : rN w a sz v n l := by
 refine ⟨h.1, ?_⟩
 rcases h.2 with h | ⟨x, c, r, h1, h2, h3⟩
 .exact .inl h
 .exact .inr ⟨x, c, r, h1, by omega, h3⟩
theorem Sl.nil (w : aJ2) : Sl w (.slice none 0 0) [] := ⟨none, 0, 0, rfl, rfl, aHS _, fun h => absurd h (by simp)⟩
theorem Sl.take' {w : aJ2} {a : Option Addr} {n c : Nat} {l : List aJ3} (h : Sl w (.slice a n c) l) {k : Nat} (hk : k <= n) : Sl w (.slice (iH a c 0 1) (k - 0) (c - 0)) (l.take k) := by
 have h' := h
 obtain ⟨a', n', c', e, hn, hc, hh⟩ := h'
 cases e
 by_cases h0 : k = 0
 .subst h0
  exact ⟨_, _, _, rfl, by simp, by omega, fun h => by simp at h⟩
 .obtain ⟨b, off, rfl, _⟩ := hh (by omega)
  exact h.take hk
theorem Sl.drop' {w : aJ2} {a : Option Addr} {n c : Nat} {l : List aJ3} (h : Sl w (.slice a n c) l) {k : Nat} (hk : k <= n) : Sl w (.slice (iH a c k 1) (n - k) (c - k)) (l.drop k) := by
 have h' := h
 obtain ⟨a', n', c', e, hn, hc, hh⟩ := h'
 cases e
 by_cases h0 : n = 0
 .exact ⟨_, _, _, rfl, by rw [aIb]; omega, by omega, fun h => by omega⟩
 .obtain ⟨b, off, rfl, _⟩ := hh (by omega)
  exact h.drop hk
theorem Sl.openV {w : aJ2} {v : aJ3} {l : List aJ3} (h : Sl w v l) (h0 : 0 < l.length) : ∃ b off c, v = .slice (some ⟨b, off, none⟩) l.length c /\ l.length <= c /\ ∀ i, (h : i < l.length) -> w.cell? ⟨b, off + i, none⟩ = some l[i] := by
 obtain ⟨a, n, c, rfl, hn, hc, h⟩ := h
 subst hn
 obtain ⟨b, off, rfl, hh⟩ := h h0
 exact ⟨b, off, c, rfl, hc, fun i hi => by rw [hh i hi]; simp [hi]⟩
theorem Sl.openI {w : aJ2} {v : aJ3} {k : IntKind} {l : List Int} (h : Sl w v (l.map (Value.int k))) (h0 : 0 < l.length) : ∃ b off c, v = .slice (some ⟨b, off, none⟩) l.length c /\ l.length <= c /\ ∀ i, (h : i < l.length) -> w.cell? ⟨b, off + i, none⟩ = some (.int k l[i]) := by
 obtain ⟨b, off, c, e, hc, hh⟩ := h.openV (by simpa using h0)
 simp only [aHU] at e hc hh
 exact ⟨b, off, c, e, hc, fun i hi => by rw [hh i hi]; simp⟩
theorem Sl.lenI {w : aJ2} {v : aJ3} {k : IntKind} {l : List Int} (h : Sl w v (l.map (Value.int k))) : ∃ a c, v = .slice a l.length c /\ l.length <= c := by
 obtain ⟨a, c, e, hc⟩ := h.len
 simp only [aHU] at e hc
 exact ⟨a, c, e, hc⟩
def Pa (n : Nat) (l : List aJ3) : List aJ3 := (List.replicate n l).flatten
theorem Yv (n : Nat) (l : List aJ3) : (Pa n l).length = n * l.length := by
 unfold Pa; rw [List.length_flatten]; simp
theorem aB3 : ∀ (n : Nat) (l : List aJ3) (j : Nat) (_ : j < n * l.length) (h0 : 0 < l.length), (Pa n l)[j]? = some (l[j % l.length]'(aI1 _ h0)) := by
 intro n
 induction n with
 | zero => intro l j h; simp at h
 | succ n ih =>
   intro l j h h0
   unfold Pa
   rw [aIH, List.flatten_cons]
   by_cases hj : j < l.length
   .rw [aHW hj, aHQ hj]
    simp only [aIg hj]
   .rw [aIn (by omega)]
    have := ih l (j - l.length) (by rw [aJM] at h; omega) h0
    unfold Pa at this
    rw [this]
    simp only [<- Nat.mod_eq_sub_mod (show j ≥ l.length by omega)]
theorem aBM {P : Program} {w : aJ2} {t e : TypeId} {k : IntKind} {i : TypeInfo} {z : aJ3} {sz : Nat} (hu : P.underlying t = some (.slice e)) (hi : P.info? e = some i) (h1 : i.size = sz) (hsz : 0 < sz) (hz : i.zero = some z) (hz1 : z.cells.size = sz) {n : Int} (h0 : 0 <= n) (hn : i.bytes * n <= 2 ^ 48) (hn2 : n <= 9223372036854775807)
 {K : aJ3 -> aJ2 -> Prop}
 (hk : ∀ w', cJ w' w.heap.size (Pa n.toNat z.cells.toList) -> aS w w' cM -> w'.heap.size = w.heap.size + 1 -> K (.slice (some ⟨w.heap.size, 0, none⟩) n.toNat n.toNat) w') :
 aC P (xZ t (.int k n) (.int k n)) w K := by
 have hw : IntKind.i64.wrap n = n := aT (by omega) hn2
 have hl : z.cells.toList.length = sz := by simpa using hz1
 have harr : (Array.range (n.toNat * sz)).map (fun j => z.cells[j % z.cells.size]!) = (Pa n.toNat z.cells.toList).toArray := by
  apply Array.ext
  .simp [Yv, hz1]
  .intro j h1 h2
   have hj : j < n.toNat * sz := by simpa using h1
   have := aB3 n.toNat z.cells.toList j (by rw [hl]; exact hj) (by rw [hl]; exact hsz)
   have hm : j % z.cells.size < z.cells.size := aI1 _ (by omega)
   simp only [Array.getElem_map, Array.getElem_range, List.getElem_toArray]
   rw [getElem!_pos z.cells _ hm]
   rw [aHQ (by rw [Yv, hl]; exact hj)] at this
   have := aH2 this
   rw [this]
   simp
 have hz' : (zeroValue e).run P w = .ok z w := by simp [zeroValue, typeInfo, hi, hz]
 have : (xZ t (.int k n) (.int k n)).run P w = .ok (.value (.slice (some ⟨w.heap.size, 0, none⟩) n.toNat n.toNat)) (w.alloc (.cells (Pa n.toNat z.cells.toList).toArray e)) := by
  unfold xZ
  rw [qG]
  have t1 : (decide (n < 0) || decide ((i.bytes : Int) * n > 2 ^ 48) || decide (n < 0) || decide (n > n)) = false := by
   simp only [aJE, decide_eq_false_iff_not]; omega
  by_cases hn0 : n.toNat * sz = 0
  .simp only [Instr.makeSlice, underlying, typeInfo, asInt, asIntOf, pure_bind, Sem.run_bind, run_program, Result.andThen_ok, hu, hi, Sem.run_pure, hw, t1, aHP, if_false, run_askRoom, gM hi, h1, hn0, if_true, newRow, run_newObj]
   have hn : n.toNat = 0 := by rcases Nat.mul_eq_zero.1 hn0 with h | h <;> omega
   have : (Array.range 0).map (fun x => (#[] : Array aJ3)[x % (#[] : Array aJ3).size]!) = (Pa n.toNat z.cells.toList).toArray := by rw [hn]; simp [Pa]
   rw [this]
   rfl
  .simp only [Instr.makeSlice, underlying, typeInfo, asInt, asIntOf, pure_bind, Sem.run_bind, run_program, Result.andThen_ok, hu, hi, Sem.run_pure, hw, t1, aHP, if_false, run_askRoom, gM hi, h1, hn0, hz', newRow, run_newObj, harr]
   rfl
 unfold aC
 rw [this]
 exact hk _ (cJ.alloc _ _ _) (aS.alloc _ _ _) (by simp)
abbrev T3 := Int × Int × Int
def fe (k : IntKind) : List T3 -> List aJ3
 | [] => []
 | e :: r => .int k e.1 :: .int .i64 e.2.1 :: .int .i64 e.2.2 :: fe k r
theorem kX (k : IntKind) : ∀ L : List T3, (fe k L).length = L.length * 3
 | [] => rfl
 | e :: r => by simp [fe, kX k r]; omega
theorem asK (k : IntKind) : ∀ L M : List T3, fe k (L ++ M) = fe k L ++ fe k M
 | [], _ => rfl
 | e :: r, M => by simp [fe, asK k r M]
theorem adP (k : IntKind) : ∀ (L : List T3) (i : Nat) (h : i < L.length), (fe k L)[i * 3]? = some (.int k L[i].1) /\ (fe k L)[i * 3 + 1]? = some (.int .i64 L[i].2.1) /\ (fe k L)[i * 3 + 2]? = some (.int .i64 L[i].2.2)
 | [], i, h => by simp at h
 | e :: r, 0, _ => ⟨rfl, rfl, rfl⟩
 | e :: r, i + 1, h => by
   have := adP k r i (by simpa using h)
   rw [aIJ]
   exact this
theorem aeQ (k : IntKind) : ∀ (L : List T3) (i : Nat) (h : i < L.length) (x : Int), (fe k L).set (i * 3) (.int k x) = fe k (L.set i (x, L[i].2)) /\ (fe k L).set (i * 3 + 1) (.int .i64 x) = fe k (L.set i (L[i].1, x, L[i].2.2)) /\ (fe k L).set (i * 3 + 2) (.int .i64 x) = fe k (L.set i (L[i].1, L[i].2.1, x))
 | [], i, h, _ => by simp at h
 | e :: r, 0, _, x => ⟨rfl, rfl, rfl⟩
 | e :: r, i + 1, h, x => by
   have := aeQ k r i (by simpa using h) x
   rw [aIJ]
   obtain ⟨h1, h2, h3⟩ := this
   refine ⟨?_, ?_, ?_⟩
   .show (_ :: _ :: _ :: (fe k r).set (i * 3) _) = _; rw [h1] <;> rfl
   .show (_ :: _ :: _ :: (fe k r).set (i * 3 + 1) _) = _; rw [h2] <;> rfl
   .show (_ :: _ :: _ :: (fe k r).set (i * 3 + 2) _) = _; rw [h3] <;> rfl
theorem aBj (k : IntKind) (x : Int) : ∀ n : Nat, Pa n [.int k x, .int .i64 0, .int .i64 0] = fe k (List.replicate n (x, 0, 0))
 | 0 => rfl
 | n + 1 => by
   have := aBj k x n
   unfold Pa at this ⊢
   rw [aIH, List.flatten_cons, this, aIH] <;> rfl
theorem aAC {P : Program} {w : aJ2} {t e : TypeId} {k k' : IntKind} {hi mx : Int} {i : TypeInfo} (hu : P.underlying t = some (.slice e)) (hi' : P.info? e = some i) (x : Option Addr) (n c : Nat) (h0 : 0 <= hi) (h1 : hi <= mx) (h2 : mx <= c) :
 (fH t (.slice x n c) none (some (.int k hi)) (some (.int k' mx))).run P w = .ok (.value (.slice (iH x mx.toNat 0 i.size) (hi.toNat - 0) (mx.toNat - 0))) w := by
 have h3 : (0 : Int) <= mx := by omega
 have h4 : hi <= (mx.toNat : Int) := by omega
 simp only [fH, qG, Instr.sliceAt, underlying, hu, Sem.run_bind, run_program, Result.andThen_ok, Sem.run_pure, Instr.slice, Instr.sliceBounds, pure_bind, zY h3 h2, zY h0 h4, gM hi', iH]
end Go.En
namespace Go.Proofs.YtaggdjhhmbnhoaaDoor
open Go Go.En
set_option maxRecDepth 4000
theorem rJ (n0 : Int) (n1 : Int) (n2 : Int) (w : aJ2) : (bV 47 [(0, (.int .u32 n0)), (1, (.int .u32 n1)), (2, (.int .u32 n2))]).run pg w = .ok (.value (.agg #[(.int .u32 n0), (.int .u32 n1), (.int .u32 n2)])) w := by kernel_rfl
theorem anG : (pg).info? 47 = some Tryd.t47 := by kernel_rfl
theorem uR {n : Nat} {ps : List (Nat × aJ3)} {cells : Array aJ3} {w : aJ2} (h1 : ¬ n * 3 > 2 ^ 24) (h0 : ¬ n * 3 = 0) (hf : Go.Instr.fill (fun j => some (j * 3, 3)) ((Array.range (n * 3)).map ((Tryd.t47.zero.get!).cells[· % (Tryd.t47.zero.get!).cells.size]!)) ps = some cells) {K : aJ3 -> aJ2 -> Prop} (hk : ∀ w', cJ w' w.heap.size cells.toList -> aS w w' cM -> w'.heap.size = w.heap.size + 1 -> K (.slice (some ⟨w.heap.size, 0, none⟩) n n) w') : aC pg (bX 24 n ps) w K := Bv (i := Tryd.t47) Tryd.underlying24 anG rfl h1 h0 hf hk
theorem dL  (w : aJ2) : (bV 29 []).run pg w = .ok (.value (.agg #[(.int .i64 0), (.slice none 0 0), (.int .i64 0), (.slice none 0 0), (.int .i64 0), (.slice none 0 0)])) w := by kernel_rfl
theorem aAV : (pg).info? 29 = some Tryd.t29 := by kernel_rfl
theorem iO {w : aJ2} {K : aJ3 -> aJ2 -> Prop} (hk : ∀ w', cJ w' w.heap.size [(.int .i64 0), (.slice none 0 0), (.int .i64 0), (.slice none 0 0), (.int .i64 0), (.slice none 0 0)] -> aS w w' cM -> w'.heap.size = w.heap.size + 1 -> K (.pointer (some ⟨w.heap.size, 0, none⟩)) w') : aC pg (bS 29) w K := jP (i := Tryd.t29) aAV rfl hk
theorem jF {b off : Nat} {cs : List aJ3} {w : aJ2} {xs : Array aJ3} {K : aJ3 -> aJ2 -> Prop} (ho : cJ w b cs) (hs : xs.size = 6) (hv : ∀ x ∈ xs.toList, one x = true) (h : off + 6 <= cs.length) (hk : ∀ w', cJ w' b (aV cs off xs.toList) -> aS w w' (fun x => x = b) -> w'.heap.size = w.heap.size -> K undef w') : aC pg (aJ 29 (.pointer (some ⟨b, off, none⟩)) (.agg xs)) w K := kF (v := .agg xs) aAV ho hs hv h hk
theorem gB {ty : TypeId} (x : Option Addr) (n c : Nat) (w : aJ2) : (jM .len #[22] ty [.slice x n c]).run pg w = .ok (.value (.int .i64 n)) w := Xw Tryd.underlying22 x n c
theorem U9 : (pg).info? 5 = some Tryd.t5 := by kernel_rfl
theorem oU {k : IntKind} {a : Int} (b o n c : Nat) (w : aJ2) (h0 : 0 <= a) (h1 : a < n) : (bA 22 (.slice (some ⟨b, o, none⟩) n c) (.int k a)).run pg w = .ok (.value (.pointer (some ⟨b, o + a.toNat, none⟩))) w := US rfl Tryd.underlying22 U9 b o n c h0 h1
theorem mU (x : Addr) (w : aJ2) : (aH 5 (.pointer (some x))).run pg w = ldC (w.cell? x) w (far pg 5 x w) := amV Tryd.underlying5 rfl x w
theorem dO {ty : TypeId} (x : Option Addr) (n c : Nat) (w : aJ2) : (jM .len #[24] ty [.slice x n c]).run pg w = .ok (.value (.int .i64 n)) w := Xw Tryd.underlying24 x n c
theorem lY {k : IntKind} {a : Int} (b o n c : Nat) (w : aJ2) (h0 : 0 <= a) (h1 : a < n) : (bA 24 (.slice (some ⟨b, o, none⟩) n c) (.int k a)).run pg w = .ok (.value (.pointer (some ⟨b, o + a.toNat * 3, none⟩))) w := adW rfl Tryd.underlying24 anG b o n c h0 h1
theorem Ry : (pg).info? 43 = some Tryd.t43 := by kernel_rfl
theorem iI (b o : Nat) (w : aJ2) : (aL 47 (.pointer (some ⟨b, o, none⟩)) 0).run pg w = .ok (.value (.pointer (some ⟨b, o, none⟩))) w := iZ (i := 0) Tryd.underlying47 rfl Ry (by decide) _
theorem rT (x : Addr) (w : aJ2) : (aH 43 (.pointer (some x))).run pg w = ldC (w.cell? x) w (far pg 43 x w) := amV Tryd.underlying43 rfl x w
theorem jI (b o : Nat) (w : aJ2) : (aL 47 (.pointer (some ⟨b, o, none⟩)) 2).run pg w = .ok (.value (.pointer (some ⟨b, o + 2, none⟩))) w := iZ (i := 2) Tryd.underlying47 rfl Ry (by decide) _
theorem jW (b o : Nat) (w : aJ2) : (aL 47 (.pointer (some ⟨b, o, none⟩)) 1).run pg w = .ok (.value (.pointer (some ⟨b, o + 1, none⟩))) w := iZ (i := 1) Tryd.underlying47 rfl Ry (by decide) _
theorem awP : (pg).info? 27 = some Tryd.t27 := by kernel_rfl
theorem eL {k : IntKind} {a : Int} (b o : Nat) (w : aJ2) (h0 : 0 <= a) (h1 : a < 3) : (bA 29 (.pointer (some ⟨b, o, none⟩)) (.int k a)).run pg w = .ok (.value (.pointer (some ⟨b, o + a.toNat * 2, none⟩))) w := arO rfl Tryd.underlying29 awP b o h0 (by simpa using h1)
theorem aGT : (pg).info? 25 = some Tryd.t25 := by kernel_rfl
theorem bZ (b o : Nat) (w : aJ2) : (aL 27 (.pointer (some ⟨b, o, none⟩)) 1).run pg w = .ok (.value (.pointer (some ⟨b, o + 1, none⟩))) w := iZ (i := 1) Tryd.underlying27 rfl aGT (by decide) _
theorem dU (x : Addr) (w : aJ2) : (aH 25 (.pointer (some x))).run pg w = ldC (w.cell? x) w (far pg 25 x w) := amV Tryd.underlying25 rfl x w
theorem iA {ty : TypeId} (x : Option Addr) (n c : Nat) (w : aJ2) : (jM .len #[25] ty [.slice x n c]).run pg w = .ok (.value (.int .i64 n)) w := Xw Tryd.underlying25 x n c
theorem Gx {b off : Nat} {cs : List aJ3} {w : aJ2} (ho : cJ w b cs) (h : off + 6 <= cs.length) {K : aJ3 -> Prop} (hk : K (.agg ((cs.drop off).take 6).toArray)) : kI pg 29 (.pointer (some ⟨b, off, none⟩)) w K := CS Tryd.underlying29 rfl aAV ho h hk
theorem mE {b off : Nat} {cs : List aJ3} {w : aJ2} (ho : cJ w b cs) (h : off + 6 <= cs.length) : (aH 29 (.pointer (some ⟨b, off, none⟩))).run pg w = .ok (.value (.agg ((cs.drop off).take 6).toArray)) w := zS Tryd.underlying29 rfl aAV ho h
theorem aGS : (pg).info? 67 = some Tryd.t67 := by kernel_rfl
theorem anZ {w : aJ2} {K : aJ3 -> aJ2 -> Prop} (hk : ∀ w', cJ w' w.heap.size [(.int .i64 0), (.int .i64 0), (.int .i64 0)] -> aS w w' cM -> w'.heap.size = w.heap.size + 1 -> K (.pointer (some ⟨w.heap.size, 0, none⟩)) w') : aC pg (bS 67) w K := jP (i := Tryd.t67) aGS rfl hk
theorem gL {b off : Nat} {cs : List aJ3} {w : aJ2} (ho : cJ w b cs) (h : off + 2 <= cs.length) : (aH 27 (.pointer (some ⟨b, off, none⟩))).run pg w = .ok (.value (.agg ((cs.drop off).take 2).toArray)) w := zS Tryd.underlying27 rfl awP ho h
theorem CF : (pg).info? 3 = some Tryd.t3 := by kernel_rfl
theorem yF {k : IntKind} {a : Int} (b o : Nat) (w : aJ2) (h0 : 0 <= a) (h1 : a < 3) : (bA 67 (.pointer (some ⟨b, o, none⟩)) (.int k a)).run pg w = .ok (.value (.pointer (some ⟨b, o + a.toNat, none⟩))) w := Jn rfl Tryd.underlying67 CF b o h0 (by simpa using h1)
theorem tA {b off : Nat} {cs : List aJ3} {w : aJ2} {v : aJ3} {K : aJ3 -> aJ2 -> Prop} (ho : cJ w b cs) (hv : one v = true) (h : off < cs.length) (hk : ∀ w', cJ w' b (cs.set off v) -> aS w w' (fun x => x = b) -> w'.heap.size = w.heap.size -> K undef w') : aC pg (aJ 3 (.pointer (some ⟨b, off, none⟩)) v) w K := vU CF rfl ho hv h hk
theorem GS {w : aJ2} {K : aJ3 -> aJ2 -> Prop} (hk : ∀ w', cJ w' w.heap.size [(.int .u32 0), (.int .u32 0), (.int .u32 0)] -> aS w w' cM -> w'.heap.size = w.heap.size + 1 -> K (.pointer (some ⟨w.heap.size, 0, none⟩)) w') : aC pg (bS 47) w K := jP (i := Tryd.t47) anG rfl hk
theorem cA (x : Addr) (w : aJ2) : (aH 3 (.pointer (some x))).run pg w = ldC (w.cell? x) w (far pg 3 x w) := amV Tryd.underlying3 rfl x w
theorem EJ {b off : Nat} {cs : List aJ3} {w : aJ2} {v : aJ3} {K : aJ3 -> aJ2 -> Prop} (ho : cJ w b cs) (hv : one v = true) (h : off < cs.length) (hk : ∀ w', cJ w' b (cs.set off v) -> aS w w' (fun x => x = b) -> w'.heap.size = w.heap.size -> K undef w') : aC pg (aJ 43 (.pointer (some ⟨b, off, none⟩)) v) w K := vU Ry rfl ho hv h hk
theorem adQ {b off : Nat} {l : List aJ3} {w : aJ2} (hl : l.length = 3) (h : ∀ j, j < l.length -> w.cell? ⟨b, off + j, none⟩ = l[j]?) : (aH 47 (.pointer (some ⟨b, off, none⟩))).run pg w = .ok (.value (.agg l.toArray)) w := UR Tryd.underlying47 rfl anG hl.symm h
theorem EW {b off : Nat} {cs : List aJ3} {w : aJ2} (ho : cJ w b cs) (h : off + 3 <= cs.length) : (aH 47 (.pointer (some ⟨b, off, none⟩))).run pg w = .ok (.value (.agg ((cs.drop off).take 3).toArray)) w := zS Tryd.underlying47 rfl anG ho h
theorem lX {base n m : Nat} {ty : TypeId} {w : aJ2} {v x : aJ3} {l news : List aJ3} (h : rN w base 3 v n l) (hx : Cl w 3 x m news) (hone : ∀ y ∈ news, one y = true) (hb : base <= w.heap.size) (hbytes : (n + m) * 12 <= 140737488355328) {K : aJ3 -> aJ2 -> Prop} (hk : ∀ v' w', rN w' base 3 v' (n + m) (l ++ news) -> aS w w' (fun y => base <= y) -> K v' w') : aC pg (jM .append #[24, 24] ty [v, x]) w K := EO (i := Tryd.t47) Tryd.underlying24 Tryd.underlying24 anG rfl rfl rfl h hx hone hb (by omega) hbytes (by decide) hk
theorem qK (n0 : Int) (n1 : Int) (n2 : Int) (w : aJ2) : (bV 67 [(0, (.int .i64 n0)), (1, (.int .i64 n1)), (2, (.int .i64 n2))]).run pg w = .ok (.value (.agg #[(.int .i64 n0), (.int .i64 n1), (.int .i64 n2)])) w := by kernel_rfl
theorem BO {k : IntKind} {a : Int} (cs : Array aJ3) (w : aJ2) (h0 : 0 <= a) (h1 : a < 3) : (HM 67 (.agg cs) (.int k a)).run pg w = ldC cs[a.toNat]? w (aF2 pg 67 cs k a w) := aCC Tryd.underlying67 Tryd.underlying3 rfl CF rfl cs h0 (by simpa using h1)
theorem aAK : (pg).info? 36 = some Tryd.t36 := by kernel_rfl
theorem Ah {b off : Nat} {cs : List aJ3} {w : aJ2} (ho : cJ w b cs) (h : off + 6 <= cs.length) {K : aJ3 -> Prop} (hk : K (.agg ((cs.drop off).take 6).toArray)) : kI pg 36 (.pointer (some ⟨b, off, none⟩)) w K := CS Tryd.underlying36 rfl aAK ho h hk
theorem jS {w : aJ2} {K : aJ3 -> aJ2 -> Prop} (hk : ∀ w', cJ w' w.heap.size [(.int .i64 0), (.slice none 0 0), (.int .i64 0), (.slice none 0 0), (.int .i64 0), (.slice none 0 0)] -> aS w w' cM -> w'.heap.size = w.heap.size + 1 -> K (.pointer (some ⟨w.heap.size, 0, none⟩)) w') : aC pg (bS 36) w K := jP (i := Tryd.t36) aAK rfl hk
theorem uU (s0 : ByteArray) (w : aJ2) : (bV 72 [(0, (.string s0))]).run pg w = .ok (.value (.agg #[(.string s0), (.int .i64 0)])) w := by kernel_rfl
theorem aBd : (pg).info? 72 = some Tryd.t72 := by kernel_rfl
theorem kO {w : aJ2} {K : aJ3 -> aJ2 -> Prop} (hk : ∀ w', cJ w' w.heap.size [(.string ⟨#[]⟩), (.int .i64 0)] -> aS w w' cM -> w'.heap.size = w.heap.size + 1 -> K (.pointer (some ⟨w.heap.size, 0, none⟩)) w') : aC pg (bS 72) w K := jP (i := Tryd.t72) aBd rfl hk
theorem iM {b off : Nat} {cs : List aJ3} {w : aJ2} {xs : Array aJ3} {K : aJ3 -> aJ2 -> Prop} (ho : cJ w b cs) (hs : xs.size = 2) (hv : ∀ x ∈ xs.toList, one x = true) (h : off + 2 <= cs.length) (hk : ∀ w', cJ w' b (aV cs off xs.toList) -> aS w w' (fun x => x = b) -> w'.heap.size = w.heap.size -> K undef w') : aC pg (aJ 72 (.pointer (some ⟨b, off, none⟩)) (.agg xs)) w K := kF (v := .agg xs) aBd ho hs hv h hk
theorem aDg : (pg).info? 30 = some Tryd.t30 := by kernel_rfl
theorem fK (b o : Nat) (w : aJ2) : (aL 72 (.pointer (some ⟨b, o, none⟩)) 1).run pg w = .ok (.value (.pointer (some ⟨b, o + 1, none⟩))) w := iZ (i := 1) Tryd.underlying72 rfl aDg (by decide) _
theorem jL (x : Addr) (w : aJ2) : (aH 30 (.pointer (some x))).run pg w = ldC (w.cell? x) w (far pg 30 x w) := amV Tryd.underlying30 rfl x w
theorem fO {b off : Nat} {cs : List aJ3} {w : aJ2} (ho : cJ w b cs) (h : off + 6 <= cs.length) : (aH 36 (.pointer (some ⟨b, off, none⟩))).run pg w = .ok (.value (.agg ((cs.drop off).take 6).toArray)) w := zS Tryd.underlying36 rfl aAK ho h
theorem lA {b off : Nat} {cs : List aJ3} {w : aJ2} {xs : Array aJ3} {K : aJ3 -> aJ2 -> Prop} (ho : cJ w b cs) (hs : xs.size = 6) (hv : ∀ x ∈ xs.toList, one x = true) (h : off + 6 <= cs.length) (hk : ∀ w', cJ w' b (aV cs off xs.toList) -> aS w w' (fun x => x = b) -> w'.heap.size = w.heap.size -> K undef w') : aC pg (aJ 36 (.pointer (some ⟨b, off, none⟩)) (.agg xs)) w K := kF (v := .agg xs) aAK ho hs hv h hk
theorem aGB : (pg).info? 9 = some Tryd.t9 := by kernel_rfl
theorem gP (b o : Nat) (w : aJ2) : (aL 72 (.pointer (some ⟨b, o, none⟩)) 0).run pg w = .ok (.value (.pointer (some ⟨b, o, none⟩))) w := iZ (i := 0) Tryd.underlying72 rfl aGB (by decide) _
theorem zU (x : Addr) (w : aJ2) : (aH 9 (.pointer (some x))).run pg w = ldC (w.cell? x) w (far pg 9 x w) := amV Tryd.underlying9 rfl x w
theorem rV {ty : TypeId} (x : ByteArray) (w : aJ2) : (jM .len #[9] ty [.string x]).run pg w = .ok (.value (.int .i64 x.size)) w := aFC Tryd.underlying9 x
theorem gI {b off : Nat} {cs : List aJ3} {w : aJ2} (ho : cJ w b cs) (h : off + 2 <= cs.length) : (aH 72 (.pointer (some ⟨b, off, none⟩))).run pg w = .ok (.value (.agg ((cs.drop off).take 2).toArray)) w := zS Tryd.underlying72 rfl aBd ho h
theorem cZ {k : IntKind} (a : Int) (w : aJ2) : (fL 73 3 (.int k a)).run pg w = .ok (.value (.int .i64 (IntKind.i64.wrap a))) w := CN Tryd.underlying73 Tryd.underlying3
theorem wQ {n : Nat} {ps : List (Nat × aJ3)} {cells : Array aJ3} {w : aJ2} (h1 : ¬ n * 1 > 2 ^ 24) (h0 : ¬ n * 1 = 0) (hf : Go.Instr.fill (fun j => some (j * 1, 1)) ((Array.range (n * 1)).map ((Tryd.t3.zero.get!).cells[· % (Tryd.t3.zero.get!).cells.size]!)) ps = some cells) {K : aJ3 -> aJ2 -> Prop} (hk : ∀ w', cJ w' w.heap.size cells.toList -> aS w w' cM -> w'.heap.size = w.heap.size + 1 -> K (.slice (some ⟨w.heap.size, 0, none⟩) n n) w') : aC pg (bX 77 n ps) w K := Bv (i := Tryd.t3) Tryd.underlying77 CF rfl h1 h0 hf hk
theorem dJ {k : IntKind} {a : Int} (b o n c : Nat) (w : aJ2) (h0 : 0 <= a) (h1 : a < n) : (bA 77 (.slice (some ⟨b, o, none⟩) n c) (.int k a)).run pg w = .ok (.value (.pointer (some ⟨b, o + a.toNat, none⟩))) w := US rfl Tryd.underlying77 CF b o n c h0 h1
theorem axD : (pg).info? 35 = some Tryd.t35 := by kernel_rfl
theorem eF {k : IntKind} {a : Int} (b o : Nat) (w : aJ2) (h0 : 0 <= a) (h1 : a < 3) : (bA 36 (.pointer (some ⟨b, o, none⟩)) (.int k a)).run pg w = .ok (.value (.pointer (some ⟨b, o + a.toNat * 2, none⟩))) w := arO rfl Tryd.underlying36 axD b o h0 (by simpa using h1)
theorem dE {b off : Nat} {cs : List aJ3} {w : aJ2} (ho : cJ w b cs) (h : off + 2 <= cs.length) : (aH 35 (.pointer (some ⟨b, off, none⟩))).run pg w = .ok (.value (.agg ((cs.drop off).take 2).toArray)) w := zS Tryd.underlying35 rfl axD ho h
theorem gX {w : aJ2} {K : aJ3 -> aJ2 -> Prop} (hk : ∀ w', cJ w' w.heap.size [(.int .i64 0), (.slice none 0 0)] -> aS w w' cM -> w'.heap.size = w.heap.size + 1 -> K (.pointer (some ⟨w.heap.size, 0, none⟩)) w') : aC pg (bS 35) w K := jP (i := Tryd.t35) axD rfl hk
theorem eQ {b off : Nat} {cs : List aJ3} {w : aJ2} {xs : Array aJ3} {K : aJ3 -> aJ2 -> Prop} (ho : cJ w b cs) (hs : xs.size = 2) (hv : ∀ x ∈ xs.toList, one x = true) (h : off + 2 <= cs.length) (hk : ∀ w', cJ w' b (aV cs off xs.toList) -> aS w w' (fun x => x = b) -> w'.heap.size = w.heap.size -> K undef w') : aC pg (aJ 35 (.pointer (some ⟨b, off, none⟩)) (.agg xs)) w K := kF (v := .agg xs) axD ho hs hv h hk
theorem vC {k : IntKind} {lo : Int} (x : ByteArray) (w : aJ2) (h0 : 0 <= lo) (h1 : lo <= x.size) : (fH 9 (.string x) (some (.int k lo)) none none).run pg w = .ok (.value (.string (x.extract lo.toNat x.size))) w := awE Tryd.underlying9  x h0 h1
theorem aAW : (pg).info? 82 = some Tryd.t82 := by kernel_rfl
theorem jH {w : aJ2} {K : aJ3 -> aJ2 -> Prop} (hk : ∀ w', cJ w' w.heap.size [(.slice none 0 0), (.int .i64 0)] -> aS w w' cM -> w'.heap.size = w.heap.size + 1 -> K (.pointer (some ⟨w.heap.size, 0, none⟩)) w') : aC pg (bS 82) w K := jP (i := Tryd.t82) aAW rfl hk
theorem bW {b off : Nat} {cs : List aJ3} {w : aJ2} {xs : Array aJ3} {K : aJ3 -> aJ2 -> Prop} (ho : cJ w b cs) (hs : xs.size = 2) (hv : ∀ x ∈ xs.toList, one x = true) (h : off + 2 <= cs.length) (hk : ∀ w', cJ w' b (aV cs off xs.toList) -> aS w w' (fun x => x = b) -> w'.heap.size = w.heap.size -> K undef w') : aC pg (aJ 82 (.pointer (some ⟨b, off, none⟩)) (.agg xs)) w K := kF (v := .agg xs) aAW ho hs hv h hk
theorem cX {b off : Nat} {cs : List aJ3} {w : aJ2} (ho : cJ w b cs) (h : off + 2 <= cs.length) : (aH 82 (.pointer (some ⟨b, off, none⟩))).run pg w = .ok (.value (.agg ((cs.drop off).take 2).toArray)) w := zS Tryd.underlying82 rfl aAW ho h
theorem fX {ty : TypeId} (x : Option Addr) (n c : Nat) (w : aJ2) : (jM .len #[91] ty [.slice x n c]).run pg w = .ok (.value (.int .i64 n)) w := Xw Tryd.underlying91 x n c
theorem vX {k : IntKind} {a : Int} (b o n c : Nat) (w : aJ2) (h0 : 0 <= a) (h1 : a < n) : (bA 91 (.slice (some ⟨b, o, none⟩) n c) (.int k a)).run pg w = .ok (.value (.pointer (some ⟨b, o + a.toNat, none⟩))) w := US rfl Tryd.underlying91 Ry b o n c h0 h1
theorem lM {k : IntKind} (a : Int) (w : aJ2) : (fL 3 94 (.int k a)).run pg w = .ok (.value (.int .u64 (IntKind.u64.wrap a))) w := CN Tryd.underlying3 Tryd.underlying94
theorem uM {n : Nat} {ps : List (Nat × aJ3)} {cells : Array aJ3} {w : aJ2} (h1 : ¬ n * 1 > 2 ^ 24) (h0 : ¬ n * 1 = 0) (hf : Go.Instr.fill (fun j => some (j * 1, 1)) ((Array.range (n * 1)).map ((Tryd.t5.zero.get!).cells[· % (Tryd.t5.zero.get!).cells.size]!)) ps = some cells) {K : aJ3 -> aJ2 -> Prop} (hk : ∀ w', cJ w' w.heap.size cells.toList -> aS w w' cM -> w'.heap.size = w.heap.size + 1 -> K (.slice (some ⟨w.heap.size, 0, none⟩) n n) w') : aC pg (bX 22 n ps) w K := Bv (i := Tryd.t5) Tryd.underlying22 U9 rfl h1 h0 hf hk
theorem fY {k : IntKind} (a : Int) (w : aJ2) : (fL 3 73 (.int k a)).run pg w = .ok (.value (.int .u64 (IntKind.u64.wrap a))) w := CN Tryd.underlying3 Tryd.underlying73
theorem aA9 : (pg).info? 98 = some Tryd.t98 := by kernel_rfl
theorem FB {w : aJ2} {K : aJ3 -> aJ2 -> Prop} (hk : ∀ w', cJ w' w.heap.size [(.slice none 0 0), (.slice none 0 0), (.slice none 0 0)] -> aS w w' cM -> w'.heap.size = w.heap.size + 1 -> K (.pointer (some ⟨w.heap.size, 0, none⟩)) w') : aC pg (bS 98) w K := jP (i := Tryd.t98) aA9 rfl hk
theorem Js {b off : Nat} {cs : List aJ3} {w : aJ2} {xs : Array aJ3} {K : aJ3 -> aJ2 -> Prop} (ho : cJ w b cs) (hs : xs.size = 3) (hv : ∀ x ∈ xs.toList, one x = true) (h : off + 3 <= cs.length) (hk : ∀ w', cJ w' b (aV cs off xs.toList) -> aS w w' (fun x => x = b) -> w'.heap.size = w.heap.size -> K undef w') : aC pg (aJ 98 (.pointer (some ⟨b, off, none⟩)) (.agg xs)) w K := kF (v := .agg xs) aA9 ho hs hv h hk
theorem aA6 : (pg).info? 77 = some Tryd.t77 := by kernel_rfl
theorem sZ {k : IntKind} {a : Int} (b o : Nat) (w : aJ2) (h0 : 0 <= a) (h1 : a < 3) : (bA 98 (.pointer (some ⟨b, o, none⟩)) (.int k a)).run pg w = .ok (.value (.pointer (some ⟨b, o + a.toNat, none⟩))) w := Jn rfl Tryd.underlying98 aA6 b o h0 (by simpa using h1)
theorem cL (x : Addr) (w : aJ2) : (aH 77 (.pointer (some x))).run pg w = ldC (w.cell? x) w (far pg 77 x w) := amV Tryd.underlying77 rfl x w
theorem iP {w : aJ2} {K : aJ3 -> aJ2 -> Prop} (hk : ∀ w', cJ w' w.heap.size [(.int .i64 0), (.slice none 0 0)] -> aS w w' cM -> w'.heap.size = w.heap.size + 1 -> K (.pointer (some ⟨w.heap.size, 0, none⟩)) w') : aC pg (bS 27) w K := jP (i := Tryd.t27) awP rfl hk
theorem eJ {b off : Nat} {cs : List aJ3} {w : aJ2} {xs : Array aJ3} {K : aJ3 -> aJ2 -> Prop} (ho : cJ w b cs) (hs : xs.size = 2) (hv : ∀ x ∈ xs.toList, one x = true) (h : off + 2 <= cs.length) (hk : ∀ w', cJ w' b (aV cs off xs.toList) -> aS w w' (fun x => x = b) -> w'.heap.size = w.heap.size -> K undef w') : aC pg (aJ 27 (.pointer (some ⟨b, off, none⟩)) (.agg xs)) w K := kF (v := .agg xs) awP ho hs hv h hk
theorem TD {base n m : Nat} {ty : TypeId} {w : aJ2} {v x : aJ3} {l news : List aJ3} (h : rN w base 1 v n l) (hx : Cl w 1 x m news) (hone : ∀ y ∈ news, one y = true) (hb : base <= w.heap.size) (hbytes : (n + m) * 1 <= 140737488355328) {K : aJ3 -> aJ2 -> Prop} (hk : ∀ v' w', rN w' base 1 v' (n + m) (l ++ news) -> aS w w' (fun y => base <= y) -> K v' w') : aC pg (jM .append #[22, 22] ty [v, x]) w K := EO (i := Tryd.t5) Tryd.underlying22 Tryd.underlying22 U9 rfl rfl rfl h hx hone hb (by omega) hbytes (by decide) hk
theorem LI {b off : Nat} {cs : List aJ3} {w : aJ2} (ho : cJ w b cs) (h : off + 3 <= cs.length) : (aH 98 (.pointer (some ⟨b, off, none⟩))).run pg w = .ok (.value (.agg ((cs.drop off).take 3).toArray)) w := zS Tryd.underlying98 rfl aA9 ho h
theorem YR {k : IntKind} {a : Int} (b o : Nat) (w : aJ2) (h0 : 0 <= a) (h1 : a < 3) : (bA 41 (.pointer (some ⟨b, o, none⟩)) (.int k a)).run pg w = .ok (.value (.pointer (some ⟨b, o + a.toNat, none⟩))) w := Jn rfl Tryd.underlying41 U9 b o h0 (by simpa using h1)
theorem tW (aG7 aGX : aJ3) (aG6 aGL : aJ3) (aGP aGZ : aJ3) (w : aJ2) : (bV 36 [(0, (.agg #[aG7, aGX])), (1, (.agg #[aG6, aGL])), (2, (.agg #[aGP, aGZ]))]).run pg w = .ok (.value (.agg #[aG7, aGX, aG6, aGL, aGP, aGZ])) w := by kernel_rfl
theorem Cc (a0 : Option Addr) (l0 c0 : Nat) (w : aJ2) : (bV 112 [(0, (.slice a0 l0 c0))]).run pg w = .ok (.value (.agg #[(.slice a0 l0 c0), (.int .i64 0)])) w := by kernel_rfl
theorem mF {ox oy : Operand} (x : Option Addr) (w : aJ2) : (aG .eql 56 ox oy (.pointer x) (.pointer none)).run pg w = .ok (.value (.bool x.isNone)) w := apB Tryd.underlying56 x
theorem nQ (b o : Nat) (w : aJ2) : (aL 112 (.pointer (some ⟨b, o, none⟩)) 1).run pg w = .ok (.value (.pointer (some ⟨b, o + 1, none⟩))) w := iZ (i := 1) Tryd.underlying112 rfl aDg (by decide) _
theorem aqV : (pg).info? 22 = some Tryd.t22 := by kernel_rfl
theorem nV (b o : Nat) (w : aJ2) : (aL 112 (.pointer (some ⟨b, o, none⟩)) 0).run pg w = .ok (.value (.pointer (some ⟨b, o, none⟩))) w := iZ (i := 0) Tryd.underlying112 rfl aqV (by decide) _
theorem gA (x : Addr) (w : aJ2) : (aH 22 (.pointer (some x))).run pg w = ldC (w.cell? x) w (far pg 22 x w) := amV Tryd.underlying22 rfl x w
theorem qO {k : IntKind} {lo : Int} (a : Option Addr) (n c : Nat) (w : aJ2) (h0 : 0 <= lo) (h1 : lo <= n) : (fH 22 (.slice a n c) (some (.int k lo)) none none).run pg w = .ok (.value (.slice (iH a c (lo.toNat) 1) (n - lo.toNat) (c - lo.toNat))) w := anS Tryd.underlying22 U9 _ n c h0 h1
theorem aCF : (pg).info? 112 = some Tryd.t112 := by kernel_rfl
theorem ZC {b off : Nat} {cs : List aJ3} {w : aJ2} (ho : cJ w b cs) (h : off + 2 <= cs.length) : (aH 112 (.pointer (some ⟨b, off, none⟩))).run pg w = .ok (.value (.agg ((cs.drop off).take 2).toArray)) w := zS Tryd.underlying112 rfl aCF ho h
theorem Yh {b off : Nat} {cs : List aJ3} {w : aJ2} {xs : Array aJ3} {K : aJ3 -> aJ2 -> Prop} (ho : cJ w b cs) (hs : xs.size = 2) (hv : ∀ x ∈ xs.toList, one x = true) (h : off + 2 <= cs.length) (hk : ∀ w', cJ w' b (aV cs off xs.toList) -> aS w w' (fun x => x = b) -> w'.heap.size = w.heap.size -> K undef w') : aC pg (aJ 112 (.pointer (some ⟨b, off, none⟩)) (.agg xs)) w K := kF (v := .agg xs) aCF ho hs hv h hk
theorem zF (a0 : Option Addr) (l0 c0 : Nat) (n1 : Int) (w : aJ2) : (bV 118 [(0, (.slice a0 l0 c0)), (1, (.int .i64 n1))]).run pg w = .ok (.value (.agg #[(.slice a0 l0 c0), (.int .i64 n1)])) w := by kernel_rfl
theorem Aa (b o : Nat) (w : aJ2) : (aL 27 (.pointer (some ⟨b, o, none⟩)) 0).run pg w = .ok (.value (.pointer (some ⟨b, o, none⟩))) w := iZ (i := 0) Tryd.underlying27 rfl CF (by decide) _
theorem ahE : (pg).info? 123 = some Tryd.t123 := by kernel_rfl
theorem lW {k : IntKind} {a : Int} (b o n c : Nat) (w : aJ2) (h0 : 0 <= a) (h1 : a < n) : (bA 25 (.slice (some ⟨b, o, none⟩) n c) (.int k a)).run pg w = .ok (.value (.pointer (some ⟨b, o + a.toNat * 3, none⟩))) w := adW rfl Tryd.underlying25 ahE b o n c h0 h1
theorem fS (b o : Nat) (w : aJ2) : (aL 123 (.pointer (some ⟨b, o, none⟩)) 0).run pg w = .ok (.value (.pointer (some ⟨b, o, none⟩))) w := iZ (i := 0) Tryd.underlying123 rfl U9 (by decide) _
theorem nY {k : IntKind} (a : Int) (w : aJ2) : (fL 5 3 (.int k a)).run pg w = .ok (.value (.int .i64 (IntKind.i64.wrap a))) w := CN Tryd.underlying5 Tryd.underlying3
theorem zV {k : IntKind} (a : Int) (w : aJ2) : (fL 73 43 (.int k a)).run pg w = .ok (.value (.int .u32 (IntKind.u32.wrap a))) w := CN Tryd.underlying73 Tryd.underlying43
theorem NK {b off : Nat} {cs : List aJ3} {w : aJ2} (ho : cJ w b cs) (h : off + 3 <= cs.length) : (aH 123 (.pointer (some ⟨b, off, none⟩))).run pg w = .ok (.value (.agg ((cs.drop off).take 3).toArray)) w := zS Tryd.underlying123 rfl ahE ho h
theorem QI {w : aJ2} {K : aJ3 -> aJ2 -> Prop} (hk : ∀ w', cJ w' w.heap.size [(.int .u8 0), (.int .i64 0), (.int .i64 0)] -> aS w w' cM -> w'.heap.size = w.heap.size + 1 -> K (.pointer (some ⟨w.heap.size, 0, none⟩)) w') : aC pg (bS 123) w K := jP (i := Tryd.t123) ahE rfl hk
theorem MT {b off : Nat} {cs : List aJ3} {w : aJ2} {xs : Array aJ3} {K : aJ3 -> aJ2 -> Prop} (ho : cJ w b cs) (hs : xs.size = 3) (hv : ∀ x ∈ xs.toList, one x = true) (h : off + 3 <= cs.length) (hk : ∀ w', cJ w' b (aV cs off xs.toList) -> aS w w' (fun x => x = b) -> w'.heap.size = w.heap.size -> K undef w') : aC pg (aJ 123 (.pointer (some ⟨b, off, none⟩)) (.agg xs)) w K := kF (v := .agg xs) ahE ho hs hv h hk
theorem lJ (b o : Nat) (w : aJ2) : (aL 123 (.pointer (some ⟨b, o, none⟩)) 2).run pg w = .ok (.value (.pointer (some ⟨b, o + 2, none⟩))) w := iZ (i := 2) Tryd.underlying123 rfl CF (by decide) _
theorem jY (b o : Nat) (w : aJ2) : (aL 123 (.pointer (some ⟨b, o, none⟩)) 1).run pg w = .ok (.value (.pointer (some ⟨b, o + 1, none⟩))) w := iZ (i := 1) Tryd.underlying123 rfl CF (by decide) _
theorem oK {ox oy : Operand} (x : Option Addr) (w : aJ2) : (aG .eql 63 ox oy (.pointer x) (.pointer none)).run pg w = .ok (.value (.bool x.isNone)) w := apB Tryd.underlying63 x
theorem nJ (b o : Nat) (w : aJ2) : (aL 118 (.pointer (some ⟨b, o, none⟩)) 1).run pg w = .ok (.value (.pointer (some ⟨b, o + 1, none⟩))) w := iZ (i := 1) Tryd.underlying118 rfl CF (by decide) _
theorem SI {b off : Nat} {cs : List aJ3} {w : aJ2} (ho : cJ w b cs) (h : off + 2 <= cs.length) {K : aJ3 -> Prop} (hk : K (.agg ((cs.drop off).take 2).toArray)) : kI pg 72 (.pointer (some ⟨b, off, none⟩)) w K := CS Tryd.underlying72 rfl aBd ho h hk
theorem Yy {b off : Nat} {cs : List aJ3} {w : aJ2} {v : aJ3} {K : aJ3 -> aJ2 -> Prop} (ho : cJ w b cs) (hv : one v = true) (h : off < cs.length) (hk : ∀ w', cJ w' b (cs.set off v) -> aS w w' (fun x => x = b) -> w'.heap.size = w.heap.size -> K undef w') : aC pg (aJ 30 (.pointer (some ⟨b, off, none⟩)) v) w K := vU aDg rfl ho hv h hk
theorem tQ {k : IntKind} {a : Int} (x : ByteArray) (w : aJ2) (h0 : 0 <= a) (h1 : a.toNat < x.size) : (HM 9 (.string x) (.int k a)).run pg w = .ok (.value (.int .u8 (x[a.toNat]'h1).toNat)) w := aFO Tryd.underlying9 x h0 h1
theorem wC {k : IntKind} (a : Int) (w : aJ2) : (fL 5 73 (.int k a)).run pg w = .ok (.value (.int .u64 (IntKind.u64.wrap a))) w := CN Tryd.underlying5 Tryd.underlying73
theorem rH {b off : Nat} {cs : List aJ3} {w : aJ2} (ho : cJ w b cs) (h : off + 2 <= cs.length) {K : aJ3 -> Prop} (hk : K (.agg ((cs.drop off).take 2).toArray)) : kI pg 35 (.pointer (some ⟨b, off, none⟩)) w K := CS Tryd.underlying35 rfl axD ho h hk
theorem dD  (w : aJ2) : (bV 35 []).run pg w = .ok (.value (.agg #[(.int .i64 0), (.slice none 0 0)])) w := by kernel_rfl
theorem aFm : (pg).info? 33 = some Tryd.t33 := by kernel_rfl
theorem bR (b o : Nat) (w : aJ2) : (aL 35 (.pointer (some ⟨b, o, none⟩)) 1).run pg w = .ok (.value (.pointer (some ⟨b, o + 1, none⟩))) w := iZ (i := 1) Tryd.underlying35 rfl aFm (by decide) _
theorem bO (x : Addr) (w : aJ2) : (aH 33 (.pointer (some x))).run pg w = ldC (w.cell? x) w (far pg 33 x w) := amV Tryd.underlying33 rfl x w
theorem kH {ty : TypeId} (x : Option Addr) (n c : Nat) (w : aJ2) : (jM .len #[33] ty [.slice x n c]).run pg w = .ok (.value (.int .i64 n)) w := Xw Tryd.underlying33 x n c
theorem asS : (pg).info? 130 = some Tryd.t130 := by kernel_rfl
theorem pA {w : aJ2} {K : aJ3 -> aJ2 -> Prop} (hk : ∀ w', cJ w' w.heap.size [(.int .i64 0), (.slice none 0 0)] -> aS w w' cM -> w'.heap.size = w.heap.size + 1 -> K (.pointer (some ⟨w.heap.size, 0, none⟩)) w') : aC pg (bS 130) w K := jP (i := Tryd.t130) asS rfl hk
theorem iN {b off : Nat} {cs : List aJ3} {w : aJ2} {xs : Array aJ3} {K : aJ3 -> aJ2 -> Prop} (ho : cJ w b cs) (hs : xs.size = 2) (hv : ∀ x ∈ xs.toList, one x = true) (h : off + 2 <= cs.length) (hk : ∀ w', cJ w' b (aV cs off xs.toList) -> aS w w' (fun x => x = b) -> w'.heap.size = w.heap.size -> K undef w') : aC pg (aJ 130 (.pointer (some ⟨b, off, none⟩)) (.agg xs)) w K := kF (v := .agg xs) asS ho hs hv h hk
theorem lO {b off : Nat} {cs : List aJ3} {w : aJ2} (ho : cJ w b cs) (h : off + 2 <= cs.length) : (aH 130 (.pointer (some ⟨b, off, none⟩))).run pg w = .ok (.value (.agg ((cs.drop off).take 2).toArray)) w := zS Tryd.underlying130 rfl asS ho h
theorem gZ {b off : Nat} {cs : List aJ3} {w : aJ2} (ho : cJ w b cs) (h : off + 2 <= cs.length) {K : aJ3 -> Prop} (hk : K (.agg ((cs.drop off).take 2).toArray)) : kI pg 82 (.pointer (some ⟨b, off, none⟩)) w K := CS Tryd.underlying82 rfl aAW ho h hk
theorem nM  (w : aJ2) : (bV 82 []).run pg w = .ok (.value (.agg #[(.slice none 0 0), (.int .i64 0)])) w := by kernel_rfl
theorem qT {ty : TypeId} (x : Option Addr) (n c : Nat) (w : aJ2) : (jM .len #[80] ty [.slice x n c]).run pg w = .ok (.value (.int .i64 n)) w := Xw Tryd.underlying80 x n c
theorem aBp : (pg).info? 4 = some Tryd.t4 := by kernel_rfl
theorem Fq {k : IntKind} {a : Int} (b o n c : Nat) (w : aJ2) (h0 : 0 <= a) (h1 : a < n) : (bA 80 (.slice (some ⟨b, o, none⟩) n c) (.int k a)).run pg w = .ok (.value (.pointer (some ⟨b, o + a.toNat, none⟩))) w := US rfl Tryd.underlying80 aBp b o n c h0 h1
theorem UP (x : Addr) (w : aJ2) : (aH 4 (.pointer (some x))).run pg w = ldC (w.cell? x) w (far pg 4 x w) := amV Tryd.underlying4 rfl x w
theorem F1 {k : IntKind} {hi : Int} (a : Option Addr) (n c : Nat) (w : aJ2) (h0 : 0 <= hi) (h1 : hi <= c) : (fH 80 (.slice a n c) none (some (.int k hi)) none).run pg w = .ok (.value (.slice (iH a c (0) 1) (hi.toNat - 0) (c - 0))) w := QT Tryd.underlying80 aBp _ n c h0 h1
theorem uS (a0 : Option Addr) (l0 c0 : Nat) (w : aJ2) : (bV 82 [(0, (.slice a0 l0 c0))]).run pg w = .ok (.value (.agg #[(.slice a0 l0 c0), (.int .i64 0)])) w := by kernel_rfl
theorem sQ (b o : Nat) (w : aJ2) : (aL 35 (.pointer (some ⟨b, o, none⟩)) 0).run pg w = .ok (.value (.pointer (some ⟨b, o, none⟩))) w := iZ (i := 0) Tryd.underlying35 rfl CF (by decide) _
theorem ayO : (pg).info? 139 = some Tryd.t139 := by kernel_rfl
theorem fN {k : IntKind} {a : Int} (b o n c : Nat) (w : aJ2) (h0 : 0 <= a) (h1 : a < n) : (bA 33 (.slice (some ⟨b, o, none⟩) n c) (.int k a)).run pg w = .ok (.value (.pointer (some ⟨b, o + a.toNat * 3, none⟩))) w := adW rfl Tryd.underlying33 ayO b o n c h0 h1
theorem iK (b o : Nat) (w : aJ2) : (aL 139 (.pointer (some ⟨b, o, none⟩)) 0).run pg w = .ok (.value (.pointer (some ⟨b, o, none⟩))) w := iZ (i := 0) Tryd.underlying139 rfl CF (by decide) _
theorem nI (b o : Nat) (w : aJ2) : (aL 139 (.pointer (some ⟨b, o, none⟩)) 1).run pg w = .ok (.value (.pointer (some ⟨b, o + 1, none⟩))) w := iZ (i := 1) Tryd.underlying139 rfl CF (by decide) _
theorem nH (b o : Nat) (w : aJ2) : (aL 139 (.pointer (some ⟨b, o, none⟩)) 2).run pg w = .ok (.value (.pointer (some ⟨b, o + 2, none⟩))) w := iZ (i := 2) Tryd.underlying139 rfl CF (by decide) _
theorem aDi : (pg).info? 80 = some Tryd.t80 := by kernel_rfl
theorem iF (b o : Nat) (w : aJ2) : (aL 82 (.pointer (some ⟨b, o, none⟩)) 0).run pg w = .ok (.value (.pointer (some ⟨b, o, none⟩))) w := iZ (i := 0) Tryd.underlying82 rfl aDi (by decide) _
theorem sV (x : Addr) (w : aJ2) : (aH 80 (.pointer (some x))).run pg w = ldC (w.cell? x) w (far pg 80 x w) := amV Tryd.underlying80 rfl x w
theorem lB (b o : Nat) (w : aJ2) : (aL 82 (.pointer (some ⟨b, o, none⟩)) 1).run pg w = .ok (.value (.pointer (some ⟨b, o + 1, none⟩))) w := iZ (i := 1) Tryd.underlying82 rfl CF (by decide) _
theorem Qq {n : Nat} {ps : List (Nat × aJ3)} {cells : Array aJ3} {w : aJ2} (h1 : ¬ n * 1 > 2 ^ 24) (h0 : ¬ n * 1 = 0) (hf : Go.Instr.fill (fun j => some (j * 1, 1)) ((Array.range (n * 1)).map ((Tryd.t43.zero.get!).cells[· % (Tryd.t43.zero.get!).cells.size]!)) ps = some cells) {K : aJ3 -> aJ2 -> Prop} (hk : ∀ w', cJ w' w.heap.size cells.toList -> aS w w' cM -> w'.heap.size = w.heap.size + 1 -> K (.slice (some ⟨w.heap.size, 0, none⟩) n n) w') : aC pg (bX 91 n ps) w K := Bv (i := Tryd.t43) Tryd.underlying91 Ry rfl h1 h0 hf hk
theorem Qz {base n m : Nat} {ty : TypeId} {w : aJ2} {v x : aJ3} {l news : List aJ3} (h : rN w base 1 v n l) (hx : Cl w 1 x m news) (hone : ∀ y ∈ news, one y = true) (hb : base <= w.heap.size) (hbytes : (n + m) * 4 <= 140737488355328) {K : aJ3 -> aJ2 -> Prop} (hk : ∀ v' w', rN w' base 1 v' (n + m) (l ++ news) -> aS w w' (fun y => base <= y) -> K v' w') : aC pg (jM .append #[91, 91] ty [v, x]) w K := EO (i := Tryd.t43) Tryd.underlying91 Tryd.underlying91 Ry rfl rfl rfl h hx hone hb (by omega) hbytes (by decide) hk
theorem EV {base n m : Nat} {ty : TypeId} {w : aJ2} {v x : aJ3} {l news : List aJ3} (h : rN w base 1 v n l) (hx : Cl w 1 x m news) (hone : ∀ y ∈ news, one y = true) (hb : base <= w.heap.size) (hbytes : (n + m) * 8 <= 140737488355328) {K : aJ3 -> aJ2 -> Prop} (hk : ∀ v' w', rN w' base 1 v' (n + m) (l ++ news) -> aS w w' (fun y => base <= y) -> K v' w') : aC pg (jM .append #[77, 77] ty [v, x]) w K := EO (i := Tryd.t3) Tryd.underlying77 Tryd.underlying77 CF rfl rfl rfl h hx hone hb (by omega) hbytes (by decide) hk
theorem DV  (w : aJ2) : (bV 141 []).run pg w = .ok (.value (.agg #[(.slice none 0 0)])) w := by kernel_rfl
theorem rZ {ox oy : Operand} (x : Option Addr) (w : aJ2) : (aG .eql 95 ox oy (.pointer x) (.pointer none)).run pg w = .ok (.value (.bool x.isNone)) w := apB Tryd.underlying95 x
theorem nU (b o : Nat) (w : aJ2) : (aL 141 (.pointer (some ⟨b, o, none⟩)) 0).run pg w = .ok (.value (.pointer (some ⟨b, o, none⟩))) w := iZ (i := 0) Tryd.underlying141 rfl aqV (by decide) _
theorem pP {k : IntKind} (a : Int) (w : aJ2) : (fL 73 5 (.int k a)).run pg w = .ok (.value (.int .u8 (IntKind.u8.wrap a))) w := CN Tryd.underlying73 Tryd.underlying5
theorem Gu {b off : Nat} {cs : List aJ3} {w : aJ2} {v : aJ3} {K : aJ3 -> aJ2 -> Prop} (ho : cJ w b cs) (hv : one v = true) (h : off < cs.length) (hk : ∀ w', cJ w' b (cs.set off v) -> aS w w' (fun x => x = b) -> w'.heap.size = w.heap.size -> K undef w') : aC pg (aJ 22 (.pointer (some ⟨b, off, none⟩)) v) w K := vU aqV rfl ho hv h hk
theorem amO {b off : Nat} {cs : List aJ3} {w : aJ2} (ho : cJ w b cs) (h : off + 3 <= cs.length) {K : aJ3 -> Prop} (hk : K (.agg ((cs.drop off).take 3).toArray)) : kI pg 98 (.pointer (some ⟨b, off, none⟩)) w K := CS Tryd.underlying98 rfl aA9 ho h hk
theorem adE {b off : Nat} {cs : List aJ3} {w : aJ2} {xs : Array aJ3} {K : aJ3 -> aJ2 -> Prop} (ho : cJ w b cs) (hs : xs.size = 3) (hv : ∀ x ∈ xs.toList, one x = true) (h : off + 3 <= cs.length) (hk : ∀ w', cJ w' b (aV cs off xs.toList) -> aS w w' (fun x => x = b) -> w'.heap.size = w.heap.size -> K undef w') : aC pg (aJ 47 (.pointer (some ⟨b, off, none⟩)) (.agg xs)) w K := kF (v := .agg xs) anG ho hs hv h hk
theorem MR {k : IntKind} {a : Int} (cs : Array aJ3) (w : aJ2) (h0 : 0 <= a) (h1 : a < 3) : (HM 142 (.agg cs) (.int k a)).run pg w = ldC cs[a.toNat]? w (aF2 pg 142 cs k a w) := aCC Tryd.underlying142 Tryd.underlying43 rfl Ry rfl cs h0 (by simpa using h1)
theorem U5 {b off : Nat} {cs : List aJ3} {w : aJ2} {v : aJ3} {K : aJ3 -> aJ2 -> Prop} (ho : cJ w b cs) (hv : one v = true) (h : off < cs.length) (hk : ∀ w', cJ w' b (cs.set off v) -> aS w w' (fun x => x = b) -> w'.heap.size = w.heap.size -> K undef w') : aC pg (aJ 77 (.pointer (some ⟨b, off, none⟩)) v) w K := vU aA6 rfl ho hv h hk
theorem qE {b off : Nat} {cs : List aJ3} {w : aJ2} (ho : cJ w b cs) (h : off + 2 <= cs.length) {K : aJ3 -> Prop} (hk : K (.agg ((cs.drop off).take 2).toArray)) : kI pg 27 (.pointer (some ⟨b, off, none⟩)) w K := CS Tryd.underlying27 rfl awP ho h hk
theorem eB {ty : TypeId} (x : Option Addr) (n c : Nat) (w : aJ2) : (jM .len #[77] ty [.slice x n c]).run pg w = .ok (.value (.int .i64 n)) w := Xw Tryd.underlying77 x n c
theorem fJ  (w : aJ2) : (bV 27 []).run pg w = .ok (.value (.agg #[(.int .i64 0), (.slice none 0 0)])) w := by kernel_rfl
theorem aF4 : (pg).info? 144 = some Tryd.t144 := by kernel_rfl
theorem akH {w : aJ2} {K : aJ3 -> aJ2 -> Prop} (hk : ∀ w', cJ w' w.heap.size [(.int .u32 0), (.int .u32 0), (.int .u32 0), (.int .u32 0), (.int .u32 0), (.int .u32 0), (.int .u32 0), (.int .u32 0), (.int .u32 0), (.int .u32 0), (.int .u32 0), (.int .u32 0), (.int .u32 0), (.int .u32 0), (.int .u32 0), (.int .u32 0), (.int .u32 0), (.int .u32 0), (.int .u32 0), (.int .u32 0), (.int .u32 0), (.int .u32 0), (.int .u32 0), (.int .u32 0), (.int .u32 0), (.int .u32 0), (.int .u32 0), (.int .u32 0), (.int .u32 0), (.int .u32 0), (.int .u32 0), (.int .u32 0), (.int .u32 0), (.int .u32 0), (.int .u32 0), (.int .u32 0), (.int .u32 0), (.int .u32 0), (.int .u32 0), (.int .u32 0), (.int .u32 0), (.int .u32 0), (.int .u32 0), (.int .u32 0), (.int .u32 0), (.int .u32 0), (.int .u32 0), (.int .u32 0), (.int .u32 0), (.int .u32 0), (.int .u32 0), (.int .u32 0), (.int .u32 0), (.int .u32 0), (.int .u32 0), (.int .u32 0), (.int .u32 0), (.int .u32 0), (.int .u32 0), (.int .u32 0), (.int .u32 0), (.int .u32 0), (.int .u32 0), (.int .u32 0), (.int .u32 0), (.int .u32 0), (.int .u32 0), (.int .u32 0), (.int .u32 0), (.int .u32 0), (.int .u32 0), (.int .u32 0), (.int .u32 0), (.int .u32 0), (.int .u32 0), (.int .u32 0), (.int .u32 0), (.int .u32 0), (.int .u32 0), (.int .u32 0), (.int .u32 0), (.int .u32 0), (.int .u32 0), (.int .u32 0), (.int .u32 0), (.int .u32 0), (.int .u32 0), (.int .u32 0), (.int .u32 0), (.int .u32 0), (.int .u32 0), (.int .u32 0), (.int .u32 0), (.int .u32 0), (.int .u32 0), (.int .u32 0), (.int .u32 0), (.int .u32 0), (.int .u32 0), (.int .u32 0), (.int .u32 0), (.int .u32 0), (.int .u32 0), (.int .u32 0), (.int .u32 0), (.int .u32 0), (.int .u32 0), (.int .u32 0), (.int .u32 0), (.int .u32 0), (.int .u32 0), (.int .u32 0), (.int .u32 0), (.int .u32 0), (.int .u32 0), (.int .u32 0), (.int .u32 0), (.int .u32 0), (.int .u32 0), (.int .u32 0), (.int .u32 0), (.int .u32 0), (.int .u32 0), (.int .u32 0), (.int .u32 0), (.int .u32 0), (.int .u32 0), (.int .u32 0), (.int .u32 0), (.int .u32 0), (.int .u32 0), (.int .u32 0), (.int .u32 0), (.int .u32 0), (.int .u32 0), (.int .u32 0), (.int .u32 0), (.int .u32 0), (.int .u32 0), (.int .u32 0), (.int .u32 0), (.int .u32 0), (.int .u32 0), (.int .u32 0), (.int .u32 0), (.int .u32 0), (.int .u32 0), (.int .u32 0), (.int .u32 0), (.int .u32 0), (.int .u32 0), (.int .u32 0), (.int .u32 0), (.int .u32 0), (.int .u32 0), (.int .u32 0), (.int .u32 0), (.int .u32 0), (.int .u32 0), (.int .u32 0), (.int .u32 0), (.int .u32 0), (.int .u32 0), (.int .u32 0), (.int .u32 0), (.int .u32 0), (.int .u32 0), (.int .u32 0), (.int .u32 0), (.int .u32 0), (.int .u32 0), (.int .u32 0), (.int .u32 0), (.int .u32 0), (.int .u32 0), (.int .u32 0), (.int .u32 0), (.int .u32 0), (.int .u32 0), (.int .u32 0), (.int .u32 0), (.int .u32 0), (.int .u32 0), (.int .u32 0), (.int .u32 0), (.int .u32 0), (.int .u32 0), (.int .u32 0), (.int .u32 0), (.int .u32 0), (.int .u32 0), (.int .u32 0), (.int .u32 0), (.int .u32 0), (.int .u32 0), (.int .u32 0), (.int .u32 0), (.int .u32 0), (.int .u32 0), (.int .u32 0), (.int .u32 0), (.int .u32 0), (.int .u32 0), (.int .u32 0), (.int .u32 0), (.int .u32 0), (.int .u32 0), (.int .u32 0), (.int .u32 0), (.int .u32 0), (.int .u32 0), (.int .u32 0), (.int .u32 0), (.int .u32 0), (.int .u32 0), (.int .u32 0), (.int .u32 0), (.int .u32 0), (.int .u32 0), (.int .u32 0), (.int .u32 0), (.int .u32 0), (.int .u32 0), (.int .u32 0), (.int .u32 0), (.int .u32 0), (.int .u32 0), (.int .u32 0), (.int .u32 0), (.int .u32 0), (.int .u32 0), (.int .u32 0), (.int .u32 0), (.int .u32 0), (.int .u32 0), (.int .u32 0), (.int .u32 0), (.int .u32 0), (.int .u32 0), (.int .u32 0), (.int .u32 0), (.int .u32 0), (.int .u32 0), (.int .u32 0), (.int .u32 0), (.int .u32 0), (.int .u32 0), (.int .u32 0), (.int .u32 0), (.int .u32 0), (.int .u32 0), (.int .u32 0), (.int .u32 0), (.int .u32 0), (.int .u32 0), (.int .u32 0)] -> aS w w' cM -> w'.heap.size = w.heap.size + 1 -> K (.pointer (some ⟨w.heap.size, 0, none⟩)) w') : aC pg (bS 144) w K := jP (i := Tryd.t144) aF4 rfl hk
theorem GW {k : IntKind} {a : Int} (b o : Nat) (w : aJ2) (h0 : 0 <= a) (h1 : a < 256) : (bA 144 (.pointer (some ⟨b, o, none⟩)) (.int k a)).run pg w = .ok (.value (.pointer (some ⟨b, o + a.toNat, none⟩))) w := Jn rfl Tryd.underlying144 Ry b o h0 (by simpa using h1)
theorem auC : (pg).info? 145 = some Tryd.t145 := by kernel_rfl
theorem iT {w : aJ2} {K : aJ3 -> aJ2 -> Prop} (hk : ∀ w', cJ w' w.heap.size [(.int .i64 0), (.slice none 0 0)] -> aS w w' cM -> w'.heap.size = w.heap.size + 1 -> K (.pointer (some ⟨w.heap.size, 0, none⟩)) w') : aC pg (bS 145) w K := jP (i := Tryd.t145) auC rfl hk
theorem fB {b off : Nat} {cs : List aJ3} {w : aJ2} {xs : Array aJ3} {K : aJ3 -> aJ2 -> Prop} (ho : cJ w b cs) (hs : xs.size = 2) (hv : ∀ x ∈ xs.toList, one x = true) (h : off + 2 <= cs.length) (hk : ∀ w', cJ w' b (aV cs off xs.toList) -> aS w w' (fun x => x = b) -> w'.heap.size = w.heap.size -> K undef w') : aC pg (aJ 145 (.pointer (some ⟨b, off, none⟩)) (.agg xs)) w K := kF (v := .agg xs) auC ho hs hv h hk
theorem kW {k : IntKind} (a : Int) (w : aJ2) : (fL 3 5 (.int k a)).run pg w = .ok (.value (.int .u8 (IntKind.u8.wrap a))) w := CN Tryd.underlying3 Tryd.underlying5
theorem bK (b o : Nat) (w : aJ2) : (aL 145 (.pointer (some ⟨b, o, none⟩)) 1).run pg w = .ok (.value (.pointer (some ⟨b, o + 1, none⟩))) w := iZ (i := 1) Tryd.underlying145 rfl aA6 (by decide) _
theorem gH {b off : Nat} {cs : List aJ3} {w : aJ2} (ho : cJ w b cs) (h : off + 2 <= cs.length) : (aH 145 (.pointer (some ⟨b, off, none⟩))).run pg w = .ok (.value (.agg ((cs.drop off).take 2).toArray)) w := zS Tryd.underlying145 rfl auC ho h
theorem qP {k : IntKind} {hi : Int} (b o : Nat) (w : aJ2) (h0 : 0 <= hi) (h1 : hi <= 256) : (fH 144 (.pointer (some ⟨b, o, none⟩)) none (some (.int k hi)) none).run pg w = .ok (.value (.slice (some (uX ⟨b, o, none⟩ 256 (0) 1)) (hi.toNat - 0) (256 - 0))) w := awG Tryd.underlying144 Ry _ h0 (by simpa using h1)
theorem aAx : (pg).info? 142 = some Tryd.t142 := by kernel_rfl
theorem V5 {w : aJ2} {K : aJ3 -> aJ2 -> Prop} (hk : ∀ w', cJ w' w.heap.size [(.int .u32 0), (.int .u32 0), (.int .u32 0)] -> aS w w' cM -> w'.heap.size = w.heap.size + 1 -> K (.pointer (some ⟨w.heap.size, 0, none⟩)) w') : aC pg (bS 142) w K := jP (i := Tryd.t142) aAx rfl hk
theorem Tk {b off : Nat} {cs : List aJ3} {w : aJ2} {xs : Array aJ3} {K : aJ3 -> aJ2 -> Prop} (ho : cJ w b cs) (hs : xs.size = 3) (hv : ∀ x ∈ xs.toList, one x = true) (h : off + 3 <= cs.length) (hk : ∀ w', cJ w' b (aV cs off xs.toList) -> aS w w' (fun x => x = b) -> w'.heap.size = w.heap.size -> K undef w') : aC pg (aJ 142 (.pointer (some ⟨b, off, none⟩)) (.agg xs)) w K := kF (v := .agg xs) aAx ho hs hv h hk
theorem Of {k : IntKind} {a : Int} (b o : Nat) (w : aJ2) (h0 : 0 <= a) (h1 : a < 3) : (bA 142 (.pointer (some ⟨b, o, none⟩)) (.int k a)).run pg w = .ok (.value (.pointer (some ⟨b, o + a.toNat, none⟩))) w := Jn rfl Tryd.underlying142 Ry b o h0 (by simpa using h1)
theorem nS {k : IntKind} (a : Int) (w : aJ2) : (fL 43 73 (.int k a)).run pg w = .ok (.value (.int .u64 (IntKind.u64.wrap a))) w := CN Tryd.underlying43 Tryd.underlying73
theorem xY {ox oy : Operand} (x : Option Addr) (w : aJ2) : (aG .neq 95 ox oy (.pointer x) (.pointer none)).run pg w = .ok (.value (.bool (!x.isNone))) w := aFF Tryd.underlying95 x
theorem JC (n0 : Int) (w : aJ2) : (bV 123 [(0, (.int .u8 n0))]).run pg w = .ok (.value (.agg #[(.int .u8 n0), (.int .i64 0), (.int .i64 0)])) w := by kernel_rfl
theorem akJ {n : Nat} {ps : List (Nat × aJ3)} {cells : Array aJ3} {w : aJ2} (h1 : ¬ n * 3 > 2 ^ 24) (h0 : ¬ n * 3 = 0) (hf : Go.Instr.fill (fun j => some (j * 3, 3)) ((Array.range (n * 3)).map ((Tryd.t123.zero.get!).cells[· % (Tryd.t123.zero.get!).cells.size]!)) ps = some cells) {K : aJ3 -> aJ2 -> Prop} (hk : ∀ w', cJ w' w.heap.size cells.toList -> aS w w' cM -> w'.heap.size = w.heap.size + 1 -> K (.slice (some ⟨w.heap.size, 0, none⟩) n n) w') : aC pg (bX 25 n ps) w K := Bv (i := Tryd.t123) Tryd.underlying25 ahE rfl h1 h0 hf hk
theorem KS (a0 : Option Addr) (l0 c0 : Nat) (w : aJ2) : (bV 27 [(1, (.slice a0 l0 c0))]).run pg w = .ok (.value (.agg #[(.int .i64 0), (.slice a0 l0 c0)])) w := by kernel_rfl
theorem uW (n0 : Int) (w : aJ2) : (bV 35 [(0, (.int .i64 n0))]).run pg w = .ok (.value (.agg #[(.int .i64 n0), (.slice none 0 0)])) w := by kernel_rfl
theorem xR (n0 : Int) (n1 : Int) (n2 : Int) (w : aJ2) : (bV 139 [(0, (.int .i64 n0)), (1, (.int .i64 n1)), (2, (.int .i64 n2))]).run pg w = .ok (.value (.agg #[(.int .i64 n0), (.int .i64 n1), (.int .i64 n2)])) w := by kernel_rfl
theorem Cr {n : Nat} {ps : List (Nat × aJ3)} {cells : Array aJ3} {w : aJ2} (h1 : ¬ n * 3 > 2 ^ 24) (h0 : ¬ n * 3 = 0) (hf : Go.Instr.fill (fun j => some (j * 3, 3)) ((Array.range (n * 3)).map ((Tryd.t139.zero.get!).cells[· % (Tryd.t139.zero.get!).cells.size]!)) ps = some cells) {K : aJ3 -> aJ2 -> Prop} (hk : ∀ w', cJ w' w.heap.size cells.toList -> aS w w' cM -> w'.heap.size = w.heap.size + 1 -> K (.slice (some ⟨w.heap.size, 0, none⟩) n n) w') : aC pg (bX 33 n ps) w K := Bv (i := Tryd.t139) Tryd.underlying33 ayO rfl h1 h0 hf hk
theorem tP {base n m : Nat} {ty : TypeId} {w : aJ2} {v x : aJ3} {l news : List aJ3} (h : rN w base 3 v n l) (hx : Cl w 3 x m news) (hone : ∀ y ∈ news, one y = true) (hb : base <= w.heap.size) (hbytes : (n + m) * 24 <= 140737488355328) {K : aJ3 -> aJ2 -> Prop} (hk : ∀ v' w', rN w' base 3 v' (n + m) (l ++ news) -> aS w w' (fun y => base <= y) -> K v' w') : aC pg (jM .append #[33, 33] ty [v, x]) w K := EO (i := Tryd.t139) Tryd.underlying33 Tryd.underlying33 ayO rfl rfl rfl h hx hone hb (by omega) hbytes (by decide) hk
theorem OW {b off : Nat} {cs : List aJ3} {w : aJ2} {v : aJ3} {K : aJ3 -> aJ2 -> Prop} (ho : cJ w b cs) (hv : one v = true) (h : off < cs.length) (hk : ∀ w', cJ w' b (cs.set off v) -> aS w w' (fun x => x = b) -> w'.heap.size = w.heap.size -> K undef w') : aC pg (aJ 33 (.pointer (some ⟨b, off, none⟩)) v) w K := vU aFm rfl ho hv h hk
theorem FI {ox oy : Operand} (x : Option Addr) (n c : Nat) (w : aJ2) : (aG .eql 22 ox oy (.slice x n c) (.slice none 0 0)).run pg w = .ok (.value (.bool x.isNone)) w := aEN Tryd.underlying22 x n c
theorem Lf {k k' : IntKind} {hi mx : Int} (a : Option Addr) (n c : Nat) (w : aJ2) (h0 : 0 <= hi) (h1 : hi <= mx) (h2 : mx <= c) : (fH 22 (.slice a n c) none (some (.int k hi)) (some (.int k' mx))).run pg w = .ok (.value (.slice (iH a mx.toNat 0 1) (hi.toNat - 0) (mx.toNat - 0))) w := aAC Tryd.underlying22 U9 a n c h0 h1 h2
theorem vB (b o : Nat) (w : aJ2) : (aL 118 (.pointer (some ⟨b, o, none⟩)) 0).run pg w = .ok (.value (.pointer (some ⟨b, o, none⟩))) w := iZ (i := 0) Tryd.underlying118 rfl aqV (by decide) _
theorem wP {k : IntKind} (a : Int) (w : aJ2) : (fL 3 43 (.int k a)).run pg w = .ok (.value (.int .u32 (IntKind.u32.wrap a))) w := CN Tryd.underlying3 Tryd.underlying43
theorem QZ {k : IntKind} {hi : Int} (a : Option Addr) (n c : Nat) (w : aJ2) (h0 : 0 <= hi) (h1 : hi <= c) : (fH 77 (.slice a n c) none (some (.int k hi)) none).run pg w = .ok (.value (.slice (iH a c (0) 1) (hi.toNat - 0) (c - 0))) w := QT Tryd.underlying77 CF _ n c h0 h1
theorem P9 {k : IntKind} {hi : Int} (x : ByteArray) (w : aJ2) (h0 : 0 <= hi) (h1 : hi <= x.size) : (fH 9 (.string x) none (some (.int k hi)) none).run pg w = .ok (.value (.string (x.extract 0 hi.toNat))) w := awY Tryd.underlying9  x h0 h1
theorem aCb {b off : Nat} {cs : List aJ3} {w : aJ2} {v : aJ3} {K : aJ3 -> aJ2 -> Prop} (ho : cJ w b cs) (hv : one v = true) (h : off < cs.length) (hk : ∀ w', cJ w' b (cs.set off v) -> aS w w' (fun x => x = b) -> w'.heap.size = w.heap.size -> K undef w') : aC pg (aJ 9 (.pointer (some ⟨b, off, none⟩)) v) w K := vU aGB rfl ho hv h hk
theorem pY (n0 : Int) (w : aJ2) : (bV 139 [(0, (.int .i64 n0))]).run pg w = .ok (.value (.agg #[(.int .i64 n0), (.int .i64 0), (.int .i64 0)])) w := by kernel_rfl
theorem Dy (a0 : Option Addr) (l0 c0 : Nat) (w : aJ2) : (bV 35 [(1, (.slice a0 l0 c0))]).run pg w = .ok (.value (.agg #[(.int .i64 0), (.slice a0 l0 c0)])) w := by kernel_rfl
theorem nO {b off : Nat} {cs : List aJ3} {w : aJ2} (ho : cJ w b cs) (h : off + 2 <= cs.length) {K : aJ3 -> Prop} (hk : K (.agg ((cs.drop off).take 2).toArray)) : kI pg 130 (.pointer (some ⟨b, off, none⟩)) w K := CS Tryd.underlying130 rfl asS ho h hk
theorem uT (a0 : Option Addr) (l0 c0 : Nat) (w : aJ2) : (bV 164 [(0, (.slice a0 l0 c0))]).run pg w = .ok (.value (.agg #[(.slice a0 l0 c0), (.int .i64 0)])) w := by kernel_rfl
theorem auL : (pg).info? 164 = some Tryd.t164 := by kernel_rfl
theorem yI {w : aJ2} {K : aJ3 -> aJ2 -> Prop} (hk : ∀ w', cJ w' w.heap.size [(.slice none 0 0), (.int .i64 0)] -> aS w w' cM -> w'.heap.size = w.heap.size + 1 -> K (.pointer (some ⟨w.heap.size, 0, none⟩)) w') : aC pg (bS 164) w K := jP (i := Tryd.t164) auL rfl hk
theorem dC {b off : Nat} {cs : List aJ3} {w : aJ2} {xs : Array aJ3} {K : aJ3 -> aJ2 -> Prop} (ho : cJ w b cs) (hs : xs.size = 2) (hv : ∀ x ∈ xs.toList, one x = true) (h : off + 2 <= cs.length) (hk : ∀ w', cJ w' b (aV cs off xs.toList) -> aS w w' (fun x => x = b) -> w'.heap.size = w.heap.size -> K undef w') : aC pg (aJ 164 (.pointer (some ⟨b, off, none⟩)) (.agg xs)) w K := kF (v := .agg xs) auL ho hs hv h hk
theorem fG {b off : Nat} {cs : List aJ3} {w : aJ2} (ho : cJ w b cs) (h : off + 2 <= cs.length) : (aH 164 (.pointer (some ⟨b, off, none⟩))).run pg w = .ok (.value (.agg ((cs.drop off).take 2).toArray)) w := zS Tryd.underlying164 rfl auL ho h
theorem jX  (w : aJ2) : (bV 130 []).run pg w = .ok (.value (.agg #[(.int .i64 0), (.slice none 0 0)])) w := by kernel_rfl
theorem pW (n0 : Int) (w : aJ2) : (bV 130 [(0, (.int .i64 n0))]).run pg w = .ok (.value (.agg #[(.int .i64 n0), (.slice none 0 0)])) w := by kernel_rfl
theorem cQ (b o : Nat) (w : aJ2) : (aL 130 (.pointer (some ⟨b, o, none⟩)) 0).run pg w = .ok (.value (.pointer (some ⟨b, o, none⟩))) w := iZ (i := 0) Tryd.underlying130 rfl CF (by decide) _
theorem aY (b o : Nat) (w : aJ2) : (aL 130 (.pointer (some ⟨b, o, none⟩)) 1).run pg w = .ok (.value (.pointer (some ⟨b, o + 1, none⟩))) w := iZ (i := 1) Tryd.underlying130 rfl aA6 (by decide) _
theorem aFZ : (pg).info? 171 = some Tryd.t171 := by kernel_rfl
theorem auD {w : aJ2} {K : aJ3 -> aJ2 -> Prop} (hk : ∀ w', cJ w' w.heap.size [(.int .i64 0), (.int .i64 0), (.int .i64 0), (.int .i64 0), (.int .i64 0), (.int .i64 0), (.int .i64 0), (.int .i64 0), (.int .i64 0), (.int .i64 0), (.int .i64 0), (.int .i64 0), (.int .i64 0), (.int .i64 0), (.int .i64 0), (.int .i64 0), (.int .i64 0), (.int .i64 0), (.int .i64 0), (.int .i64 0), (.int .i64 0), (.int .i64 0), (.int .i64 0), (.int .i64 0), (.int .i64 0), (.int .i64 0), (.int .i64 0), (.int .i64 0), (.int .i64 0), (.int .i64 0), (.int .i64 0), (.int .i64 0), (.int .i64 0), (.int .i64 0), (.int .i64 0), (.int .i64 0), (.int .i64 0), (.int .i64 0), (.int .i64 0), (.int .i64 0), (.int .i64 0), (.int .i64 0), (.int .i64 0), (.int .i64 0), (.int .i64 0), (.int .i64 0), (.int .i64 0), (.int .i64 0), (.int .i64 0), (.int .i64 0), (.int .i64 0), (.int .i64 0), (.int .i64 0), (.int .i64 0), (.int .i64 0), (.int .i64 0), (.int .i64 0), (.int .i64 0), (.int .i64 0), (.int .i64 0), (.int .i64 0), (.int .i64 0), (.int .i64 0), (.int .i64 0), (.int .i64 0), (.int .i64 0), (.int .i64 0), (.int .i64 0), (.int .i64 0), (.int .i64 0), (.int .i64 0), (.int .i64 0), (.int .i64 0), (.int .i64 0), (.int .i64 0), (.int .i64 0), (.int .i64 0), (.int .i64 0), (.int .i64 0), (.int .i64 0), (.int .i64 0), (.int .i64 0), (.int .i64 0), (.int .i64 0), (.int .i64 0), (.int .i64 0), (.int .i64 0), (.int .i64 0), (.int .i64 0), (.int .i64 0), (.int .i64 0), (.int .i64 0), (.int .i64 0), (.int .i64 0), (.int .i64 0), (.int .i64 0), (.int .i64 0), (.int .i64 0), (.int .i64 0), (.int .i64 0), (.int .i64 0), (.int .i64 0), (.int .i64 0), (.int .i64 0), (.int .i64 0), (.int .i64 0), (.int .i64 0), (.int .i64 0), (.int .i64 0), (.int .i64 0), (.int .i64 0), (.int .i64 0), (.int .i64 0), (.int .i64 0), (.int .i64 0), (.int .i64 0), (.int .i64 0), (.int .i64 0), (.int .i64 0), (.int .i64 0), (.int .i64 0), (.int .i64 0), (.int .i64 0), (.int .i64 0), (.int .i64 0), (.int .i64 0), (.int .i64 0), (.int .i64 0), (.int .i64 0), (.int .i64 0), (.int .i64 0), (.int .i64 0), (.int .i64 0), (.int .i64 0), (.int .i64 0), (.int .i64 0), (.int .i64 0), (.int .i64 0), (.int .i64 0), (.int .i64 0), (.int .i64 0), (.int .i64 0), (.int .i64 0), (.int .i64 0), (.int .i64 0), (.int .i64 0), (.int .i64 0), (.int .i64 0), (.int .i64 0), (.int .i64 0), (.int .i64 0), (.int .i64 0), (.int .i64 0), (.int .i64 0), (.int .i64 0), (.int .i64 0), (.int .i64 0), (.int .i64 0), (.int .i64 0), (.int .i64 0), (.int .i64 0), (.int .i64 0), (.int .i64 0), (.int .i64 0), (.int .i64 0), (.int .i64 0), (.int .i64 0), (.int .i64 0), (.int .i64 0), (.int .i64 0), (.int .i64 0), (.int .i64 0), (.int .i64 0), (.int .i64 0), (.int .i64 0), (.int .i64 0), (.int .i64 0), (.int .i64 0), (.int .i64 0), (.int .i64 0), (.int .i64 0), (.int .i64 0), (.int .i64 0), (.int .i64 0), (.int .i64 0), (.int .i64 0), (.int .i64 0), (.int .i64 0), (.int .i64 0), (.int .i64 0), (.int .i64 0), (.int .i64 0), (.int .i64 0), (.int .i64 0), (.int .i64 0), (.int .i64 0), (.int .i64 0), (.int .i64 0), (.int .i64 0), (.int .i64 0), (.int .i64 0), (.int .i64 0), (.int .i64 0), (.int .i64 0), (.int .i64 0), (.int .i64 0), (.int .i64 0), (.int .i64 0), (.int .i64 0), (.int .i64 0), (.int .i64 0), (.int .i64 0), (.int .i64 0), (.int .i64 0), (.int .i64 0), (.int .i64 0), (.int .i64 0), (.int .i64 0), (.int .i64 0), (.int .i64 0), (.int .i64 0), (.int .i64 0), (.int .i64 0), (.int .i64 0), (.int .i64 0), (.int .i64 0), (.int .i64 0), (.int .i64 0), (.int .i64 0), (.int .i64 0), (.int .i64 0), (.int .i64 0), (.int .i64 0), (.int .i64 0), (.int .i64 0), (.int .i64 0), (.int .i64 0), (.int .i64 0), (.int .i64 0), (.int .i64 0), (.int .i64 0), (.int .i64 0), (.int .i64 0), (.int .i64 0), (.int .i64 0), (.int .i64 0), (.int .i64 0), (.int .i64 0), (.int .i64 0), (.int .i64 0), (.int .i64 0), (.int .i64 0), (.int .i64 0), (.int .i64 0), (.int .i64 0), (.int .i64 0)] -> aS w w' cM -> w'.heap.size = w.heap.size + 1 -> K (.pointer (some ⟨w.heap.size, 0, none⟩)) w') : aC pg (bS 171) w K := jP (i := Tryd.t171) aFZ rfl hk
theorem QV {k : IntKind} {a : Int} (b o : Nat) (w : aJ2) (h0 : 0 <= a) (h1 : a < 256) : (bA 171 (.pointer (some ⟨b, o, none⟩)) (.int k a)).run pg w = .ok (.value (.pointer (some ⟨b, o + a.toNat, none⟩))) w := Jn rfl Tryd.underlying171 CF b o h0 (by simpa using h1)
theorem azO {n : Nat} {ps : List (Nat × aJ3)} {cells : Array aJ3} {w : aJ2} (h1 : ¬ n * 1 > 2 ^ 24) (h0 : ¬ n * 1 = 0) (hf : Go.Instr.fill (fun j => some (j * 1, 1)) ((Array.range (n * 1)).map ((Tryd.t4.zero.get!).cells[· % (Tryd.t4.zero.get!).cells.size]!)) ps = some cells) {K : aJ3 -> aJ2 -> Prop} (hk : ∀ w', cJ w' w.heap.size cells.toList -> aS w w' cM -> w'.heap.size = w.heap.size + 1 -> K (.slice (some ⟨w.heap.size, 0, none⟩) n n) w') : aC pg (bX 80 n ps) w K := Bv (i := Tryd.t4) Tryd.underlying80 aBp rfl h1 h0 hf hk
theorem Xt {base n m : Nat} {ty : TypeId} {w : aJ2} {v x : aJ3} {l news : List aJ3} (h : rN w base 1 v n l) (hx : Cl w 1 x m news) (hone : ∀ y ∈ news, one y = true) (hb : base <= w.heap.size) (hbytes : (n + m) * 1 <= 140737488355328) {K : aJ3 -> aJ2 -> Prop} (hk : ∀ v' w', rN w' base 1 v' (n + m) (l ++ news) -> aS w w' (fun y => base <= y) -> K v' w') : aC pg (jM .append #[80, 80] ty [v, x]) w K := EO (i := Tryd.t4) Tryd.underlying80 Tryd.underlying80 aBp rfl rfl rfl h hx hone hb (by omega) hbytes (by decide) hk
theorem Nl {k : IntKind} {lo : Int} (a : Option Addr) (n c : Nat) (w : aJ2) (h0 : 0 <= lo) (h1 : lo <= n) : (fH 80 (.slice a n c) (some (.int k lo)) none none).run pg w = .ok (.value (.slice (iH a c (lo.toNat) 1) (n - lo.toNat) (c - lo.toNat))) w := anS Tryd.underlying80 aBp _ n c h0 h1
theorem aAA {b off : Nat} {cs : List aJ3} {w : aJ2} {v : aJ3} {K : aJ3 -> aJ2 -> Prop} (ho : cJ w b cs) (hv : one v = true) (h : off < cs.length) (hk : ∀ w', cJ w' b (cs.set off v) -> aS w w' (fun x => x = b) -> w'.heap.size = w.heap.size -> K undef w') : aC pg (aJ 80 (.pointer (some ⟨b, off, none⟩)) v) w K := vU aDi rfl ho hv h hk
theorem anK {b off : Nat} {cs : List aJ3} {w : aJ2} (ho : cJ w b cs) (h : off + 3 <= cs.length) {K : aJ3 -> Prop} (hk : K (.agg ((cs.drop off).take 3).toArray)) : kI pg 142 (.pointer (some ⟨b, off, none⟩)) w K := CS Tryd.underlying142 rfl aAx ho h hk
theorem Au (n0 : Int) (n1 : Int) (n2 : Int) (w : aJ2) : (bV 142 [(0, (.int .u32 n0)), (1, (.int .u32 n1)), (2, (.int .u32 n2))]).run pg w = .ok (.value (.agg #[(.int .u32 n0), (.int .u32 n1), (.int .u32 n2)])) w := by kernel_rfl
theorem Nw {k : IntKind} (a : Int) (w : aJ2) : (fL 43 3 (.int k a)).run pg w = .ok (.value (.int .i64 (IntKind.i64.wrap a))) w := CN Tryd.underlying43 Tryd.underlying3
theorem lI {b off : Nat} {cs : List aJ3} {w : aJ2} (ho : cJ w b cs) (h : off + 2 <= cs.length) {K : aJ3 -> Prop} (hk : K (.agg ((cs.drop off).take 2).toArray)) : kI pg 145 (.pointer (some ⟨b, off, none⟩)) w K := CS Tryd.underlying145 rfl auC ho h hk
theorem azY : (pg).info? 174 = some Tryd.t174 := by kernel_rfl
theorem atF {b off : Nat} {l : List aJ3} {w : aJ2} (hl : l.length = 36) (h : ∀ j, j < l.length -> w.cell? ⟨b, off + j, none⟩ = l[j]?) : (aH 174 (.pointer (some ⟨b, off, none⟩))).run pg w = .ok (.value (.agg l.toArray)) w := UR Tryd.underlying174 rfl azY hl.symm h
theorem avK {w : aJ2} {K : aJ3 -> aJ2 -> Prop} (hk : ∀ w', cJ w' w.heap.size [(.int .i64 0), (.int .i64 0), (.int .i64 0), (.int .i64 0), (.int .i64 0), (.int .i64 0), (.int .i64 0), (.int .i64 0), (.int .i64 0), (.int .i64 0), (.int .i64 0), (.int .i64 0), (.int .i64 0), (.int .i64 0), (.int .i64 0), (.int .i64 0), (.int .i64 0), (.int .i64 0), (.int .i64 0), (.int .i64 0), (.int .i64 0), (.int .i64 0), (.int .i64 0), (.int .i64 0), (.int .i64 0), (.int .i64 0), (.int .i64 0), (.int .i64 0), (.int .i64 0), (.int .i64 0), (.int .i64 0), (.int .i64 0), (.int .i64 0), (.int .i64 0), (.int .i64 0), (.int .i64 0)] -> aS w w' cM -> w'.heap.size = w.heap.size + 1 -> K (.pointer (some ⟨w.heap.size, 0, none⟩)) w') : aC pg (bS 174) w K := jP (i := Tryd.t174) azY rfl hk
theorem atP {b off : Nat} {cs : List aJ3} {w : aJ2} {xs : Array aJ3} {K : aJ3 -> aJ2 -> Prop} (ho : cJ w b cs) (hs : xs.size = 36) (hv : ∀ x ∈ xs.toList, one x = true) (h : off + 36 <= cs.length) (hk : ∀ w', cJ w' b (aV cs off xs.toList) -> aS w w' (fun x => x = b) -> w'.heap.size = w.heap.size -> K undef w') : aC pg (aJ 174 (.pointer (some ⟨b, off, none⟩)) (.agg xs)) w K := kF (v := .agg xs) azY ho hs hv h hk
theorem GR  (b o : Nat) (w : aJ2)  : (fH 174 (.pointer (some ⟨b, o, none⟩)) none none none).run pg w = .ok (.value (.slice (some (uX ⟨b, o, none⟩ 36 (0) 1)) (36 - 0) (36 - 0))) w := CI Tryd.underlying174 CF _
theorem mH (n0 : Int) (a1 : Option Addr) (l1 c1 : Nat) (w : aJ2) : (bV 145 [(0, (.int .i64 n0)), (1, (.slice a1 l1 c1))]).run pg w = .ok (.value (.agg #[(.int .i64 n0), (.slice a1 l1 c1)])) w := by kernel_rfl
theorem aAt : (pg).info? 175 = some Tryd.t175 := by kernel_rfl
theorem asT {b off : Nat} {l : List aJ3} {w : aJ2} (hl : l.length = 29) (h : ∀ j, j < l.length -> w.cell? ⟨b, off + j, none⟩ = l[j]?) : (aH 175 (.pointer (some ⟨b, off, none⟩))).run pg w = .ok (.value (.agg l.toArray)) w := UR Tryd.underlying175 rfl aAt hl.symm h
theorem avB {w : aJ2} {K : aJ3 -> aJ2 -> Prop} (hk : ∀ w', cJ w' w.heap.size [(.int .i64 0), (.int .i64 0), (.int .i64 0), (.int .i64 0), (.int .i64 0), (.int .i64 0), (.int .i64 0), (.int .i64 0), (.int .i64 0), (.int .i64 0), (.int .i64 0), (.int .i64 0), (.int .i64 0), (.int .i64 0), (.int .i64 0), (.int .i64 0), (.int .i64 0), (.int .i64 0), (.int .i64 0), (.int .i64 0), (.int .i64 0), (.int .i64 0), (.int .i64 0), (.int .i64 0), (.int .i64 0), (.int .i64 0), (.int .i64 0), (.int .i64 0), (.int .i64 0)] -> aS w w' cM -> w'.heap.size = w.heap.size + 1 -> K (.pointer (some ⟨w.heap.size, 0, none⟩)) w') : aC pg (bS 175) w K := jP (i := Tryd.t175) aAt rfl hk
theorem atX {b off : Nat} {cs : List aJ3} {w : aJ2} {xs : Array aJ3} {K : aJ3 -> aJ2 -> Prop} (ho : cJ w b cs) (hs : xs.size = 29) (hv : ∀ x ∈ xs.toList, one x = true) (h : off + 29 <= cs.length) (hk : ∀ w', cJ w' b (aV cs off xs.toList) -> aS w w' (fun x => x = b) -> w'.heap.size = w.heap.size -> K undef w') : aC pg (aJ 175 (.pointer (some ⟨b, off, none⟩)) (.agg xs)) w K := kF (v := .agg xs) aAt ho hs hv h hk
theorem It  (b o : Nat) (w : aJ2)  : (fH 175 (.pointer (some ⟨b, o, none⟩)) none none none).run pg w = .ok (.value (.slice (some (uX ⟨b, o, none⟩ 29 (0) 1)) (29 - 0) (29 - 0))) w := CI Tryd.underlying175 CF _
theorem ayR : (pg).info? 176 = some Tryd.t176 := by kernel_rfl
theorem atJ {b off : Nat} {l : List aJ3} {w : aJ2} (hl : l.length = 53) (h : ∀ j, j < l.length -> w.cell? ⟨b, off + j, none⟩ = l[j]?) : (aH 176 (.pointer (some ⟨b, off, none⟩))).run pg w = .ok (.value (.agg l.toArray)) w := UR Tryd.underlying176 rfl ayR hl.symm h
theorem awW {w : aJ2} {K : aJ3 -> aJ2 -> Prop} (hk : ∀ w', cJ w' w.heap.size [(.int .i64 0), (.int .i64 0), (.int .i64 0), (.int .i64 0), (.int .i64 0), (.int .i64 0), (.int .i64 0), (.int .i64 0), (.int .i64 0), (.int .i64 0), (.int .i64 0), (.int .i64 0), (.int .i64 0), (.int .i64 0), (.int .i64 0), (.int .i64 0), (.int .i64 0), (.int .i64 0), (.int .i64 0), (.int .i64 0), (.int .i64 0), (.int .i64 0), (.int .i64 0), (.int .i64 0), (.int .i64 0), (.int .i64 0), (.int .i64 0), (.int .i64 0), (.int .i64 0), (.int .i64 0), (.int .i64 0), (.int .i64 0), (.int .i64 0), (.int .i64 0), (.int .i64 0), (.int .i64 0), (.int .i64 0), (.int .i64 0), (.int .i64 0), (.int .i64 0), (.int .i64 0), (.int .i64 0), (.int .i64 0), (.int .i64 0), (.int .i64 0), (.int .i64 0), (.int .i64 0), (.int .i64 0), (.int .i64 0), (.int .i64 0), (.int .i64 0), (.int .i64 0), (.int .i64 0)] -> aS w w' cM -> w'.heap.size = w.heap.size + 1 -> K (.pointer (some ⟨w.heap.size, 0, none⟩)) w') : aC pg (bS 176) w K := jP (i := Tryd.t176) ayR rfl hk
theorem asX {b off : Nat} {cs : List aJ3} {w : aJ2} {xs : Array aJ3} {K : aJ3 -> aJ2 -> Prop} (ho : cJ w b cs) (hs : xs.size = 53) (hv : ∀ x ∈ xs.toList, one x = true) (h : off + 53 <= cs.length) (hk : ∀ w', cJ w' b (aV cs off xs.toList) -> aS w w' (fun x => x = b) -> w'.heap.size = w.heap.size -> K undef w') : aC pg (aJ 176 (.pointer (some ⟨b, off, none⟩)) (.agg xs)) w K := kF (v := .agg xs) ayR ho hs hv h hk
theorem Ir  (b o : Nat) (w : aJ2)  : (fH 176 (.pointer (some ⟨b, o, none⟩)) none none none).run pg w = .ok (.value (.slice (some (uX ⟨b, o, none⟩ 53 (0) 1)) (53 - 0) (53 - 0))) w := CI Tryd.underlying176 CF _
theorem dY  (w : aJ2) : (bV 145 []).run pg w = .ok (.value (.agg #[(.int .i64 0), (.slice none 0 0)])) w := by kernel_rfl
theorem dK (b o : Nat) (w : aJ2) : (aL 145 (.pointer (some ⟨b, o, none⟩)) 0).run pg w = .ok (.value (.pointer (some ⟨b, o, none⟩))) w := iZ (i := 0) Tryd.underlying145 rfl CF (by decide) _
theorem Ag (n0 : Int) (a1 : Option Addr) (l1 c1 : Nat) (w : aJ2) : (bV 27 [(0, (.int .i64 n0)), (1, (.slice a1 l1 c1))]).run pg w = .ok (.value (.agg #[(.int .i64 n0), (.slice a1 l1 c1)])) w := by kernel_rfl
theorem asD {k : IntKind} {n : Int} {w : aJ2} {K : aJ3 -> aJ2 -> Prop} (h0 : 0 <= n) (hn : 8 * n <= 2 ^ 48) (hk : ∀ w', cJ w' w.heap.size (List.replicate n.toNat (.int .i64 0)) -> aS w w' cM -> w'.heap.size = w.heap.size + 1 -> K (.slice (some ⟨w.heap.size, 0, none⟩) n.toNat n.toNat) w') : aC pg (xZ 77 (.int k n) (.int k n)) w K := aD3 (i := Tryd.t3) Tryd.underlying77 CF rfl rfl rfl h0 hn (by omega) hk
theorem Hk {k : IntKind} {hi : Int} (a : Option Addr) (n c : Nat) (w : aJ2) (h0 : 0 <= hi) (h1 : hi <= c) : (fH 91 (.slice a n c) none (some (.int k hi)) none).run pg w = .ok (.value (.slice (iH a c (0) 1) (hi.toNat - 0) (c - 0))) w := QT Tryd.underlying91 Ry _ n c h0 h1
theorem Bm  (w : aJ2) : (bV 183 []).run pg w = .ok (.value (.agg #[(.slice none 0 0), (.int .i64 0)])) w := by kernel_rfl
theorem kM {ox oy : Operand} (x : Option Addr) (w : aJ2) : (aG .eql 151 ox oy (.pointer x) (.pointer none)).run pg w = .ok (.value (.bool x.isNone)) w := apB Tryd.underlying151 x
theorem kS (b o : Nat) (w : aJ2) : (aL 183 (.pointer (some ⟨b, o, none⟩)) 1).run pg w = .ok (.value (.pointer (some ⟨b, o + 1, none⟩))) w := iZ (i := 1) Tryd.underlying183 rfl CF (by decide) _
theorem iU (b o : Nat) (w : aJ2) : (aL 183 (.pointer (some ⟨b, o, none⟩)) 0).run pg w = .ok (.value (.pointer (some ⟨b, o, none⟩))) w := iZ (i := 0) Tryd.underlying183 rfl aqV (by decide) _
theorem Z3 {b off : Nat} {cs : List aJ3} {w : aJ2} {v : aJ3} {K : aJ3 -> aJ2 -> Prop} (ho : cJ w b cs) (hv : one v = true) (h : off < cs.length) (hk : ∀ w', cJ w' b (cs.set off v) -> aS w w' (fun x => x = b) -> w'.heap.size = w.heap.size -> K undef w') : aC pg (aJ 5 (.pointer (some ⟨b, off, none⟩)) v) w K := vU U9 rfl ho hv h hk
theorem BL (a0 : Option Addr) (l0 c0 : Nat) (n1 : Int) (w : aJ2) : (bV 183 [(0, (.slice a0 l0 c0)), (1, (.int .i64 n1))]).run pg w = .ok (.value (.agg #[(.slice a0 l0 c0), (.int .i64 n1)])) w := by kernel_rfl
theorem BI (n0 : Int) (w : aJ2) : (bV 145 [(0, (.int .i64 n0))]).run pg w = .ok (.value (.agg #[(.int .i64 n0), (.slice none 0 0)])) w := by kernel_rfl
theorem azA : (pg).info? 190 = some Tryd.t190 := by kernel_rfl
theorem auO {b off : Nat} {l : List aJ3} {w : aJ2} (hl : l.length = 20) (h : ∀ j, j < l.length -> w.cell? ⟨b, off + j, none⟩ = l[j]?) : (aH 190 (.pointer (some ⟨b, off, none⟩))).run pg w = .ok (.value (.agg l.toArray)) w := UR Tryd.underlying190 rfl azA hl.symm h
theorem avS {w : aJ2} {K : aJ3 -> aJ2 -> Prop} (hk : ∀ w', cJ w' w.heap.size [(.int .i64 0), (.int .i64 0), (.int .i64 0), (.int .i64 0), (.int .i64 0), (.int .i64 0), (.int .i64 0), (.int .i64 0), (.int .i64 0), (.int .i64 0), (.int .i64 0), (.int .i64 0), (.int .i64 0), (.int .i64 0), (.int .i64 0), (.int .i64 0), (.int .i64 0), (.int .i64 0), (.int .i64 0), (.int .i64 0)] -> aS w w' cM -> w'.heap.size = w.heap.size + 1 -> K (.pointer (some ⟨w.heap.size, 0, none⟩)) w') : aC pg (bS 190) w K := jP (i := Tryd.t190) azA rfl hk
theorem atH {b off : Nat} {cs : List aJ3} {w : aJ2} {xs : Array aJ3} {K : aJ3 -> aJ2 -> Prop} (ho : cJ w b cs) (hs : xs.size = 20) (hv : ∀ x ∈ xs.toList, one x = true) (h : off + 20 <= cs.length) (hk : ∀ w', cJ w' b (aV cs off xs.toList) -> aS w w' (fun x => x = b) -> w'.heap.size = w.heap.size -> K undef w') : aC pg (aJ 190 (.pointer (some ⟨b, off, none⟩)) (.agg xs)) w K := kF (v := .agg xs) azA ho hs hv h hk
theorem Ik  (b o : Nat) (w : aJ2)  : (fH 190 (.pointer (some ⟨b, o, none⟩)) none none none).run pg w = .ok (.value (.slice (some (uX ⟨b, o, none⟩ 20 (0) 1)) (20 - 0) (20 - 0))) w := CI Tryd.underlying190 CF _
theorem azG : (pg).info? 191 = some Tryd.t191 := by kernel_rfl
theorem atA {b off : Nat} {l : List aJ3} {w : aJ2} (hl : l.length = 21) (h : ∀ j, j < l.length -> w.cell? ⟨b, off + j, none⟩ = l[j]?) : (aH 191 (.pointer (some ⟨b, off, none⟩))).run pg w = .ok (.value (.agg l.toArray)) w := UR Tryd.underlying191 rfl azG hl.symm h
theorem avN {w : aJ2} {K : aJ3 -> aJ2 -> Prop} (hk : ∀ w', cJ w' w.heap.size [(.int .i64 0), (.int .i64 0), (.int .i64 0), (.int .i64 0), (.int .i64 0), (.int .i64 0), (.int .i64 0), (.int .i64 0), (.int .i64 0), (.int .i64 0), (.int .i64 0), (.int .i64 0), (.int .i64 0), (.int .i64 0), (.int .i64 0), (.int .i64 0), (.int .i64 0), (.int .i64 0), (.int .i64 0), (.int .i64 0), (.int .i64 0)] -> aS w w' cM -> w'.heap.size = w.heap.size + 1 -> K (.pointer (some ⟨w.heap.size, 0, none⟩)) w') : aC pg (bS 191) w K := jP (i := Tryd.t191) azG rfl hk
theorem auE {b off : Nat} {cs : List aJ3} {w : aJ2} {xs : Array aJ3} {K : aJ3 -> aJ2 -> Prop} (ho : cJ w b cs) (hs : xs.size = 21) (hv : ∀ x ∈ xs.toList, one x = true) (h : off + 21 <= cs.length) (hk : ∀ w', cJ w' b (aV cs off xs.toList) -> aS w w' (fun x => x = b) -> w'.heap.size = w.heap.size -> K undef w') : aC pg (aJ 191 (.pointer (some ⟨b, off, none⟩)) (.agg xs)) w K := kF (v := .agg xs) azG ho hs hv h hk
theorem HI  (b o : Nat) (w : aJ2)  : (fH 191 (.pointer (some ⟨b, o, none⟩)) none none none).run pg w = .ok (.value (.slice (some (uX ⟨b, o, none⟩ 21 (0) 1)) (21 - 0) (21 - 0))) w := CI Tryd.underlying191 CF _
theorem lS (n0 : Int) (a1 : Option Addr) (l1 c1 : Nat) (w : aJ2) : (bV 130 [(0, (.int .i64 n0)), (1, (.slice a1 l1 c1))]).run pg w = .ok (.value (.agg #[(.int .i64 n0), (.slice a1 l1 c1)])) w := by kernel_rfl
theorem lN {b off : Nat} {cs : List aJ3} {w : aJ2} (ho : cJ w b cs) (h : off + 2 <= cs.length) {K : aJ3 -> Prop} (hk : K (.agg ((cs.drop off).take 2).toArray)) : kI pg 164 (.pointer (some ⟨b, off, none⟩)) w K := CS Tryd.underlying164 rfl auL ho h hk
theorem qB (b o : Nat) (w : aJ2) : (aL 164 (.pointer (some ⟨b, o, none⟩)) 0).run pg w = .ok (.value (.pointer (some ⟨b, o, none⟩))) w := iZ (i := 0) Tryd.underlying164 rfl aDi (by decide) _
theorem mJ (b o : Nat) (w : aJ2) : (aL 164 (.pointer (some ⟨b, o, none⟩)) 1).run pg w = .ok (.value (.pointer (some ⟨b, o + 1, none⟩))) w := iZ (i := 1) Tryd.underlying164 rfl CF (by decide) _
theorem Im {k k' : IntKind} {lo hi : Int} (a : Option Addr) (n c : Nat) (w : aJ2) (h0 : 0 <= lo) (h1 : lo <= hi) (h2 : hi <= c) : (fH 80 (.slice a n c) (some (.int k lo)) (some (.int k' hi)) none).run pg w = .ok (.value (.slice (iH a c (lo.toNat) 1) (hi.toNat - lo.toNat) (c - lo.toNat))) w := asR Tryd.underlying80 aBp _ n c h0 h1 h2
theorem G9 {k : IntKind} (a : Int) (w : aJ2) : (fL 43 5 (.int k a)).run pg w = .ok (.value (.int .u8 (IntKind.u8.wrap a))) w := CN Tryd.underlying43 Tryd.underlying5
theorem agO {k : IntKind} {n : Int} {w : aJ2} {K : aJ3 -> aJ2 -> Prop} (h0 : 0 <= n) (hn : 24 * n <= 2 ^ 48) (hk : ∀ w', cJ w' w.heap.size (Pa n.toNat [(.int .u8 0), (.int .i64 0), (.int .i64 0)]) -> aS w w' cM -> w'.heap.size = w.heap.size + 1 -> K (.slice (some ⟨w.heap.size, 0, none⟩) n.toNat n.toNat) w') : aC pg (xZ 25 (.int k n) (.int k n)) w K := aBM (i := Tryd.t123) Tryd.underlying25 ahE rfl (by decide) rfl rfl h0 hn (by omega) hk
theorem J2 {k : IntKind} (a : Int) (w : aJ2) : (fL 94 43 (.int k a)).run pg w = .ok (.value (.int .u32 (IntKind.u32.wrap a))) w := CN Tryd.underlying94 Tryd.underlying43
theorem DR (a0 : Option Addr) (l0 c0 : Nat) (w : aJ2) : (bV 195 [(0, (.slice a0 l0 c0))]).run pg w = .ok (.value (.agg #[(.slice a0 l0 c0), (.int .i64 0)])) w := by kernel_rfl
theorem pR {ox oy : Operand} (x : Option Addr) (w : aJ2) : (aG .eql 184 ox oy (.pointer x) (.pointer none)).run pg w = .ok (.value (.bool x.isNone)) w := apB Tryd.underlying184 x
theorem xO (b o : Nat) (w : aJ2) : (aL 195 (.pointer (some ⟨b, o, none⟩)) 0).run pg w = .ok (.value (.pointer (some ⟨b, o, none⟩))) w := iZ (i := 0) Tryd.underlying195 rfl aqV (by decide) _
theorem qX (b o : Nat) (w : aJ2) : (aL 195 (.pointer (some ⟨b, o, none⟩)) 1).run pg w = .ok (.value (.pointer (some ⟨b, o + 1, none⟩))) w := iZ (i := 1) Tryd.underlying195 rfl CF (by decide) _
theorem Ks {l : List UInt8} {v : aJ3} {w : aJ2} (h : Bs w v l) : (fL 22 9 v).run pg w = .ok (.value (.string ⟨l.toArray⟩)) w := aDl Tryd.underlying22 Tryd.underlying9 Tryd.underlying5 h
theorem AO {k : IntKind} (a : Int) (w : aJ2) : (fL 54 3 (.int k a)).run pg w = .ok (.value (.int .i64 (IntKind.i64.wrap a))) w := CN Tryd.underlying54 Tryd.underlying3
theorem LJ {k : IntKind} {hi : Int} (a : Option Addr) (n c : Nat) (w : aJ2) (h0 : 0 <= hi) (h1 : hi <= c) : (fH 22 (.slice a n c) none (some (.int k hi)) none).run pg w = .ok (.value (.slice (iH a c (0) 1) (hi.toNat - 0) (c - 0))) w := QT Tryd.underlying22 U9 _ n c h0 h1
end Go.Proofs.YtaggdjhhmbnhoaaDoor
namespace Go.Pu
def cW (p : Int) : Int := if p < 0 then 1 else p
def fits : Int -> List Int -> Bool
 | left, [] => left == 0
 | left, p :: r => if p < -1 ∨ left < cW p then false else fits (left - cW p) r
def rR (ps : List Int) : Int := (ps.map cW).sum
def arC (log : Int) (ps : List Int) : Bool := decide (5 <= log /\ log <= 15 /\ 1 <= ps.length /\ ps.length <= 256 /\ ps.getLast? ≠ some 0)
def Uz (log : Int) (ps : List Int) : Bool := arC log ps && fits (2 ^ log.toNat) ps
theorem wO (p : Int) (ps : List Int) : rR (p :: ps) = cW p + rR ps := by simp [rR]
theorem Gt (a b : List Int) : rR (a ++ b) = rR a + rR b := by simp [rR]
theorem lT {p : Int} (h : -1 <= p) : 0 <= cW p := by unfold cW; split <;> omega
theorem GD {ps : List Int} (h : ∀ p ∈ ps, -1 <= p) : 0 <= rR ps := by
 induction ps with
 | nil => simp [rR]
 | cons p r ih =>
   rw [wO]
   have := lT (h p (by simp))
   have := ih fun q hq => h q (aH0 _ hq)
   omega
theorem abD : ∀ {ps : List Int} {left : Int}, fits left ps = true ↔ (∀ p ∈ ps, -1 <= p) /\ rR ps = left
 | [], left => by simp [fits, rR]; constructor <;> intro h <;> omega
 | p :: r, left => by
   rw [fits, wO]
   by_cases h : p < -1 ∨ left < cW p
   .rw [if_pos h]
    constructor
    .intro h; cases h
    .rintro ⟨h1, h2⟩
     have hp := h1 p (by simp)
     have := GD (ps := r) fun q hq => h1 q (aH0 _ hq)
     omega
   .rw [if_neg h, abD]
    constructor
    .rintro ⟨h1, h2⟩
     exact ⟨fun q hq => by rcases aIz.1 hq with rfl | hq; · omega
                           .exact h1 q hq, by omega⟩
    .rintro ⟨h1, h2⟩
     exact ⟨fun q hq => h1 q (aH0 _ hq), by omega⟩
structure Sk (log : Nat) (ps : List Int) : Prop where
 log5 : 5 <= log
 log15 : log <= 15
 len1 : 1 <= ps.length
 len256 : ps.length <= 256
 last : ps.getLast? ≠ some 0
 low : ∀ p ∈ ps, -1 <= p
 sum : rR ps = 2 ^ log
theorem Sk.b {log : Nat} {ps : List Int} (h : Sk log ps) : Uz log ps = true := by
 unfold Uz arC
 simp only [aH4, decide_eq_true_eq]
 have h1 := h.log5
 have h2 := h.log15
 refine ⟨⟨by omega, by omega, h.len1, h.len256, h.last⟩, ?_⟩
 rw [abD, aHH]
 exact ⟨h.low, h.sum⟩
theorem avJ {log : Nat} (h : log <= 15) : (2 : Int) ^ log <= 32768 := by
 have : 2 ^ log <= 2 ^ 15 := aHT (by omega) h
 have e : ((2 ^ log : Nat) : Int) = (2 : Int) ^ log := by simp
 omega
theorem awL (log : Nat) : (1 : Int) <= 2 ^ log := by
 have : 1 <= 2 ^ log := Nat.one_le_two_pow
 have e : ((2 ^ log : Nat) : Int) = (2 : Int) ^ log := by simp
 omega
theorem alT {ps : List Int} (h : ∀ p ∈ ps, -1 <= p) {p : Int} (hp : p ∈ ps) : cW p <= rR ps := by
 induction ps with
 | nil => cases hp
 | cons q r ih =>
   rw [wO]
   have h0 := lT (h q (by simp))
   have h1 := GD (ps := r) fun q hq => h q (aH0 _ hq)
   rcases aIz.1 hp with rfl | hp
   .omega
   .have := ih (fun q hq => h q (aH0 _ hq)) hp
    omega
def adv (n a : Nat) : Nat := (a + n / 2 + n / 8 + 3) % n
def Yw (n high : Nat) : Nat -> Nat -> Nat
 | 0, a => a
 | f + 1, a => if a < high then a else Yw n high f (adv n a)
def XJ : List Int -> Nat -> Nat -> List Int -> Nat × List Int
 | [], _, high, arr => (high, arr)
 | p :: r, s, high, arr => if p = -1 then XJ r (s + 1) (high - 1) (arr.set (high - 1) s) else XJ r (s + 1) high arr
def pF : List Int -> Nat -> List Nat
 | [], _ => []
 | p :: r, s => List.replicate p.toNat s ++ pF r (s + 1)
def place (n high : Nat) : List Nat -> Nat -> List Int -> List Int
 | [], _, arr => arr
 | s :: r, a, arr => place n high r (Yw n high n (adv n a)) (arr.set a s)
def gF (x0 : Int) (log : Nat) (ps : List Int) : List Int :=
 place (2 ^ log) (XJ ps 0 (2 ^ log) (List.replicate (2 ^ log) x0)).1 (pF ps 0) 0 (XJ ps 0 (2 ^ log) (List.replicate (2 ^ log) x0)).2
def pos (n j : Nat) : Nat := (j * (n / 2 + n / 8 + 3)) % n
theorem Je (n j : Nat) : adv n (pos n j) = pos n (j + 1) := by
 unfold adv pos
 rw [aI5, aI5, Nat.mod_add_mod, aIJ, Nat.one_mul, aI5]
theorem aE5 {s : Nat} (hs : s % 2 = 1) : ∀ (k x : Nat), 2 ^ k ∣ s * x -> 2 ^ k ∣ x := by
 intro k
 induction k with
 | zero => intro x _; simp
 | succ k ih =>
   intro x h
   have h2 : 2 ∣ s * x := Nat.dvd_trans ⟨2 ^ k, by rw [aH8, aIO]⟩ h
   have hx : x % 2 = 0 := by
    have : (s * x) % 2 = 0 := Nat.mod_eq_zero_of_dvd h2
    rw [Nat.mul_mod, hs, Nat.one_mul, Nat.mod_mod] at this
    exact this
   obtain ⟨y, rfl⟩ : ∃ y, x = 2 * y := ⟨x / 2, by omega⟩
   rw [aH8, aIO (2 ^ k) 2, show s * (2 * y) = 2 * (s * y) by rw [Nat.mul_left_comm]] at h
   rw [aH8, aIO (2 ^ k) 2]
   exact Nat.mul_dvd_mul_left 2 (ih y (Nat.dvd_of_mul_dvd_mul_left (by omega) h))
theorem aDe {log : Nat} (h : 5 <= log) : (2 ^ log / 2 + 2 ^ log / 8 + 3) % 2 = 1 := by
 obtain ⟨k, rfl⟩ : ∃ k, log = k + 5 := ⟨log - 5, by omega⟩
 have : 2 ^ (k + 5) = 32 * 2 ^ k := by rw [aJy, aIO]
 omega
theorem aEZ {log : Nat} (h : 5 <= log) {i j : Nat} (hij : i < j) (hj : j < 2 ^ log) : pos (2 ^ log) i ≠ pos (2 ^ log) j := by
 unfold pos
 generalize hst : 2 ^ log / 2 + 2 ^ log / 8 + 3 = st
 have hodd : st % 2 = 1 := by rw [<- hst]; exact aDe h
 intro e
 have hle : i * st <= j * st := aIp _ (by omega)
 have hd : 2 ^ log ∣ st * (j - i) := by
  rw [aIO, Nat.sub_mul]
  exact Nat.dvd_of_mod_eq_zero (Nat.sub_mod_eq_zero_of_mod_eq e.symm)
 have := Nat.le_of_dvd (by omega) (aE5 hodd _ _ hd)
 omega
theorem aDb : ∀ (n : Nat) (l : List Nat), l.Nodup -> (∀ a ∈ l, a < n) -> l.length <= n := by
 intro n
 induction n with
 | zero => intro l _ h; cases l with
   | nil => simp
   | cons a r => exact absurd (h a (by simp)) (by omega)
 | succ n ih =>
   intro l hd h
   by_cases hn : n ∈ l
   .have := ih (l.erase n) (hd.erase n) (fun a ha => by
     have h1 := h a (List.mem_of_mem_erase ha)
     have h2 : a ≠ n := fun e => by subst e; exact hd.not_mem_erase ha
     omega)
    rw [aJL hn] at this
    omega
   .have := ih l hd (fun a ha => by
     have h1 := h a ha
     have h2 : a ≠ n := fun e => by subst e; exact hn ha
     omega)
    omega
theorem asF {n : Nat} {l : List Nat} (hd : l.Nodup) (h : ∀ a ∈ l, a < n) (hl : l.length = n) {a : Nat} (ha : a < n) : a ∈ l := by
 refine Classical.byContradiction fun hn => ?_
 have := aDb n (a :: l) (List.nodup_cons.2 ⟨hn, hd⟩) (fun b hb => (aIz.1 hb).elim (fun e => e ▸ ha) (h b))
 simp at this; omega
def lR (n high j : Nat) : List Nat := ((List.range' j (n - j)).map (pos n)).filter (· < high)
theorem Up {n high j : Nat} (h : j < n) : lR n high j = if pos n j < high then pos n j :: lR n high (j + 1) else lR n high (j + 1) := by
 unfold lR
 rw [show n - j = (n - (j + 1)) + 1 from by omega, List.range'_succ, aJh, List.filter_cons]
 simp
theorem ZI (n high : Nat) : lR n high n = [] := by unfold lR; simp
theorem anW {n : Nat} (h : 0 < n) (j : Nat) : pos n j < n := aI1 _ h
theorem Ur (n : Nat) : pos n 0 = 0 := by simp [pos]
theorem aGR (n : Nat) : pos n n = 0 := by simp [pos, Nat.mul_mod_right]
theorem aB0 {n high : Nat} (hh : 0 < high) : ∀ (d j f : Nat), j + d = n -> d <= f -> Yw n high f (pos n j) = (lR n high j).headD 0 := by
 intro d
 induction d with
 | zero =>
   intro j f hj _
   obtain rfl : j = n := by omega
   rw [ZI, aGR]
   cases f with
   | zero => rfl
   | succ f => unfold Yw; rw [if_pos hh] <;> rfl
 | succ d ih =>
   intro j f hj hf
   obtain ⟨f, rfl⟩ : ∃ g, f = g + 1 := ⟨f - 1, by omega⟩
   rw [Up (by omega)]
   unfold Yw
   split
   .rfl
   .rw [Je]; exact ih (j + 1) f (by omega) (by omega)
def setAt : List (Nat × Nat) -> List Int -> List Int
 | [], arr => arr
 | (q, s) :: r, arr => setAt r (arr.set q s)
theorem ayT {n high : Nat} (hh : 0 < high) : ∀ (syms : List Nat) (j a : Nat) (arr : List Int), j <= n -> syms.length <= (lR n high j).length -> (syms ≠ [] -> (lR n high j).headD 0 = a) →
 place n high syms a arr = setAt ((lR n high j).zip syms) arr := by
 intro syms
 induction syms with
 | nil => intro j a arr _ _ _; simp [place, setAt]
 | cons s r ih =>
   intro j a arr hj hlen ha
   have ha := ha (by simp)
   have key : ∀ (d j : Nat), j + d = n -> (s :: r).length <= (lR n high j).length -> (lR n high j).headD 0 = a -> ∃ i, i < n /\ j <= i /\ pos n i = a /\ lR n high j = a :: lR n high (i + 1) := by
    intro d
    induction d with
    | zero =>
      intro j hj hl _
      obtain rfl : j = n := by omega
      rw [ZI] at hl; simp at hl
    | succ d ihd =>
      intro j hj hl hd
      have e := Up (high := high) (show j < n by omega)
      by_cases hp : pos n j < high
      .rw [if_pos hp] at e
       rw [e] at hd
       have : pos n j = a := hd
       exact ⟨j, by omega, aHS _, this, by rw [e, this]⟩
      .rw [if_neg hp] at e
       rw [e] at hl hd ⊢
       obtain ⟨i, h1, h2, h3, h4⟩ := ihd (j + 1) (by omega) hl hd
       exact ⟨i, h1, by omega, h3, h4⟩
   obtain ⟨i, h1, h2, h3, h4⟩ := key (n - j) j (by omega) hlen ha
   rw [h4] at hlen ⊢
   simp only [aH5] at hlen
   rw [place, List.zip_cons_cons, setAt]
   refine ih (i + 1) _ _ (by omega) (by omega) (fun hr => ?_)
   rw [<- h3, Je]
   exact (aB0 hh (n - (i + 1)) (i + 1) n (by omega) (by omega)).symm
def rX : List Int -> Nat -> List Nat
 | [], _ => []
 | p :: r, s => if p = -1 then s :: rX r (s + 1) else rX r (s + 1)
def toI (l : List Nat) : List Int := l.map Int.ofNat
theorem arE : ∀ (ps : List Int) (s high : Nat) (arr : List Int), (rX ps s).length <= high -> high <= arr.length →
 XJ ps s high arr = (high - (rX ps s).length, arr.take (high - (rX ps s).length) ++ toI (rX ps s).reverse ++ arr.drop high) := by
 intro ps
 induction ps with
 | nil => intro s high arr h1 h2; simp [XJ, rX, toI]
 | cons p r ih =>
   intro s high arr h1 h2
   unfold XJ rX
   unfold rX at h1
   by_cases hp : p = -1
   .rw [if_pos hp, if_pos hp]
    rw [if_pos hp] at h1
    simp only [aH5] at h1 ⊢
    rw [ih (s + 1) (high - 1) _ (by omega) (by simp; omega)]
    congr 1
    .omega
    .have hlt : high - 1 < arr.length := by omega
     rw [List.take_set_of_le (by omega), show high - 1 - (rX r (s + 1)).length = high - ((rX r (s + 1)).length + 1) from by omega]
     have : (arr.set (high - 1) (s : Int)).drop (high - 1) = (s : Int) :: arr.drop high := by
      rw [aIh (by simp; omega)]
      simp only [aJB]
      rw [show high - 1 + 1 = high from by omega, List.drop_set_of_lt (by omega)]
     rw [this]
     simp [toI]
   .rw [if_neg hp, if_neg hp]
    rw [if_neg hp] at h1
    exact ih (s + 1) high arr h1 h2
theorem ZH : ∀ (l : List (Nat × Nat)) (arr : List Int), (setAt l arr).length = arr.length
 | [], _ => rfl
 | (q, s) :: r, arr => by rw [setAt, ZH]; simp
theorem Us {q : Nat} : ∀ (l : List (Nat × Nat)) (arr : List Int), (∀ x ∈ l, x.1 ≠ q) -> (setAt l arr)[q]? = arr[q]?
 | [], _, _ => rfl
 | (a, s) :: r, arr, h => by
   rw [setAt, Us r _ fun x hx => h x (aH0 _ hx), List.getElem?_set_ne (h (a, s) (by simp))]
theorem aCp : ∀ (us : List Nat) (ss : List Nat) (arr : List Int) (t : Nat), us.Nodup -> us.length = ss.length -> (∀ q ∈ us, q < arr.length) -> (ht : t < us.length) -> (ht' : t < ss.length) →
 (setAt (us.zip ss) arr)[us[t]]? = some (ss[t] : Int) := by
 intro us
 induction us with
 | nil => intro ss arr t _ _ _ ht; simp at ht
 | cons u us ih =>
   intro ss arr t hd hl hb ht ht'
   cases ss with
   | nil => simp at hl
   | cons x ss =>
     obtain ⟨h1, h2⟩ := List.nodup_cons.1 hd
     rw [List.zip_cons_cons, setAt]
     cases t with
     | zero =>
       simp only [aJj]
       rw [Us _ _ (fun y hy => fun e => h1 (by have := (List.of_mem_zip (a := y.1) (b := y.2) hy).1; rw [e] at this; exact this))]
       have : u < arr.length := hb u (by simp)
       simp [this]
     | succ t =>
       simp only [aJS]
       exact ih ss _ t h2 (by simpa using hl) (fun q hq => by simpa using hb q (aH0 _ hq)) (by simpa using ht) (by simpa using ht')
theorem apD : ∀ (n : Nat) (l : List Nat), l.Nodup -> (∀ a ∈ l, a < n) -> l.length = n -> l.Perm (List.range n) := by
 intro n
 induction n with
 | zero => intro l _ _ h; rw [aIk.1 h]; exact List.Perm.refl _
 | succ n ih =>
   intro l hd h hl
   have hn : n ∈ l := asF hd h hl (by omega)
   have p1 := List.perm_cons_erase hn
   have p2 := ih (l.erase n) (hd.erase n) (fun a ha => by
    have h1 := h a (List.mem_of_mem_erase ha)
    have h2 : a ≠ n := fun e => by subst e; exact hd.not_mem_erase ha
    omega) (by rw [aJL hn]; omega)
   rw [aJH]
   exact p1.trans ((p2.cons n).trans (List.perm_append_singleton n _).symm)
theorem awJ : ∀ (ps : List Int) (s : Nat), (∀ p ∈ ps, -1 <= p) -> ((pF ps s).length : Int) + (rX ps s).length = rR ps := by
 intro ps
 induction ps with
 | nil => intro s _; simp [pF, rX, rR]
 | cons p r ih =>
   intro s h
   have := ih (s + 1) fun q hq => h q (aH0 _ hq)
   have hp := h p (by simp)
   rw [wO]
   unfold pF rX cW
   by_cases h1 : p = -1
   .rw [if_pos h1, if_pos (by omega)]; subst h1; simp; omega
   .rw [if_neg h1, if_neg (by omega)]; simp; omega
theorem ayU : ∀ (ps : List Int) (s i : Nat), (pF ps s).count (s + i) = if h : i < ps.length then ps[i].toNat else 0 := by
 intro ps
 induction ps with
 | nil => intro s i; simp [pF]
 | cons p r ih =>
   intro s i
   have low : ∀ (ps : List Int) (s a : Nat), a < s -> (pF ps s).count a = 0 := by
    intro ps
    induction ps with
    | nil => intro s a _; simp [pF]
    | cons p r ih =>
      intro s a h
      unfold pF
      rw [aIR, ih (s + 1) a (by omega), List.count_replicate]
      simp; omega
   unfold pF
   rw [aIR, List.count_replicate]
   cases i with
   | zero => rw [aIB, low r (s + 1) s (by omega)]; simp
   | succ i =>
     rw [show s + (i + 1) = s + 1 + i from by omega, ih (s + 1) i]
     have : (s == s + 1 + i) = false := by simp; omega
     rw [this]; simp
theorem aAD : ∀ (ps : List Int) (s i : Nat), (rX ps s).count (s + i) = if h : i < ps.length then (if ps[i] = -1 then 1 else 0) else 0 := by
 intro ps
 induction ps with
 | nil => intro s i; simp [rX]
 | cons p r ih =>
   intro s i
   have low : ∀ (ps : List Int) (s a : Nat), a < s -> (rX ps s).count a = 0 := by
    intro ps
    induction ps with
    | nil => intro s a _; simp [rX]
    | cons p r ih =>
      intro s a h
      unfold rX
      split
      .rw [aJe, ih (s + 1) a (by omega)]; simp; omega
      .exact ih (s + 1) a (by omega)
   unfold rX
   cases i with
   | zero =>
     rw [aIB]
     by_cases h : p = -1
     .rw [if_pos h, aJe, low r (s + 1) s (by omega)]; simp [h]
     .rw [if_neg h, low r (s + 1) s (by omega)]; simp [h]
   | succ i =>
     have e : s + (i + 1) = s + 1 + i := by omega
     by_cases h : p = -1
     .rw [if_pos h, aJe, e, ih (s + 1) i]
      have : (s == s + 1 + i) = false := by simp; omega
      rw [this]; simp
     .rw [if_neg h, e, ih (s + 1) i]; simp
theorem aE9 : ∀ (ps : List Int) (s i : Nat) (h : i < ps.length), ps[i] = -1 -> (rX ps s)[(ps.take i).count (-1)]? = some (s + i) := by
 intro ps
 induction ps with
 | nil => intro s i h; simp at h
 | cons p r ih =>
   intro s i h hp
   unfold rX
   cases i with
   | zero => simp only [aJj] at hp; rw [if_pos hp]; simp
   | succ i =>
     simp only [aJS] at hp
     have := ih (s + 1) i (by simpa using h) hp
     rw [aHG, aJe]
     by_cases h1 : p = -1
     .rw [if_pos h1]; simp only [h1, beq_self_eq_true, if_true, aHK]; rw [this]; congr 1; omega
     .rw [if_neg h1]
      have : (p == -1) = false := by simpa using h1
      rw [this]; simp only [aHP, if_false, aIB]
      rw [‹(rX r (s + 1))[_]? = _›]; congr 1; omega
theorem Wb {log high : Nat} (hl : 5 <= log) (hh : high <= 2 ^ log) : (lR (2 ^ log) high 0).Nodup /\ (∀ a ∈ lR (2 ^ log) high 0, a < high) /\ (lR (2 ^ log) high 0).length = high := by
 have hn : 0 < 2 ^ log := aIj log
 have hnd : ((List.range (2 ^ log)).map (pos (2 ^ log))).Nodup := by
  rw [List.nodup_iff_pairwise_ne, List.pairwise_map]
  refine List.pairwise_iff_getElem.2 fun i j hi hj hij => ?_
  simp only [aJp] at hi hj
  simp only [aIC]
  exact aEZ hl hij hj
 have hp := apD (2 ^ log) _ hnd (fun a ha => by
  obtain ⟨j, _, rfl⟩ := aIx.1 ha
  exact anW hn j) (by simp)
 unfold lR
 rw [aJN, <- List.range_eq_range']
 refine ⟨hnd.filter _, fun a ha => by simpa using (aJZ.1 ha).2, ?_⟩
 rw [(hp.filter _).length_eq]
 have : ∀ m : Nat, high <= m -> ((List.range m).filter (· < high)).length = high := by
  intro m
  induction m with
  | zero => intro h; simp; omega
  | succ m ih =>
    intro h
    rw [aJH, List.filter_append, aHR]
    by_cases hm : high <= m
    .rw [ih hm]; simp; omega
    .have : high = m + 1 := by omega
     subst this
     have : (List.range m).filter (fun x => decide (x < m + 1)) = List.range m := List.filter_eq_self.2 fun a ha => by have := aIw.1 ha; simp; omega
     rw [this]; simp
 exact this _ hh
structure Lay (log : Nat) (ps : List Int) (S : List Int) : Prop where
 len : S.length = 2 ^ log
 cnt : ∀ s (h : s < ps.length), S.count (s : Int) = (cW ps[s]).toNat
 rng : ∀ x ∈ S, ∃ s : Nat, s < ps.length /\ x = s
 top : ∀ s (h : s < ps.length), ps[s] = -1 -> S[2 ^ log - 1 - (ps.take s).count (-1)]? = some (s : Int)
theorem aqW (l : List Nat) (s : Nat) : (toI l).count (s : Int) = l.count s := by
 induction l with
 | nil => rfl
 | cons a r ih =>
   show List.count _ (Int.ofNat a :: toI r) = _
   rw [aJe, aJe, ih]
   congr 1
   by_cases h : a = s
   .subst h; simp
   .simp [h]; omega
theorem aDf : ∀ (ps : List Int) (s : Nat), ∀ x ∈ pF ps s, s <= x /\ x < s + ps.length := by
 intro ps
 induction ps with
 | nil => intro s x h; simp [pF] at h
 | cons p r ih =>
   intro s x h
   unfold pF at h
   rcases aI2.1 h with h | h
   .have := (List.mem_replicate.1 h).2; simp; omega
   .have := ih (s + 1) x h; simp; omega
theorem aD7 : ∀ (ps : List Int) (s : Nat), ∀ x ∈ rX ps s, s <= x /\ x < s + ps.length := by
 intro ps
 induction ps with
 | nil => intro s x h; simp [rX] at h
 | cons p r ih =>
   intro s x h
   unfold rX at h
   split at h
   .rcases aIz.1 h with rfl | h
    .simp
    .have := ih (s + 1) x h; simp; omega
   .have := ih (s + 1) x h; simp; omega
theorem UE {log : Nat} {ps : List Int} (h : Sk log ps) (x0 : Int) :
 ∃ low : List Int, gF x0 log ps = low ++ toI (rX ps 0).reverse /\ low.Perm (toI (pF ps 0)) /\ ((rX ps 0).length + low.length = 2 ^ log) /\
   (∀ t (h1 : t < (lR (2 ^ log) (pF ps 0).length 0).length) (h2 : t < (pF ps 0).length), low[(lR (2 ^ log) (pF ps 0).length 0)[t]]? = some ((pF ps 0)[t] : Int)) := by
 have hrl := awJ ps 0 h.low
 rw [h.sum] at hrl
 have hpow : ((2 ^ log : Nat) : Int) = (2 : Int) ^ log := by simp
 obtain ⟨m, hm⟩ : ∃ m, m = (rX ps 0).length := ⟨_, rfl⟩
 obtain ⟨hi, hhi⟩ : ∃ x, x = (pF ps 0).length := ⟨_, rfl⟩
 rw [<- hm, <- hhi] at hrl
 have hsum : hi + m = 2 ^ log := by omega
 have ht := arE ps 0 (2 ^ log) (List.replicate (2 ^ log) x0) (by omega) (by simp)
 rw [<- hm, show 2 ^ log - m = hi from by omega] at ht
 have e2 : (List.replicate (2 ^ log) x0).take hi = List.replicate hi x0 := by rw [List.take_replicate]; congr 1; omega
 have e3 : (List.replicate (2 ^ log) x0).drop (2 ^ log) = [] := by simp
 rw [e2, e3, aIy] at ht
 unfold gF
 rw [ht]
 simp only
 obtain ⟨u1, u2, u3⟩ := Wb (high := hi) h.log5 (by omega)
 by_cases h0 : hi = 0
 .have hr : pF ps 0 = [] := aIk.1 (by omega)
  rw [hr, h0]
  refine ⟨[], by simp [place], by simp [toI], by simp; omega, fun t _ h2 => by simp at h2⟩
 .have hp := ayT (n := 2 ^ log) (high := hi) (by omega) (pF ps 0) 0 0 (List.replicate hi x0 ++ toI (rX ps 0).reverse) (by omega) (by rw [u3]; omega) (fun _ => by
   rw [Up (aIj log), Ur, if_pos (by omega)] <;> rfl)
  rw [hp]
  generalize hU : lR (2 ^ log) hi 0 = U at *
  have hb : ∀ q ∈ U, q < (List.replicate hi x0 ++ toI (rX ps 0).reverse).length := fun q hq => by have := u2 q hq; simp; omega
  obtain ⟨R, hR⟩ : ∃ R, R = setAt (U.zip (pF ps 0)) (List.replicate hi x0 ++ toI (rX ps 0).reverse) := ⟨_, rfl⟩
  have hRl : R.length = hi + m := by rw [hR, ZH]; simp [toI, hm]
  have hRd : R.drop hi = toI (rX ps 0).reverse := by
   apply aJR
   intro i
   rw [aIV, hR, Us _ _ (fun x hx => by
     have := u2 _ (List.of_mem_zip (a := x.1) (b := x.2) hx).1
     omega), aIn (by simp)]
   simp
  have hget : ∀ t (h1 : t < U.length) (h2 : t < (pF ps 0).length), R[U[t]]? = some ((pF ps 0)[t] : Int) := fun t h1 h2 => by
   rw [hR]; exact aCp U _ _ t u1 (by omega) hb h1 h2
  rw [<- hR]
  refine ⟨R.take hi, by rw [<- hRd, aJb], ?_, by rw [aHZ]; omega, fun t h1 h2 => ?_⟩
  .have p1 : (U.map fun q => R.getD q 0).Perm ((List.range hi).map fun q => R.getD q 0) := (apD hi U u1 u2 u3).map _
   have p2 : (U.map fun q => R.getD q 0) = toI (pF ps 0) := by
    apply aIG
    .simp [toI]; omega
    .intro t h1 h2
     simp only [aHU] at h1
     have := hget t h1 (by omega)
     simp only [aIm, toI, aHX, this]
     rfl
   have p3 : ((List.range hi).map fun q => R.getD q 0) = R.take hi := by
    apply aIG
    .simp; omega
    .intro q h1 h2
     simp only [aHU, aJp] at h1
     simp only [aIm, aIC, List.getElem_take, aHX]
     rw [aHQ (by omega)] <;> rfl
   rw [p2, p3] at p1
   exact p1.symm
  .subst hhi
   simp only [hU] at h1 ⊢
   have := hget t h1 h2
   rw [aIl (u2 _ (aH1 h1))]
   exact this
theorem vF {log : Nat} {ps : List Int} (h : Sk log ps) (x0 : Int) : Lay log ps (gF x0 log ps) := by
 obtain ⟨low, e, hp, hl, _⟩ := UE h x0
 rw [e]
 refine ⟨by simp [toI]; omega, fun s hs => ?_, fun x hx => ?_, fun s hs hps => ?_⟩
 .rw [aIR, hp.count_eq, aqW, aqW, List.count_reverse]
  have h1 := ayU ps 0 s
  have h2 := aAD ps 0 s
  rw [aHI] at h1 h2
  rw [h1, h2, dif_pos hs, dif_pos hs]
  have := h.low _ (aH1 hs)
  unfold cW
  split <;> split <;> omega
 .rcases aI2.1 hx with hx | hx
  .have hx := hp.mem_iff.1 hx
   obtain ⟨s, hs, rfl⟩ := aIx.1 hx
   exact ⟨s, by have := aDf ps 0 s hs; omega, rfl⟩
  .obtain ⟨s, hs, rfl⟩ := aIx.1 hx
   exact ⟨s, by have := aD7 ps 0 s (List.mem_reverse.1 hs); omega, rfl⟩
 .have h1 := aE9 ps 0 s hs hps
  rw [aHI] at h1
  have hlt : (ps.take s).count (-1) < (rX ps 0).length := by
   rcases aH6 ((ps.take s).count (-1)) (rX ps 0).length with h | h
   .exact h
   .rw [aH3 h] at h1; cases h1
  rw [aIn (by omega)]
  unfold toI
  rw [aH9, List.getElem?_reverse (by omega), show (rX ps 0).length - 1 - (2 ^ log - 1 - List.count (-1) (List.take s ps) - low.length) = (ps.take s).count (-1) from by omega, h1]
  rfl
theorem aCe {log : Nat} {ps : List Int} (h : Sk log ps) (x y : Int) : gF x log ps = gF y log ps := by
 obtain ⟨a, e1, p1, l1, g1⟩ := UE h x
 obtain ⟨b, e2, p2, l2, g2⟩ := UE h y
 rw [e1, e2]
 congr 1
 apply aJR
 intro q
 have hrl : (pF ps 0).length = a.length := by rw [p1.length_eq]; simp [toI]
 by_cases hq : q < a.length
 .obtain ⟨u1, u2, u3⟩ := Wb (high := (pF ps 0).length) h.log5 (by omega)
  have hm := asF u1 u2 u3 (a := q) (by omega)
  obtain ⟨t, ht, rfl⟩ := aIf hm
  rw [g1 t ht (by omega), g2 t ht (by omega)]
 .rw [aH3 (by omega), aH3 (by omega)]
def bl (k : Nat) : Nat := if k = 0 then 0 else k.log2 + 1
theorem aFd : bl 0 = 0 := rfl
theorem V0 (k : Nat) : k < 2 ^ bl k := by
 unfold bl
 split
 .subst_vars; simp
 .exact Nat.lt_log2_self
theorem Tx {k : Nat} (h : k ≠ 0) : 2 ^ (bl k - 1) <= k := by
 unfold bl
 rw [if_neg h, aID]
 exact Nat.log2_self_le h
theorem Hx {k : Nat} (h : k ≠ 0) : 1 <= bl k := by unfold bl; rw [if_neg h]; omega
theorem rE {k n : Nat} (h : k < 2 ^ n) : bl k <= n := by
 by_cases h0 : k = 0
 .subst h0; simp [bl]
 .rcases aH6 n (bl k) with hh | hh
  .have h1 := Tx h0
   have := aHT (n := 2) (by omega) (show n <= bl k - 1 by omega)
   omega
  .exact hh
theorem aC2 {k n : Nat} (h1 : 2 ^ n <= k) (h2 : k < 2 ^ (n + 1)) : bl k = n + 1 := by
 have h0 : k ≠ 0 := by have := aIj n; omega
 have a := rE h2
 have b := V0 k
 rcases aH6 (bl k) (n + 1) with h | h
 .have := aHT (n := 2) (by omega) (show bl k <= n by omega)
  omega
 .omega
def kAt (ps S : List Int) (i : Nat) : Nat := (cW (ps.getD (S.getD i 0).toNat 0)).toNat + (S.take i).count (S.getD i 0)
def Dj (log : Nat) (x : Int) (k : Nat) : Int × Int × Int := (x, ((log + 1 - bl k : Nat) : Int), ((k * 2 ^ (log + 1 - bl k) : Nat) : Int) - 2 ^ log)
def Gw (log : Nat) (ps S : List Int) (i : Nat) : Int × Int × Int := Dj log (S.getD i 0) (kAt ps S i)
def kD (log : Nat) (ps : List Int) : List (Int × Int × Int) := (List.range (2 ^ log)).map (Gw log ps (gF 0 log ps))
theorem jC (log : Nat) (ps : List Int) : (kD log ps).length = 2 ^ log := by simp [kD]
theorem V6 {S : List Int} {i : Nat} (h : i < S.length) : (S.take i).count S[i] + 1 <= S.count S[i] := by
 have e : S = S.take i ++ S[i] :: S.drop (i + 1) := by rw [<- aIh h, aJb]
 have : S.count S[i] = (S.take i ++ S[i] :: S.drop (i + 1)).count S[i] := by rw [<- e]
 rw [this, aIR, aJe]; simp
theorem W4 {log : Nat} {ps : List Int} (h : Sk log ps) {s : Nat} (hs : s < ps.length) : (cW ps[s]).toNat <= 2 ^ log := by
 have := alT h.low (aH1 hs)
 rw [h.sum] at this
 have hpow : ((2 ^ log : Nat) : Int) = (2 : Int) ^ log := by simp
 rw [<- hpow] at this
 exact Int.toNat_le.2 this
theorem XG {log : Nat} {ps S : List Int} (h : Sk log ps) (L : Lay log ps S) {i : Nat} (hi : i < 2 ^ log) :
 ∃ s : Nat, ∃ hs : s < ps.length, S.getD i 0 = (s : Int) /\ 1 <= (cW ps[s]).toNat /\ (cW ps[s]).toNat <= 2 ^ log /\ kAt ps S i = (cW ps[s]).toNat + (S.take i).count (s : Int) /\ (S.take i).count (s : Int) < (cW ps[s]).toNat := by
 have hil : i < S.length := by rw [L.len]; exact hi
 have hg : S.getD i 0 = S[i] := by rw [aHX, aHQ hil] <;> rfl
 obtain ⟨s, hs, e⟩ := L.rng _ (aH1 hil)
 have hc := V6 hil
 rw [e, L.cnt s hs] at hc
 refine ⟨s, hs, by rw [hg, e], by omega, W4 h hs, ?_, by omega⟩
 unfold kAt
 rw [hg, e, aHH, aHX, aHQ hs] <;> rfl
theorem amR {log k : Nat} (h1 : 1 <= k) (h2 : k < 2 ^ (log + 1)) : 2 ^ log <= k * 2 ^ (log + 1 - bl k) /\ (k + 1) * 2 ^ (log + 1 - bl k) <= 2 ^ (log + 1) /\ bl k <= log + 1 /\ 1 <= bl k := by
 have a := rE h2
 have b := Hx (k := k) (by omega)
 have c := Tx (k := k) (by omega)
 have d := V0 k
 refine ⟨?_, ?_, a, b⟩
 .calc 2 ^ log = 2 ^ (bl k - 1) * 2 ^ (log + 1 - bl k) := by rw [<- aJy]; congr 1; omega
   _ <= k * 2 ^ (log + 1 - bl k) := aIp _ c
 .calc (k + 1) * 2 ^ (log + 1 - bl k) <= 2 ^ bl k * 2 ^ (log + 1 - bl k) := aIp _ d
   _ = 2 ^ (log + 1) := by rw [<- aJy]; congr 1; omega
theorem aA1 (n j : Nat) (hn : 0 < n) : ∃ d, d < n /\ pos n (j + d) = 0 := by
 refine ⟨(n - j % n) % n, aI1 _ hn, ?_⟩
 unfold pos
 have : (j + (n - j % n) % n) % n = 0 := by
  rw [Nat.add_mod_mod]
  have h1 := aI1 j hn
  have h2 := Nat.div_add_mod j n
  have : j + (n - j % n) = n * (j / n + 1) := by
   rw [Nat.mul_add, aJx]
   generalize n * (j / n) = y at *
   generalize j % n = r at *
   omega
  rw [this, Nat.mul_mod_right]
 rw [Nat.mul_mod, this, Nat.zero_mul, Nat.zero_mod]
theorem UY {n high : Nat} (hn : 0 < n) (hh : 0 < high) (j : Nat) : ∃ d, (∀ e, e < d -> high <= pos n (j + e)) /\ pos n (j + d) < high /\ Yw n high n (pos n j) = pos n (j + d) := by
 obtain ⟨D, hD, h0⟩ := aA1 n j hn
 have key : ∀ (D f j : Nat), D <= f -> pos n (j + D) < high -> ∃ d, (∀ e, e < d -> high <= pos n (j + e)) /\ pos n (j + d) < high /\ Yw n high f (pos n j) = pos n (j + d) := by
  intro D
  induction D with
  | zero =>
    intro f j _ h
    refine ⟨0, fun e he => by omega, h, ?_⟩
    rw [aIB] at h ⊢
    cases f with
    | zero => rfl
    | succ f => unfold Yw; rw [if_pos h]
  | succ D ih =>
    intro f j hf h
    obtain ⟨f, rfl⟩ : ∃ g, f = g + 1 := ⟨f - 1, by omega⟩
    by_cases hj : pos n j < high
    .exact ⟨0, fun e he => by omega, hj, by unfold Yw; rw [if_pos hj] <;> rfl⟩
    .obtain ⟨d, h1, h2, h3⟩ := ih f (j + 1) (by omega) (by rw [show j + 1 + D = j + (D + 1) from by omega]; exact h)
     refine ⟨d + 1, fun e he => ?_, by rw [show j + (d + 1) = j + 1 + d from by omega]; exact h2, ?_⟩
     .cases e with
      | zero => rw [aIB]; omega
      | succ e => rw [show j + (e + 1) = j + 1 + e from by omega]; exact h1 e (by omega)
     .unfold Yw; rw [if_neg hj, Je, h3]; congr 1; omega
 exact key D n j (by omega) (by rw [h0]; exact hh)
theorem aiM {log : Nat} {ps : List Int} (h : Sk log ps) (x0 : Int) : ∃ arr, XJ ps 0 (2 ^ log) (List.replicate (2 ^ log) x0) = ((pF ps 0).length, arr) /\ arr.length = 2 ^ log /\ (rX ps 0).length + (pF ps 0).length = 2 ^ log /\ gF x0 log ps = place (2 ^ log) (pF ps 0).length (pF ps 0) 0 arr := by
 have hrl := awJ ps 0 h.low
 rw [h.sum] at hrl
 have hpow : ((2 ^ log : Nat) : Int) = (2 : Int) ^ log := by simp
 have hsum : (rX ps 0).length + (pF ps 0).length = 2 ^ log := by omega
 have ht := arE ps 0 (2 ^ log) (List.replicate (2 ^ log) x0) (by omega) (by simp)
 rw [show 2 ^ log - (rX ps 0).length = (pF ps 0).length from by omega] at ht
 refine ⟨_, ht, ?_, hsum, ?_⟩
 .simp [toI]; omega
 .unfold gF; rw [ht]
end Go.Pu
namespace Go.En
open Go
section
variable {P : Program} {w : aJ2} {t e : TypeId}
theorem ayI {i : TypeInfo} (hu : P.underlying t = some (.slice e)) (hi : P.info? e = some i)
 {K : aJ3 -> aJ2 -> Prop} (hk : ∀ w', cJ w' w.heap.size [] -> aS w w' cM -> w'.heap.size = w.heap.size + 1 -> K (.slice (some ⟨w.heap.size, 0, none⟩) 0 0) w') :
 aC P (bX t 0 []) w K := by
 have : (bX t 0 []).run P w = .ok (.value (.slice (some ⟨w.heap.size, 0, none⟩) 0 0)) (w.alloc (.cells ([] : List aJ3).toArray e)) := by
  unfold bX; rw [qG]
  have h1 : ¬ (0 > 2 ^ 24) := by omega
  have e : ∀ f : Nat -> aJ3, Array.map f (Array.range 0) = #[] := fun f => by simp
  simp only [Instr.buildSlice, underlying, pure_bind, Sem.run_bind, run_program, Result.andThen_ok, hu, Sem.run_pure, gM hi, Nat.zero_mul, h1, if_false, if_true, newRow, run_newObj, Instr.fill, e]
  rfl
 unfold aC
 rw [this]
 exact hk _ (cJ.alloc _ _ _) (aS.alloc _ _ _) (by simp)
def At (v : aJ3) (b : Nat) : Prop := ∀ M : Nat -> Prop, ¬ M b -> ¬ inB v M
theorem At.nil (c b : Nat) (a : Option Addr) : At (.slice a 0 c) b := fun M h => by unfold inB; split <;> simp_all
theorem At.at (b o n c : Nat) : At (.slice (some ⟨b, o, none⟩) n c) b := fun M h => by
 unfold inB; split
 .rename_i x m _ e
  obtain ⟨rfl, _⟩ : (⟨b, o, none⟩ : Addr) = x /\ _ := by simpa using e
  exact h
 .simp
theorem rN.at' {w : aJ2} {base sz n : Nat} {v : aJ3} {l : List aJ3} (h : rN w base sz v n l) (hb : base < w.heap.size) : ∃ b, base <= b /\ b < w.heap.size /\ At v b := by
 rcases h.2 with ⟨rfl, rfl⟩ | ⟨b, c, rest, rfl, h2, h3, h4, h5⟩
 .exact ⟨base, aHS _, hb, At.nil _ _ _⟩
 .exact ⟨b, h2, h3.lt, At.at _ _ _ _⟩
end
end Go.En
namespace Go.Proofs.YtaggdjhhmbnhoaaDoor
open Go Go.En Go.Pu
set_option maxRecDepth 4000
theorem U2 (n : Nat) (hn : n <= 40) (w : aJ2) : aR pg mO #[.int .i64 n] w (fun r w' => r = .int .i64 (2 ^ n) /\ w' = w) := by
 refine acO ?_
 unfold ahW KE Kx J7 Jy LC LU Km
 refine cG.rule (fun m t w' => ∃ i : Nat, m = n - i /\ t = (.int .i64 (2 ^ i), .int .i64 i) /\ i <= n /\ w' = w) n ⟨0, rfl, rfl, by omega, rfl⟩ ?_
 rintro m t w' ⟨i, rfl, rfl, hi, rfl⟩
 by_cases hlt : i < n
 .have d1 : decide ((i : Int) < (n : Int)) = true := by simp; omega
  have d2 : decide ((i : Int) < 40) = true := by simp; omega
  have hb : (2 : Int) ^ i <= 549755813888 := by
   have : 2 ^ i <= 2 ^ 39 := aHT (by omega) (by omega)
   have e : ((2 ^ i : Nat) : Int) = (2 : Int) ^ i := by simp
   omega
  have hp := awL i
  simp (disch := omega) only [yJ, aC, aX, d1, pS, aT, bM, aA, sX, bN, if_true, bP, d2, and_true, aF]
  exact ⟨n - (i + 1), by omega, i + 1, rfl, by rw [Int.pow_succ] <;> rfl, by omega⟩
 .have d1 : decide ((i : Int) < (n : Int)) = false := by simp; omega
  have : i = n := by omega
  subst this
  simp (disch := omega) only [yJ, aC, aX, d1, pS, bM, aT, aA, DE, true_and, Fm, bN, aHP, if_false, aE, dV]
def auJ : ByteArray := ⟨#[0, 1, 2, 2, 3, 3, 3, 3, 4, 4, 4, 4, 4, 4, 4, 4, 5, 5, 5, 5, 5, 5, 5, 5, 5, 5, 5, 5, 5, 5, 5, 5, 6, 6, 6, 6, 6, 6, 6, 6, 6, 6, 6, 6, 6, 6, 6, 6, 6, 6, 6, 6, 6, 6, 6, 6, 6, 6, 6, 6, 6, 6, 6, 6, 7, 7, 7, 7, 7, 7, 7, 7, 7, 7, 7, 7, 7, 7, 7, 7, 7, 7, 7, 7, 7, 7, 7, 7, 7, 7, 7, 7, 7, 7, 7, 7, 7, 7, 7, 7, 7, 7, 7, 7, 7, 7, 7, 7, 7, 7, 7, 7, 7, 7, 7, 7, 7, 7, 7, 7, 7, 7, 7, 7, 7, 7, 7, 7, 8, 8, 8, 8, 8, 8, 8, 8, 8, 8, 8, 8, 8, 8, 8, 8, 8, 8, 8, 8, 8, 8, 8, 8, 8, 8, 8, 8, 8, 8, 8, 8, 8, 8, 8, 8, 8, 8, 8, 8, 8, 8, 8, 8, 8, 8, 8, 8, 8, 8, 8, 8, 8, 8, 8, 8, 8, 8, 8, 8, 8, 8, 8, 8, 8, 8, 8, 8, 8, 8, 8, 8, 8, 8, 8, 8, 8, 8, 8, 8, 8, 8, 8, 8, 8, 8, 8, 8, 8, 8, 8, 8, 8, 8, 8, 8, 8, 8, 8, 8, 8, 8, 8, 8, 8, 8, 8, 8, 8, 8, 8, 8, 8, 8, 8, 8, 8, 8, 8, 8, 8, 8, 8, 8, 8, 8, 8, 8]⟩
theorem Pw : auJ.size = 256 := by decide
set_option maxRecDepth 100000 in
theorem aoB (x : Nat) (h : x < 256) : (auJ[x]'(by rw [Pw]; exact h)).toNat = bl x := by
 have : ∀ k : Fin 256, (auJ.data[k.val]!).toNat = bl k.val := by decide +kernel
 have h2 := this ⟨x, h⟩
 simp only at h2
 rw [<- h2]
 have hs : x < auJ.data.size := by have := Pw; exact (show auJ.data.size = 256 from this) ▸ h
 rw [getElem!_pos auJ.data x hs]
 rfl
theorem Ua {x j : Nat} (h : 2 ^ j <= x) : bl x = bl (x / 2 ^ j) + j := by
 have hp := aIj j
 have h0 : x / 2 ^ j ≠ 0 := by
  have := Nat.div_pos h hp
  omega
 have a := Tx h0
 have b := V0 (x / 2 ^ j)
 have c := Hx h0
 obtain ⟨m, hm⟩ : ∃ m, bl (x / 2 ^ j) = m + 1 := ⟨bl (x / 2 ^ j) - 1, by omega⟩
 rw [hm, aID] at a
 rw [hm] at b ⊢
 have h1 : 2 ^ (m + j) <= x := by
  rw [aJy]
  exact aIM (aIp _ a) (aJG _ _)
 have h2 : x < 2 ^ (m + j + 1) := by
  rw [show m + j + 1 = (m + 1) + j from by omega, aJy]
  exact (aJc hp).1 b
 rw [aC2 h1 h2]; omega
theorem ayC {x n : Nat} (hx : x < 256) (hn : n <= 1000) (R : aJ3 -> aJ2 -> Prop) (w : aJ2) (h : R (.int .i64 ((n + bl x : Nat) : Int)) w) :
 rA R (.int .u64 x) (.int .i64 n) w := by
 have hg := aoB x hx
 have hs := Pw
 have hb : bl x <= 8 := rE (n := 8) (by omega)
 unfold rA
 change aC pg _ w fun t21 w => aC pg (HM 9 (.string auJ) t21) w _
 simp (disch := omega) only [aC, pP, QN, aA, tQ, aHH, hg, nY, aT, bM]
 rw [Int.natCast_add] at h
 exact h
theorem TU (a b : Nat) : ((a : Int)).fdiv (b : Int) = ((a / b : Nat) : Int) := by rw [aJn _ (by omega)] <;> rfl
theorem UX (x j : Nat) (hj : j <= 64) : ((x : Int)).fdiv (2 ^ (min (j : Nat) IntKind.u64.bits)) = ((x / 2 ^ j : Nat) : Int) := by
 have e : min j IntKind.u64.bits = j := by simp only [IntKind.bits]; omega
 rw [e, <- TU]; simp
theorem aEH (x : Nat) (hx : x < 18446744073709551616) (w : aJ2) : aR pg xB #[.int .u64 x] w (fun r w' => r = .int .i64 (bl x : Nat) /\ w' = w) := by
 refine TE ?_
 unfold R8 BJ BW
 have step8 : ∀ (y n : Nat), y < 65536 -> n <= 64 -> n + bl y = bl x -> vI (fun r w' => r = .int .i64 (bl x : Nat) /\ w' = w) (.int .u64 y) (.int .i64 n) w := by
  intro y n hy hn e
  unfold vI BS
  by_cases h : 256 <= y
  .have d : decide ((256 : Int) <= (y : Int)) = true := by simp; omega
   have sh := UX y 8 (by omega)
   have hq : y / 2 ^ 8 < 256 := by omega
   have := Ua (x := y) (j := 8) (by omega)
   have e2 : (n : Int) + 8 = ((n + 8 : Nat) : Int) := by omega
   simp (disch := omega) only [aC, pG, d, xL, bM, e2, aT, aA, aF]
   rw [show (8 : Int).toNat = 8 from rfl, sh]
   exact ayC hq (by omega) _ _ ⟨by rw [<- e, this]; congr 2; omega, rfl⟩
  .have d : decide ((256 : Int) <= (y : Int)) = false := by simp; omega
   simp (disch := omega) only [aC, pG, d, xL, bM, aT, aA, aE]
   exact ayC (by omega) (by omega) _ _ ⟨by rw [e], rfl⟩
 have step16 : ∀ (y n : Nat), y < 4294967296 -> n <= 32 -> n + bl y = bl x -> vE (fun r w' => r = .int .i64 (bl x : Nat) /\ w' = w) (.int .u64 y) (.int .i64 n) w := by
  intro y n hy hn e
  unfold vE BD
  by_cases h : 65536 <= y
  .have d : decide ((65536 : Int) <= (y : Int)) = true := by simp; omega
   have sh := UX y 16 (by omega)
   have hq : y / 2 ^ 16 < 65536 := by omega
   have := Ua (x := y) (j := 16) (by omega)
   have e2 : (n : Int) + 16 = ((n + 16 : Nat) : Int) := by omega
   simp (disch := omega) only [aC, pG, d, xL, bM, e2, aT, aA, aF]
   rw [show (16 : Int).toNat = 16 from rfl, sh]
   exact step8 _ _ hq (by omega) (by rw [<- e, this]; omega)
  .have d : decide ((65536 : Int) <= (y : Int)) = false := by simp; omega
   simp (disch := omega) only [aC, pG, d, xL, bM, aT, aA, aE]
   exact step8 _ _ (by omega) (by omega) e
 by_cases h : 4294967296 <= x
 .have d : decide ((4294967296 : Int) <= (x : Int)) = true := by simp; omega
  have sh := UX x 32 (by omega)
  have hq : x / 2 ^ 32 < 4294967296 := by omega
  have := Ua (x := x) (j := 32) (by omega)
  simp (disch := omega) only [aC, pG, d, xL, aA, aF]
  rw [show (32 : Int).toNat = 32 from rfl, sh]
  exact step16 _ 32 hq (by omega) (by rw [this]; omega)
 .have d : decide ((4294967296 : Int) <= (x : Int)) = false := by simp; omega
  simp (disch := omega) only [aC, pG, d, xL, aA, aE]
  exact step16 _ 0 (by omega) (by omega) (by omega)
theorem aCG (x : Nat) (hx : x < 18446744073709551616) (w : aJ2) : aR pg rU #[.int .u64 x] w (fun r w' => r = .int .i64 (bl x : Nat) /\ w' = w) := by
 refine Xu ?_
 simp (disch := omega) only [Wg, EH, aC, J2, aA, aE]
 exact aEH x hx w
theorem atZ {n : Nat} (h : n <= 20) : IntKind.i64.wrap (1 * 2 ^ (min n IntKind.i64.bits)) = ((2 ^ n : Nat) : Int) := by
 have : ∀ k : Fin 21, IntKind.i64.wrap (1 * 2 ^ (min k.val IntKind.i64.bits)) = ((2 ^ k.val : Nat) : Int) := by decide
 exact this ⟨n, by omega⟩
theorem aCQ {w : aJ2} {v : aJ3} {l : List UInt8} (h : Bs w v l) (h0 : 0 < l.length) : ∃ b off c, v = .slice (some ⟨b, off, none⟩) l.length c /\ l.length <= c /\ ∀ i, (h : i < l.length) -> w.cell? ⟨b, off + i, none⟩ = some (.int .u8 (l[i].toNat : Nat)) := by
 obtain ⟨b, off, c, rfl, hc, hcell⟩ := h.openV (by simpa using h0)
 refine ⟨b, off, c, by rw [aHU], by simpa using hc, fun i hi => ?_⟩
 have := hcell i (by simpa using hi)
 simpa [GI] using this
theorem U6 {v : aJ3} {l : List UInt8} {w : aJ2} (h : Bs w v l) (hl : l.length <= 1000000000) :
 aR pg iQ #[v] w (fun r w' => rN w' w.heap.size 1 r l.length (l.map GI) /\ aS w w' cM) := by
 refine Qs ?_
 have h1 := h
 obtain ⟨a, n, c, rfl, hn, hc, hh⟩ := h
 rw [aHU] at hn
 unfold Mo yZ
 cases a with
 | none =>
   have h0 : l = [] := by
    cases l with
    | nil => rfl
    | cons x l => obtain ⟨b, off, h, _⟩ := hh (by simp at hn; omega); cases h
   subst h0
   simp (disch := omega) only [aC, FI, Option.isNone_none, aA, aF]
   exact ⟨rN.nil _ _ _, aS.refl _ _⟩
 | some x =>
   simp (disch := omega) only [aC, FI, aH7, aA, aE]
   refine ayI Tryd.underlying22 U9 fun w1 o1 x1 s1 => ?_
   have hcl1 := (h1.ext x1 (cB _)).cl
   rw [aHU] at hcl1
   have hos : rN w1 w.heap.size 1 (.slice (some ⟨w.heap.size, 0, none⟩) 0 0) 0 [] := ⟨rfl, .inr ⟨_, 0, [], rfl, aHS _, o1, rfl, aHS _⟩⟩
   refine TD hos hcl1 (azN _) x1.size (by omega) fun v3 w3 o3 x3 => ?_
   rw [aHI, aIv] at o3
   exact ⟨o3, x1.trans x3 fun b hb h => Nat.not_le_of_lt hb h⟩
def AtI (v : aJ3) (lo hi : Nat) : Prop := ∀ M : Nat -> Prop, (∀ b, lo <= b -> b < hi -> ¬ M b) -> ¬ inB v M
theorem rN.atI {w : aJ2} {base sz n : Nat} {v : aJ3} {l : List aJ3} (h : rN w base sz v n l) : AtI v base w.heap.size := by
 intro M hM
 rcases h.2 with ⟨rfl, rfl⟩ | ⟨b, c, rest, rfl, h2, h3, h4, h5⟩
 .exact fun h => h
 .exact At.at b 0 n c M (hM b h2 h3.lt)
theorem aDH {w : aJ2} {a : Option Addr} {n c : Nat} {l : List aJ3} (h : Sl w (.slice a n c) l) {k : Nat} (hk : k <= n) : Sl w (.slice a k c) (l.take k) := by
 obtain ⟨a', n', c', e, hn, hc, hh⟩ := h
 cases e
 refine ⟨a, k, c, rfl, by rw [aHZ]; omega, by omega, fun h0 => ?_⟩
 obtain ⟨b, off, ha, hcell⟩ := hh (by omega)
 refine ⟨b, off, ha, fun i hi => ?_⟩
 rw [hcell i (by omega), aIl (by omega)]
theorem slA {w : aJ2} {a : Option Addr} {n c : Nat} {l : List aJ3} (h : Sl w (.slice a n c) l) (h0 : 0 < n) : ∃ b off, a = some ⟨b, off, none⟩ /\ ∀ i, i < n -> w.cell? ⟨b, off + i, none⟩ = l[i]? := by
 obtain ⟨a', n', c', e, hn, hc, hh⟩ := h
 cases e
 exact hh h0
end Go.Proofs.YtaggdjhhmbnhoaaDoor
namespace Go.Pu
open Go Go.En
def O9 (c : UInt8) : List Bool := (List.range 8).map c.toNat.testBit
def bE : List UInt8 -> List Bool
 | [] => []
 | c :: l => O9 c ++ bE l
def tD : List Bool -> Nat
 | [] => 0
 | b :: l => b.toNat + 2 * tD l
theorem uY (c : UInt8) : (O9 c).length = 8 := by simp [O9]
theorem lV : ∀ l : List UInt8, (bE l).length = 8 * l.length
 | [] => rfl
 | c :: l => by rw [bE, aHR, uY, lV l, aH5]; omega
theorem IX : ∀ a b : List UInt8, bE (a ++ b) = bE a ++ bE b
 | [], b => rfl
 | c :: a, b => by rw [aIP, bE, bE, IX a b, aHV]
theorem aBT (c : UInt8) {k : Nat} (h : k < 8) : (O9 c)[k]? = some (c.toNat.testBit k) := by
 unfold O9
 rw [aH9, List.getElem?_range h] <;> rfl
theorem Jj : ∀ (l : List UInt8) (i : Nat) (h : i < 8 * l.length), (bE l)[i]? = some ((l[i / 8]'(by omega)).toNat.testBit (i % 8))
 | [], i, h => by simp at h
 | c :: l, i, h => by
   rw [bE]
   rcases aH6 i 8 with h8 | h8
   .rw [aHW (by rw [uY]; exact h8), aBT c h8]
    have e : i / 8 = 0 := by omega
    have e2 : i % 8 = i := by omega
    simp [e, e2]
   .rw [aIn (by rw [uY]; exact h8), uY, Jj l (i - 8) (by simp at h; omega)]
    have e : i / 8 = (i - 8) / 8 + 1 := by omega
    have e2 : (i - 8) % 8 = i % 8 := by omega
    simp [e, e2]
theorem ZN : ∀ l : List Bool, tD l < 2 ^ l.length
 | [] => by simp [tD]
 | b :: l => by
   have := ZN l
   rw [tD, aH5, aH8]
   have : b.toNat <= 1 := Bool.toNat_le b
   omega
theorem aiF : ∀ a b : List Bool, tD (a ++ b) = tD a + 2 ^ a.length * tD b
 | [], b => by simp [tD]
 | x :: a, b => by
   rw [aIP, tD, tD, aiF a b, aH5, aH8, Nat.mul_add, <- Nat.mul_assoc, <- aI5, aIO 2 (2 ^ a.length)]
theorem aBP (a : List Bool) (x : Bool) : tD (a ++ [x]) = tD a + 2 ^ a.length * x.toNat := by
 rw [aiF]; simp [tD]
def gD (x : Nat) (n : Nat) : List Bool := (List.range n).map x.testBit
theorem dH (x n : Nat) : (gD x n).length = n := by simp [gD]
theorem EA (x : Nat) : gD x 0 = [] := rfl
theorem JU (x n : Nat) : gD x (n + 1) = gD x n ++ [x.testBit n] := by
 unfold gD; rw [aJH, aIo] <;> rfl
theorem aAj (x n : Nat) : gD x (n + 1) = x.testBit 0 :: gD (x / 2) n := by
 unfold gD
 rw [List.range_succ_eq_map, aJh, List.map_map]
 congr 1
 apply aI8
 intro k _
 simp [Nat.testBit_succ]
theorem anA : ∀ (n x : Nat), tD (gD x n) = x % 2 ^ n
 | 0, x => by simp [gD, tD, Nat.mod_one]
 | n + 1, x => by
   rw [aAj, tD, anA n (x / 2), aH8, aIO (2 ^ n) 2, Nat.mod_mul]
   congr 1
   rw [Nat.testBit_zero]
   have : x % 2 = 0 ∨ x % 2 = 1 := by omega
   rcases this with h | h <;> simp [h]
theorem azP {x i : Nat} (h : x < 2 ^ i) (b : Nat) : x ||| (b * 2 ^ i) = x + 2 ^ i * b := by
 rw [Nat.or_comm, aIO b, <- Nat.two_pow_add_eq_or_of_lt h b, Nat.add_comm]
theorem aBn {a b : Nat} (ha : a < 2 ^ 64) (hb : b < 2 ^ 64) : orI .u64 (a : Int) (b : Int) = ((a ||| b : Nat) : Int) := by
 have h := Nat.or_lt_two_pow ha hb
 unfold orI
 have e : IntKind.u64.bits = 64 := rfl
 rw [e, BitVec.ofInt_natCast, BitVec.ofInt_natCast, BitVec.toNat_or, BitVec.toNat_ofNat, BitVec.toNat_ofNat, aIg ha, aIg hb]
 exact hP (by omega) (by have : ((a ||| b : Nat) : Int) < ((2 ^ 64 : Nat) : Int) := by exact_mod_cast h
                         omega)
theorem awM {a b : Nat} (ha : a < 2 ^ 8) (hb : b < 2 ^ 8) : orI .u8 (a : Int) (b : Int) = ((a ||| b : Nat) : Int) := by
 have h := Nat.or_lt_two_pow ha hb
 unfold orI
 have e : IntKind.u8.bits = 8 := rfl
 rw [e, BitVec.ofInt_natCast, BitVec.ofInt_natCast, BitVec.toNat_or, BitVec.toNat_ofNat, BitVec.toNat_ofNat, aIg ha, aIg hb]
 exact QN (by omega) (by have : ((a ||| b : Nat) : Int) < ((2 ^ 8 : Nat) : Int) := by exact_mod_cast h
                         omega)
theorem aE0 {a : Nat} (h : a < 2 ^ 8) : aoM .u8 (a : Int) 1 = ((a % 2 : Nat) : Int) := by
 have : ∀ k : Fin 256, aoM .u8 (k.val : Int) 1 = ((k.val % 2 : Nat) : Int) := by decide +kernel
 exact this ⟨a, h⟩
theorem awK {a : Nat} (h : a < 2 ^ 64) : aoM .u64 (a : Int) 1 = ((a % 2 : Nat) : Int) := by
 unfold aoM
 have e : IntKind.u64.bits = 64 := rfl
 rw [e, BitVec.ofInt_natCast, show (BitVec.ofInt 64 1) = BitVec.ofNat 64 1 from rfl, BitVec.toNat_and, BitVec.toNat_ofNat, BitVec.toNat_ofNat, aIg h, show 1 % 2 ^ 64 = 1 from rfl, Nat.and_one_is_mod]
 exact hP (by omega) (by omega)
theorem agY (x k : Nat) : (x.testBit k).toNat = x / 2 ^ k % 2 := by
 rw [aIY]
 have : x / 2 ^ k % 2 = 0 ∨ x / 2 ^ k % 2 = 1 := by omega
 rcases this with h | h <;> simp [h]
def tB (L : List Bool) (n : Nat) : Nat := tD (L.drop (L.length - min n L.length)) * 2 ^ (n - min n L.length)
theorem CP (L : List Bool) (n : Nat) : tB L n < 2 ^ n := by
 unfold tB
 have h := ZN (L.drop (L.length - min n L.length))
 rw [aIb, show L.length - (L.length - min n L.length) = min n L.length from by omega] at h
 calc _ < 2 ^ min n L.length * 2 ^ (n - min n L.length) := Nat.mul_lt_mul_of_pos_right h (aIj _)
  _ = 2 ^ n := by rw [<- aJy]; congr 1; omega
theorem aqL {L : List Bool} {at' i : Nat} {b : Bool} (h : L[at' + i]? = some b) : (L.drop at').take (i + 1) = (L.drop at').take i ++ [b] := by
 rw [aIr, aIV, h] <;> rfl
def YK (l : List UInt8) : Option Nat := match l.getLast? with
 | none => none
 | some c => if c.toNat = 0 then none else some (8 * (l.length - 1) + bl c.toNat - 1)
theorem Jm {l : List UInt8} (h : 0 < l.length) : YK l = if (l[l.length - 1]'(by omega)).toNat = 0 then none else some (8 * (l.length - 1) + bl (l[l.length - 1]'(by omega)).toNat - 1) := by
 unfold YK
 rw [aJq, aHQ (by omega)]
theorem Pp {l : List UInt8} {k : Nat} (h : YK l = some k) : 0 < l.length /\ k < 8 * l.length /\ 8 * (l.length - 1) <= k /\ (bE l)[k]? = some true /\ ∀ j, k < j -> j < 8 * l.length -> (bE l)[j]? = some false := by
 have h0 : 0 < l.length := by
  cases l with
  | nil => simp [YK] at h
  | cons x l => simp
 rw [Jm h0] at h
 generalize hc : l[l.length - 1]'(by omega) = c at h
 split at h
 .cases h
 .rename_i hne
  have hk := aH2 h
  have h1 := Hx hne
  have h2 : bl c.toNat <= 8 := rE (by have : c.toNat < 256 := aIc c
                                      omega)
  have h3 := Tx hne
  have h4 := V0 c.toNat
  refine ⟨h0, by omega, by omega, ?_, ?_⟩
  .rw [Jj l k (by omega)]
   have e : k / 8 = l.length - 1 := by omega
   have e2 : k % 8 = bl c.toNat - 1 := by omega
   simp only [e, hc, e2]
   rw [aIY]
   obtain ⟨m, hm⟩ : ∃ m, bl c.toNat = m + 1 := ⟨bl c.toNat - 1, by omega⟩
   rw [hm, aID] at h3 ⊢
   rw [hm, aH8] at h4
   have : c.toNat / 2 ^ m = 1 := by
    have hp := aIj m
    have := (aJC hp).2 (show 1 * 2 ^ m <= c.toNat by omega)
    have := (aJc hp).2 (show c.toNat < 2 * 2 ^ m by omega)
    omega
   simp [this]
  .intro j h5 h6
   rw [Jj l j h6]
   have e : j / 8 = l.length - 1 := by omega
   simp only [e, hc]
   rw [Nat.testBit_lt_two_pow]
   exact Nat.lt_of_lt_of_le h4 (aHT (by omega) (by omega))
end Go.Pu
namespace Go.Proofs.YtaggdjhhmbnhoaaDoor
open Go Go.En Go.Pu
set_option maxRecDepth 4000
theorem aDP {l : List UInt8} {v : aJ3} {st n : Nat} {w : aJ2} (h : Bs w v l) (hn : n <= 64) (hat : st + n <= 8 * l.length) (hl : l.length <= 1000000000) :
 aR pg Gg #[v, .int .i64 st, .int .i64 n] w (fun r w' => r = .int .u64 (tD (((bE l).drop st).take n)) /\ w' = w) := by
 refine aoZ ?_
 unfold arT Rj Ru QC Qt Rh QK Rd
 refine cG.rule (fun m (t : aJ3 × aJ3) w' => ∃ i : Nat, m = n - i /\ t = (.int .u64 (tD (((bE l).drop st).take i) : Nat), .int .i64 i) /\ i <= n /\ w' = w) n ⟨0, rfl, by simp [tD], by omega, rfl⟩ ?_
 rintro m t w1 ⟨i, rfl, rfl, hi, rfl⟩
 unfold Jd
 by_cases hlt : i < n
 .have d1 : decide ((i : Int) < (n : Int)) = true := by simp; omega
  obtain ⟨b, off, c, rfl, hc, hcell⟩ := h.openV (by simp; omega)
  obtain ⟨q, hq⟩ : ∃ q, q = st + i := ⟨_, rfl⟩
  have e0 : (st : Int) + (i : Int) = (q : Int) := by omega
  have e1 : (q : Int).tdiv 8 = ((q / 8 : Nat) : Int) := by rw [aId (by omega)]; omega
  have e2 : (q : Int).tmod 8 = ((q % 8 : Nat) : Int) := by rw [aIa (by omega)]; omega
  have hq8 : q / 8 < l.length := by omega
  have hb : (bE l)[st + i]? = some ((l[q / 8]'hq8).toNat.testBit (q % 8)) := by subst hq; exact Jj l _ (by omega)
  have ht := aqL hb
  have g1 := hcell (q / 8) (by simpa using hq8)
  simp only [aIm, GI] at g1
  have hx : (l[q / 8]'hq8).toNat < 256 := aIc _
  generalize (l[q / 8]'hq8).toNat = x at *
  have e3 : (x : Int).fdiv (2 ^ (min (q % 8) IntKind.u8.bits)) = ((x / 2 ^ (q % 8) : Nat) : Int) := by
   rw [show min (q % 8) IntKind.u8.bits = q % 8 from aIA (by have : IntKind.u8.bits = 8 := rfl
                                                             omega), aJn _ (Int.pow_nonneg (by omega))]
   simp
  have hy : x / 2 ^ (q % 8) < 2 ^ 8 := by have := aJI x (2 ^ (q % 8)); omega
  have e4 := aE0 hy
  rw [<- agY] at e4
  have hbt : (x.testBit (q % 8)).toNat <= 1 := Bool.toNat_le _
  have hlen : (((bE l).drop st).take i).length = i := by rw [aHZ, aIb, lV]; omega
  have hnb := ZN (((bE l).drop st).take i)
  have hsn := aBP (((bE l).drop st).take i) (x.testBit (q % 8))
  rw [<- ht, hlen] at hsn
  rw [hlen] at hnb
  have hp : 2 ^ i < 2 ^ 64 := Nat.pow_lt_pow_right (by omega) (by omega)
  have hp2 : 2 ^ i <= 2 ^ 63 := aHT (by omega) (by omega)
  generalize (x.testBit (q % 8)).toNat = bt at *
  have hm : bt * 2 ^ i <= 2 ^ i := by
   have := aIp (2 ^ i) hbt
   omega
  have e5 : IntKind.u64.wrap ((bt : Int) * 2 ^ (min i IntKind.u64.bits)) = ((bt * 2 ^ i : Nat) : Int) := by
   rw [show min i IntKind.u64.bits = i from aIA (by have : IntKind.u64.bits = 64 := rfl
                                                    omega)]
   have e : (bt : Int) * 2 ^ i = ((bt * 2 ^ i : Nat) : Int) := by simp
   rw [e]
   exact hP (by omega) (by omega)
  have e6 := aBn (a := tD (((bE l).drop st).take i)) (b := bt * 2 ^ i) (by omega) (by omega)
  rw [azP hnb, <- hsn] at e6
  simp (disch := omega) only [aC, aX, d1, bM, e0, aT, aHU, lM, hP, aA, Ee, e1, CA, e2, oU, aHH, mU, g1, aI, xL, e3, R9, e4, wC, mN, e5, auM, e6, and_true, aF]
  exact ⟨n - (i + 1), by omega, i + 1, rfl, rfl, by omega⟩
 .have d1 : decide ((i : Int) < (n : Int)) = false := by simp; omega
  obtain rfl : i = n := by omega
  unfold IQ
  simp (disch := omega) only [aC, aX, d1, bM, aT, lM, hP, aA, Ee, CA, true_and, aE]
def Fwd (w : aJ2) (lo hi : Nat) (l : List UInt8) (st : Nat) : Prop := ∃ v, cJ w hi [v, .int .i64 st] /\ Bs w v l /\ AtI v lo hi
theorem Fwd.ext {w w' : aJ2} {lo hi st : Nat} {l : List UInt8} {M : Nat -> Prop} (h : Fwd w lo hi l st) (hx : aS w w' M) (hM : ∀ b, lo <= b -> b <= hi -> ¬ M b) (hlh : lo <= hi) : Fwd w' lo hi l st := by
 obtain ⟨v, h1, h2, h3⟩ := h
 exact ⟨v, h1.ext hx (hM _ hlh (aHS _)), h2.ext hx (h3 M fun b hb hh => hM b hb (by omega)), h3⟩
theorem atL {v : aJ3} {l : List UInt8} {w : aJ2} (h : Bs w v l) (hl : l.length <= 1000000000) :
 aR pg xG #[v] w (fun r w' => ∃ hi, r = .pointer (some ⟨hi, 0, none⟩) /\ w.heap.size <= hi /\ hi < w'.heap.size /\ Fwd w' w.heap.size hi l 0 /\ aS w w' cM) := by
 refine UB ?_
 unfold R1 B8
 refine (U6 h hl).mono ?_
 rintro r w1 ⟨o1, x1⟩
 have hat := rN.atI o1
 have hs := o1.sl
 obtain ⟨a, c, rfl⟩ := o1.len
 simp (disch := omega) only [aC, DR, aA]
 refine fV fun w2 o2 x2 s2 => ?_
 simp only [Value.cells] at o2
 exact ⟨_, rfl, x1.size, by omega, ⟨_, o2, hs.ext x2 (cB _), hat⟩, x1.seq x2⟩
theorem U4 {l : List UInt8} {lo hi st n : Nat} {w : aJ2} (h : Fwd w lo hi l st) (hlh : lo <= hi) (hn : n <= 32) (hst : st <= 8 * l.length) (hl : l.length <= 1000000) :
 aR pg lE #[.pointer (some ⟨hi, 0, none⟩), .int .i64 n] w (fun r w' =>
  (8 * l.length < st + n /\ r = .tuple #[.int .u64 0, .int .i64 10] /\ Fwd w' lo hi l st /\ aS w w' cM) ∨
  (st + n <= 8 * l.length /\ r = .tuple #[.int .u64 (tD (((bE l).drop st).take n)), .int .i64 0] /\ Fwd w' lo hi l (st + n) /\ aS w w' (fun y => y = hi))) := by
 refine Q0 ?_
 obtain ⟨v, o, hs, hat⟩ := h
 unfold Me yX
 have d1 : decide ((n : Int) < 0) = false := by simp
 have d2 : decide ((32 : Int) < (n : Int)) = false := by simp; omega
 have c0 := o.cell (off := 0)
 have c1 := o.cell (off := 1)
 simp only [aHJ, aHK] at c0 c1
 obtain ⟨a, n', c, hv, hn', hc, hh⟩ := id hs
 rw [aHU] at hn'
 subst hn'
 by_cases hsh : 8 * l.length < st + n
 .have d3 : decide (8 * (l.length : Int) - (st : Int) < (n : Int)) = true := by simp; omega
  subst hv
  have od := dN o
  have c0d := od.cell (off := 0)
  have c1d := od.cell (off := 1)
  simp only [aHJ, aHK] at c0d c1d
  simp (disch := omega) only [aC, pR, aH7, rM, true_and, aA, qX, aHI, cA, xO, gA, dB, bN, aHP, if_false, bP, aX, d1, dM, d2, c0d, aI, c1d, gB, pS, aT, eA, d3, aF, aE]
  exact .inl ⟨hsh, ⟨_, dN o, hs.ext (aS.dr _ cM) (cB _), hat⟩, aS.dr _ _⟩
 .have d3 : decide (8 * (l.length : Int) - (st : Int) < (n : Int)) = false := by simp; omega
  subst hv
  have c0e := (dN o).cell (off := 0)
  have c1e := (dN o).cell (off := 1)
  have od := dN (dN o)
  have c0d := od.cell (off := 0)
  have c1d := od.cell (off := 1)
  simp only [aHJ, aHK] at c0d c1d c0e c1e
  simp (disch := omega) only [aC, pR, aH7, rM, true_and, aA, qX, aHI, cA, xO, gA, dB, bN, aHP, if_false, bP, aX, d1, dM, d2, c0e, aI, c1e, c0d, c1d, gB, pS, aT, eA, d3, aE]
  refine (aDP (l := l) (st := st) (n := n) ((hs.ext (aS.dr _ cM) (cB _)).ext (aS.dr _ cM) (cB _)) (by omega) (by omega) (by omega)).mono ?_
  rintro r w1 ⟨rfl, rfl⟩
  simp (disch := omega) only [c1d, aI, true_and, aA, bM, aT]
  refine tA od rfl (by simp) fun w2 o2 x2 s2 => ?_
  simp only [aHL, aHN] at o2
  have e1 : (st : Int) + (n : Int) = ((st + n : Nat) : Int) := by omega
  rw [e1] at o2
  have x02 : aS w w2 (fun y => y = hi) := ((aS.dr _ _).seq (aS.dr _ _)).seq x2
  exact .inr ⟨by omega, ⟨_, o2, hs.ext x02 (hat _ fun b hb hh => by omega), hat⟩, x02⟩
theorem aB2 {l : List UInt8} {lo hi st : Nat} {w : aJ2} (h : Fwd w lo hi l st) (hst : st <= 1000000000) :
 aR pg tI #[.pointer (some ⟨hi, 0, none⟩)] w (fun r w' => r = .int .i64 (((st + 7) / 8 : Nat)) /\ w' = w) := by
 refine QE ?_
 obtain ⟨v, o, hs, hat⟩ := h
 have c1 := o.cell (off := 1)
 simp only [aHJ, aHK] at c1
 have e1 : ((st : Int) + 7).tdiv 8 = (((st + 7) / 8 : Nat) : Int) := by rw [aId (by omega)]; omega
 unfold Ml zB
 simp (disch := omega) only [aC, pR, aH7, rM, aA, qX, aHI, cA, and_true, c1, aI, bM, aT, Ee, e1, aE]
theorem alY (p : Int) (w : aJ2) : aR pg qM #[.int .i64 p] w (fun r w' => r = .int .i64 (cW p) /\ w' = w) := by
 refine Y2 ?_
 unfold cW
 by_cases h : p < 0
 .have d : decide (p < 0) = true := by simpa using h
  simp (disch := omega) only [Q7, A2, aC, aX, d, aA, and_true, aF]
  rw [if_pos h]
 .have d : decide (p < 0) = false := by simpa using h
  simp (disch := omega) only [Q7, A2, aC, aX, d, aA, and_true, aE]
  rw [if_neg h]
theorem Rn {ps : List Int} (h : 0 < ps.length) : (ps.getLast? = some 0) ↔ ps[ps.length - 1]'(by omega) = 0 := by
 rw [aJq, aHQ (by omega)]
 simp
theorem aFr {log : Int} {sv : aJ3} {ps : List Int} {w : aJ2} (hs : Sl w sv (ps.map (Value.int .i64))) (hl : ps.length <= 9223372036854775807) :
 aR pg CG #[.agg #[.int .i64 log, sv]] w (fun r w' => r = .bool (Uz log ps) /\ aS w w' cM) := by
 refine akQ ?_
 unfold apH MO OE
 obtain ⟨a, c, rfl, hc⟩ := hs.lenI
 refine fV fun w1 o1 x1 s1 => ?_
 have hs0 := hs
 have hs := hs.ext x1 (cB _)
 have c0 := o1.cell (off := 0)
 have c1 := o1.cell (off := 1)
 simp only [Value.cells, aHJ, aHK] at c0 c1
 have no : ¬ (5 <= log /\ log <= 15 /\ 1 <= ps.length /\ ps.length <= 256 /\ ps.getLast? ≠ some 0) -> Uz log ps = false := fun h => by
  unfold Uz arC; rw [decide_eq_false h] <;> rfl
 by_cases h1 : log < 5
 .have d1 : decide (log < 5) = true := by simpa using h1
  simp (disch := omega) only [aC, dK, aA, bK, aHI, cA, c0, aI, aX, d1, jE, bN, if_true, aF, dV]
  exact ⟨by rw [no (by omega)], x1⟩
 have d1 : decide (log < 5) = false := by simpa using h1
 by_cases h2 : 15 < log
 .have d2 : decide (15 < log) = true := by simpa using h2
  simp (disch := omega) only [aC, dK, aA, bK, aHI, cA, c0, aI, aX, d1, dB, bN, aHP, if_false, bP, dM, d2, jE, if_true, aF, dV]
  exact ⟨by rw [no (by omega)], x1⟩
 have d2 : decide (15 < log) = false := by simpa using h2
 by_cases h3 : ps.length < 1
 .have d3 : decide ((ps.length : Int) < 1) = true := by simp; omega
  simp (disch := omega) only [aC, dK, aA, bK, aHI, cA, c0, aI, aX, d1, dB, bN, aHP, if_false, bP, dM, d2, cL, c1, eB, d3, jE, if_true, aF, dV]
  exact ⟨by rw [no (by omega)], x1⟩
 have d3 : decide ((ps.length : Int) < 1) = false := by simp; omega
 by_cases h4 : 256 < ps.length
 .have d4 : decide ((256 : Int) < (ps.length : Int)) = true := by simp; omega
  simp (disch := omega) only [aC, dK, aA, bK, aHI, cA, c0, aI, aX, d1, dB, bN, aHP, if_false, bP, dM, d2, cL, c1, eB, d3, d4, jE, if_true, aF, dV]
  exact ⟨by rw [no (by omega)], x1⟩
 have d4 : decide ((256 : Int) < (ps.length : Int)) = false := by simp; omega
 obtain ⟨b, off, c', e, hc', hcell⟩ := hs.openI (by omega)
 cases e
 have e1 : ((ps.length : Int) - 1) = ((ps.length - 1 : Nat) : Int) := by omega
 have g1 := hcell (ps.length - 1) (by omega)
 by_cases h5 : ps[ps.length - 1]'(by omega) = 0
 .have d5 : (ps[ps.length - 1]'(by omega) == 0) = true := by simpa using h5
  simp (disch := omega) only [aC, dK, aA, bK, aHI, cA, c0, aI, aX, d1, dB, bN, aHP, if_false, bP, dM, d2, cL, c1, eB, d3, d4, eA, e1, aT, dJ, aHH, g1, cR, d5, mN, aF]
  exact ⟨by rw [no (fun h => h.2.2.2.2 ((Rn (by omega)).2 h5))], x1⟩
 have d5 : (ps[ps.length - 1]'(by omega) == 0) = false := by simpa using h5
 obtain ⟨l, rfl⟩ : ∃ l : Nat, log = l := ⟨log.toNat, by omega⟩
 have hsh : IntKind.i64.wrap (1 * 2 ^ (min l IntKind.i64.bits)) = (2 : Int) ^ l := by
  have : ∀ k : Fin 16, IntKind.i64.wrap (1 * 2 ^ (min k.val IntKind.i64.bits)) = (2 : Int) ^ k.val := by decide
  exact this ⟨l, by omega⟩
 have hyes : Uz (l : Int) ps = fits (2 ^ l) ps := by
  unfold Uz arC
  rw [decide_eq_true ⟨by omega, by omega, by omega, by omega, fun h => h5 ((Rn (by omega)).1 h)⟩, aHH] <;> rfl
 simp (disch := omega) only [aC, dK, aA, bK, aHI, cA, c0, aI, aX, d1, dB, bN, aHP, if_false, bP, dM, d2, cL, c1, eB, d3, d4, eA, e1, aT, dJ, aHH, g1, cR, d5, mN, hsh, aE]
 unfold NZ Nr NC NB M1
 simp (disch := omega) only [aC, bK, aHI, aA, cL, c1, aI, eB]
 have hp15 := avJ (log := l) (by omega)
 have hp1 := awL l
 refine cG.rule (fun m t w' => ∃ (i : Nat) (left : Int), m = ps.length - i /\ t = (.int .i64 left, .int .i64 i) /\ i <= ps.length /\ 0 <= left /\ left <= 32768 /\ fits (2 ^ l) ps = fits left (ps.drop i) /\ aS w w' cM) ps.length
  ⟨0, 2 ^ l, rfl, rfl, by omega, by omega, hp15, rfl, x1⟩ ?_
 rintro m t w2 ⟨i, left, rfl, rfl, hi, hl0, hl1, hf, x2⟩
 by_cases hlt : i < ps.length
 .have d6 : decide ((i : Int) < (ps.length : Int)) = true := by simp; omega
  have hsw := hs0.ext x2 (cB _)
  obtain ⟨b', off', c', e, _, hcell2⟩ := hsw.openI (by omega)
  cases e
  have g2 := hcell2 i hlt
  have hd : ps.drop i = ps[i] :: ps.drop (i + 1) := aIh hlt
  rw [hd, fits] at hf
  by_cases h6 : ps[i] < -1
  .have d7 : decide (ps[i] < -1) = true := by simpa using h6
   simp (disch := omega) only [wR, aC, aX, d6, dJ, aHH, bM, aT, aA, cA, g2, aI, d7, jE, bN, if_true, aF, dV]
   rw [if_pos (.inl h6)] at hf
   exact ⟨by rw [hyes, hf], x2⟩
  have d7 : decide (ps[i] < -1) = false := by simpa using h6
  simp (disch := omega) only [wR, aC, aX, d6, dJ, aHH, bM, aT, aA, cA, g2, aI, d7, dB, bN, aHP, if_false, bP, aF]
  refine (alY _ _).mono ?_
  rintro r w3 ⟨rfl, rfl⟩
  by_cases h7 : left < cW ps[i]
  .have d8 : decide (left < cW ps[i]) = true := by simpa using h7
   simp (disch := omega) only [dM, d8, aA, aF]
   rw [if_pos (.inr h7)] at hf
   exact ⟨by rw [hyes, hf], x2⟩
  have d8 : decide (left < cW ps[i]) = false := by simpa using h7
  simp (disch := omega) only [dM, d8, aA, aE]
  refine (alY _ _).mono ?_
  rintro r w3 ⟨rfl, rfl⟩
  rw [if_neg (by omega)] at hf
  have hpn := lT (p := ps[i]) (by omega)
  simp (disch := omega) only [eA, aT, aA]
  exact ⟨ps.length - (i + 1), by omega, i + 1, left - cW ps[i], rfl, rfl, by omega, by omega, by omega, hf, x2⟩
 .have d6 : decide ((i : Int) < (ps.length : Int)) = false := by simp; omega
  rw [aIQ (by omega), fits] at hf
  unfold wR FK
  simp (disch := omega) only [aC, aX, d6, bM, aT, aA, cR, aE]
  exact ⟨by rw [hyes, hf], x2⟩
theorem aCH {ps : List Int} {i : Nat} (hi : i < ps.length) : rR (ps.take (i + 1)) = rR (ps.take i) + cW ps[i] := by
 rw [aIr, aHQ hi, Gt]; simp [rR]
theorem aCS {log : Int} {sv : aJ3} {ps : List Int} {w : aJ2} (hs : Sl w sv (ps.map (Value.int .i64))) (hl : ps.length <= 9223372036854775807) :
 aR pg Mj #[.agg #[.int .i64 log, sv]] w (fun r w' => r = .bool (Uz log ps) /\ aS w w' cM) := by
 refine amL ?_
 unfold asL MK MU
 obtain ⟨a, c, rfl, hc⟩ := hs.lenI
 refine fV fun w1 o1 x1 s1 => ?_
 have hs0 := hs.ext x1 (cB _)
 have c0 := o1.cell (off := 0)
 have c1 := o1.cell (off := 1)
 simp only [Value.cells, aHJ, aHK] at c0 c1
 have no : ¬ (5 <= log /\ log <= 15 /\ 1 <= ps.length /\ ps.length <= 256 /\ ps.getLast? ≠ some 0) -> Uz log ps = false := fun h => by
  unfold Uz arC; rw [decide_eq_false h] <;> rfl
 by_cases h1 : log < 5
 .have d1 : decide (log < 5) = true := by simpa using h1
  simp (disch := omega) only [aC, cQ, aA, aY, aHI, cA, c0, aI, aX, d1, jE, bN, if_true, aF, dV]
  exact ⟨by rw [no (by omega)], x1⟩
 have d1 : decide (log < 5) = false := by simpa using h1
 by_cases h2 : 15 < log
 .have d2 : decide (15 < log) = true := by simpa using h2
  simp (disch := omega) only [aC, cQ, aA, aY, aHI, cA, c0, aI, aX, d1, dB, bN, aHP, if_false, bP, dM, d2, jE, if_true, aF, dV]
  exact ⟨by rw [no (by omega)], x1⟩
 have d2 : decide (15 < log) = false := by simpa using h2
 by_cases h3 : ps.length < 1
 .have d3 : ((ps.length : Int) == 0) = true := by rw [beq_iff_eq]; omega
  simp (disch := omega) only [aC, cQ, aA, aY, aHI, cA, c0, aI, aX, d1, dB, bN, aHP, if_false, bP, dM, d2, cL, c1, eB, cR, d3, jE, if_true, aF, dV]
  exact ⟨by rw [no (by omega)], x1⟩
 have d3 : ((ps.length : Int) == 0) = false := by rw [beq_eq_false_iff_ne]; omega
 by_cases h4 : 256 < ps.length
 .have d4 : decide ((256 : Int) < (ps.length : Int)) = true := by simp; omega
  simp (disch := omega) only [aC, cQ, aA, aY, aHI, cA, c0, aI, aX, d1, dB, bN, aHP, if_false, bP, dM, d2, cL, c1, eB, cR, d3, d4, jE, if_true, aF, dV]
  exact ⟨by rw [no (by omega)], x1⟩
 have d4 : decide ((256 : Int) < (ps.length : Int)) = false := by simp; omega
 obtain ⟨b, off, c', e, hc', hcell⟩ := hs0.openI (by omega)
 cases e
 have e1 : ((ps.length : Int) - 1) = ((ps.length - 1 : Nat) : Int) := by omega
 have g1 := hcell (ps.length - 1) (by omega)
 by_cases h5 : ps[ps.length - 1]'(by omega) = 0
 .have d5 : (ps[ps.length - 1]'(by omega) == 0) = true := by simpa using h5
  simp (disch := omega) only [aC, cQ, aA, aY, aHI, cA, c0, aI, aX, d1, dB, bN, aHP, if_false, bP, dM, d2, cL, c1, eB, cR, d3, d4, eA, e1, aT, dJ, aHH, g1, d5, aF]
  exact ⟨by rw [no (fun h => h.2.2.2.2 ((Rn (by omega)).2 h5))], x1⟩
 have d5 : (ps[ps.length - 1]'(by omega) == 0) = false := by simpa using h5
 obtain ⟨l, rfl⟩ : ∃ l : Nat, log = l := ⟨log.toNat, by omega⟩
 have hyes : Uz (l : Int) ps = fits (2 ^ l) ps := by
  unfold Uz arC
  rw [decide_eq_true ⟨by omega, by omega, by omega, by omega, fun h => h5 ((Rn (by omega)).1 h)⟩, aHH] <;> rfl
 simp (disch := omega) only [aC, cQ, aA, aY, aHI, cA, c0, aI, aX, d1, dB, bN, aHP, if_false, bP, dM, d2, cL, c1, eB, cR, d3, d4, eA, e1, aT, dJ, aHH, g1, d5, aE]
 unfold OM M8 Ov NJ Nz
 have hp15 := avJ (log := l) (by omega)
 refine cG.rule (fun m t w' => ∃ (i : Nat), m = ps.length - i /\ t = (.int .i64 (rR (ps.take i)), .int .i64 i) /\ i <= ps.length /\ 0 <= rR (ps.take i) /\ rR (ps.take i) <= 32768 * i /\ (∀ p ∈ ps.take i, -1 <= p) /\ aS w w' cM /\ aS w1 w' cM) ps.length
  ⟨0, rfl, by simp [rR], by omega, by simp [rR], by simp [rR], by simp, x1, aS.refl _ _⟩ ?_
 rintro m t w2 ⟨i, rfl, rfl, hi, hs0', hs1, hlo, x2, x12⟩
 have o2 := o1.ext x12 (fun h => h)
 have c0 := o2.cell (off := 0)
 have c1 := o2.cell (off := 1)
 simp only [Value.cells, aHJ, aHK] at c0 c1
 by_cases hlt : i < ps.length
 .have d6 : decide ((i : Int) < (ps.length : Int)) = true := by simp; omega
  obtain ⟨b', off', c', e, _, hcell2⟩ := (hs.ext x2 (cB _)).openI (by omega)
  cases e
  have g2 := hcell2 i hlt
  have bad : ¬ (-1 <= ps[i] /\ ps[i] <= 32768) -> Uz (l : Int) ps = false := fun h => by
   rw [hyes, <- Bool.not_eq_true, abD]
   rintro ⟨k1, k2⟩
   have := alT k1 (aH1 hlt)
   have := k1 _ (aH1 hlt)
   unfold cW at *
   split at * <;> omega
  by_cases h6 : ps[i] < -1
  .have d7 : decide (ps[i] < -1) = true := by simpa using h6
   unfold vV zO CU CZ Jc DW
   simp (disch := omega) only [aC, aY, aHI, aA, cL, c1, aI, eB, aX, d6, dJ, aHH, cA, g2, d7, jE, bN, if_true, aF, dV]
   exact ⟨by rw [bad (by omega)], x2⟩
  have d7 : decide (ps[i] < -1) = false := by simpa using h6
  by_cases h7 : 32768 < ps[i]
  .have d8 : decide (32768 < ps[i]) = true := by simpa using h7
   unfold vV zO CU CZ Jc DW
   simp (disch := omega) only [aC, aY, aHI, aA, cL, c1, aI, eB, aX, d6, dJ, aHH, cA, g2, d7, dB, bN, aHP, if_false, bP, dM, d8, aF]
   exact ⟨by rw [bad (by omega)], x2⟩
  have d8 : decide (32768 < ps[i]) = false := by simpa using h7
  have hts := aCH hlt
  have hlow : ∀ p ∈ ps.take (i + 1), -1 <= p := fun p hp => by
   rw [aIr, aHQ hlt] at hp
   rcases aI2.1 hp with hp | hp
   .exact hlo p hp
   .simp at hp; omega
  unfold vV zO CU CZ Jc DW
  by_cases h8 : ps[i] < 0
  .have d9 : decide (ps[i] < 0) = true := by simpa using h8
   have e : cW ps[i] = 1 := by unfold cW; rw [if_pos h8]
   simp (disch := omega) only [aC, aY, aHI, Dp, bM, aT, C7, aA, cL, c1, aI, eB, aX, d6, dJ, aHH, cA, g2, d7, d9, aF, dB, bN, aHP, if_false, bP, dM, d8, aE]
   exact ⟨ps.length - (i + 1), by omega, i + 1, rfl, by rw [hts, e] <;> rfl, by omega, by omega, by omega, hlow, x2, x12⟩
  .have d9 : decide (ps[i] < 0) = false := by simpa using h8
   have e : cW ps[i] = ps[i] := by unfold cW; rw [if_neg h8]
   simp (disch := omega) only [aC, aY, aHI, Dp, bM, aT, C7, aA, cL, c1, aI, eB, aX, d6, dJ, aHH, cA, g2, d7, d9, aE, dB, bN, aHP, if_false, bP, dM, d8, aF]
   exact ⟨ps.length - (i + 1), by omega, i + 1, rfl, by rw [hts, e] <;> rfl, by omega, by omega, by omega, hlow, x2, x12⟩
 .have d6 : decide ((i : Int) < (ps.length : Int)) = false := by simp; omega
  unfold vV zO IT
  simp (disch := omega) only [aC, aY, aHI, cQ, aA, cA, cL, c1, aI, eB, aX, d6, c0, aE]
  refine (U2 l (by omega) _).mono ?_
  rintro r w3 ⟨rfl, rfl⟩
  rw [aIe (by omega)] at hlo ⊢
  simp (disch := omega) only [cR, aA]
  refine ⟨?_, x2⟩
  rw [hyes]
  congr 1
  rw [Bool.eq_iff_iff, abD, beq_iff_eq]
  exact ⟨fun h => ⟨hlo, h⟩, fun h => h.2⟩
def awS (log : Int) (ps : List Int) (most : Int) : Int := if Uz log ps = false then 1 else if most < log then 12 else 0
theorem aA8 {log most : Int} {sv : aJ3} {ps : List Int} {w : aJ2} (hs : Sl w sv (ps.map (Value.int .i64))) (hl : ps.length <= 9223372036854775807) :
 aR pg Ds #[.agg #[.int .i64 log, sv], .int .i64 most] w (fun r w' => r = .int .i64 (awS log ps most) /\ aS w w' cM) := by
 refine Y0 ?_
 unfold YI HL
 refine fV fun w1 o1 x1 s1 => ?_
 have hs := hs.ext x1 (cB _)
 rw [show aH 145 = aH 145 from rfl]
 have l1 := gH o1 (off := 0) (by simp [Value.cells])
 simp only [Value.cells, aHM, aHG, aHO] at l1
 simp (disch := omega) only [aC, l1, dK, aA, cA]
 refine (aFr hs hl).mono ?_
 rintro r w2 ⟨rfl, x2⟩
 have o2 := o1.ext x2 (fun h => h)
 have c0 := o2.cell (off := 0)
 simp only [Value.cells, aHJ] at c0
 unfold awS
 cases hm : Uz log ps with
 | false =>
   simp (disch := omega) only [Gz, aI7, if_true, true_and, aA, aF]
   exact x1.seq x2
 | true =>
   by_cases h : most < log
   .have d : decide (most < log) = true := by simpa using h
    simp (disch := omega) only [Gz, aIt, aA, c0, aI, dM, d, aF, aE]
    exact ⟨by simp [h], x1.seq x2⟩
   .have d : decide (most < log) = false := by simpa using h
    simp (disch := omega) only [Gz, aIt, aA, c0, aI, dM, d, aE]
    exact ⟨by simp [h], x1.seq x2⟩
theorem aAn {log most : Int} {sv : aJ3} {ps : List Int} {w : aJ2} (hs : Sl w sv (ps.map (Value.int .i64))) (hl : ps.length <= 9223372036854775807) :
 aR pg F8 #[.agg #[.int .i64 log, sv], .int .i64 most] w (fun r w' => r = .int .i64 (awS log ps most) /\ aS w w' cM) := by
 refine afK ?_
 unfold ahQ Jw
 refine fV fun w1 o1 x1 s1 => ?_
 have hs := hs.ext x1 (cB _)
 have l1 := lO o1 (off := 0) (by simp [Value.cells])
 simp only [Value.cells, aHM, aHG, aHO] at l1
 simp (disch := omega) only [aC, l1, cQ, aA, cA]
 refine (aCS hs hl).mono ?_
 rintro r w2 ⟨rfl, x2⟩
 have o2 := o1.ext x2 (fun h => h)
 have c0 := o2.cell (off := 0)
 simp only [Value.cells, aHJ] at c0
 unfold awS
 cases hm : Uz log ps with
 | false =>
   simp (disch := omega) only [Gz, aI7, if_true, true_and, aA, aF]
   exact x1.seq x2
 | true =>
   by_cases h : most < log
   .have d : decide (most < log) = true := by simpa using h
    simp (disch := omega) only [Gz, aIt, aA, c0, aI, dM, d, aF, aE]
    exact ⟨by simp [h], x1.seq x2⟩
   .have d : decide (most < log) = false := by simpa using h
    simp (disch := omega) only [Gz, aIt, aA, c0, aI, dM, d, aE]
    exact ⟨by simp [h], x1.seq x2⟩
theorem AtI.sub {a : Option Addr} {n c m c' k sz lo hi : Nat} (h : AtI (.slice a n c) lo hi) (hm : m <= n) : AtI (.slice (iH a c k sz) m c') lo hi := by
 intro M hM hin
 cases m with
 | zero => unfold inB at hin; split at hin <;> simp_all
 | succ m =>
   obtain ⟨n', rfl⟩ : ∃ n', n = n' + 1 := ⟨n - 1, by omega⟩
   have h1 := h M hM
   cases a with
   | none => unfold iH at hin; split at hin <;> exact hin
   | some x =>
     unfold iH at hin
     have h2 : M x.block := by
      split at hin
      .exact hin
      .rw [aIu] at hin
       have e : (x.add (k * sz)).block = x.block := by unfold Addr.add; split <;> rfl
       have h3 : M (x.add (k * sz)).block := hin
       rwa [e] at h3
     exact h1 h2
abbrev Bl (w : aJ2) (v : aJ3) (L : List Bool) : Prop := Sl w v (L.map Value.bool)
theorem aCZ {w : aJ2} {v : aJ3} {L : List Bool} (h : Bl w v L) (h0 : 0 < L.length) : ∃ b off c, v = .slice (some ⟨b, off, none⟩) L.length c /\ L.length <= c /\ ∀ i, (h : i < L.length) -> w.cell? ⟨b, off + i, none⟩ = some (.bool L[i]) := by
 obtain ⟨b, off, c, rfl, hc, hcell⟩ := h.openV (by simpa using h0)
 refine ⟨b, off, c, by rw [aHU], by simpa using hc, fun i hi => ?_⟩
 have := hcell i (by simpa using hi)
 simpa using this
theorem Md {w : aJ2} {v : aJ3} {L : List Bool} (h : Bl w v L) : ∃ a c, v = .slice a L.length c /\ L.length <= c := by
 obtain ⟨a, n, c, rfl, hn, hc, _⟩ := h
 rw [aHU] at hn
 subst hn
 exact ⟨a, c, rfl, hc⟩
theorem aCK (c : UInt8) : O9 c = gD c.toNat 8 := rfl
theorem apW {x : ByteArray} {w : aJ2} (hl : x.size <= 1000000) :
 aR pg D2 #[.string x] w (fun r w' => rN w' w.heap.size 1 r (8 * x.size) ((bE (lL x)).map Value.bool) /\ aS w w' cM) := by
 refine alQ ?_
 have hll := kK x
 unfold apC JF KT JB KI LL Lc JO
 refine cG.rule (fun m (t : aJ3 × aJ3) w' => ∃ (i : Nat) (v : aJ3), m = x.size - i /\ t = (v, .int .i64 i) /\ i <= x.size /\ rN w' w.heap.size 1 v (8 * i) ((bE ((lL x).take i)).map Value.bool) /\ aS w w' (fun y => w.heap.size <= y)) x.size
  ⟨0, _, rfl, rfl, by omega, rN.nil _ _ _, aS.refl _ _⟩ ?_
 rintro m t w1 ⟨i, v, rfl, rfl, hi, o1, x1⟩
 unfold Dk LY
 by_cases hlt : i < x.size
 .have d1 : decide ((i : Int) < (x.size : Int)) = true := by simp; omega
  obtain ⟨c, hc⟩ : ∃ c, c = (lL x)[i]'(by omega) := ⟨_, rfl⟩
  have hg : (x[i]'hlt).toNat = c.toNat := by rw [hc, abN]
  have htk : bE ((lL x).take (i + 1)) = bE ((lL x).take i) ++ gD c.toNat 8 := by
   rw [aIr, aHQ (by omega), IX, <- hc, Option.toList, bE, bE, aIy, aCK]
  have hcl : c.toNat < 256 := aIc c
  generalize c.toNat = y at *
  unfold OJ M7 VT MQ
  simp (disch := omega) only [aC, rV, tQ, aHH, hg, aA, aX, d1, aF]
  unfold Ow NL
  refine cG.rule (fun m (t : aJ3 × aJ3 × aJ3) w' => ∃ (k : Nat) (v : aJ3), m = 8 - k /\ t = (v, .int .u8 (y / 2 ^ k : Nat), .int .i64 k) /\ k <= 8 /\ rN w' w.heap.size 1 v (8 * i + k) ((bE ((lL x).take i) ++ gD y k).map Value.bool) /\ aS w w' (fun y => w.heap.size <= y)) 8
   ⟨0, v, rfl, by simp, by omega, by simpa [EA] using o1, x1⟩ ?_
  rintro m t w2 ⟨k, v2, rfl, rfl, hk, o2, x2⟩
  unfold FE
  by_cases hk8 : k < 8
  .have d2 : decide ((k : Int) < 8) = true := by simp; omega
   obtain ⟨z, hz⟩ : ∃ z, z = y / 2 ^ k := ⟨_, rfl⟩
   have hz2 : y / 2 ^ (k + 1) = z / 2 := by rw [hz, aH8, aJz]
   have hzl : z < 256 := by have := aJI y (2 ^ k); omega
   have e1 : (z : Int).tmod 2 = ((z % 2 : Nat) : Int) := by rw [aIa (by omega)]; omega
   have e2 : (z : Int).tdiv 2 = ((z / 2 : Nat) : Int) := by rw [aId (by omega)]; omega
   have hbit : y.testBit k = decide (z % 2 = 1) := by rw [aIY, hz]
   have e3 : (((z % 2 : Nat) : Int) == 1) = y.testBit k := by
    rw [hbit]
    have : z % 2 = 0 ∨ z % 2 = 1 := by omega
    rcases this with h | h <;> simp [h]
   have hbs := JU y k
   generalize y.testBit k = bt at *
   rw [<- hz]
   simp (disch := omega) only [aC, aX, d2, CA, e1, Ee, e2, QN, bM, aT, aA, cR, e3, aF]
   refine azO (cells := #[.bool bt]) (by decide) (by decide) (by kernel_rfl) fun w3 o3 x3 s3 => ?_
   refine Xt (o2.ext x3 (fun _ _ h => h)) (o3.cl (off := 0) (l := [.bool bt]) (n := 1) rfl (fun i hi => by rw [aHI])) (by simp [one]) (aIM x2.size x3.size) (by omega) fun v4 w4 o4 x4 => ?_
   refine ⟨8 - (k + 1), by omega, k + 1, v4, rfl, ?_, by omega, ?_, ?_⟩
   .rw [hz2] <;> rfl
   .rw [hbs, <- aHV, aIo]
    exact o4
   .exact (x2.seq (x3.mono fun _ _ h => h.elim)).seq x4
  .have d2 : decide ((k : Int) < 8) = false := by simp; omega
   obtain rfl : k = 8 := by omega
   rw [<- htk] at o2
   unfold FH
   simp (disch := omega) only [aC, aX, d2, CA, Ee, bM, aT, aA, cR, aE]
   exact ⟨x.size - (i + 1), by omega, i + 1, _, rfl, rfl, by omega, o2, x2⟩
 .have d1 : decide ((i : Int) < (x.size : Int)) = false := by simp; omega
  obtain rfl : i = x.size := by omega
  rw [aIe (by omega)] at o1
  unfold FZ
  simp (disch := omega) only [aC, rV, aA, aX, d1, aE]
  exact ⟨o1, x1.mono fun b hb h => Nat.not_le_of_lt hb h⟩
theorem ahP {L : List Bool} {v : aJ3} {w : aJ2} (h : Bl w v L) (hl : L.length <= 60) :
 aR pg xX #[v] w (fun r w' => r = .int .u64 (tD L : Nat) /\ w' = w) := by
 refine Y7 ?_
 obtain ⟨a, c, hv, hc⟩ := Md h
 subst hv
 unfold Z6 ER Ex GK HA Hf
 simp (disch := omega) only [aC, qT, aA, eA, aT]
 unfold HD G1
 refine cG.rule (fun m (t : aJ3 × aJ3) w' => t = (.int .u64 (tD (L.drop m) : Nat), .int .i64 ((m : Int) - 1)) /\ m <= L.length /\ w' = w) L.length
  ⟨by rw [List.drop_length] <;> rfl, by omega, rfl⟩ ?_
 rintro m t w1 ⟨rfl, hm, rfl⟩
 unfold Bi H0
 cases m with
 | zero =>
   have d1 : decide ((0 : Int) <= ((0 : Nat) : Int) - 1) = false := rfl
   unfold Br
   simp (disch := omega) only [aC, pG, d1, pS, aA, bM, and_true, aE]
   simp
 | succ j =>
   have e0 : ((j + 1 : Nat) : Int) - 1 = (j : Int) := by omega
   have d1 : decide ((0 : Int) <= (j : Int)) = true := by simp
   obtain ⟨b, off, c', e, _, hcell⟩ := aCZ h (by omega)
   cases e
   have g := hcell j (by omega)
   have hd : L.drop j = L[j] :: L.drop (j + 1) := aIh (by omega)
   have hlt := ZN (L.drop j)
   rw [aIb] at hlt
   have hp : 2 ^ (L.length - j) <= 2 ^ 60 := aHT (by omega) (by omega)
   generalize L[j] = bt at *
   have hn : tD (L.drop j) = bt.toNat + 2 * tD (L.drop (j + 1)) := by rw [hd, tD]
   generalize tD (L.drop (j + 1)) = x at *
   cases bt with
   | true =>
     have hn : tD (L.drop j) = 1 + 2 * x := hn
     rw [e0]
     simp (disch := omega) only [aC, pG, d1, pS, hP, Fq, aHH, aA, UP, bM, g, aI, aF]
     unfold wL
     simp (disch := omega) only [aC, eA, aT, aA, and_true]
     exact ⟨j, by omega, by rw [hn]; simp; omega, by omega⟩
   | false =>
     have hn : tD (L.drop j) = 2 * x := by rw [hn]; simp
     rw [e0]
     simp (disch := omega) only [aC, pG, d1, pS, hP, Fq, aHH, aA, UP, bM, g, aI, aE, aF]
     unfold wL
     simp (disch := omega) only [aC, eA, aT, aA, and_true]
     exact ⟨j, by omega, by rw [hn]; simp; omega, by omega⟩
end Go.Proofs.YtaggdjhhmbnhoaaDoor
namespace Go.Pu
def rS : List UInt8 -> Nat
 | [] => 0
 | c :: l => c.toNat + 256 * rS l
theorem UT : ∀ l : List UInt8, rS l < 256 ^ l.length
 | [] => by simp [rS]
 | c :: l => by
   have := UT l
   have hc := c.toNat_lt
   rw [rS, aH5, aH8]; omega
theorem acI (c : UInt8) : ∀ l : List UInt8, rS (l ++ [c]) = rS l + 256 ^ l.length * c.toNat
 | [] => by simp [rS]
 | d :: l => by
   rw [aIP, rS, acI c l, rS, aH5, aH8, Nat.mul_add, aI5, aIO (256 ^ l.length) 256, Nat.mul_assoc]
theorem azC (i : Nat) : 256 ^ i = 2 ^ (8 * i) := by rw [Nat.pow_mul]
theorem aE2 (l : List UInt8) (c : UInt8) : rS l ||| (c.toNat * 2 ^ (8 * l.length)) = rS (l ++ [c]) := by
 have := UT l
 rw [azC] at this
 rw [azP this, acI, azC]
def PI (x : Nat) : Nat -> List UInt8
 | 0 => []
 | n + 1 => UInt8.ofNat (x % 256) :: PI (x / 256) n
theorem Cm : ∀ (n x : Nat), (PI x n).length = n
 | 0, _ => rfl
 | n + 1, x => by rw [PI, aH5, Cm n]
theorem asI : ∀ (n x : Nat), PI x (n + 1) = PI x n ++ [UInt8.ofNat (x / 256 ^ n % 256)]
 | 0, x => by simp [PI]
 | n + 1, x => by
   rw [PI, asI n (x / 256), PI, aIP, aJz, aH8, aIO (256 ^ n) 256]
def aEg (f : Nat) : List UInt8 -> Except Int (Nat × List UInt8)
 | [] => .error 10
 | x :: r => .ok ((f - 128) * 256 + x.toNat, r)
def aCR : List UInt8 -> Except Int (Nat × List UInt8)
 | x :: y :: r => .ok (x.toNat + 256 * y.toNat + 32512, r)
 | _ => .error 10
def SP : List UInt8 -> Except Int (Nat × List UInt8)
 | [] => .error 10
 | f :: r => if f.toNat < 128 then .ok (f.toNat, r) else if f.toNat < 255 then aEg f.toNat r else aCR r
def akB (n : Nat) : List UInt8 :=
 if n < 128 then [UInt8.ofNat n] else if n < 32512 then [UInt8.ofNat (n / 256 + 128), UInt8.ofNat (n % 256)] else UInt8.ofNat 255 :: PI (n - 32512) 2
theorem Qj {n : Nat} (h : n < 256) : (UInt8.ofNat n).toNat = n := by rw [UInt8.toNat_ofNat']; omega
theorem aBz {n : Nat} (h : n <= 98047) (r : List UInt8) : SP (akB n ++ r) = .ok (n, r) := by
 unfold akB
 split
 .show SP (UInt8.ofNat n :: r) = _
  rw [SP, Qj (by omega), if_pos (by omega)]
 .split
  .show SP (UInt8.ofNat (n / 256 + 128) :: UInt8.ofNat (n % 256) :: r) = _
   rw [SP, Qj (by omega), if_neg (by omega), if_pos (by omega)]
   show Except.ok ((n / 256 + 128 - 128) * 256 + (UInt8.ofNat (n % 256)).toNat, r) = _
   rw [Qj (by omega)]
   congr 2; omega
  .show SP (UInt8.ofNat 255 :: (PI (n - 32512) 2 ++ r)) = _
   rw [SP, Qj (by omega), if_neg (by omega), if_neg (by omega)]
   show Except.ok ((UInt8.ofNat ((n - 32512) % 256)).toNat + 256 * (UInt8.ofNat ((n - 32512) / 256 % 256)).toNat + 32512, r) = _
   rw [Qj (by omega), Qj (by omega)]
   congr 2; omega
end Go.Pu
namespace Go.Proofs.YtaggdjhhmbnhoaaDoor
open Go Go.En Go.Pu
set_option maxRecDepth 4000
def AtS (v : aJ3) (S : Nat -> Prop) : Prop := ∀ M : Nat -> Prop, (∀ b, S b -> ¬ M b) -> ¬ inB v M
theorem AtI.toS {v : aJ3} {lo hi : Nat} {S : Nat -> Prop} (h : AtI v lo hi) (hS : ∀ b, lo <= b -> b < hi -> S b) : AtS v S := fun M hM => h M fun b h1 h2 => hM b (hS b h1 h2)
theorem AtS.mono {v : aJ3} {S T : Nat -> Prop} (h : AtS v S) (hT : ∀ b, S b -> T b) : AtS v T := fun M hM => h M fun b hb => hM b (hT b hb)
theorem AtS.toI {v : aJ3} {S : Nat -> Prop} {lo hi : Nat} (h : AtS v S) (hS : ∀ b, S b -> lo <= b /\ b < hi) : AtI v lo hi := fun M hM => h M fun b hb => hM b (hS b hb).1 (hS b hb).2
theorem AtS.nil (S : Nat -> Prop) : AtS (.slice none 0 0) S := fun M _ h => h
theorem AtS.sub {a : Option Addr} {n c m c' k mx sz : Nat} {S : Nat -> Prop} (h : AtS (.slice a n c) S) (hm : m <= n) : AtS (.slice (iH a mx k sz) m c') S := by
 intro M hM hin
 cases m with
 | zero => unfold inB at hin; split at hin <;> simp_all
 | succ m =>
   obtain ⟨n', rfl⟩ : ∃ n', n = n' + 1 := ⟨n - 1, by omega⟩
   have h1 := h M hM
   cases a with
   | none => unfold iH at hin; split at hin <;> exact hin
   | some x =>
     unfold iH at hin
     have h2 : M x.block := by
      split at hin
      .exact hin
      .rw [aIu] at hin
       have e : (x.add (k * sz)).block = x.block := by unfold Addr.add; split <;> rfl
       have h3 : M (x.add (k * sz)).block := hin
       rwa [e] at h3
     exact h1 h2
theorem aGN {w : aJ2} {a : Option Addr} {n c : Nat} {l : List aJ3} (h : Sl w (.slice a n c) l) {k : Nat} (hk : k <= n) : Sl w (.slice (iH a k 0 1) (k - 0) (k - 0)) (l.take k) := by
 obtain ⟨a', n', c', e, hn, hc, h⟩ := h
 cases e
 refine ⟨_, _, _, rfl, by rw [aHZ]; omega, aHS _, fun h0 => ?_⟩
 obtain ⟨b, off, rfl, h2⟩ := h (by omega)
 have hs : iH (some ⟨b, off, none⟩) k 0 1 = some ⟨b, off + 0 * 1, none⟩ := by unfold iH; rw [if_neg (by omega)] <;> rfl
 refine ⟨b, off, by rw [hs]; simp, fun i hi => ?_⟩
 rw [aIl (by omega)]
 exact h2 i (by omega)
def Rdr (w : aJ2) (lo hi p : Nat) (l : List UInt8) (e : Int) : Prop := lo <= p /\ p < hi /\ ∃ v, cJ w p [v, .int .i64 e] /\ Bs w v l /\ AtS v (fun b => lo <= b /\ b < hi /\ b ≠ p)
theorem Rdr.ext {w w' : aJ2} {lo hi p : Nat} {l : List UInt8} {e : Int} {M : Nat -> Prop} (h : Rdr w lo hi p l e) (x : aS w w' M) (hM : ∀ b, lo <= b -> b < hi -> ¬ M b) : Rdr w' lo hi p l e := by
 obtain ⟨h0, h0', v, h1, h2, h3⟩ := h
 exact ⟨h0, h0', v, h1.ext x (hM _ h0 h0'), h2.ext x (h3 M fun b hb => hM b hb.1 hb.2.1), h3⟩
theorem Rdr.lt {w : aJ2} {lo hi p : Nat} {l : List UInt8} {e : Int} (h : Rdr w lo hi p l e) : p < w.heap.size := by
 obtain ⟨_, _, v, h1, _⟩ := h; exact h1.lt
theorem Rdr.up {w : aJ2} {lo hi hi' p : Nat} {l : List UInt8} {e : Int} (h : Rdr w lo hi p l e) (hh : hi <= hi') : Rdr w lo hi' p l e := by
 obtain ⟨h0, h0', v, h1, h2, h3⟩ := h
 exact ⟨h0, by omega, v, h1, h2, h3.mono fun b hb => ⟨hb.1, by omega, hb.2.2⟩⟩
theorem aiI {v : aJ3} {l : List UInt8} {w : aJ2} (h : Bs w v l) (hl : l.length <= 1000000000) :
 aR pg qZ #[v] w (fun r w' => ∃ p, r = .pointer (some ⟨p, 0, none⟩) /\ Rdr w' w.heap.size w'.heap.size p l 0 /\ aS w w' cM) := by
 refine S2 ?_
 unfold O6 An
 refine (U6 h hl).mono ?_
 rintro r w1 ⟨ho, x1⟩
 have hat := rN.atI ho
 have hs := ho.sl
 obtain ⟨va, vc, rfl⟩ := ho.len
 simp (disch := omega) only [aC, Cc, aA]
 refine fV fun w2 o2 x2 s2 => ?_
 have o2 : cJ w2 w1.heap.size [.slice va l.length vc, .int .i64 0] := o2
 have hz := o2.lt
 exact ⟨w1.heap.size, rfl, ⟨x1.size, hz, _, o2, hs.ext x2 (cB _), hat.toS fun b h1 h2 => ⟨h1, by omega, by omega⟩⟩, x1.seq x2⟩
def Jl (l : List UInt8) (e : Int) (n : Nat) : List UInt8 × List UInt8 × Int := if e ≠ 0 then ([], l, e) else if l.length < n then ([], l, 10) else (l.take n, l.drop n, 0)
theorem axO {lo hi p n : Nat} {l : List UInt8} {e : Int} {w : aJ2} (h : Rdr w lo hi p l e) (hl : l.length <= 1000000000) (hn : n <= 1000000000) :
 aR pg oI #[.pointer (some ⟨p, 0, none⟩), .int .i64 n, .bool true] w (fun r w' => Bs w' r (Jl l e n).1 /\ AtS r (fun b => lo <= b /\ b < hi /\ b ≠ p) /\ Rdr w' lo hi p (Jl l e n).2.1 (Jl l e n).2.2 /\ aS w w' (fun y => y = p)) := by
 refine Pq ?_
 unfold Lt wX
 have h' := h
 obtain ⟨h0, h0', v, o, hb, hat⟩ := h'
 obtain ⟨va, vc, rfl, hvc⟩ := hb.len
 rw [aHU] at hb hat o hvc
 have c0 := o.cell (off := 0)
 have c1 := o.cell (off := 1)
 simp only [aHJ, aHK] at c0 c1
 by_cases he : e = 0
 rotate_left
 .have n1 : (e != 0) = true := by simpa using he
  have ht : Jl l e n = ([], l, e) := by unfold Jl; rw [if_pos he]
  rw [ht]
  simp (disch := omega) only [aC, rM, Gz, aIt, aA, nQ, aHI, nV, gA, aE, jL, c1, aI, eT, n1, aF]
  exact ⟨Sl.nil _, AtS.nil _, h, aS.refl _ _⟩
 subst he
 have n1 : ((0 : Int) != 0) = false := rfl
 by_cases hsh : l.length < n
 .have d1 : decide ((l.length : Int) < (n : Int)) = true := by simp; omega
  have ht : Jl l 0 n = ([], l, 10) := by unfold Jl; rw [if_neg (by decide), if_pos hsh]
  rw [ht]
  simp (disch := omega) only [aC, rM, Gz, aIt, aA, nQ, aHI, nV, gA, aE, jL, c1, aI, eT, n1, c0, gB, dM, d1, aF]
  refine Yy o rfl (by simp) fun w1 o1 x1 s1 => ?_
  simp only [aHL, aHN] at o1
  exact ⟨Sl.nil _, AtS.nil _, ⟨h0, h0', _, o1, hb.ext x1 (hat _ fun b hb => hb.2.2), hat⟩, x1⟩
 .have d1 : decide ((l.length : Int) < (n : Int)) = false := by simp; omega
  have ht : Jl l 0 n = (l.take n, l.drop n, 0) := by unfold Jl; rw [if_neg (by decide), if_neg hsh]
  rw [ht]
  simp (disch := omega) only [aC, rM, Gz, aIt, aA, nQ, aHI, nV, gA, aE, jL, c1, aI, eT, n1, c0, gB, dM, d1, Lf, aHH, qO]
  refine Gu o rfl (by simp [one]) fun w1 o1 x1 s1 => ?_
  simp only [aHL, aHN] at o1
  have hbn : Bs w (.slice (iH va n 0 1) (n - 0) (n - 0)) (l.take n) := by
   have := aGN hb (k := n) (by omega)
   rwa [<- aJu] at this
  have hbd : Bs w (.slice (iH va vc n 1) (l.length - n) (vc - n)) (l.drop n) := by
   have := hb.drop' (k := n) (by omega)
   rwa [<- aJW] at this
  have hn1 := hat.sub (mx := n) (k := 0) (sz := 1) (m := n - 0) (c' := n - 0) (by omega)
  have hn2 := hat.sub (mx := vc) (k := n) (sz := 1) (m := l.length - n) (c' := vc - n) (by omega)
  exact ⟨hbn.ext x1 (hn1 _ fun b hb => hb.2.2), hn1, ⟨h0, h0', _, o1, hbd.ext x1 (hn2 _ fun b hb => hb.2.2), hn2⟩, x1⟩
theorem aoS {lo hi p : Nat} {l : List UInt8} {e : Int} {w : aJ2} (h : Rdr w lo hi p l e) :
 aR pg mG #[.pointer (some ⟨p, 0, none⟩)] w (fun r w' => r = .int .i64 l.length /\ w' = w) := by
 refine Pv ?_
 unfold KH wT
 obtain ⟨h0, h0', v, o, hb, hat⟩ := h
 obtain ⟨va, vc, rfl, hvc⟩ := hb.len
 rw [aHU] at hb hat o hvc
 have c0 := o.cell (off := 0)
 simp only [aHJ, aHK] at c0
 simp (disch := omega) only [aC, mF, aH7, rM, aA, nV, gA, and_true, c0, aI, gB, aE]
theorem UU {lo hi p : Nat} {l : List UInt8} {e : Int} {w : aJ2} (h : Rdr w lo hi p l e) :
 aR pg lD #[.pointer (some ⟨p, 0, none⟩)] w (fun r w' => r = .int .i64 e /\ w' = w) := by
 refine QP ?_
 unfold Mk xU
 obtain ⟨h0, h0', v, o, hb, hat⟩ := h
 have c1 := o.cell (off := 1)
 simp only [aHJ, aHK] at c1
 simp (disch := omega) only [aC, mF, aH7, rM, aA, nQ, aHI, jL, and_true, c1, aI, aE]
theorem arK {lo hi p n : Nat} {l : List UInt8} {e : Int} {w : aJ2} (h : Rdr w lo hi p l e) (hl : l.length <= 1000000000) (hn : n <= 1000000000) :
 aR pg nN #[.pointer (some ⟨p, 0, none⟩), .int .i64 n] w (fun r w' => Bs w' r (Jl l e n).1 /\ AtS r (fun b => lo <= b /\ b < hi /\ b ≠ p) /\ Rdr w' lo hi p (Jl l e n).2.1 (Jl l e n).2.2 /\ aS w w' (fun y => y = p)) := by
 refine Ox ?_
 unfold Ix vS
 have d1 : decide ((0 : Int) <= (n : Int)) = true := by simp
 simp (disch := omega) only [aC, mF, aH7, pG, d1, aA, aE]
 refine (axO h hl hn).mono ?_
 rintro r w1 hr
 exact hr
theorem Re {lo hi p n : Nat} {l : List UInt8} {e : Int} {w : aJ2} (h : Rdr w lo hi p l e) (hl : l.length <= 1000000000) (hn : 1 <= n /\ n <= 8) :
 aR pg jJ #[.pointer (some ⟨p, 0, none⟩), .int .i64 n] w (fun r w' => r = .int .u64 (rS (Jl l e n).1 : Nat) /\ Rdr w' lo hi p (Jl l e n).2.1 (Jl l e n).2.2 /\ aS w w' (fun y => y = p)) := by
 refine L4 ?_
 unfold Gm uF tX uC tO uE
 have d1 : decide ((1 : Int) <= (n : Int)) = true := by simp; omega
 have d2 : decide ((n : Int) <= 8) = true := by simp; omega
 simp (disch := omega) only [aC, mF, aH7, pG, d1, aA, sX, bN, if_true, bP, avG, d2, aE]
 refine (axO h hl (by omega)).mono ?_
 rintro r w1 ⟨hb, hat, hr, x1⟩
 obtain ⟨t, ht⟩ : ∃ t, t = (Jl l e n).1 := ⟨_, rfl⟩
 have htl : t.length <= 8 := by
  rw [ht]; unfold Jl
  split
  .simp
  .split
   .simp
   .simp; omega
 rw [<- ht] at hb ⊢
 obtain ⟨va, vc, rfl, hvc⟩ := hb.len
 rw [aHU] at hb hvc hat
 simp (disch := omega) only [aHU, gB, aA]
 unfold uD tS
 refine cG.rule (fun m s w' => ∃ i : Nat, m = t.length - i /\ i <= t.length /\ s = (.int .u64 (rS (t.take i) : Nat), .int .i64 i) /\ w' = w1) t.length ⟨0, rfl, by omega, rfl, rfl⟩ ?_
 rintro m s w2 ⟨i, rfl, hi, rfl, hw⟩
 rw [hw]; clear hw w2
 unfold pJ
 by_cases hlt : i < t.length
 .have d3 : decide ((i : Int) < (t.length : Int)) = true := by simp; omega
  obtain ⟨c, hc⟩ : ∃ c, c = t[i]'hlt := ⟨_, rfl⟩
  have htk : t.take (i + 1) = t.take i ++ [c] := by rw [aIr, aHQ hlt, <- hc] <;> rfl
  have hor := aE2 (t.take i) c
  rw [<- htk, aHZ, aIA (by omega)] at hor
  have hcl : c.toNat < 256 := aIc c
  obtain ⟨b, off, c', hv, hcc, hcell⟩ := hb.openV (by rw [aHU]; omega)
  have g1 := hcell i (by rw [aHU]; exact hlt)
  rw [aHU] at hv
  cases hv
  rw [aIm, <- hc] at g1
  simp only [GI] at g1
  generalize c.toNat = cx at *
  have hp : 2 ^ (8 * i) <= 2 ^ 56 := aHT (by omega) (by omega)
  have hm : cx * 2 ^ (8 * i) <= 255 * 2 ^ 56 := Nat.mul_le_mul (by omega) hp
  have hb0 := UT (t.take i)
  have hb1 := UT (t.take (i + 1))
  rw [aHZ, aIA (by omega)] at hb0 hb1
  have hq : 256 ^ i <= 256 ^ 7 := aHT (by omega) (by omega)
  have e0 : ((8 : Int) * (i : Int)) = ((8 * i : Nat) : Int) := by omega
  have e5 : IntKind.u64.wrap ((cx : Int) * 2 ^ (min (8 * i) IntKind.u64.bits)) = ((cx * 2 ^ (8 * i) : Nat) : Int) := by
   rw [show min (8 * i) IntKind.u64.bits = 8 * i from aIA (by have : IntKind.u64.bits = 64 := rfl
                                                              omega)]
   have e : (cx : Int) * 2 ^ (8 * i) = ((cx * 2 ^ (8 * i) : Nat) : Int) := by simp
   rw [e]
   exact hP (by omega) (by omega)
  have e6 := aBn (a := rS (t.take i)) (b := cx * 2 ^ (8 * i)) (by omega) (by omega)
  rw [hor] at e6
  have e7 : IntKind.u64.wrap (cx : Int) = (cx : Int) := hP (by omega) (by omega)
  simp (disch := omega) only [aC, aX, d3, oU, aHH, pS, e0, aT, bM, aA, lM, hP, mU, g1, aI, wC, e7, mN, e5, auM, e6, and_true, aF]
  exact ⟨t.length - (i + 1), by omega, i + 1, rfl, by omega, rfl⟩
 .have d3 : decide ((i : Int) < (t.length : Int)) = false := by simp; omega
  obtain rfl : i = t.length := by omega
  simp (disch := omega) only [aC, aX, d3, pS, aT, bM, aA, lM, hP, aE]
  unfold pM
  rw [aJi]
  exact ⟨rfl, hr, x1⟩
def m3 (L : List Int) : List T3 := L.map fun x => (x, 0, 0)
theorem aFQ (L : List Int) (i : Nat) (h : i < L.length) (x : Int) : (m3 L).set i (x, ((m3 L)[i]'(by simpa [m3] using h)).2) = m3 (L.set i x) := by
 unfold m3; rw [aJl]; simp
theorem apP {k : IntKind} {L : List Int} {i : Nat} (h : i < L.length) (x : Int) : (fe k (m3 L)).set (i * 3) (.int k x) = fe k (m3 (L.set i x)) := by
 rw [(aeQ k (m3 L) i (by simpa [m3] using h) x).1, aFQ L i h x]
theorem amA (n high s : Nat) (r : List Nat) (a : Nat) (arr : List Int) : place n high (s :: r) a arr = place n high r (Yw n high n (adv n a)) (arr.set a s) := rfl
theorem arU {ps : List Int} {i : Nat} (h : i < ps.length) : pF (ps.drop i) i = List.replicate ps[i].toNat i ++ pF (ps.drop (i + 1)) (i + 1) := by
 rw [aIh h, pF]
theorem aFV {w0 w : aJ2} {N high j : Nat} (hN : 0 < N) (hN2 : N <= 32768) (hh : 0 < high) (hhN : high <= N) (hx : aS w0 w cM)
 {ov sv a b c d e : aJ3} {k : aJ3 -> aJ3 -> aJ3 -> aJ3 -> aJ3 -> aJ3 -> aJ3 -> aJ3 -> aJ3 -> aJ3 -> aJ2 -> Prop}
 (hk : ∃ j', Yw N high N (adv N (pos N j)) = pos N j' /\ k (.int .i64 N) ov (.int .i64 high) (.int .i64 (pos N j' : Nat)) sv a b c d e w) :
 FU k (.int .i64 N) ov (.int .i64 high) (.int .i64 (pos N j : Nat)) sv a b c d e w := by
 obtain ⟨dd, h1, h2, h3⟩ := UY hN hh (j + 1)
 obtain ⟨j', hj', hk⟩ := hk
 rw [Je, h3] at hj'
 rw [<- hj'] at hk
 unfold FU
 refine cG.rule (fun m t w' => ∃ q : Nat, m = dd - q /\ t = .int .i64 (pos N (j + q) : Nat) /\ q <= dd /\ w' = w) dd ⟨0, rfl, rfl, by omega, rfl⟩ ?_
 rintro m t w' ⟨q, rfl, rfl, hq, rfl⟩
 have hp := anW hN (j + q)
 have e1 : ((N : Int)).fdiv (2 ^ (min 1 IntKind.i64.bits)) = ((N / 2 : Nat) : Int) := by
  have : (2 : Int) ^ (min 1 IntKind.i64.bits) = ((2 : Nat) : Int) := by decide
  rw [this, TU]
 have e3 : ((N : Int)).fdiv (2 ^ (min 3 IntKind.i64.bits)) = ((N / 8 : Nat) : Int) := by
  have : (2 : Int) ^ (min 3 IntKind.i64.bits) = ((8 : Nat) : Int) := by decide
  rw [this, TU]
 have t1 : (1 : Int).toNat = 1 := rfl
 have t3 : (3 : Int).toNat = 3 := rfl
 have e4 : (((pos N (j + q) : Nat) : Int) + ((N / 2 : Nat) : Int) + ((N / 8 : Nat) : Int) + 3).tmod (N : Int) = ((pos N (j + q + 1) : Nat) : Int) := by
  rw [aIa (by omega), <- Je]
  unfold adv
  simp
 unfold Fu
 by_cases hd : q = dd
 .subst hd
  have d1 : decide (((pos N (j + q + 1) : Nat) : Int) < (high : Int)) = true := by
   simp only [decide_eq_true_eq]
   rw [show j + 1 + q = j + q + 1 from by omega] at h2
   omega
  simp (disch := omega) only [aC, xL, t1, e1, t3, e3, aA, bM, aT, CA, e4, aX, d1, and_true, aF]
  rw [show j + 1 + q = j + q + 1 from by omega] at hk
  exact hk
 .have d1 : decide (((pos N (j + q + 1) : Nat) : Int) < (high : Int)) = false := by
   have := h1 q (by omega)
   rw [show j + 1 + q = j + q + 1 from by omega] at this
   simp only [decide_eq_false_iff_not]
   omega
  simp (disch := omega) only [aC, xL, t1, e1, t3, e3, aA, bM, aT, CA, e4, aX, d1, and_true, aE]
  exact ⟨dd - (q + 1), by omega, q + 1, rfl, rfl, by omega⟩
theorem avE {log : Nat} {sv : aJ3} {ps : List Int} {w : aJ2} (hm : Sk log ps) (hs : Sl w sv (ps.map (Value.int .i64))) :
 aR pg DI #[.agg #[.int .i64 log, sv]] w (fun r w' => ∃ b, r = .slice (some ⟨b, 0, none⟩) (2 ^ log) (2 ^ log) /\ w.heap.size <= b /\ cJ w' b (fe .u8 (m3 (gF 0 log ps))) /\ aS w w' cM) := by
 refine alO ?_
 have h5 := hm.log5
 have h15 := hm.log15
 have hlen := hm.len256
 obtain ⟨arr0, ht, hal, hsum, hfin⟩ := aiM hm 0
 rw [hfin]
 have hN1 : 2 ^ 5 <= 2 ^ log := aHT (by omega) h5
 have hN2 : 2 ^ log <= 2 ^ 15 := aHT (by omega) h15
 have hsh : IntKind.i64.wrap (1 * 2 ^ (min log IntKind.i64.bits)) = ((2 ^ log : Nat) : Int) := by
  have : ∀ k : Fin 16, IntKind.i64.wrap (1 * 2 ^ (min k.val IntKind.i64.bits)) = ((2 ^ k.val : Nat) : Int) := by decide
  exact this ⟨log, by omega⟩
 clear hfin
 generalize hN : 2 ^ log = N at *
 generalize hhigh : (pF ps 0).length = high at *
 unfold apO KN JL
 refine fV fun w1 o1 x1 s1 => ?_
 have hs1 := hs.ext x1 (cB _)
 have c0 := o1.cell (off := 0)
 have c1 := o1.cell (off := 1)
 simp only [Value.cells, aHJ, aHK] at c0 c1
 obtain ⟨a, c, rfl, hc⟩ := hs.lenI
 simp (disch := omega) only [aC, dK, aA, cA, c0, aI, mN, aHH, hsh]
 refine agO (by omega) (by omega) fun w2 o2 x2 s2 => ?_
 rw [aHH, aBj] at o2
 rw [aHH]
 have o2 : cJ w2 w1.heap.size (fe .u8 (m3 (List.replicate N 0))) := by unfold m3; rw [aJO]; exact o2
 have x02 : aS w w2 cM := x1.seq x2
 have ob2 := o1.ext x2 (fun h => h)
 have c1 := ob2.cell (off := 1)
 simp only [Value.cells, aHJ, aHK] at c1
 unfold LD JG KL JD Ju
 simp (disch := omega) only [aC, bK, aHI, aA, cL, c1, aI, eB]
 have hw1 : w.heap.size <= w1.heap.size := x1.size
 refine cG.rule (fun m t w' => ∃ (i hg : Nat) (arr : List Int), m = ps.length - i /\ t = (.int .i64 hg, .int .i64 i) /\ i <= ps.length /\ (rX (ps.drop i) i).length <= hg /\ hg <= N /\ arr.length = N /\ XJ (ps.drop i) i hg arr = (high, arr0) /\ cJ w' w1.heap.size (fe .u8 (m3 arr)) /\ aS w w' cM /\ cJ w' w.heap.size (Value.cells (.agg #[.int .i64 log, .slice a ps.length c])).toList) ps.length
  ⟨0, N, _, rfl, rfl, by omega, by rw [aHM]; omega, by omega, by simp, by rw [aHM]; exact ht, o2, x02, ob2⟩ ?_
 rintro m t w3 ⟨i, hg, arr, rfl, rfl, hi, hng, hgN, harr, htop, o3, x3, ob3⟩
 by_cases hlt : i < ps.length
 .have d1 : decide ((i : Int) < (ps.length : Int)) = true := by simp; omega
  obtain ⟨b', off', c', e, _, hcell⟩ := (hs.ext x3 (cB _)).openI (by omega)
  cases e
  have g1 := hcell i hlt
  have hd : ps.drop i = ps[i] :: ps.drop (i + 1) := aIh hlt
  rw [hd, rX] at hng
  rw [hd, XJ] at htop
  unfold zD Dw DY
  by_cases hp : ps[i] = -1
  .have d2 : (ps[i] == -1) = true := by simpa using hp
   rw [if_pos hp] at hng htop
   simp only [aH5] at hng
   have e1 : (hg : Int) - 1 = ((hg - 1 : Nat) : Int) := by omega
   simp (disch := omega) only [aC, aX, d1, dJ, aHH, eA, e1, aT, kW, QN, bM, aA, lW, aHI, fS, cA, g1, aI, cR, d2, aF]
   refine Z3 o3 rfl (by rw [kX]; simp [m3]; omega) fun w4 o4 x4 s4 => ?_
   rw [apP (by omega)] at o4
   exact ⟨ps.length - (i + 1), by omega, i + 1, hg - 1, _, rfl, rfl, by omega, by omega, by omega, by simp [harr], htop, o4, x3.new x4 hw1, ob3.ext x4 (by omega)⟩
  .have d2 : (ps[i] == -1) = false := by simpa using hp
   rw [if_neg hp] at hng htop
   simp (disch := omega) only [aC, aX, d1, dJ, aHH, eA, aT, kW, QN, bM, aA, cA, g1, aI, cR, d2, aE, aF]
   exact ⟨ps.length - (i + 1), by omega, i + 1, hg, arr, rfl, rfl, by omega, by omega, by omega, harr, htop, o3, x3, ob3⟩
 .have d1 : decide ((i : Int) < (ps.length : Int)) = false := by simp; omega
  rw [aIQ (by omega), XJ] at htop
  obtain ⟨rfl, rfl⟩ : hg = high /\ arr = arr0 := by simpa using htop
  have c1 := ob3.cell (off := 1)
  simp only [Value.cells, aHJ, aHK] at c1
  unfold zD Dw KF JX Ko Lz Lo J0 Ky
  simp (disch := omega) only [aC, aX, d1, eA, aT, kW, aA, bK, aHI, cL, c1, aI, eB, aE]
  clear d1 hlt hi hng htop
  have hbig : cJ w3 w1.heap.size (fe .u8 (m3 arr)) := o3
  refine cG.rule (fun m t w' => ∃ (s j : Nat) (ar : List Int), m = ps.length - s /\ t = (.int .i64 (pos N j : Nat), .int .i64 s) /\ s <= ps.length /\ ar.length = N /\ place N hg (pF (ps.drop s) s) (pos N j) ar = place N hg (pF ps 0) 0 arr /\ (pF (ps.drop s) s).length <= hg /\ cJ w' w1.heap.size (fe .u8 (m3 ar)) /\ aS w w' cM) ps.length
   ⟨0, 0, arr, rfl, by rw [Ur] <;> rfl, by omega, harr, by rw [Ur, aHM], by rw [aHM, hhigh]; exact aHS _, o3, x3⟩ ?_
  rintro m t w4 ⟨s, j, ar, rfl, rfl, hs4, har, hpl, hrl, o4, x4⟩
  by_cases hlt : s < ps.length
  .have d1 : decide ((s : Int) < (ps.length : Int)) = true := by simp; omega
   obtain ⟨b', off', c', e, _, hcell⟩ := (hs.ext x4 (cB _)).openI (by omega)
   cases e
   have g1 := hcell s hlt
   obtain ⟨q, hq⟩ : ∃ q, q = ps[s].toNat := ⟨_, rfl⟩
   have emax : (if (0 : Int) > ps[s] then (0 : Int) else ps[s]) = (q : Int) := by rw [hq]; split <;> omega
   rw [arU hlt, <- hq] at hpl hrl
   have hqN : q <= N := by simp at hrl; omega
   unfold xQ C0 Kf JS T6 LF Ll UD JI
   simp (disch := omega) only [aC, aX, d1, dJ, aHH, aA, cA, g1, aI, aoW, emax, aF]
   unfold J4 Kz
   refine cG.rule (fun m t w' => ∃ (k j : Nat) (ar : List Int), m = q - k /\ t = (.int .i64 (pos N j : Nat), .int .i64 k) /\ k <= q /\ ar.length = N /\ place N hg (List.replicate (q - k) s ++ pF (ps.drop (s + 1)) (s + 1)) (pos N j) ar = place N hg (pF ps 0) 0 arr /\ cJ w' w1.heap.size (fe .u8 (m3 ar)) /\ aS w w' cM) q
    ⟨0, j, ar, rfl, rfl, by omega, har, hpl, o4, x4⟩ ?_
   rintro m t w5 ⟨k, j5, ar5, rfl, rfl, hk, har5, hpl5, o5, x5⟩
   by_cases hkq : k < q
   .have d2 : decide ((k : Int) < (q : Int)) = true := by simp; omega
    have hp := anW (n := N) (by omega) j5
    have hhg : 0 < hg := by simp at hrl; omega
    unfold yW Dr KB MI VW Nh
    simp (disch := omega) only [aC, aX, d2, kW, QN, lW, aHH, aHI, aA, fS, aF]
    refine Z3 o5 rfl (by rw [kX]; simp [m3]; omega) fun w6 o6 x6 s6 => ?_
    rw [apP (by omega)] at o6
    unfold MH
    rw [show q - k = (q - (k + 1)) + 1 from by omega, aIH, aIP, amA] at hpl5
    obtain ⟨d, _, hd2, hd3⟩ := UY (n := N) (high := hg) (by omega) hhg (j5 + 1)
    have hsk : Yw N hg N (adv N (pos N j5)) = pos N (j5 + 1 + d) := by rw [Je]; exact hd3
    refine aFV (w0 := w) (by omega) hN2 hhg hgN (x5.new x6 hw1) ⟨j5 + 1 + d, hsk, ?_⟩
    rw [hsk] at hpl5
    unfold Gc
    simp (disch := omega) only [aC, bM, aT, aA]
    exact ⟨q - (k + 1), by omega, k + 1, j5 + 1 + d, _, rfl, rfl, by omega, by simp [har5], hpl5, o6, x5.new x6 hw1⟩
   .have d2 : decide ((k : Int) < (q : Int)) = false := by simp; omega
    rw [show q - k = 0 from by omega, List.replicate_zero, aIv] at hpl5
    unfold yW Dr Fx
    simp (disch := omega) only [aC, aX, d2, bM, aT, aA, aE]
    exact ⟨ps.length - (s + 1), by omega, s + 1, j5, ar5, rfl, rfl, by omega, har5, hpl5, by simp at hrl; omega, o5, x5⟩
  .have d1 : decide ((s : Int) < (ps.length : Int)) = false := by simp; omega
   rw [aIQ (by omega), pF, place] at hpl
   unfold xQ C0 Ga
   simp (disch := omega) only [aC, aX, d1, aA, aE]
   exact ⟨_, rfl, hw1, by rw [<- hpl]; exact o4, x4⟩
def Es (log : Nat) (ps S : List Int) (i : Nat) : List T3 := (List.range (2 ^ log)).map fun j => if j < i then Gw log ps S j else (S.getD j 0, 0, 0)
def nxt (ps S : List Int) (i : Nat) : List Int := (List.range ps.length).map fun s => cW (ps.getD s 0) + ((S.take i).count (s : Int) : Nat)
theorem aAU {log : Nat} {ps S : List Int} (h : S.length = 2 ^ log) : Es log ps S 0 = m3 S := by
 unfold Es m3
 apply aIG
 .simp [h]
 .intro i h1 h2
  simp only [aHU, aJp] at h1
  simp only [aIm, aIC, Nat.not_lt_zero, if_false, aHX]
  rw [aHQ (by omega)] <;> rfl
theorem aCY (log : Nat) (ps : List Int) : Es log ps (gF 0 log ps) (2 ^ log) = kD log ps := by
 unfold Es kD
 refine aI8 fun j hj => ?_
 rw [if_pos (aIw.1 hj)]
theorem ES (log : Nat) (ps S : List Int) (i : Nat) : (Es log ps S i).length = 2 ^ log := by simp [Es]
theorem aCL {log : Nat} {ps S : List Int} {i : Nat} (h : i < 2 ^ log) : (Es log ps S i)[i]'(by rw [ES]; exact h) = (S.getD i 0, 0, 0) := by
 unfold Es; simp
theorem aEn {log : Nat} {ps S : List Int} {i : Nat} (_ : i < 2 ^ log) : (Es log ps S i).set i (Gw log ps S i) = Es log ps S (i + 1) := by
 unfold Es
 apply aIG
 .simp
 .intro j h1 h2
  rw [aJF]
  simp only [aIm, aIC]
  by_cases hij : i = j
  .subst hij; simp
  .rw [if_neg hij]
   by_cases hj : j < i
   .rw [if_pos hj, if_pos (by omega)]
   .rw [if_neg hj, if_neg (by omega)]
theorem W2 (ps S : List Int) (i : Nat) : (nxt ps S i).length = ps.length := by simp [nxt]
theorem aDx (ps S : List Int) : nxt ps S 0 = ps.map cW := by
 unfold nxt
 apply aIG
 .simp
 .intro i h1 h2
  simp only [aHU, aJp] at h1
  simp only [aIm, aIC, aHO, List.count_nil, aHX]
  rw [aHQ h1]; simp
theorem asV {ps S : List Int} {i s : Nat} (h : s < ps.length) : (nxt ps S i)[s]'(by rw [W2]; exact h) = cW ps[s] + ((S.take i).count (s : Int) : Nat) := by
 unfold nxt
 simp only [aIm, aIC, aHX]
 rw [aHQ h] <;> rfl
theorem aEI {ps S : List Int} {i s : Nat} (h : i < S.length) (hs : s < ps.length) (e : S[i] = (s : Int)) : (nxt ps S i).set s (cW ps[s] + ((S.take i).count (s : Int) : Nat) + 1) = nxt ps S (i + 1) := by
 apply aIG
 .simp [nxt]
 .intro j h1 h2
  have hj : j < ps.length := by simpa [nxt] using h2
  rw [aJF, asV hj, asV hj, aIr, aHQ h, aIR]
  simp only [Option.toList, e, aJr]
  by_cases hij : s = j
  .subst hij; simp; omega
  .have : ((s : Int) == (j : Int)) = false := by simp; omega
   rw [if_neg hij, this]; simp
theorem aEO {k b : Nat} (hb : b <= 64) (h : k * 2 ^ b <= 9223372036854775807) : IntKind.i64.wrap ((k : Int) * 2 ^ (min b IntKind.i64.bits)) = ((k * 2 ^ b : Nat) : Int) := by
 have e : min b IntKind.i64.bits = b := by simp only [IntKind.bits]; omega
 rw [e]
 have : (k : Int) * 2 ^ b = ((k * 2 ^ b : Nat) : Int) := by simp
 rw [this]
 exact aT (by omega) (by omega)
section
variable {log : Nat} {ps S : List Int} {w0 w1 : aJ2} {p1 p2 p4 b nb N : Nat} {sv : aJ3}
theorem ayS (hm : Sk log ps) (L : Lay log ps S) (hN : 2 ^ log = N) {i : Nat} (hlt : i < N) {w3 : aJ2}
 (on3 : cJ w3 nb ((nxt ps S i).map (Value.int .i64))) (ob3 : cJ w3 b (fe .u8 (Es log ps S i)))
 (o13 : cJ w3 p1 [.int .i64 log, sv]) (o43 : cJ w3 p4 [.int .i64 log, .slice (some ⟨b, 0, none⟩) N N])
 (hne : p1 ≠ b /\ p4 ≠ b /\ nb ≠ b /\ p1 ≠ nb /\ p4 ≠ nb) {t2 : aJ3} {kn : aJ3 -> aJ3 -> aJ3 -> aJ3 -> aJ3 -> aJ3 -> aJ2 -> Prop}
 (hk : ∀ w', cJ w' nb ((nxt ps S (i + 1)).map (Value.int .i64)) -> cJ w' b (fe .u8 (Es log ps S (i + 1))) -> aS w3 w' (fun y => y = nb ∨ y = b) →
  kn (.pointer (some ⟨p1, 0, none⟩)) t2 (.pointer (some ⟨p4, 0, none⟩)) (.slice (some ⟨nb, 0, none⟩) ps.length ps.length) (.int .i64 N) (.int .i64 ((i + 1 : Nat) : Int)) w') :
 IU kn (.pointer (some ⟨p1, 0, none⟩)) t2 (.pointer (some ⟨p4, 0, none⟩)) (.slice (some ⟨nb, 0, none⟩) ps.length ps.length) (.int .i64 N) (.int .i64 i) w3 := by
 have h5 := hm.log5
 have h15 := hm.log15
 have hlen := hm.len256
 have hN2 : 2 ^ log <= 2 ^ 15 := aHT (by omega) h15
 have hSl : S.length = 2 ^ log := L.len
 have c40 := o43.cell (off := 0)
 have c41 := o43.cell (off := 1)
 have c10 := o13.cell (off := 0)
 simp only [aHJ, aHK] at c40 c41 c10
 have hltN : i < 2 ^ log := by omega
 obtain ⟨s, hsl, hsS, hp1, hp2, hk', hcnt⟩ := XG hm L hltN
 obtain ⟨k, hkk⟩ : ∃ k, k = kAt ps S i := ⟨_, rfl⟩
 rw [<- hkk] at hk'
 have hk2 : k < 2 ^ (log + 1) := by rw [aH8]; omega
 obtain ⟨eb1, eb2, eb3, eb4⟩ := amR (log := log) (k := k) (by omega) hk2
 have hel : i < (Es log ps S i).length := by rw [ES]; exact hltN
 obtain ⟨f0, f1, f2⟩ := adP .u8 (Es log ps S i) i hel
 rw [aCL hltN] at f0
 simp only at f0
 rw [hsS] at f0
 have g0 := ob3.cell (off := i * 3)
 rw [f0] at g0
 have hnx : ((nxt ps S i).map (Value.int .i64))[s]? = some (.int .i64 k) := by
  rw [aH9, aHQ (by rw [W2]; exact hsl), asV hsl, hk']
  simp; omega
 have gn := on3.cell (off := s)
 rw [hnx] at gn
 have hkb : k < 131072 := by
  have : 2 ^ (log + 1) <= 2 ^ 16 := aHT (by omega) (by omega)
  omega
 have hpn := lT (hm.low _ (aH1 hsl))
 have hSi : S[i]'(by omega) = (s : Int) := by rw [<- hsS, aHX, aHQ (by omega)] <;> rfl
 have hns := aEI (ps := ps) (S := S) (i := i) (s := s) (by omega) hsl hSi
 have hkv : cW ps[s] + ((S.take i).count (s : Int) : Nat) + 1 = (k : Int) + 1 := by rw [hk']; omega
 rw [hkv] at hns
 have hent : Gw log ps S i = Dj log (s : Int) k := by unfold Gw; rw [hsS, <- hkk]
 have hes := aEn (log := log) (ps := ps) (S := S) (i := i) hltN
 rw [hent] at hes
 have hE0 : (Es log ps S i)[i]'hel = ((s : Int), 0, 0) := by rw [aCL hltN, hsS]
 clear hkk hcnt
 unfold IU Q1 Zr QX
 simp (disch := omega) only [aC, bZ, aHI, aA, dU, c41, aI, lW, aHH, rM, fS, mU, g0, dJ, cA, gn, bM, aT]
 refine tA on3 rfl (by simp [W2]; omega) fun w4 on4 x4 s4 => ?_
 rw [<- aJl, hns] at on4
 unfold Qx Rk
 have o14 := dN (o13.ext x4 (by omega))
 have o44 := o43.ext x4 (by omega)
 have ob4 := ob3.ext x4 (by omega)
 have c10 := o14.cell (off := 0)
 simp only [aHJ] at c10
 simp (disch := omega) only [aC, dK, lM, hP, eD, Result.ok.injEq, Next.value.injEq, and_true, rM, aA, jY, true_and, cA, c10, aI]
 refine (aCG k (by omega) _).mono ?_
 rintro r w5 ⟨rfl, rfl⟩
 obtain ⟨nbits, hnbits⟩ : ∃ x, x = log + 1 - bl k := ⟨_, rfl⟩
 have e2 : (log : Int) - (bl k : Int) + 1 = (nbits : Int) := by omega
 have e3 : IntKind.i64.wrap ((log : Int) - (bl k : Int)) = (log : Int) - (bl k : Int) := aT (by omega) (by omega)
 simp (disch := omega) only [c10, aI, eA, e3, aA, bM, e2, aT, true_and]
 have ob4 := dN ob4
 refine tA ob4 rfl (by rw [kX, ES]; omega) fun w5 ob5 x5 s5 => ?_
 rw [(aeQ .u8 (Es log ps S i) i hel _).2.1, hE0] at ob5
 unfold I8
 have o45 := dN ((dN o44).ext x5 (by omega))
 have ob5 := dN ob5
 have on5 := dN ((dN on4).ext x5 (by omega))
 have c41 := o45.cell (off := 1)
 simp only [aHJ, aHK] at c41
 have hel5 : i < ((Es log ps S i).set i ((s : Int), (nbits : Int), 0)).length := by simpa using hel
 obtain ⟨-, f1, -⟩ := adP .u8 _ i hel5
 simp only [aJB] at f1
 have g1 := ob5.cell (off := i * 3 + 1)
 rw [f1] at g1
 have hnb2 : k * 2 ^ nbits <= 2 ^ 16 := by
  rw [hnbits]
  have : 2 ^ (log + 1) <= 2 ^ 16 := aHT (by omega) (by omega)
  have := aIp (2 ^ (log + 1 - bl k)) (show k <= k + 1 by omega)
  omega
 have e4 := aEO (k := k) (b := nbits) (by omega) (by omega)
 have e5 : (((k * 2 ^ nbits : Nat) : Int) - (N : Int)) = (Dj log (s : Int) k).2.2 := by
  unfold Dj
  simp only
  rw [<- hnbits, <- hN]
  simp
 have e6 : IntKind.i64.wrap (((k * 2 ^ nbits : Nat) : Int) - (N : Int)) = ((k * 2 ^ nbits : Nat) : Int) - (N : Int) := aT (by omega) (by omega)
 rw [e5] at e6
 have e7 : (Dj log (s : Int) k) = ((s : Int), (nbits : Int), (Dj log (s : Int) k).2.2) := by unfold Dj; rw [hnbits]
 generalize hq : k * 2 ^ nbits = q at *
 generalize hbase : (Dj log (s : Int) k).2.2 = base at *
 simp (disch := omega) only [aC, rM, bZ, aHI, aA, lJ, true_and, dU, c41, aI, iA, jY, cA, g1, mN, aHH, e4, eA, e5, e6]
 refine tA ob5 rfl (by rw [kX]; simp [ES]; omega) fun w6 ob6 x6 s6 => ?_
 rw [(aeQ .u8 _ i hel5 _).2.2] at ob6
 simp only [aJB, List.set_set] at ob6
 rw [<- e7, hes] at ob6
 have xx : aS w3 w6 (fun y => y = nb ∨ y = b) :=
  ((((x4.mono fun _ _ h => .inl h : aS w3 w4 (fun y => y = nb ∨ y = b)).seq (aS.dr _ _)).seq (x5.mono fun _ _ h => .inr h)).seq (aS.dr _ _)).seq (x6.mono fun _ _ h => .inr h)
 unfold I0
 simp (disch := omega) only [aC, bM, aT, aA]
 exact hk _ (on5.ext x6 (by omega)) ob6 xx
theorem aBw (hm : Sk log ps) (L : Lay log ps S) (hN : 2 ^ log = N) {w3 : aJ2}
 (on3 : cJ w3 nb ((nxt ps S 0).map (Value.int .i64))) (ob3 : cJ w3 b (fe .u8 (m3 S)))
 (o13 : cJ w3 p1 [.int .i64 log, sv]) (o23 : cJ w3 p2 [.int .i64 0, .slice none 0 0]) (o43 : cJ w3 p4 [.int .i64 log, .slice (some ⟨b, 0, none⟩) N N])
 (hne : p1 ≠ b /\ p4 ≠ b /\ nb ≠ b /\ p1 ≠ nb /\ p4 ≠ nb /\ p2 ≠ b /\ p2 ≠ nb) (hlo : w0.heap.size <= p2 /\ w0.heap.size <= b /\ w0.heap.size <= nb) (hx : aS w0 w3 cM) {R : aJ3 -> aJ2 -> Prop}
 (hR : ∀ w', cJ w' b (fe .u8 (Es log ps S N)) -> aS w0 w' cM -> R (.tuple #[.agg #[.int .i64 log, .slice (some ⟨b, 0, none⟩) N N], .int .i64 0]) w') :
 FG R (.pointer (some ⟨p1, 0, none⟩)) (.pointer (some ⟨p2, 0, none⟩)) (.pointer (some ⟨p4, 0, none⟩)) (.slice (some ⟨nb, 0, none⟩) ps.length ps.length) w3 := by
 have hN2 : 2 ^ log <= 2 ^ 15 := aHT (by omega) hm.log15
 have c41 := o43.cell (off := 1)
 simp only [aHJ, aHK] at c41
 unfold FG NO Ob M4 NR
 simp (disch := omega) only [aC, bZ, aHI, aA, dU, c41, aI, iA]
 have ob0 : cJ w3 b (fe .u8 (Es log ps S 0)) := by rw [aAU L.len]; exact ob3
 refine cG.rule (fun m t w' => ∃ i : Nat, m = N - i /\ t = .int .i64 i /\ i <= N /\ cJ w' nb ((nxt ps S i).map (Value.int .i64)) /\ cJ w' b (fe .u8 (Es log ps S i)) /\ aS w3 w' (fun y => y = nb ∨ y = b)) N
  ⟨0, rfl, rfl, by omega, on3, ob0, aS.refl _ _⟩ ?_
 rintro m t w4 ⟨i, rfl, rfl, hi, on4, ob4, x4⟩
 unfold F4 Nf
 have o44 := o43.ext x4 (by omega)
 have o24 := o23.ext x4 (by omega)
 by_cases hlt : i < N
 .have d1 : decide ((i : Int) < (N : Int)) = true := by simp only [decide_eq_true_eq]; omega
  simp (disch := omega) only [aC, aX, d1, aA, aF]
  refine ayS hm L hN hlt on4 ob4 (o13.ext x4 (by omega)) o44 ⟨hne.1, hne.2.1, hne.2.2.1, hne.2.2.2.1, hne.2.2.2.2.1⟩ fun w5 on5 ob5 x5 => ?_
  exact ⟨N - (i + 1), by omega, i + 1, rfl, rfl, by omega, on5, ob5, x4.trans x5 (fun _ _ h => h)⟩
 .have d1 : decide ((i : Int) < (N : Int)) = false := by simp only [decide_eq_false_iff_not]; omega
  have : i = N := by omega
  subst this
  have l4 := gL (off := 0) o44 (by simp)
  simp only [aHM, aHG, aHO] at l4
  simp (disch := omega) only [aC, aX, d1, aA, aE]
  unfold Ji
  simp (disch := omega) only [aC, l4, aA]
  refine eJ o24 rfl (by simp [one]) (by simp) fun w5 o25 x5 s5 => ?_
  refine qE o25 (by simp [aV]) ?_
  simp only [aV, aHL, aHN, aHM, aHG, aHO]
  exact hR _ (ob4.ext x5 (by omega)) ((hx.trans x4 (fun y hy hh => by omega)).new x5 hlo.1)
theorem aAb (hm : Sk log ps) (L : Lay log ps S) (hN : 2 ^ log = N) {w : aJ2} (hs : Sl w0 sv (ps.map (Value.int .i64)))
 (o1 : cJ w p1 [.int .i64 log, sv]) (o2 : cJ w p2 [.int .i64 0, .slice none 0 0]) (o4 : cJ w p4 [.int .i64 log, .slice (some ⟨b, 0, none⟩) N N]) (ob : cJ w b (fe .u8 (m3 S)))
 (hlo : w0.heap.size <= p2 /\ w0.heap.size <= b) (hne : p1 ≠ b /\ p2 ≠ b /\ p4 ≠ b) (hx : aS w0 w cM) {R : aJ3 -> aJ2 -> Prop}
 (hR : ∀ w', cJ w' b (fe .u8 (Es log ps S N)) -> aS w0 w' cM -> R (.tuple #[.agg #[.int .i64 log, .slice (some ⟨b, 0, none⟩) N N], .int .i64 0]) w') :
 AT R (.pointer (some ⟨p1, 0, none⟩)) (.pointer (some ⟨p2, 0, none⟩)) (.pointer (some ⟨p4, 0, none⟩)) w := by
 have hlen := hm.len256
 have hN2 : 2 ^ log <= 2 ^ 15 := aHT (by omega) hm.log15
 obtain ⟨a, c, rfl, hc⟩ := hs.lenI
 have c1 := o1.cell (off := 1)
 simp only [aHJ, aHK] at c1
 unfold AT Oq
 simp (disch := omega) only [aC, bK, aHI, aA, cL, c1, aI, eB]
 refine asD (by omega) (by omega) fun w1 on x1 s1 => ?_
 rw [aHH] at on ⊢
 have l1 := o1.lt
 have l2 := o2.lt
 have l4 := o4.lt
 have lb := ob.lt
 have o1 := o1.ext x1 (fun h => h)
 have o2 := o2.ext x1 (fun h => h)
 have o4 := o4.ext x1 (fun h => h)
 have ob := ob.ext x1 (fun h => h)
 have x01 := hx.seq x1
 have c1 := o1.cell (off := 1)
 simp only [aHJ, aHK] at c1
 have hwn : w0.heap.size <= w.heap.size := hx.size
 generalize w.heap.size = nb at *
 unfold Og NQ No Nq ME
 simp (disch := omega) only [aC, bK, aHI, aA, cL, c1, aI, eB]
 refine cG.rule (fun m t w' => ∃ i : Nat, m = ps.length - i /\ t = .int .i64 i /\ i <= ps.length /\ cJ w' nb (((ps.take i).map cW ++ List.replicate (ps.length - i) 0).map (Value.int .i64)) /\ aS w0 w' cM /\ aS w1 w' (fun y => y = nb)) ps.length
  ⟨0, rfl, rfl, by omega, by simpa using on, x01, aS.refl _ _⟩ ?_
 rintro m t w2 ⟨i, rfl, rfl, hi, on2, x2, y2⟩
 by_cases hlt : i < ps.length
 .have d1 : decide ((i : Int) < (ps.length : Int)) = true := by simp; omega
  obtain ⟨b', off', c', e, _, hcell⟩ := (hs.ext x2 (cB _)).openI (by omega)
  cases e
  have g1 := hcell i hlt
  have hp := hm.low _ (aH1 hlt)
  have hple := W4 hm hlt
  have hpv : cW ps[i] = ps[i] ∨ ps[i] = -1 := by unfold cW; split <;> omega
  have hpn := lT hp
  have emax : (if (0 - ps[i]) > ps[i] then (0 - ps[i]) else ps[i]) = cW ps[i] := by unfold cW; split <;> split <;> omega
  unfold AJ
  simp (disch := omega) only [aC, aX, d1, dJ, aHH, aHI, bM, aT, aA, cA, g1, aI, aEb, aoW, emax, aF]
  refine tA on2 rfl (by simp; omega) fun w3 on3 x3 s3 => ?_
  refine ⟨ps.length - (i + 1), by omega, i + 1, rfl, rfl, by omega, ?_, x2.new x3 hwn, y2.trans x3 (fun _ _ h => h)⟩
  rw [<- aJl] at on3
  have e : ((ps.take i).map cW ++ List.replicate (ps.length - i) 0).set i (cW ps[i]) = (ps.take (i + 1)).map cW ++ List.replicate (ps.length - (i + 1)) 0 := by
   rw [show ps.length - i = (ps.length - (i + 1)) + 1 from by omega, aIH, aJm _ _ (by rw [aHU, aHZ]; omega)]
   have : i - ((ps.take i).map cW).length = 0 := by rw [aHU, aHZ]; omega
   rw [this, aHL, aIr, aHQ hlt, aIo, aHV]
   rfl
  rw [e] at on3
  exact on3
 .have d1 : decide ((i : Int) < (ps.length : Int)) = false := by simp; omega
  have : i = ps.length := by omega
  subst this
  have on2 : cJ w2 nb ((nxt ps S 0).map (Value.int .i64)) := by rw [aDx]; simpa using on2
  unfold AJ
  simp (disch := omega) only [aC, aX, d1, bM, aT, aA, aE]
  exact aBw hm L hN on2 (ob.ext y2 (by omega)) (o1.ext y2 (by omega)) (o2.ext y2 (by omega)) (o4.ext y2 (by omega)) (by omega) (by omega) x2 hR
def Tbl (w : aJ2) (base b log : Nat) (L : List T3) (v : aJ3) : Prop := v = .agg #[.int .i64 log, .slice (some ⟨b, 0, none⟩) L.length L.length] /\ base <= b /\ cJ w b (fe .u8 L)
theorem aBb {log most : Nat} {ps : List Int} (h : Sk log ps) (hl : log <= most) : awS log ps most = 0 := by
 unfold awS; rw [h.b]; simp; omega
theorem alW {w : aJ2} (hm : Sk log ps) (hs : Sl w sv (ps.map (Value.int .i64))) :
 aR pg sC #[.agg #[.int .i64 log, sv]] w (fun r w' => ∃ b v, r = .tuple #[v, .int .i64 0] /\ Tbl w' w.heap.size b log (kD log ps) v /\ aS w w' cM) := by
 refine UJ ?_
 have hlen := hm.len256
 unfold agE FN Fz
 refine fV fun w1 o1 x1 s1 => ?_
 refine iP fun w2 o2 x2 s2 => ?_
 have o1 := o1.ext x2 (fun h => h)
 have l1 := gH (off := 0) o1 (by simp [Value.cells])
 simp only [Value.cells, aHM, aHG, aHO] at l1
 simp (disch := omega) only [aC, l1, fJ, aA, dK, eD, Result.ok.injEq, Next.value.injEq, and_true, cA, true_and]
 refine (aA8 (most := 15) ((hs.ext x1 (cB _)).ext x2 (cB _)) (by omega)).mono ?_
 rintro r w3 ⟨rfl, x3⟩
 have hce := aBb (most := 15) hm hm.log15
 rw [show (((15 : Nat) : Int)) = 15 from rfl] at hce
 rw [hce]
 have e0 : ((0 : Int) != 0) = false := rfl
 have x03 : aS w w3 cM := (x1.seq x2).seq x3
 have o1 := dN (o1.ext x3 (fun h => h))
 have o2 := dN (o2.ext x3 (fun h => h))
 have c0 := o1.cell (off := 0)
 simp only [Value.cells, aHJ] at c0
 have l1 := gH (off := 0) o1 (by simp [Value.cells])
 simp only [Value.cells, aHM, aHG, aHO] at l1
 have hz2 := o2.lt
 have fin : ∀ {b p4 : Nat} {w' : aJ2}, cJ w' w.heap.size [.int .i64 log, sv] -> cJ w' w1.heap.size [.int .i64 0, .slice none 0 0] -> cJ w' p4 [.int .i64 log, .slice (some ⟨b, 0, none⟩) (2 ^ log) (2 ^ log)] -> cJ w' b (fe .u8 (m3 (gF 0 log ps))) -> w2.heap.size <= b -> p4 ≠ b -> aS w w' cM →
     AT (fun r w' => ∃ b v, r = .tuple #[v, .int .i64 0] /\ Tbl w' w.heap.size b log (kD log ps) v /\ aS w w' cM) (.pointer (some ⟨w.heap.size, 0, none⟩)) (.pointer (some ⟨w1.heap.size, 0, none⟩)) (.pointer (some ⟨p4, 0, none⟩)) w' := by
  intro b p4 w' h1 h2 h3 h4 h5 h6 h7
  refine aAb hm (vF hm 0) rfl hs h1 h2 h3 h4 (by omega) (by omega) h7 fun w'' ho hx => ?_
  rw [aCY] at ho
  exact ⟨b, _, rfl, ⟨by rw [jC], by omega, ho⟩, hx⟩
 simp (disch := omega) only [eT, e0, aA, aE]
 have hdr : (dr w3).heap.size = w3.heap.size := rfl
 have h23 := x3.size
 refine Ki ?_ ?_
 .simp (disch := omega) only [c0, aI, l1, aA, true_and]
  refine (avE hm ((hs.ext x03 (cB _)).dr)).mono ?_
  rintro r w4 ⟨b, rfl, hb, ob, x4⟩
  have o1 := o1.ext x4 (fun h => h)
  have c0 := o1.cell (off := 0)
  simp only [Value.cells, aHJ] at c0
  simp (disch := omega) only [c0, aI, Ag, Result.ok.injEq, Next.value.injEq, and_true, aA, true_and]
  refine iP fun w5 o5 x5 s5 => ?_
  have o1 := o1.ext x5 (fun h => h)
  have c0 := o1.cell (off := 0)
  simp only [Value.cells, aHJ] at c0
  simp (disch := omega) only [c0, aI, true_and]
  have hlb := ob.lt
  refine eJ o5 rfl (by simp [one]) (by simp) fun w6 o6 x6 s6 => ?_
  have h45 := x4.size
  refine fin (o1.ext x6 (by omega)) (((o2.ext x4 (fun h => h)).ext x5 (fun h => h)).ext x6 (by omega)) o6 ((ob.ext x5 (fun h => h)).ext x6 (by omega)) (by omega) (by omega) ?_
  exact (((x03.seq (aS.dr _ _)).seq x4).seq x5).new x6 (by omega)
 .simp (disch := omega) only [c0, aI, l1, aA, true_and]
  refine iP fun w4 o4 x4 s4 => ?_
  have o1 := o1.ext x4 (fun h => h)
  have c0 := o1.cell (off := 0)
  simp only [Value.cells, aHJ] at c0
  have l1 := gH (off := 0) o1 (by simp [Value.cells])
  simp only [Value.cells, aHM, aHG, aHO] at l1
  simp (disch := omega) only [l1, c0, aI, and_true, true_and]
  refine (avE hm ((((hs.ext x03 (cB _)).dr).ext x4 (cB _)))).mono ?_
  rintro r w5 ⟨b, rfl, hb, ob, x5⟩
  have o1 := o1.ext x5 (fun h => h)
  have c0 := o1.cell (off := 0)
  simp only [Value.cells, aHJ] at c0
  simp (disch := omega) only [c0, aI, Ag, aA, true_and]
  refine eJ (o4.ext x5 (fun h => h)) rfl (by simp [one]) (by simp) fun w6 o6 x6 s6 => ?_
  refine fin (o1.ext x6 (by omega)) (((o2.ext x4 (fun h => h)).ext x5 (fun h => h)).ext x6 (by omega)) o6 (ob.ext x6 (by omega)) (by omega) (by omega) ?_
  exact (((x03.seq (aS.dr _ _)).seq x4).seq x5).new x6 (by omega)
theorem aBq {log : Int} {w : aJ2} (hm : Uz log ps = false) (hs : Sl w sv (ps.map (Value.int .i64))) (hl : ps.length <= 9223372036854775807) :
 aR pg sC #[.agg #[.int .i64 log, sv]] w (fun r w' => r = .tuple #[.agg #[.int .i64 0, .slice none 0 0], .int .i64 1] /\ aS w w' cM) := by
 refine UJ ?_
 unfold agE FN Fz
 refine fV fun w1 o1 x1 s1 => ?_
 refine iP fun w2 o2 x2 s2 => ?_
 have o1 := o1.ext x2 (fun h => h)
 have l1 := gH (off := 0) o1 (by simp [Value.cells])
 simp only [Value.cells, aHM, aHG, aHO] at l1
 simp (disch := omega) only [aC, l1, fJ, aA, dK, eD, Result.ok.injEq, Next.value.injEq, and_true, cA, true_and]
 refine (aA8 (most := 15) ((hs.ext x1 (cB _)).ext x2 (cB _)) (by omega)).mono ?_
 rintro r w3 ⟨rfl, x3⟩
 have hce : awS log ps 15 = 1 := by unfold awS; rw [hm] <;> rfl
 rw [hce]
 have e0 : ((1 : Int) != 0) = true := rfl
 simp (disch := omega) only [eT, e0, aA, aF]
 refine eJ (o2.ext x3 (fun h => h)) rfl (by simp [one]) (by simp) fun w6 o6 x6 s6 => ?_
 refine qE o6 (by simp [aV]) ⟨rfl, ?_⟩
 exact ((x1.seq x2).seq x3).new x6 (by omega)
end
end Go.Proofs.YtaggdjhhmbnhoaaDoor
namespace Go.Pu
def inE (sym s : Int) (e : Int × Int × Int) : Bool := decide (e.1 = sym /\ e.2.2 <= s /\ s < e.2.2 + 2 ^ e.2.1.toNat)
theorem aF0 {log x j : Nat} (h1 : 2 ^ log <= x) (h2 : x < 2 ^ (log + 1)) (hj : j <= log) : bl (x / 2 ^ j) = log + 1 - j := by
 have hp := aIj j
 have a : 2 ^ (log - j) <= x / 2 ^ j := by
  rw [aJC hp, <- aJy]
  rw [show log - j + j = log from by omega]; exact h1
 have b : x / 2 ^ j < 2 ^ (log - j + 1) := by
  rw [aJc hp, <- aJy]
  rw [show log - j + 1 + j = log + 1 from by omega]; exact h2
 rw [aC2 a b]; omega
theorem aGY {log x k : Nat} (h1 : 2 ^ log <= x) (h2 : x < 2 ^ (log + 1)) (hk1 : 1 <= k) (hk2 : k < 2 ^ (log + 1)) :
 (k * 2 ^ (log + 1 - bl k) <= x /\ x < (k + 1) * 2 ^ (log + 1 - bl k)) ↔ ∃ j, j <= log /\ x / 2 ^ j = k := by
 have hb1 := Hx (k := k) (by omega)
 have hb2 := rE hk2
 constructor
 .rintro ⟨a, b⟩
  refine ⟨log + 1 - bl k, by omega, ?_⟩
  have hp := aIj (log + 1 - bl k)
  apply Nat.le_antisymm
  .have := (aJc hp).2 b; omega
  .exact (aJC hp).2 a
 .rintro ⟨j, hj, rfl⟩
  rw [aF0 h1 h2 hj, show log + 1 - (log + 1 - j) = j from by omega]
  have hp := aIj j
  exact ⟨aJG _ _, by rw [aIO]; exact Nat.lt_mul_div_succ x hp⟩
theorem aHm {log x q : Nat} (h1 : 2 ^ log <= x) (h2 : x < 2 ^ (log + 1)) (hq1 : 1 <= q) (hq2 : q <= 2 ^ log) : ∃ j, j <= log /\ q <= x / 2 ^ j /\ x / 2 ^ j < 2 * q := by
 have key : ∀ j, j <= log -> x / 2 ^ j < 2 * q -> ∃ j, j <= log /\ q <= x / 2 ^ j /\ x / 2 ^ j < 2 * q := by
  intro j
  induction j with
  | zero =>
    intro _ h
    refine ⟨0, by omega, ?_, h⟩
    rw [Nat.pow_zero, Nat.div_one]; omega
  | succ j ih =>
    intro hj h
    by_cases hx : x / 2 ^ j < 2 * q
    .exact ih (by omega) hx
    .refine ⟨j + 1, hj, ?_, h⟩
     rw [aH8, <- aJz]
     omega
 refine key log (aHS _) ?_
 have : x / 2 ^ log < 2 := by
  rw [aJc (aIj _), aIO, <- aH8]; exact h2
 omega
theorem aGK {x q i j : Nat} (hi1 : q <= x / 2 ^ i) (hi2 : x / 2 ^ i < 2 * q) (hj1 : q <= x / 2 ^ j) (hj2 : x / 2 ^ j < 2 * q) : x / 2 ^ i = x / 2 ^ j := by
 have half : ∀ {a b : Nat}, a < b -> x / 2 ^ b <= x / 2 ^ a / 2 := by
  intro a b h
  rw [aJz, <- aH8]
  exact Nat.div_le_div_left (aHT (by omega) h) (aIj _)
 rcases aJg i j with h | h | h
 .have := half h; omega
 .rw [h]
 .have := half h; omega
theorem aEx {S : List Int} {v : Int} : ∀ (n c : Nat), c < (S.take n).count v -> ∃ i, ∃ h : i < S.length, i < n /\ S[i] = v /\ (S.take i).count v = c := by
 intro n
 induction n with
 | zero => intro c h; simp at h
 | succ n ih =>
   intro c h
   by_cases hn : n < S.length
   .rw [aIr, aHQ hn, aIR] at h
    simp only [Option.toList, aJr] at h
    by_cases hc : c < (S.take n).count v
    .obtain ⟨i, h1, h2, h3, h4⟩ := ih c hc
     exact ⟨i, h1, by omega, h3, h4⟩
    .by_cases hv : S[n] = v
     .have : (S[n] == v) = true := by simpa using hv
      rw [this] at h
      simp only [if_true] at h
      exact ⟨n, hn, by omega, hv, by omega⟩
     .have : (S[n] == v) = false := by simpa using hv
      rw [this] at h
      simp at h; omega
   .rw [aIe (by omega)] at h
    have := ih c (by rw [aIe (by omega)]; exact h)
    obtain ⟨i, h1, h2, h3, h4⟩ := this
    exact ⟨i, h1, by omega, h3, h4⟩
theorem aC9 {S : List Int} {v : Int} {i j : Nat} (hi : i < S.length) (hv : S[i] = v) (hij : i < j) : (S.take i).count v < (S.take j).count v := by
 obtain ⟨d, rfl⟩ : ∃ d, j = i + 1 + d := ⟨j - (i + 1), by omega⟩
 rw [List.take_add, aIR, aIr, aHQ hi, aIR]
 simp only [Option.toList, aJr]
 have : (S[i] == v) = true := by simpa using hv
 rw [this]; simp; omega
theorem ahB {log : Nat} {ps : List Int} {i : Nat} (h : i < 2 ^ log) : (kD log ps)[i]? = some (Gw log ps (gF 0 log ps) i) := by
 unfold kD
 rw [aH9, List.getElem?_range h] <;> rfl
theorem aAI {log : Nat} {ps : List Int} (hm : Sk log ps) {sy i s : Nat} (hsy : sy < ps.length) (hi : i < 2 ^ log) (hs : s < 2 ^ log) :
 inE (sy : Int) s (Gw log ps (gF 0 log ps) i) = true ↔
  ((gF 0 log ps).getD i 0 = (sy : Int) /\ ∃ j, j <= log /\ (s + 2 ^ log) / 2 ^ j = (cW ps[sy]).toNat + ((gF 0 log ps).take i).count (sy : Int)) := by
 have L := vF hm 0
 obtain ⟨s', hs', hg, hp1, hp2, hk, hc⟩ := XG hm L hi
 generalize hS : gF 0 log ps = S at *
 obtain ⟨k, hkk⟩ : ∃ k, k = kAt ps S i := ⟨_, rfl⟩
 rw [<- hkk] at hk
 have hk2 : k < 2 ^ (log + 1) := by rw [aH8]; omega
 obtain ⟨e1, e2, e3, e4⟩ := amR (log := log) (k := k) (by omega) hk2
 unfold inE Gw Dj
 rw [hg, <- hkk]
 simp only [decide_eq_true_eq, aHH]
 have hpow : ((2 ^ log : Nat) : Int) = (2 : Int) ^ log := by simp
 have hpow2 : ((2 ^ (log + 1 - bl k) : Nat) : Int) = (2 : Int) ^ (log + 1 - bl k) := by simp
 rw [<- hpow, <- hpow2]
 have hx1 : 2 ^ log <= s + 2 ^ log := by omega
 have hx2 : s + 2 ^ log < 2 ^ (log + 1) := by rw [aH8]; omega
 have hki := aGY hx1 hx2 (k := k) (by omega) hk2
 constructor
 .rintro ⟨a, b, c⟩
  have hss : s' = sy := by omega
  subst hss
  refine ⟨rfl, ?_⟩
  rw [<- hk]
  refine hki.1 ⟨by omega, ?_⟩
  rw [aJM]; omega
 .rintro ⟨a, j, hj, hje⟩
  have hss : s' = sy := by omega
  subst hss
  rw [<- hk] at hje
  obtain ⟨b, c⟩ := hki.2 ⟨j, hj, hje⟩
  rw [aJM] at c
  exact ⟨rfl, by omega, by omega⟩
theorem aE7 {log : Nat} {ps : List Int} (hm : Sk log ps) {sy s : Nat} (hsy : sy < ps.length) (hp : ps[sy] ≠ 0) (hs : s < 2 ^ log) :
 ∃ i, ∃ hi : i < 2 ^ log, inE (sy : Int) s (Gw log ps (gF 0 log ps) i) = true /\ ∀ j, j < 2 ^ log -> inE (sy : Int) s (Gw log ps (gF 0 log ps) j) = true -> j = i := by
 have L := vF hm 0
 have hl := hm.low _ (aH1 hsy)
 have hq1 : 1 <= (cW ps[sy]).toNat := by unfold cW; split <;> omega
 have hq2 := W4 hm hsy
 have hcnt := L.cnt sy hsy
 obtain ⟨j, hj, a, b⟩ := aHm (log := log) (x := s + 2 ^ log) (q := (cW ps[sy]).toNat) (by omega) (by rw [aH8]; omega) hq1 hq2
 have hfind := aEx (S := gF 0 log ps) (v := (sy : Int)) (2 ^ log) ((s + 2 ^ log) / 2 ^ j - (cW ps[sy]).toNat) (by
  rw [aIe (by rw [L.len]; exact aHS _), hcnt]; omega)
 obtain ⟨i, h1, h2, h3, h4⟩ := hfind
 have hgd : ∀ {i} (h : i < (gF 0 log ps).length), (gF 0 log ps).getD i 0 = (gF 0 log ps)[i] := fun h => by rw [aHX, aHQ h] <;> rfl
 refine ⟨i, h2, (aAI hm hsy h2 hs).2 ⟨by rw [hgd h1, h3], j, hj, by rw [h4]; omega⟩, fun i' hi' h => ?_⟩
 obtain ⟨g, j', hj', e⟩ := (aAI hm hsy hi' hs).1 h
 have hi'l : i' < (gF 0 log ps).length := by rw [L.len]; exact hi'
 rw [hgd hi'l] at g
 have hclt := V6 hi'l
 rw [g, hcnt] at hclt
 have := aGK (x := s + 2 ^ log) (q := (cW ps[sy]).toNat) (i := j) (j := j') a b (by omega) (by omega)
 have hceq : ((gF 0 log ps).take i').count (sy : Int) = ((gF 0 log ps).take i).count (sy : Int) := by omega
 rcases aJg i' i with h | h | h
 .have := aC9 hi'l g h; omega
 .exact h
 .have := aC9 h1 h3 h; omega
end Go.Pu
namespace Go.Proofs.YtaggdjhhmbnhoaaDoor
open Go Go.En Go.Pu
set_option maxRecDepth 4000
theorem Tbl.ext {w w' : aJ2} {base b log : Nat} {L : List T3} {v : aJ3} {M : Nat -> Prop} (h : Tbl w base b log L v) (hx : aS w w' M) (hM : ¬ M b) : Tbl w' base b log L v := ⟨h.1, h.2.1, h.2.2.ext hx hM⟩
theorem atQ {k : IntKind} {L : List T3} {i : Nat} (h : i < L.length) : ((fe k L).drop (i * 3)).take 3 = [.int k L[i].1, .int .i64 L[i].2.1, .int .i64 L[i].2.2] := by
 obtain ⟨h0, h1, h2⟩ := adP k L i h
 apply aJR
 intro j
 match j with
 | 0 => rw [aIl (by omega), aIV]; exact h0
 | 1 => rw [aIl (by omega), aIV]; exact h1
 | 2 => rw [aIl (by omega), aIV]; exact h2
 | j + 3 => rw [aH3 (by rw [aHZ]; omega), aH3 (by simp)]
theorem WM (log : Nat) (ps : List Int) {i : Nat} (h : i < 2 ^ log) : ((kD log ps)[i]'(by rw [jC]; exact h)).1 = (gF 0 log ps).getD i 0 := by
 unfold kD Gw Dj; simp
theorem aoG {log : Nat} {ps : List Int} (hm : Sk log ps) {s : Nat} (hs : s < ps.length) (hp : ps[s] ≠ 0) : ∃ i, ∃ h : i < (kD log ps).length, ((kD log ps)[i]'h).1 = (s : Int) := by
 have L := vF hm 0
 have hc := L.cnt s hs
 have hl := hm.low _ (aH1 hs)
 have hpos : 0 < (gF 0 log ps).count (s : Int) := by rw [hc]; unfold cW; split <;> omega
 obtain ⟨i, hi, e⟩ := aIf (List.count_pos_iff.1 hpos)
 have hi2 : i < 2 ^ log := by rw [<- L.len]; exact hi
 refine ⟨i, by rw [jC]; exact hi2, ?_⟩
 rw [WM log ps hi2, aHX, aHQ hi, e] <;> rfl
def cn (S : List Int) (i : Nat) : List Int := (List.range 256).map fun (s : Nat) => (((S.take i).count (s : Int) : Nat) : Int)
theorem acA (S : List Int) (i : Nat) : (cn S i).length = 256 := by simp [cn]
theorem aE6 (S : List Int) : cn S 0 = List.replicate 256 0 := by
 unfold cn
 apply aIG
 .simp
 .intro i h1 h2
  simp only [aIm, aIC, aHO, List.count_nil, aJT]; rfl
theorem aAy {S : List Int} {i s : Nat} (h : s < 256) : (cn S i)[s]'(by rw [acA]; exact h) = (((S.take i).count (s : Int) : Nat) : Int) := by simp [cn]
theorem aFX {S : List Int} {i s : Nat} (hi : i < S.length) (hs : s < 256) (e : S[i] = (s : Int)) : (cn S i).set s ((((S.take i).count (s : Int) : Nat) : Int) + 1) = cn S (i + 1) := by
 apply aIG
 .simp [cn]
 .intro j h1 h2
  have hj : j < 256 := by simpa [cn] using h2
  rw [aJF, aAy hj, aAy hj, aIr, aHQ hi, aIR]
  simp only [Option.toList, e, aJr]
  by_cases hij : s = j
  .subst hij; simp
  .have : ((s : Int) == (j : Int)) = false := by simp; omega
   rw [if_neg hij, this]; simp
theorem Qd {k : IntKind} {L : List T3} {i : Nat} {e : T3} (h : L[i]? = some e) : (fe k L)[i * 3]? = some (.int k e.1) /\ (fe k L)[i * 3 + 1]? = some (.int .i64 e.2.1) /\ (fe k L)[i * 3 + 2]? = some (.int .i64 e.2.2) := by
 have hi : i < L.length := by
  rcases aH6 i L.length with h' | h'
  .exact h'
  .rw [aH3 h'] at h; cases h
 rw [aHQ hi] at h
 have := adP k L i hi
 rw [aH2 h] at this
 exact this
def Low (L : List T3) : Prop := ∀ e ∈ L, ∃ n : Nat, e.2.1 = (n : Int) /\ n <= 20 /\ 0 <= e.2.2 /\ e.2.2 <= 100000
theorem azL {log : Nat} {ps : List Int} (hm : Sk log ps) : Low (kD log ps) := by
 intro e he
 obtain ⟨i, hi', rfl⟩ := aIf he
 have hi := hi'
 rw [jC] at hi
 have hat := ahB (ps := ps) hi
 rw [aHQ hi'] at hat
 rw [aH2 hat]
 have L := vF hm 0
 obtain ⟨s, hs, hg, hp1, hp2, hk, hc⟩ := XG hm L hi
 have hk2 : kAt ps (gF 0 log ps) i < 2 ^ (log + 1) := by rw [aH8]; omega
 obtain ⟨e1, e2, e3, e4⟩ := amR (log := log) (k := kAt ps (gF 0 log ps) i) (by omega) hk2
 have h15 := hm.log15
 have hb : 2 ^ (log + 1) <= 2 ^ 16 := aHT (by omega) (by omega)
 have hpow : ((2 ^ log : Nat) : Int) = (2 : Int) ^ log := by simp
 unfold Gw Dj
 rw [<- hpow]
 rw [aJM] at e2
 have hA := aIM (aIM (Nat.le_add_right _ _) e2) hb
 generalize hX : kAt ps (gF 0 log ps) i * 2 ^ (log + 1 - bl (kAt ps (gF 0 log ps) i)) = X at *
 refine ⟨_, rfl, by omega, ?_, ?_⟩
 .show (0 : Int) <= (X : Int) - ((2 ^ log : Nat) : Int)
  omega
 .show (X : Int) - ((2 ^ log : Nat) : Int) <= 100000
  omega
theorem aAN (s : Int) (w : aJ2) : aR pg Fo #[.int .u8 s] w (fun r w' => ∃ b, Tbl w' w.heap.size b 0 [(s, 0, 0)] r /\ aS w w' cM) := by
 refine auF ?_
 unfold aBa WS
 refine iP fun w1 o1 x1 s1 => ?_
 simp (disch := omega) only [aC, JC, aA]
 refine akJ (cells := #[.int .u8 s, .int .i64 0, .int .i64 0]) (by decide) (by decide) (by kernel_rfl) fun w2 o2 x2 s2 => ?_
 simp (disch := omega) only [KS, aA]
 have l1 := o1.lt
 refine eJ (o1.ext x2 (fun h => h)) rfl (by simp [one]) (by simp) fun w3 o3 x3 s3 => ?_
 refine qE o3 (by simp [aV]) ?_
 simp only [aV, aHL, aHN, aHM, aHG, aHO]
 exact ⟨w1.heap.size, ⟨rfl, by omega, o2.ext x3 (by omega)⟩, (x1.seq x2).new x3 (aHS _)⟩
abbrev aqF (w : aJ2) (g : Nat) (zs : List Int) : Prop := ∀ i (h : i < zs.length), w.cell? ⟨g, i, none⟩ = some (.int .i64 zs[i])
theorem aqF.ext {w w' : aJ2} {g : Nat} {zs : List Int} {M : Nat -> Prop} (h : aqF w g zs) (x : aS w w' M) (hM : ¬ M g) : aqF w' g zs := fun i hi => by
 have hc := h i hi
 have hg : g < w.heap.size := by
  rcases aH6 g w.heap.size with h | h
  .exact h
  .unfold World.cell? at hc
   rw [aJw h] at hc
   cases hc
 rw [<- hc]
 unfold World.cell?
 rw [x.keep g hg hM]
theorem aqF.ld {w : aJ2} {g : Nat} {zs : List Int} (h : aqF w g zs) : ∀ j, j < (zs.map (Value.int .i64)).length -> w.cell? ⟨g, 0 + j, none⟩ = (zs.map (Value.int .i64))[j]? := fun j hj => by
 rw [aHU] at hj
 rw [aHI, h j hj, aH9, aHQ hj] <;> rfl
theorem TS (zs : List Int) (i : Nat) (h : i < zs.length) : zs.getD i 0 = zs[i] := by
 rw [aHX, aHQ h] <;> rfl
theorem aAi (xs cs : List aJ3) (h : cs.length = xs.length) : aV cs 0 xs = xs := by
 have := OA xs [] cs (by omega)
 rw [aIv, aIQ (by omega), aIy, aIv] at this
 exact this
theorem Tt {w : aJ2} {b n : Nat} {zs : List Int} (o : cJ w b (zs.map (Value.int .i64))) (h : zs.length = n) : Sl w (.slice (some ⟨b, 0, none⟩) n n) (zs.map (Value.int .i64)) := by
 refine ⟨_, _, _, rfl, by rw [aHU, h], aHS _, fun _ => ⟨_, _, rfl, fun i hi => ?_⟩⟩
 rw [o.cell, aHI]
theorem Ln (zs : List Int) (n : Nat) (hz : zs.length = n) (cs : List aJ3) (h : cs.length = n) : aV cs 0 (zs.map (Value.int .i64)) = zs.map (Value.int .i64) := aAi _ cs (by rw [h, aHU, hz])
theorem T8 (zs : List Int) : ∀ x ∈ (zs.map (Value.int .i64)).toArray.toList, one x = true := fun x hx => by
 rw [aI9] at hx
 obtain ⟨z, _, rfl⟩ := aIx.1 hx
 rfl
def zCL : List Int := [1, 1, 1, 1, 2, 2, 3, 3, 4, 6, 7, 8, 9, 10, 11, 12, 13, 14, 15, 16]
def zCM : List Int := [1, 1, 1, 1, 2, 2, 3, 3, 4, 4, 5, 7, 8, 9, 10, 11, 12, 13, 14, 15, 16]
def zTL : List Int := [4, 3, 2, 2, 2, 2, 2, 2, 2, 2, 2, 2, 2, 1, 1, 1, 2, 2, 2, 2, 2, 2, 2, 2, 2, 3, 2, 1, 1, 1, 1, 1, -1, -1, -1, -1]
def zTO : List Int := [1, 1, 1, 1, 1, 1, 2, 2, 2, 1, 1, 1, 1, 1, 1, 1, 1, 1, 1, 1, 1, 1, 1, 1, -1, -1, -1, -1, -1]
def zTM : List Int := [1, 4, 3, 2, 2, 2, 2, 2, 2, 1, 1, 1, 1, 1, 1, 1, 1, 1, 1, 1, 1, 1, 1, 1, 1, 1, 1, 1, 1, 1, 1, 1, 1, 1, 1, 1, 1, 1, 1, 1, 1, 1, 1, 1, 1, 1, -1, -1, -1, -1, -1, -1, -1]
structure tR (w : aJ2) : Prop where
 cl : aqF w 3 zCL
 cm : aqF w 4 zCM
 tl : aqF w 0 zTL
 to : aqF w 1 zTO
 tm : aqF w 2 zTM
theorem tR.ext {w w' : aJ2} (h : tR w) (x : aS w w' cM) : tR w' :=
 ⟨h.cl.ext x (fun h => h), h.cm.ext x (fun h => h), h.tl.ext x (fun h => h), h.to.ext x (fun h => h), h.tm.ext x (fun h => h)⟩
def avW (a : Int) : Int := if a = 0 then 16 else if a = 2 then 32 else 0
def aGc (a : Int) : Int := if a = 2 then 3 else 0
def aqD (a : Int) : List Int := if a = 0 then zCL else if a = 2 then zCM else []
def mW (a : Int) : Int := if a = 0 then 35 else if a = 1 then 31 else if a = 2 then 52 else -1
theorem aEf {a : Int} {w : aJ2} (hg : tR w) :
 aR pg Cp #[.int .i64 a] w (fun r w' => ∃ v, r = .tuple #[.int .i64 (avW a), .int .u32 (aGc a), v] /\ Sl w' v ((aqD a).map (Value.int .i64)) /\ aS w w' cM) := by
 refine apE ?_
 unfold asG Qr avW aGc aqD
 by_cases h0 : a = 0
 .subst h0
  have n1 : ((0 : Int) == 0) = true := rfl
  have l1 := auO (b := 3) (off := 0) (l := zCL.map (Value.int .i64)) rfl hg.cl.ld
  simp (disch := omega) only [aC, cR, n1, if_true, true_and, aA, l1, aF]
  refine avS fun w2 o2 x2 s2 => ?_
  refine atH o2 rfl (T8 _) (by simp) fun w3 o3 x3 s3 => ?_
  have o3 : cJ w3 w.heap.size (zCL.map (Value.int .i64)) := by
   rw [aI9, Ln zCL 20 rfl] at o3
   .exact o3
   .rfl
  have x13 : aS w w3 cM := x2.new x3 (by omega)
  have hsh : uX ⟨w.heap.size, 0, none⟩ 20 0 1 = ⟨w.heap.size, 0, none⟩ := EB (by decide)
  simp (disch := omega) only [Ik, hsh, aA, true_and]
  exact ⟨_, rfl, Tt (dN o3) rfl, x13.seq (aS.dr _ _)⟩
 .rw [if_neg h0, if_neg h0]
  have n1 : (a == 0) = false := beq_eq_false_iff_ne.2 h0
  by_cases h2 : a = 2
  .subst h2
   have n2 : ((2 : Int) == 2) = true := rfl
   have l1 := atA (b := 4) (off := 0) (l := zCM.map (Value.int .i64)) rfl hg.cm.ld
   simp (disch := omega) only [aC, cR, n1, if_true, true_and, n2, aA, aF, l1, aE]
   refine avN fun w2 o2 x2 s2 => ?_
   refine auE o2 rfl (T8 _) (by simp) fun w3 o3 x3 s3 => ?_
   have o3 : cJ w3 w.heap.size (zCM.map (Value.int .i64)) := by
    rw [aI9, Ln zCM 21 rfl] at o3
    .exact o3
    .rfl
   have x13 : aS w w3 cM := x2.new x3 (by omega)
   have hsh : uX ⟨w.heap.size, 0, none⟩ 21 0 1 = ⟨w.heap.size, 0, none⟩ := EB (by decide)
   simp (disch := omega) only [HI, hsh, aA, true_and]
   exact ⟨_, rfl, Tt (dN o3) rfl, x13.seq (aS.dr _ _)⟩
  .rw [if_neg h2, if_neg h2, if_neg h2]
   have n2 : (a == 2) = false := beq_eq_false_iff_ne.2 h2
   simp (disch := omega) only [aC, cR, n1, true_and, n2, aA, aE]
   exact ⟨_, rfl, Sl.nil _, aS.refl _ _⟩
theorem atU {a : Int} {w : aJ2} (hg : tR w) :
 aR pg vW #[.int .i64 a] w (fun r w' => r = .int .i64 (mW a) /\ aS w w' cM) := by
 refine ajR ?_
 unfold anJ NT
 by_cases h1 : a = 1
 .subst h1
  have n1 : ((1 : Int) == 1) = true := rfl
  simp (disch := omega) only [aC, cR, n1, aA, aF]
  exact ⟨rfl, aS.refl _ _⟩
 have n1 : (a == 1) = false := beq_eq_false_iff_ne.2 h1
 simp (disch := omega) only [aC, cR, n1, aA, aE]
 refine (aEf hg).mono ?_
 rintro r w1 ⟨v, rfl, hs, x1⟩
 obtain ⟨av, cv, rfl, _⟩ := hs.lenI
 have e : avW a + ((aqD a).length : Int) - 1 = mW a /\ -10 <= avW a /\ avW a <= 100 /\ (aqD a).length <= 100 := by
  unfold avW aqD mW
  by_cases h0 : a = 0
  .subst h0; exact ⟨rfl, by decide, by decide, by decide⟩
  .by_cases h2 : a = 2
   .subst h2; exact ⟨rfl, by decide, by decide, by decide⟩
   .simp [h0, h1, h2]
 obtain ⟨e1, e2, e3, e4⟩ := e
 generalize avW a = p at *
 generalize (aqD a).length = q at *
 simp (disch := omega) only [RQ, Sd, RN, aA, eB, bM, aT, eA, e1, true_and]
 exact x1
end Go.Proofs.YtaggdjhhmbnhoaaDoor
namespace Go.Pu
open Go Go.En
structure agF (B : List Bool) (l : List UInt8) : Prop where
 len : l.length = (B.length + 7) / 8
 bits : bE l = B ++ List.replicate (8 * l.length - B.length) false
theorem avQ : agF [] [] := ⟨rfl, rfl⟩
theorem azS : O9 0 = List.replicate 8 false := by decide
theorem arI {B : List Bool} {l : List UInt8} (h : agF B l) (h8 : B.length % 8 = 0) : bE (l ++ [0]) = B ++ List.replicate (8 * (l.length + 1) - B.length) false /\ (l ++ [(0 : UInt8)]).length = (B.length + 1 + 7) / 8 := by
 have hl := h.len
 refine ⟨?_, by rw [aHR, aI3]; omega⟩
 rw [IX, h.bits, bE, bE, azS, aIy, aHV]
 congr 1
 rw [show 8 * l.length - B.length = 0 from by omega, show 8 * (l.length + 1) - B.length = 8 from by omega]
 rfl
theorem aC3 (c : UInt8) (r : Nat) (hr : r < 8) (y : Bool) (h : c.toNat.testBit r = false) : O9 (UInt8.ofNat (c.toNat + 2 ^ r * y.toNat)) = (O9 c).set r y /\ c.toNat + 2 ^ r * y.toNat < 256 /\ c.toNat ||| (y.toNat * 2 ^ r) = c.toNat + 2 ^ r * y.toNat := by
 have key : ∀ (c : Fin 256) (r : Fin 8) (y : Bool), c.val.testBit r.val = false -> O9 (UInt8.ofNat (c.val + 2 ^ r.val * y.toNat)) = (O9 (UInt8.ofNat c.val)).set r.val y /\ c.val + 2 ^ r.val * y.toNat < 256 /\ c.val ||| (y.toNat * 2 ^ r.val) = c.val + 2 ^ r.val * y.toNat := by decide +kernel
 have := key ⟨c.toNat, aIc c⟩ ⟨r, hr⟩ y h
 simpa using this
theorem arM : ∀ (l : List UInt8) (i r : Nat) (c : UInt8) (y : Bool) (hi : i < l.length), r < 8 -> O9 c = (O9 l[i]).set r y -> bE (l.set i c) = (bE l).set (8 * i + r) y
 | [], i, r, c, y, hi, hr, h => by simp at hi
 | x :: l, 0, r, c, y, hi, hr, h => by
   rw [aHL, bE, bE, h, aJf _ _ (by rw [uY]; omega)]
   simp
 | x :: l, i + 1, r, c, y, hi, hr, h => by
   rw [aHN, bE, bE, aJm _ _ (by rw [uY]; omega), uY, arM l i r c y (by simpa using hi) hr (by simpa using h)]
   congr 2
   omega
theorem axW {B : List Bool} {l : List UInt8} {y : Bool} (hb : bE l = B ++ List.replicate (8 * l.length - B.length) false) (hl : l.length = (B.length + 1 + 7) / 8) :
 ∃ hi : B.length / 8 < l.length, agF (B ++ [y]) (l.set (B.length / 8) (UInt8.ofNat ((l[B.length / 8]'hi).toNat + 2 ^ (B.length % 8) * y.toNat))) /\
   (l[B.length / 8]'hi).toNat + 2 ^ (B.length % 8) * y.toNat < 256 /\ (l[B.length / 8]'hi).toNat ||| (y.toNat * 2 ^ (B.length % 8)) = (l[B.length / 8]'hi).toNat + 2 ^ (B.length % 8) * y.toNat := by
 have hi : B.length / 8 < l.length := by omega
 have hbit := Jj l B.length (by omega)
 rw [hb, aIn (aHS _), aJk, aJt, if_pos (by omega)] at hbit
 have hbit := (aH2 hbit).symm
 obtain ⟨h1, h2, h3⟩ := aC3 _ (B.length % 8) (by omega) y hbit
 refine ⟨hi, ⟨?_, ?_⟩, h2, h3⟩
 .rw [aJv, aHR, aI3]; exact hl
 .rw [arM l _ (B.length % 8) _ y hi (by omega) h1, hb, show 8 * (B.length / 8) + B.length % 8 = B.length from by omega, aJm _ _ (aHS _), aJk, aJv, aHR, aI3, aHV]
  congr 1
  rw [show 8 * l.length - B.length = (8 * l.length - (B.length + 1)) + 1 from by omega, aIH, aHL]
  rfl
theorem aD2 {B : List Bool} {l : List UInt8} (h : agF (B ++ [true]) l) : YK l = some B.length /\ (bE l).take B.length = B := by
 have hl := h.len
 have hb := h.bits
 rw [aHR, aI3] at hl hb
 have h0 : 0 < l.length := by omega
 have htop : (bE l)[B.length]? = some true := by
  rw [hb, aHV, aIn (aHS _), aJk] <;> rfl
 have hoff : ∀ j, B.length < j -> j < 8 * l.length -> (bE l)[j]? = some false := by
  intro j h1 h2
  rw [hb, aHV, aIn (by omega), List.singleton_append, List.getElem?_cons, if_neg (by omega), aJt, if_pos (by omega)]
 refine ⟨?_, by rw [hb, aHV, List.take_left'] <;> rfl⟩
 cases he : YK l with
 | none =>
   rw [Jm h0] at he
   split at he
   .rename_i hz
    rw [Jj l _ (by omega)] at htop
    have e : B.length / 8 = l.length - 1 := by omega
    simp only [e, hz] at htop
    simp at htop
   .cases he
 | some k =>
   obtain ⟨_, h1, _, h2, h3⟩ := Pp he
   rcases aJg k B.length with h | h | h
   .rw [h3 _ h (by omega)] at htop; simp at htop
   .rw [h]
   .rw [hoff _ h h1] at h2; simp at h2
theorem awV {x n : Nat} (h : x < 2 ^ n) : tD (gD x n) = x := by rw [anA, aIg h]
theorem azW {B : List Bool} {x n : Nat} (h : x < 2 ^ n) : tB (B ++ gD x n) n = x := by
 unfold tB
 rw [aHR, dH, show min n (B.length + n) = n from by omega, aJk, aID, aJQ, awV h]; simp
def rO (k : Nat) : List Nat := if k = 0 then [0, 1, 2, 3, 4, 5, 6, 7, 8, 9, 10, 11, 12, 13, 14, 15, 16, 18, 20, 22, 24, 28, 32, 40, 48, 64, 128, 256, 512, 1024, 2048, 4096, 8192, 16384, 32768, 65536]
 else if k = 1 then [1, 2, 4, 8, 16, 32, 64, 128, 256, 512, 1024, 2048, 4096, 8192, 16384, 32768, 65536, 131072, 262144, 524288, 1048576, 2097152, 4194304, 8388608, 16777216, 33554432, 67108864, 134217728, 268435456, 536870912, 1073741824, 2147483648]
 else [3, 4, 5, 6, 7, 8, 9, 10, 11, 12, 13, 14, 15, 16, 17, 18, 19, 20, 21, 22, 23, 24, 25, 26, 27, 28, 29, 30, 31, 32, 33, 34, 35, 37, 39, 41, 43, 47, 51, 59, 67, 83, 99, 131, 259, 515, 1027, 2051, 4099, 8195, 16387, 32771, 65539]
def kQ (k : Nat) : List Nat := if k = 0 then [0, 0, 0, 0, 0, 0, 0, 0, 0, 0, 0, 0, 0, 0, 0, 0, 1, 1, 1, 1, 2, 2, 3, 3, 4, 6, 7, 8, 9, 10, 11, 12, 13, 14, 15, 16]
 else if k = 1 then List.range 32
 else [0, 0, 0, 0, 0, 0, 0, 0, 0, 0, 0, 0, 0, 0, 0, 0, 0, 0, 0, 0, 0, 0, 0, 0, 0, 0, 0, 0, 0, 0, 0, 0, 1, 1, 1, 1, 2, 2, 3, 3, 4, 4, 5, 7, 8, 9, 10, 11, 12, 13, 14, 15, 16]
abbrev lC (k : Nat) : Nat := (rO k).length
theorem aDj {k : Nat} (h : k < 3) : (kQ k).length = lC k := by
 rcases (show k = 0 ∨ k = 1 ∨ k = 2 by omega) with rfl | rfl | rfl <;> rfl
theorem arP {k : Nat} (h : k < 3) (c : Nat) (hc : c + 1 < lC k) : (rO k).getD (c + 1) 0 = (rO k).getD c 0 + 2 ^ (kQ k).getD c 0 := by
 have h0 : ∀ c, c < 53 -> c + 1 < lC 0 -> (rO 0).getD (c + 1) 0 = (rO 0).getD c 0 + 2 ^ (kQ 0).getD c 0 := by decide +kernel
 have h1 : ∀ c, c < 53 -> c + 1 < lC 1 -> (rO 1).getD (c + 1) 0 = (rO 1).getD c 0 + 2 ^ (kQ 1).getD c 0 := by decide +kernel
 have h2 : ∀ c, c < 53 -> c + 1 < lC 2 -> (rO 2).getD (c + 1) 0 = (rO 2).getD c 0 + 2 ^ (kQ 2).getD c 0 := by decide +kernel
 have hl : lC k <= 53 := by rcases (show k = 0 ∨ k = 1 ∨ k = 2 by omega) with rfl | rfl | rfl <;> decide
 rcases (show k = 0 ∨ k = 1 ∨ k = 2 by omega) with rfl | rfl | rfl
 .exact h0 c (by omega) hc
 .exact h1 c (by omega) hc
 .exact h2 c (by omega) hc
theorem ZF {k : Nat} (h : k < 3) (c : Nat) : (kQ k).getD c 0 <= 31 := by
 have : ∀ x ∈ kQ k, x <= 31 := by
  rcases (show k = 0 ∨ k = 1 ∨ k = 2 by omega) with rfl | rfl | rfl <;> decide
 rw [aHX]
 cases hc : (kQ k)[c]? with
 | none => simp
 | some x => simpa using this x (aIX hc)
theorem aES {k : Nat} (h : k < 3) (c : Nat) (hc : c < lC k) : (rO k).getD c 0 + 2 ^ (kQ k).getD c 0 <= 4294967296 := by
 have h0 : ∀ c, c < 53 -> c < lC 0 -> (rO 0).getD c 0 + 2 ^ (kQ 0).getD c 0 <= 4294967296 := by decide +kernel
 have h1 : ∀ c, c < 53 -> c < lC 1 -> (rO 1).getD c 0 + 2 ^ (kQ 1).getD c 0 <= 4294967296 := by decide +kernel
 have h2 : ∀ c, c < 53 -> c < lC 2 -> (rO 2).getD c 0 + 2 ^ (kQ 2).getD c 0 <= 4294967296 := by decide +kernel
 have hl : lC k <= 53 := by rcases (show k = 0 ∨ k = 1 ∨ k = 2 by omega) with rfl | rfl | rfl <;> decide
 rcases (show k = 0 ∨ k = 1 ∨ k = 2 by omega) with rfl | rfl | rfl
 .exact h0 c (by omega) hc
 .exact h1 c (by omega) hc
 .exact h2 c (by omega) hc
def uK (k v c : Nat) : Prop := c < lC k /\ (rO k).getD c 0 <= v /\ v < (rO k).getD c 0 + 2 ^ (kQ k).getD c 0
theorem PS {k : Nat} (h : k < 3) : ∀ {c d : Nat}, c < d -> d < lC k -> (rO k).getD c 0 + 2 ^ (kQ k).getD c 0 <= (rO k).getD d 0
 | c, d + 1, hcd, hd => by
   have e := arP h d (by omega)
   rcases aH6 c d with h' | h'
   .have := PS h h' (by omega)
    have := aIj ((kQ k).getD d 0)
    omega
   .have : c = d := by omega
    subst this; omega
theorem uK.one {k v c d : Nat} (hk : k < 3) (hc : uK k v c) (hd : uK k v d) : c = d := by
 rcases aJg c d with h | h | h
 .have := PS hk h hd.1; have := hc.2.2; have := hd.2.1; omega
 .exact h
 .have := PS hk h hc.1; have := hd.2.2; have := hc.2.1; omega
theorem uK.lt {k v c : Nat} (hk : k < 3) (hc : uK k v c) : v < 4294967296 := by
 have := aES hk c hc.1; have := hc.2.2; omega
structure Sq where
 ll : Nat
 ml : Nat
 of : Nat
deriving DecidableEq
def sAt (L : List (Int × Int × Int)) (s : Int) : Nat := if 0 <= s then (match L[s.toNat]? with | some e => e.1.toNat | none => 0) else 0
def bAt (L : List (Int × Int × Int)) (s : Int) : Nat := if 0 <= s then (match L[s.toNat]? with | some e => e.2.1.toNat | none => 0) else 0
def nAt (L : List (Int × Int × Int)) (s : Int) (x : Nat) : Int := if 0 <= s then (match L[s.toNat]? with | some e => e.2.2 + x | none => 0) else 0
def rdL (B : List Bool) (left : Int) (n : Nat) : Nat := tB (B.take left.toNat) n
def vR (k : Nat) (L : List (Int × Int × Int)) (s : Int) (B : List Bool) (left : Int) : Nat × Int :=
 ((rO k).getD (sAt L s) 0 + rdL B left ((kQ k).getD (sAt L s) 0), left - (kQ k).getD (sAt L s) 0)
def nR (L : List (Int × Int × Int)) (s : Int) (B : List Bool) (left : Int) : Int × Int := (nAt L s (rdL B left (bAt L s)), left - bAt L s)
def sqR (L0 L1 L2 : List (Int × Int × Int)) (B : List Bool) : Nat -> Int -> Int -> Int -> Int -> List Sq × Int
 | 0, _, _, _, left => ([], left)
 | n + 1, s0, s1, s2, left =>
   let o := vR 1 L1 s1 B left
   let m := vR 2 L2 s2 B o.2
   let l := vR 0 L0 s0 B m.2
   if n = 0 then ([⟨l.1, m.1, o.1⟩], l.2)
   else
    let a := nR L0 s0 B l.2
    let c := nR L2 s2 B a.2
    let b := nR L1 s1 B c.2
    let r := sqR L0 L1 L2 B n a.1 b.1 c.1 b.2
    (⟨l.1, m.1, o.1⟩ :: r.1, r.2)
def ValB (k : Nat) (L : List (Int × Int × Int)) (s v : Nat) (u : List Bool) : Prop :=
 ∃ (c : Nat) (e : Int × Int × Int), uK k v c /\ L[s]? = some e /\ e.1 = c /\ u = gD (v - (rO k).getD c 0) ((kQ k).getD c 0)
def StB (L : List (Int × Int × Int)) (s t : Nat) (u : List Bool) : Prop :=
 ∃ (e : Int × Int × Int) (n x : Nat), L[s]? = some e /\ e.2.1 = n /\ x < 2 ^ n /\ e.2.2 + (x : Int) = (t : Int) /\ u = gD x n
inductive Enc (L0 L1 L2 : List (Int × Int × Int)) : List Sq -> Nat -> Nat -> Nat -> List Bool -> Prop
 | one {q : Sq} {s0 s1 s2 : Nat} {v0 v1 v2 : List Bool} : ValB 0 L0 s0 q.ll v0 -> ValB 1 L1 s1 q.of v1 -> ValB 2 L2 s2 q.ml v2 -> Enc L0 L1 L2 [q] s0 s1 s2 (v0 ++ v2 ++ v1)
 | cons {q p : Sq} {r : List Sq} {s0 s1 s2 t0 t1 t2 : Nat} {B u0 u1 u2 v0 v1 v2 : List Bool} : Enc L0 L1 L2 (p :: r) t0 t1 t2 B -> StB L1 s1 t1 u1 -> StB L2 s2 t2 u2 -> StB L0 s0 t0 u0 →
  ValB 0 L0 s0 q.ll v0 -> ValB 1 L1 s1 q.of v1 -> ValB 2 L2 s2 q.ml v2 -> Enc L0 L1 L2 (q :: p :: r) s0 s1 s2 (B ++ u1 ++ u2 ++ u0 ++ v0 ++ v2 ++ v1)
theorem apJ {T B X u : List Bool} {x n : Nat} (hT : T.take (X ++ u).length = X ++ u) (hu : u = gD x n) (hx : x < 2 ^ n) : rdL T ((X ++ u).length : Nat) n = x /\ (((X ++ u).length : Nat) : Int) - n = ((X.length : Nat) : Int) /\ T.take X.length = X := by
 subst hu
 have hl : (X ++ gD x n).length = X.length + n := by rw [aHR, dH]
 refine ⟨?_, by omega, ?_⟩
 .unfold rdL
  rw [aHH, hT, azW hx]
 .have := congrArg (List.take X.length) hT
  rw [List.take_take, aIA (by omega), List.take_append_of_le_length (aHS _), aIe (aHS _)] at this
  exact this
theorem aeF {T X u : List Bool} {k : Nat} {L : List (Int × Int × Int)} {s v : Nat} (h : ValB k L s v u) (hT : T.take (X ++ u).length = X ++ u) : vR k L s T ((X ++ u).length : Nat) = (v, ((X.length : Nat) : Int)) /\ T.take X.length = X := by
 obtain ⟨c, e, hc, he, hec, hu⟩ := h
 have hs : sAt L s = c := by unfold sAt; rw [if_pos (by omega)]; simp [he, hec]
 obtain ⟨h1, h2, h3⟩ := apJ (B := []) hT hu (by have := hc.2.2; have := hc.2.1; omega)
 refine ⟨?_, h3⟩
 unfold vR
 rw [hs, h1, h2]
 have := hc.2.1
 congr 1
 omega
theorem aAu {T X u : List Bool} {L : List (Int × Int × Int)} {s t : Nat} (h : StB L s t u) (hT : T.take (X ++ u).length = X ++ u) : nR L s T ((X ++ u).length : Nat) = ((t : Int), ((X.length : Nat) : Int)) /\ T.take X.length = X := by
 obtain ⟨e, n, x, he, hn, hx, ht, hu⟩ := h
 have hb : bAt L s = n := by unfold bAt; rw [if_pos (by omega)]; simp [he, hn]
 obtain ⟨h1, h2, h3⟩ := apJ (B := []) hT hu hx
 refine ⟨?_, h3⟩
 unfold nR
 rw [hb, h1, h2]
 congr 1
 unfold nAt
 rw [if_pos (by omega)]
 simp only [aHH, he]
 exact ht
theorem aEa {L0 L1 L2 : List (Int × Int × Int)} {T : List Bool} {qs : List Sq} {s0 s1 s2 : Nat} {B : List Bool} (h : Enc L0 L1 L2 qs s0 s1 s2 B) : T.take B.length = B -> sqR L0 L1 L2 T qs.length s0 s1 s2 (B.length : Nat) = (qs, 0) := by
 induction h with
 | @one q s0 s1 s2 v0 v1 v2 h0 h1 h2 =>
   intro hT
   obtain ⟨a1, a2⟩ := aeF h1 hT
   obtain ⟨b1, b2⟩ := aeF h2 a2
   have b2' : T.take ([] ++ v0).length = [] ++ v0 := by simpa using b2
   obtain ⟨c1, c2⟩ := aeF h0 b2'
   rw [aIv] at c1
   show sqR L0 L1 L2 T (0 + 1) s0 s1 s2 _ = _
   rw [sqR]
   simp only [a1, b1, c1, if_true]
   rfl
 | @cons q p r s0 s1 s2 t0 t1 t2 B u0 u1 u2 v0 v1 v2 he g1 g2 g0 h0 h1 h2 ih =>
   intro hT
   obtain ⟨a1, a2⟩ := aeF h1 hT
   obtain ⟨b1, b2⟩ := aeF h2 a2
   obtain ⟨c1, c2⟩ := aeF h0 b2
   obtain ⟨d1, d2⟩ := aAu g0 c2
   obtain ⟨e1, e2⟩ := aAu g2 d2
   obtain ⟨f1, f2⟩ := aAu g1 e2
   have ih := ih f2
   show sqR L0 L1 L2 T ((r.length + 1) + 1) s0 s1 s2 _ = _
   rw [sqR, if_neg (by omega)]
   simp only [a1, b1, c1, d1, e1, f1]
   rw [show r.length + 1 = (p :: r).length from rfl, ih]
def Ai (k : Nat) : Nat := if k = 0 then 16 else 32
def Aw (k : Nat) : Nat := if k = 2 then 3 else 0
theorem XE {k : Nat} (h : k = 0 ∨ k = 2) : Ai k < lC k /\ lC k <= 53 := by rcases h with rfl | rfl <;> decide
theorem atN {k : Nat} (h : k = 0 ∨ k = 2) {c : Nat} (hc : c < Ai k) : (rO k).getD c 0 = Aw k + c /\ (kQ k).getD c 0 = 0 := by
 have h0 : ∀ c, c < 32 -> c < Ai 0 -> (rO 0).getD c 0 = Aw 0 + c /\ (kQ 0).getD c 0 = 0 := by decide +kernel
 have h2 : ∀ c, c < 32 -> c < Ai 2 -> (rO 2).getD c 0 = Aw 2 + c /\ (kQ 2).getD c 0 = 0 := by decide +kernel
 have h32 : Ai k <= 32 := by rcases h with rfl | rfl <;> decide
 rcases h with rfl | rfl
 .exact h0 c (by omega) hc
 .exact h2 c (by omega) hc
theorem aFL {k : Nat} (h : k = 0 ∨ k = 2) : (rO k).getD (Ai k) 0 = Aw k + Ai k := by rcases h with rfl | rfl <;> decide
theorem aEU {c : Nat} (hc : c < 32) : (rO 1).getD c 0 = 2 ^ c /\ (kQ 1).getD c 0 = c := by
 have h0 : ∀ c, c < 32 -> (rO 1).getD c 0 = 2 ^ c /\ (kQ 1).getD c 0 = c := by decide +kernel
 exact h0 c hc
def eS (k : Nat) : Nat -> Nat
 | 0 => (rO k).getD (Ai k) 0
 | i + 1 => eS k i + 2 ^ ((kQ k).getD (Ai k + i) 0)
theorem arL {k : Nat} (h : k < 3) : ∀ i, Ai k + i < lC k -> eS k i = (rO k).getD (Ai k + i) 0
 | 0, _ => rfl
 | i + 1, hi => by
   rw [eS, arL h i (by omega), <- aI5, arP h _ (by omega)]
theorem aGU {k : Nat} (h : k = 0 ∨ k = 2) {c : Nat} (hc : c < lC k) : (rO k).getD c 0 + 2 ^ (kQ k).getD c 0 <= 131075 := by
 have h0 : ∀ c, c < 53 -> c < lC 0 -> (rO 0).getD c 0 + 2 ^ (kQ 0).getD c 0 <= 131075 := by decide +kernel
 have h2 : ∀ c, c < 53 -> c < lC 2 -> (rO 2).getD c 0 + 2 ^ (kQ 2).getD c 0 <= 131075 := by decide +kernel
 have := (XE h).2
 rcases h with rfl | rfl
 .exact h0 c (by omega) hc
 .exact h2 c (by omega) hc
theorem aGJ {k : Nat} (h : k = 0 ∨ k = 2) : ∀ {i : Nat}, Ai k + i <= lC k -> eS k i <= 131075
 | 0, _ => by rcases h with rfl | rfl <;> decide
 | i + 1, hi => by
   rw [eS, arL (by omega) i (by omega)]
   exact aGU h (by omega)
theorem aFo {k : Nat} (h : k = 0 ∨ k = 2) {c : Nat} (hc : c < lC k) : (kQ k).getD c 0 <= 16 := by
 have h0 : ∀ c, c < 53 -> c < lC 0 -> (kQ 0).getD c 0 <= 16 := by decide +kernel
 have h2 : ∀ c, c < 53 -> c < lC 2 -> (kQ 2).getD c 0 <= 16 := by decide +kernel
 have := (XE h).2
 rcases h with rfl | rfl
 .exact h0 c (by omega) hc
 .exact h2 c (by omega) hc
theorem azT {k v : Nat} (h : k = 0 ∨ k = 2) (hv : v < Aw k) (c : Nat) : ¬ uK k v c := by
 intro hc
 have h0 : (rO k).getD 0 0 = Aw k := (atN h (c := 0) (by unfold Ai; split <;> omega)).1
 rcases aIN c with rfl | h1
 .have := hc.2.1; omega
 .have := PS (show k < 3 by omega) h1 hc.1
  have := aIj ((kQ k).getD 0 0)
  have := hc.2.1; omega
theorem awI (c : Nat) : ¬ uK 1 0 c := by
 intro hc
 have h1 : c < 32 := hc.1
 have := (aEU h1).1
 have := aIj c
 have := hc.2.1
 omega
theorem awA {k v : Nat} (h : k = 0 ∨ k = 2) (hv : eS k (lC k - Ai k) <= v) (c : Nat) : ¬ uK k v c := by
 intro hc
 have hp := (XE h).1
 have h1 := hc.1
 obtain ⟨m, hm⟩ : ∃ m, lC k - Ai k = m + 1 := ⟨lC k - Ai k - 1, by omega⟩
 rw [hm, eS, arL (by omega) m (by omega), show Ai k + m = lC k - 1 by omega] at hv
 rcases aH6 c (lC k - 1) with h2 | h2
 .have := PS (show k < 3 by omega) h2 (by omega)
  have := aIj ((kQ k).getD (lC k - 1) 0)
  have := hc.2.2; omega
 .have : c = lC k - 1 := by omega
  subst this
  have := hc.2.2; omega
theorem axA {v : Nat} (h0 : 0 < v) (hv : v < 4294967296) : uK 1 v (bl v - 1) := by
 have h1 := Hx (k := v) (by omega)
 have h2 := Tx (k := v) (by omega)
 have h3 := V0 v
 have h4 : bl v <= 32 := rE (n := 32) hv
 have h5 := aEU (c := bl v - 1) (by omega)
 refine ⟨show bl v - 1 < 32 by omega, by rw [h5.1]; exact h2, ?_⟩
 rw [h5.1, h5.2, <- Nat.two_mul, aIO, <- aH8, show (bl v - 1).succ = bl v by omega]
 exact h3
theorem apY {k v : Nat} (h : k = 0 ∨ k = 2) (hl : Aw k <= v) (hv : v - Aw k < Ai k) : uK k v (v - Aw k) := by
 have hp := atN h hv
 have := (XE h).1
 exact ⟨by omega, by omega, by rw [hp.1, hp.2]; omega⟩
theorem arG {k v i : Nat} (h : k = 0 ∨ k = 2) (hi : Ai k + i < lC k) (hl : eS k i <= v) (hv : v < eS k i + 2 ^ ((kQ k).getD (Ai k + i) 0)) : uK k v (Ai k + i) := by
 rw [arL (by omega) i hi] at hl hv
 exact ⟨hi, hl, hv⟩
end Go.Pu

/- The engine: what each operation gives, over any program; what it asks of a type is a hypothesis. -/
import Derived.Test.YtoepfjgekpdddaaEnGen
namespace Go.En
open Go

section
variable {P : Program} {w : World} {t : TypeId} {ox oy : Operand} {k : IntKind} {a b : Int}

theorem runV (s : Sem Value) : (V s).run P w = (s.run P w).andThen fun v w => .ok (.value v) w := by
  unfold V; rw [Sem.run_bind]; rfl
theorem runU (s : Sem Unit) : (U s).run P w = (s.run P w).andThen fun _ w => .ok .skip w := by
  unfold U; rw [Sem.run_bind]; rfl

/- integers -/
theorem r_add : (sBin .add t ox oy (.int k a) (.int k b)).run P w = .ok (.value (.int k (k.wrap (a + b)))) w := by
  simp [sBin, isEq, runV, binOp, Op.intArith]
theorem r_sub : (sBin .sub t ox oy (.int k a) (.int k b)).run P w = .ok (.value (.int k (k.wrap (a - b)))) w := by
  simp [sBin, isEq, runV, binOp, Op.intArith]
theorem r_mul : (sBin .mul t ox oy (.int k a) (.int k b)).run P w = .ok (.value (.int k (k.wrap (a * b)))) w := by
  simp [sBin, isEq, runV, binOp, Op.intArith]
theorem r_quo (h : b ≠ 0) : (sBin .quo t ox oy (.int k a) (.int k b)).run P w = .ok (.value (.int k (k.wrap (a.tdiv b)))) w := by
  simp [sBin, isEq, runV, binOp, Op.intDiv, h]
theorem r_rem (h : b ≠ 0) : (sBin .rem t ox oy (.int k a) (.int k b)).run P w = .ok (.value (.int k (a.tmod b))) w := by
  simp [sBin, isEq, runV, binOp, Op.intDiv, h]
def andI (k : IntKind) (a b : Int) : Int := k.wrap (BitVec.ofInt k.bits a &&& BitVec.ofInt k.bits b).toNat
def orI (k : IntKind) (a b : Int) : Int := k.wrap (BitVec.ofInt k.bits a ||| BitVec.ofInt k.bits b).toNat
def xorI (k : IntKind) (a b : Int) : Int := k.wrap (BitVec.ofInt k.bits a ^^^ BitVec.ofInt k.bits b).toNat
def andNotI (k : IntKind) (a b : Int) : Int := k.wrap (BitVec.ofInt k.bits a &&& ~~~BitVec.ofInt k.bits b).toNat
theorem r_and : (sBin .and t ox oy (.int k a) (.int k b)).run P w = .ok (.value (.int k (andI k a b))) w := by
  simp [sBin, isEq, runV, binOp, Op.intBits, andI]
theorem r_or : (sBin .or t ox oy (.int k a) (.int k b)).run P w = .ok (.value (.int k (orI k a b))) w := by
  simp [sBin, isEq, runV, binOp, Op.intBits, orI]
theorem r_xor : (sBin .xor t ox oy (.int k a) (.int k b)).run P w = .ok (.value (.int k (xorI k a b))) w := by
  simp [sBin, isEq, runV, binOp, Op.intBits, xorI]
theorem r_andNot : (sBin .andNot t ox oy (.int k a) (.int k b)).run P w = .ok (.value (.int k (andNotI k a b))) w := by
  simp [sBin, isEq, runV, binOp, Op.intBits, andNotI]
theorem r_shl {k' : IntKind} (h : 0 ≤ b) : (sBin .shl t ox oy (.int k a) (.int k' b)).run P w = .ok (.value (.int k (k.wrap (a * 2 ^ (min b.toNat k.bits))))) w := by
  simp [sBin, isEq, runV, binOp, Op.shift, Int.not_lt.2 h]
theorem r_shr {k' : IntKind} (h : 0 ≤ b) : (sBin .shr t ox oy (.int k a) (.int k' b)).run P w = .ok (.value (.int k (a.fdiv (2 ^ (min b.toNat k.bits))))) w := by
  simp [sBin, isEq, runV, binOp, Op.shift, Int.not_lt.2 h]
theorem r_eql : (sBin .eql t ox oy (.int k a) (.int k b)).run P w = .ok (.value (.bool (a == b))) w := by
  simp [sBin, isEq, runV, binOp, Op.intCmp, eqGuard]
theorem r_neq : (sBin .neq t ox oy (.int k a) (.int k b)).run P w = .ok (.value (.bool (a != b))) w := by
  simp [sBin, isEq, runV, binOp, Op.intCmp, eqGuard]
theorem r_lss : (sBin .lss t ox oy (.int k a) (.int k b)).run P w = .ok (.value (.bool (decide (a < b)))) w := by
  simp [sBin, isEq, runV, binOp, Op.intCmp]
theorem r_leq : (sBin .leq t ox oy (.int k a) (.int k b)).run P w = .ok (.value (.bool (decide (a ≤ b)))) w := by
  simp [sBin, isEq, runV, binOp, Op.intCmp]
theorem r_gtr : (sBin .gtr t ox oy (.int k a) (.int k b)).run P w = .ok (.value (.bool (decide (b < a)))) w := by
  simp [sBin, isEq, runV, binOp, Op.intCmp]
theorem r_geq : (sBin .geq t ox oy (.int k a) (.int k b)).run P w = .ok (.value (.bool (decide (b ≤ a)))) w := by
  simp [sBin, isEq, runV, binOp, Op.intCmp]
theorem r_neg : (sUn .neg (.int k a)).run P w = .ok (.value (.int k (k.wrap (0 - a)))) w := by
  simp [sUn, runV, Op.unary, Op.intArith]
theorem r_cpl : (sUn .xor (.int k a)).run P w = .ok (.value (.int k (xorI k (if k.signed then -1 else k.max) a))) w := by
  simp [sUn, runV, Op.unary, Op.intBits, xorI]
theorem r_not (c : Bool) : (sUn .not (.bool c)).run P w = .ok (.value (.bool !c)) w := by
  simp [sUn, runV, Op.unary]
theorem r_pick (c : Bool) (x y : Value) : (sPick (.bool c) x y).run P w = .ok (.value (if c then x else y)) w := by
  simp [sPick, asBool]
theorem sBin_eql {x y : Value} {r : Bool} (hg : eqGuard .eql t ox oy x y = pure ()) (hb : binOp .eql t x y = (do pure (.bool (← Op.equal t x y)))) (he : (Op.equal t x y).run P w = .ok r w) :
    (sBin .eql t ox oy x y).run P w = .ok (.value (.bool r)) w := by
  unfold sBin
  simp only [isEq, runV, hg, hb, pure_bind]
  rw [Sem.run_bind, he]; rfl
theorem sBin_neq {x y : Value} {r : Bool} (hg : eqGuard .neq t ox oy x y = pure ()) (hb : binOp .neq t x y = (do pure (.bool (!(← Op.equal t x y))))) (he : (Op.equal t x y).run P w = .ok r w) :
    (sBin .neq t ox oy x y).run P w = .ok (.value (.bool (!r))) w := by
  unfold sBin
  simp only [isEq, runV, hg, hb, pure_bind]
  rw [Sem.run_bind, he]; rfl
theorem eqIn_bool (n : Nat) (c d : Bool) (hu : P.underlying t = some .bool) : (Op.equalIn (n + 1) t (.bool c) (.bool d)).run P w = .ok (c == d) w := by
  simp only [Op.equalIn, underlying]
  simp [hu]
theorem eq_bool (c d : Bool) (hu : P.underlying t = some .bool) : (Op.equal t (.bool c) (.bool d)).run P w = .ok (c == d) w := eqIn_bool 9999 c d hu
theorem r_beql (c d : Bool) (hu : P.underlying t = some .bool) : (sBin .eql t ox oy (.bool c) (.bool d)).run P w = .ok (.value (.bool (c == d))) w :=
  sBin_eql rfl rfl (eq_bool c d hu)
theorem r_bneq (c d : Bool) (hu : P.underlying t = some .bool) : (sBin .neq t ox oy (.bool c) (.bool d)).run P w = .ok (.value (.bool (!(c == d)))) w :=
  sBin_neq rfl rfl (eq_bool c d hu)

/- no wrap where the number fits -/
theorem w_i64 {n : Int} (h0 : -9223372036854775808 ≤ n) (h1 : n ≤ 9223372036854775807) : IntKind.i64.wrap n = n := by
  unfold IntKind.wrap; simp [IntKind.bits, IntKind.signed]; split <;> omega
theorem w_u64 {n : Int} (h0 : 0 ≤ n) (h1 : n ≤ 18446744073709551615) : IntKind.u64.wrap n = n := by
  unfold IntKind.wrap; simp [IntKind.bits, IntKind.signed]; omega
theorem w_i32 {n : Int} (h0 : -2147483648 ≤ n) (h1 : n ≤ 2147483647) : IntKind.i32.wrap n = n := by
  unfold IntKind.wrap; simp [IntKind.bits, IntKind.signed]; split <;> omega
theorem w_u32 {n : Int} (h0 : 0 ≤ n) (h1 : n ≤ 4294967295) : IntKind.u32.wrap n = n := by
  unfold IntKind.wrap; simp [IntKind.bits, IntKind.signed]; omega
theorem w_u16 {n : Int} (h0 : 0 ≤ n) (h1 : n ≤ 65535) : IntKind.u16.wrap n = n := by
  unfold IntKind.wrap; simp [IntKind.bits, IntKind.signed]; omega
theorem w_u8 {n : Int} (h0 : 0 ≤ n) (h1 : n ≤ 255) : IntKind.u8.wrap n = n := by
  unfold IntKind.wrap; simp [IntKind.bits, IntKind.signed]; omega
theorem wu64 (n : Int) : IntKind.u64.wrap n = n % 18446744073709551616 := by
  unfold IntKind.wrap; simp [IntKind.bits, IntKind.signed]
theorem wu8 (n : Int) : IntKind.u8.wrap n = n % 256 := by
  unfold IntKind.wrap; simp [IntKind.bits, IntKind.signed]
theorem wu32 (n : Int) : IntKind.u32.wrap n = n % 4294967296 := by
  unfold IntKind.wrap; simp [IntKind.bits, IntKind.signed]
theorem wu16 (n : Int) : IntKind.u16.wrap n = n % 65536 := by
  unfold IntKind.wrap; simp [IntKind.bits, IntKind.signed]

/- strings -/
theorem r_scat (x y : ByteArray) (h : ((x.size + y.size : Nat) : Int) ≤ 9223372036854775807) : (sBin .add t ox oy (.string x) (.string y)).run P w = .ok (.value (.string (x ++ y))) w := by
  have : ¬ (((x.size + y.size : Nat) : Int) > IntKind.i64.max) := by
    have e : IntKind.i64.max = 9223372036854775807 := by decide
    rw [e]; omega
  simp only [sBin, isEq, runV, binOp, Op.stringOp, this, if_false]
  rfl
theorem r_seql (x y : ByteArray) : (sBin .eql t ox oy (.string x) (.string y)).run P w = .ok (.value (.bool (x.toList == y.toList))) w := by
  simp [sBin, isEq, runV, binOp, Op.stringOp, eqGuard]
theorem r_sneq (x y : ByteArray) : (sBin .neq t ox oy (.string x) (.string y)).run P w = .ok (.value (.bool !(x.toList == y.toList))) w := by
  simp [sBin, isEq, runV, binOp, Op.stringOp, eqGuard]

/- pointers against nil -/
theorem eqIn_ptr (n : Nat) {e : TypeId} (hu : P.underlying t = some (.pointer e)) (x : Option Addr) : (Op.equalIn (n + 1) t (.pointer x) (.pointer none)).run P w = .ok x.isNone w := by
  simp only [Op.equalIn, underlying]
  cases x <;> simp [hu]
theorem eq_ptr {e : TypeId} (hu : P.underlying t = some (.pointer e)) (x : Option Addr) : (Op.equal t (.pointer x) (.pointer none)).run P w = .ok x.isNone w := eqIn_ptr 9999 hu x
theorem eqIn_sl (m : Nat) {e : TypeId} (hu : P.underlying t = some (.slice e)) (x : Option Addr) (n c : Nat) : (Op.equalIn (m + 1) t (.slice x n c) (.slice none 0 0)).run P w = .ok x.isNone w := by
  simp only [Op.equalIn, underlying]
  cases x <;> simp [hu]
theorem eq_sl {e : TypeId} (hu : P.underlying t = some (.slice e)) (x : Option Addr) (n c : Nat) : (Op.equal t (.slice x n c) (.slice none 0 0)).run P w = .ok x.isNone w := eqIn_sl 9999 hu x n c
theorem r_peql {e : TypeId} (hu : P.underlying t = some (.pointer e)) (x : Option Addr) : (sBin .eql t ox oy (.pointer x) (.pointer none)).run P w = .ok (.value (.bool x.isNone)) w :=
  sBin_eql rfl rfl (eq_ptr hu x)
theorem r_pneq {e : TypeId} (hu : P.underlying t = some (.pointer e)) (x : Option Addr) : (sBin .neq t ox oy (.pointer x) (.pointer none)).run P w = .ok (.value (.bool (!x.isNone))) w :=
  sBin_neq rfl rfl (eq_ptr hu x)
theorem r_sleql {e : TypeId} (hu : P.underlying t = some (.slice e)) (x : Option Addr) (n c : Nat) : (sBin .eql t ox oy (.slice x n c) (.slice none 0 0)).run P w = .ok (.value (.bool x.isNone)) w :=
  sBin_eql rfl rfl (eq_sl hu x n c)
theorem r_slneq {e : TypeId} (hu : P.underlying t = some (.slice e)) (x : Option Addr) (n c : Nat) : (sBin .neq t ox oy (.slice x n c) (.slice none 0 0)).run P w = .ok (.value (.bool (!x.isNone))) w :=
  sBin_neq rfl rfl (eq_sl hu x n c)

/- conversions, lengths, parts -/
theorem r_cint {s : TypeId} {d : TypeDesc} {kd : IntKind} (hs : P.underlying s = some d) (hu : P.underlying t = some (.int kd)) : (sCvt s t (.int k a)).run P w = .ok (.value (.int kd (kd.wrap a))) w := by
  cases d <;> simp [sCvt, runV, convert, underlying, hs, hu, Conv.intToInt]
theorem r_cstr {s : TypeId} {d : TypeDesc} (hs : P.underlying s = some d) (hu : P.underlying t = some .string) (x : ByteArray) : (sCvt s t (.string x)).run P w = .ok (.value (.string x)) w := by
  cases d <;> simp [sCvt, runV, convert, underlying, hs, hu]
theorem r_lenS {ty : TypeId} {e : TypeId} (hu : P.underlying t = some (.slice e)) (x : Option Addr) (n c : Nat) : (sBi .len #[t] ty [.slice x n c]).run P w = .ok (.value (.int .i64 n)) w := by
  simp [sBi, builtin, Builtin.len_, underlying, hu, goInt]
theorem r_lenT {ty : TypeId} (hu : P.underlying t = some .string) (x : ByteArray) : (sBi .len #[t] ty [.string x]).run P w = .ok (.value (.int .i64 x.size)) w := by
  simp [sBi, builtin, Builtin.len_, underlying, hu, goInt]
theorem r_min {ats : Array TypeId} {ty : TypeId} : (sBi .min ats ty [.int k a, .int k b]).run P w = .ok (.value (.int k (if b < a then b else a))) w := by
  simp [sBi, builtin, Builtin.min_, Builtin.min2]
theorem r_max {ats : Array TypeId} {ty : TypeId} : (sBi .max ats ty [.int k a, .int k b]).run P w = .ok (.value (.int k (if b > a then b else a))) w := by
  simp [sBi, builtin, Builtin.max_, Builtin.max2]
theorem r_extr {vs : Array Value} {i : Nat} {v : Value} (h : vs[i]? = some v) : (sExtr (.tuple vs) i).run P w = .ok (.value v) w := by
  simp [sExtr, runV, Instr.extract, h]
theorem x20 (a b : Value) : (sExtr (.tuple #[a, b]) 0).run P w = .ok (.value a) w := Eq.trans rfl rfl
theorem x21 (a b : Value) : (sExtr (.tuple #[a, b]) 1).run P w = .ok (.value b) w := Eq.trans rfl rfl
theorem x30 (a b c : Value) : (sExtr (.tuple #[a, b, c]) 0).run P w = .ok (.value a) w := Eq.trans rfl rfl
theorem x31 (a b c : Value) : (sExtr (.tuple #[a, b, c]) 1).run P w = .ok (.value b) w := Eq.trans rfl rfl
theorem x32 (a b c : Value) : (sExtr (.tuple #[a, b, c]) 2).run P w = .ok (.value c) w := Eq.trans rfl rfl
theorem x40 (a b c d : Value) : (sExtr (.tuple #[a, b, c, d]) 0).run P w = .ok (.value a) w := Eq.trans rfl rfl
theorem x41 (a b c d : Value) : (sExtr (.tuple #[a, b, c, d]) 1).run P w = .ok (.value b) w := Eq.trans rfl rfl
theorem x42 (a b c d : Value) : (sExtr (.tuple #[a, b, c, d]) 2).run P w = .ok (.value c) w := Eq.trans rfl rfl
theorem x43 (a b c d : Value) : (sExtr (.tuple #[a, b, c, d]) 3).run P w = .ok (.value d) w := Eq.trans rfl rfl
theorem r_nil (x : Addr) : (sNil (.pointer (some x))).run P w = .ok (.value (.pointer (some x))) w := Eq.trans rfl rfl

/- addresses -/
theorem r_faddr {fs : Array Field} {f : Field} {i : Nat} {inf : TypeInfo} (hu : P.underlying t = some (.struct fs)) (hf : fs[i]? = some f)
    (hi : P.info? f.type = some inf) (hz : inf.size ≠ 0) (x : Addr) : (sFAddr t (.pointer (some x)) i).run P w = .ok (.value (.pointer (some (x.add f.offset)))) w := by
  simp [sFAddr, runV, Instr.fieldAt, underlying, hu, hf, Instr.sureAddr, fieldPlace, sizeOf, typeInfo, hi, hz]
theorem r_iaddrS {e : TypeId} {inf : TypeInfo} (hu : P.underlying t = some (.slice e)) (hi : P.info? e = some inf) (x : Addr) (n c : Nat) (h0 : 0 ≤ a) (h1 : a < n) :
    (sIAddr t (.slice (some x) n c) (.int k a)).run P w = .ok (.value (.pointer (some (x.add (a.toNat * inf.size))))) w := by
  simp [sIAddr, runV, Instr.indexAt, asIntOf, underlying, hu, h0, h1, sizeOf, typeInfo, hi]
theorem r_iaddrA {e : TypeId} {len : Nat} {inf : TypeInfo} (hu : P.underlying t = some (.array len e)) (hi : P.info? e = some inf) (x : Addr) (h0 : 0 ≤ a) (h1 : a < len) :
    (sIAddr t (.pointer (some x)) (.int k a)).run P w = .ok (.value (.pointer (some (x.add (a.toNat * inf.size))))) w := by
  simp [sIAddr, runV, Instr.indexAt, asIntOf, underlying, hu, h0, h1, sizeOf, typeInfo, hi, Instr.sureAddr]
theorem r_idxT (hu : P.underlying t = some .string) (x : ByteArray) (h0 : 0 ≤ a) (h1 : a.toNat < x.size) :
    (sIdx t (.string x) (.int k a)).run P w = .ok (.value (.int .u8 (x[a.toNat]'h1).toNat)) w := by
  simp [sIdx, runV, Instr.index, asIntOf, underlying, hu, h0, h1]

/- loads -/
theorem r_load {d : TypeDesc} (hu : P.underlying t = some d) (hd : (match d with | .struct _ | .array _ _ => false | _ => true) = true) {x : Addr} {v : Value} (h : w.cell? x = some v) :
    (sLoad t (.pointer (some x))).run P w = .ok (.value v) w := by
  cases d <;> simp [sLoad, runV, Instr.loadAt, Instr.sureAddr, loadVar, isAgg, underlying, hu, h] at hd ⊢

end
end Go.En

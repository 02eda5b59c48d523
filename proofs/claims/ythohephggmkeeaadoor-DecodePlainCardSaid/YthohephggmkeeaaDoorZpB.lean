/- Parts of the proof of DecodePlain: merged and given short names by a program of ours. -/
import Derived.Laws.IdiomStrings
import Derived.Test.YthohephggmkeeaaDoorZpA
set_option linter.unusedVariables false
set_option linter.unusedSimpArgs false
open Array renaming length_toList → QC, getElem?_modify → QL, getElem?_eq_none → QY
open Bool renaming false_eq_true → PG, not_false → PK, not_true → PL, and_eq_true → PO, or_eq_false_iff → Q3
open Int renaming toNat_natCast → PJ, fdiv_eq_ediv_of_nonneg → Qb
open List renaming take_succ_cons → P0, append_assoc → P1, mem_cons_of_mem → P2, getElem?_append_left → P3, drop_zero → P5, take_zero → P6, getD_eq_getElem?_getD → P7, length_cons → P9, getElem?_cons_zero → PE, getElem?_cons_succ → PF, length_append → PN, length_map → PQ, length_take → PR, getElem?_eq_getElem → PT, length_drop → PU, set_cons_zero → PV, set_cons_succ → PW, take_of_length_le → PX, set_append_left → Q5, getElem?_take_of_lt → QB, append_nil → QF, cons_append → QM, map_cons → QO, map_take → QP, map_drop → QQ, drop_eq_getElem_cons → QS, nil_append → QU, drop_of_length_le → QZ, take_append_of_le_length → Qc, length_replicate → Qg, set_append_right → Qh, getElem?_append_right → Ql, drop_drop → Qr, getElem?_map → Qv, length_eq_zero_iff → Qw, getElem?_toArray → Qy, mem_cons → Qz
open Nat renaming zero_add → PM, le_refl → PY, pow_succ → Q4, add_sub_cancel_left → QD, div_div_eq_div_mul → QG, lt_or_ge → QH, add_assoc → QN, add_mul → QR, lt_of_lt_of_le → QW, mul_comm → QX, mod_eq_of_lt → Qa, min_eq_left → Qp, pow_le_pow_right → Qt, and_two_pow_sub_one_eq_mod → Qu, mul_one → Qx
open Option renaming isNone_some → PH, isNone_none → PI, map_some → Qe
open Option.some renaming inj → Qj
open UInt8 renaming toNat_lt → Qq
namespace Go.En
open Go
def iE (w : Q6) (b : Nat) (cs : List Q7) : Prop :=
 ∃ T lo hi, w.heap[b]? = some (.cells cs.toArray T (lo, hi)) /\ (cs.length <= lo ∨ hi = lo)
structure fU (w w' : Q6) (M : Nat -> Prop) : Prop where
 os : w'.os = w.os
 tape : w'.tape = w.tape
 output : w'.output = w.output
 size : w.heap.size <= w'.heap.size
 keep : ∀ b, b < w.heap.size -> ¬ M b -> w'.heap[b]? = w.heap[b]?
def kY : Nat -> Prop := fun _ => False
theorem fU.refl (w : Q6) (M : Nat -> Prop) : fU w w M := ⟨rfl, rfl, rfl, PY _, fun _ _ _ => rfl⟩
theorem fU.mono {w w' : Q6} {M N : Nat -> Prop} (h : fU w w' M) (hm : ∀ b, b < w.heap.size -> M b -> N b) : fU w w' N :=
 ⟨h.os, h.tape, h.output, h.size, fun b hb hn => h.keep b hb fun hM => hn (hm b hb hM)⟩
theorem fU.trans {a b c : Q6} {M N : Nat -> Prop} (h : fU a b M) (k : fU b c N) (hn : ∀ x, x < a.heap.size -> N x -> M x) : fU a c M :=
 ⟨k.os.trans h.os, k.tape.trans h.tape, k.output.trans h.output, Nat.le_trans h.size k.size,
   fun x hx hM => (k.keep x (QW hx h.size) fun h => hM (hn x hx h)).trans (h.keep x hx hM)⟩
theorem fU.seq {a b c : Q6} {M : Nat -> Prop} (h : fU a b M) (k : fU b c M) : fU a c M := h.trans k fun _ _ h => h
theorem fU.new {a b c : Q6} {M : Nat -> Prop} {x : Nat} (h : fU a b M) (k : fU b c (fun y => y = x)) (hx : a.heap.size <= x) : fU a c M :=
 h.trans k fun y hy e => absurd hy (by subst e; omega)
theorem fU.below {w w' : Q6} (h : fU w w' kY) : Go.RowKit.Below w.heap.size w w' :=
 ⟨h.os, h.tape, h.output, h.size, fun k hk => h.keep k hk fun h => h⟩
theorem fU.dr (w : Q6) (M : Nat -> Prop) : fU w (dr w) M := ⟨rfl, rfl, rfl, PY _, fun _ _ _ => rfl⟩
theorem fU.alloc (w : Q6) (o : Obj) (M : Nat -> Prop) : fU w (w.alloc o) M :=
 ⟨rfl, rfl, rfl, by simp, fun b hb _ => by show (w.heap.push o)[b]? = _; rw [Array.getElem?_push, if_neg (by omega)]⟩
theorem Ge (w : Q6) (a : Addr) (v : Q7) (b : Nat) (h : b ≠ a.block) : (w.setCell a v).heap[b]? = w.heap[b]? := Go.RowKit.Below.heap_setCell w a v b h
theorem fU.setCell (w : Q6) (a : Addr) (v : Q7) {M : Nat -> Prop} (h : a.block < w.heap.size -> M a.block) : fU w (w.setCell a v) M :=
 ⟨rfl, rfl, rfl, by simp, fun b hb hM => Ge w a v b fun e => hM (e ▸ h (e ▸ hb))⟩
theorem iE.lt {w : Q6} {b : Nat} {cs : List Q7} (h : iE w b cs) : b < w.heap.size := by
 obtain ⟨T, lo, hi, h, _⟩ := h
 rcases QH b w.heap.size with h' | h'
 .exact h'
 .rw [QY h'] at h; cases h
theorem iE.ext {w w' : Q6} {b : Nat} {cs : List Q7} {M : Nat -> Prop} (h : iE w b cs) (hx : fU w w' M) (hM : ¬ M b) : iE w' b cs := by
 have := h.lt
 obtain ⟨T, lo, hi, h, k⟩ := h
 exact ⟨T, lo, hi, by rw [hx.keep b this hM]; exact h, k⟩
theorem iE.cell {w : Q6} {b off : Nat} {cs : List Q7} (h : iE w b cs) : w.cell? ⟨b, off, none⟩ = cs[off]? := by
 obtain ⟨T, lo, hi, h, _⟩ := h
 simp [World.cell?, h]
theorem iE.free {w : Q6} {b off : Nat} {cs : List Q7} {s : Option Nat} (h : iE w b cs) (ho : off < cs.length) : w.frozen? ⟨b, off, s⟩ = false := by
 obtain ⟨T, lo, hi, h, k⟩ := h
 simp only [World.frozen?, h]
 rcases k with k | k <;> (simp; omega)
theorem iE.setCell {w : Q6} {b off : Nat} {cs : List Q7} (h : iE w b cs) (v : Q7) : iE (w.setCell ⟨b, off, none⟩ v) b (cs.set off v) := by
 have hb := h.lt
 obtain ⟨T, lo, hi, h, k⟩ := h
 refine ⟨T, lo, hi, ?_, by simpa using k⟩
 simp only [World.setCell, QL, h]
 simp
theorem iE.alloc (w : Q6) (cs : List Q7) (T : TypeId) : iE (w.alloc (.cells cs.toArray T)) w.heap.size cs :=
 ⟨T, 0, 0, by show (w.heap.push _)[w.heap.size]? = _; simp, .inr rfl⟩
theorem MF {w w' : Q6} {M : Nat -> Prop} {a : Addr} {v : Q7} (h : w.cell? a = some v) (hx : fU w w' M) (hM : ¬ M a.block) : w'.cell? a = some v := by
 have hb := World.block_lt_of_cell? w a h
 have e := hx.keep _ hb hM
 unfold World.cell? at h ⊢
 rw [e]; exact h
section
variable {P : Program} {w : Q6} {t : TypeId}
def Kj (d : TypeDesc) : Bool := match d with | .struct _ | .array _ _ => true | _ => false
theorem CU {d : TypeDesc} (hu : P.underlying t = some d) : (isAgg t).run P w = .ok (Kj d) w := by
 cases d <;> simp [isAgg, underlying, hu, Kj]
theorem iC {i : TypeInfo} (hi : P.info? t = some i) : (sizeOf t).run P w = .ok i.size w := by simp [sizeOf, typeInfo, hi]
theorem El {b off : Nat} {cs : List Q7} (ho : iE w b cs) : ∀ (n i : Nat) (acc : Array Q7), off + i + n <= cs.length →
 (loadCellsFrom ⟨b, off, none⟩ i n acc).run P w = .ok (acc ++ ((cs.drop (off + i)).take n).toArray) w := by
 intro n
 induction n with
 | zero => intro i acc _; simp [loadCellsFrom]
 | succ n ih =>
   intro i acc h
   have hc : w.cell? ((⟨b, off, none⟩ : Addr).add i) = some cs[off + i] := by
    unfold Addr.add
    split
    .rename_i hi; subst hi; rw [ho.cell]; simp
    .show w.cell? ⟨b, off + i, none⟩ = _; rw [ho.cell]; simp
   simp only [loadCellsFrom, Sem.run_bind, run_load, hc, Result.andThen_ok]
   rw [ih (i + 1) _ (by omega)]
   congr 1
   rw [QS (by omega : off + i < cs.length)]
   simp [QN]
theorem Dm {b off n : Nat} {cs : List Q7} (ho : iE w b cs) (h : off + n <= cs.length) :
 (loadCells ⟨b, off, none⟩ n).run P w = .ok ((cs.drop off).take n).toArray w := by
 unfold loadCells
 rw [El ho n 0 #[] (by omega)]
 simp
theorem GR {d : TypeDesc} {i : TypeInfo} (hu : P.underlying t = some d) (hd : Kj d = true) (hi : P.info? t = some i) {b off : Nat} {cs : List Q7} (ho : iE w b cs) (h : off + i.size <= cs.length) :
 (fM t (.pointer (some ⟨b, off, none⟩))).run P w = .ok (.value (.agg ((cs.drop off).take i.size).toArray)) w := by
 unfold fM
 rw [kL]
 simp only [Instr.loadAt, Instr.sureAddr, loadVar, pure_bind, Sem.run_bind, CU hu, hd, Result.andThen_ok, if_true, iC hi, Dm ho h, Sem.run_pure]
def one (v : Q7) : Bool := match v with | .agg _ | .tuple _ => false | _ => true
theorem JO {a : Addr} {v x : Q7} (hv : one v = true) (hc : w.cell? a = some x) (hf : w.frozen? a = false) : (store a v).run P w = .ok () (w.setCell a v) := by
 unfold store
 cases v <;> simp [one] at hv <;> simp [Sem.run, hc, hf]
def gJ (cs : List Q7) (off : Nat) : List Q7 -> List Q7
 | [] => cs
 | v :: vs => gJ (cs.set off v) (off + 1) vs
theorem xK {b : Nat} {M : Nat -> Prop} (hM : M b) : ∀ (vs : List Q7) (w : Q6) (off i : Nat) (cs : List Q7), iE w b cs -> off + i + vs.length <= cs.length -> (∀ v ∈ vs, one v = true) →
 ∃ w', (storeCells ⟨b, off, none⟩ vs i).run P w = .ok () w' /\ iE w' b (gJ cs (off + i) vs) /\ fU w w' M /\ w'.heap.size = w.heap.size /\ w'.drawn = w.drawn := by
 intro vs
 induction vs with
 | nil => intro w off i cs ho _ _; exact ⟨w, by simp [storeCells], ho, fU.refl _ _, rfl, rfl⟩
 | cons v vs ih =>
   intro w off i cs ho h hv
   simp only [P9] at h
   have ha : (⟨b, off, none⟩ : Addr).add i = ⟨b, off + i, none⟩ := by
    unfold Addr.add; split
    .rename_i hi; subst hi; rfl
    .rfl
   have hlt : off + i < cs.length := by omega
   have hc : w.cell? ⟨b, off + i, none⟩ = some cs[off + i] := by rw [ho.cell]; simp
   have hs := JO (P := P) (hv v (by simp)) hc (ho.free hlt)
   obtain ⟨w', h1, h2, h3, h4, h5⟩ := ih (w.setCell ⟨b, off + i, none⟩ v) off (i + 1) (cs.set (off + i) v) (ho.setCell v) (by simp; omega) (fun x hx => hv x (P2 _ hx))
   refine ⟨w', ?_, h2, (fU.setCell w _ v fun _ => hM).trans h3 (fun _ _ h => h), by rw [h4]; simp, by rw [h5] <;> rfl⟩
   simp only [storeCells, Sem.run_bind, ha, hs, Result.andThen_ok]
   exact h1
theorem tN {i : TypeInfo} (hi : P.info? t = some i) {b off : Nat} {cs : List Q7} (ho : iE w b cs) {v : Q7} (hs : v.cells.size = i.size)
 (hv : ∀ x ∈ v.cells.toList, one x = true) (h : off + i.size <= cs.length) {K : Q7 -> Q6 -> Prop}
 (hk : ∀ w', iE w' b (gJ cs off v.cells.toList) -> fU w w' (fun x => x = b) -> w'.heap.size = w.heap.size -> K undef w') : dQ P (fQ t (.pointer (some ⟨b, off, none⟩)) v) w K := by
 obtain ⟨w', h1, h2, h3, h4, _⟩ := xK (P := P) (M := fun x => x = b) rfl v.cells.toList w off 0 cs ho (by simp [hs]; omega) hv
 have : (fQ t (.pointer (some ⟨b, off, none⟩)) v).run P w = .ok .skip w' := by
  unfold fQ
  rw [Pm]
  simp only [Instr.storeAt, Instr.sureAddr, storeVar, pure_bind, Sem.run_bind, iC hi, Result.andThen_ok, hs]
  simp [h1]
 unfold dQ
 rw [this]
 exact hk w' h2 h3 h4
theorem H7 {v : Q7} (hv : one v = true) : v.cells = #[v] := by cases v <;> simp [one] at hv <;> rfl
theorem oT {i : TypeInfo} (hi : P.info? t = some i) (h1 : i.size = 1) {b off : Nat} {cs : List Q7} (ho : iE w b cs) {v : Q7} (hv : one v = true) (h : off < cs.length) {K : Q7 -> Q6 -> Prop}
 (hk : ∀ w', iE w' b (cs.set off v) -> fU w w' (fun x => x = b) -> w'.heap.size = w.heap.size -> K undef w') : dQ P (fQ t (.pointer (some ⟨b, off, none⟩)) v) w K := by
 have e := H7 hv
 refine tN hi ho (by rw [e, h1] <;> rfl) (by rw [e]; simpa using hv) (by omega) fun w' a b c => hk w' ?_ b c
 rw [e] at a; exact a
def JT (c : Option Q7) (w : Q6) (Ly : Result Next) : Result Next := match c with | some v => .ok (.value v) w | none => Ly
def Ly (P : Program) (t : TypeId) (x : Addr) (w : Q6) : Result Next := (fM t (.pointer (some x))).run P w
theorem dH (v : Q7) (w : Q6) (f : Result Next) : JT (some v) w f = .ok (.value v) w := rfl
theorem Ip {d : TypeDesc} (hu : P.underlying t = some d) (hd : Kj d = false) (x : Addr) (w : Q6) :
 (fM t (.pointer (some x))).run P w = JT (w.cell? x) w (Ly P t x w) := by
 cases h : w.cell? x with
 | none => rfl
 | some v =>
   unfold fM
   rw [kL]
   simp only [Instr.loadAt, Instr.sureAddr, loadVar, pure_bind, Sem.run_bind, CU hu, hd, Result.andThen_ok, PG, if_false, run_load, h, JT]
theorem EK {d : TypeDesc} {i : TypeInfo} (hu : P.underlying t = some d) (hd : Kj d = true) (hi : P.info? t = some i) {b off : Nat} {cs : List Q7} (ho : iE w b cs) (h : off + i.size <= cs.length) {K : Q7 -> Prop}
 (hk : K (.agg ((cs.drop off).take i.size).toArray)) : Fm P t (.pointer (some ⟨b, off, none⟩)) w K := by
 refine ⟨_, ?_, hk⟩
 simp only [asAddr, loadVar, pure_bind, Sem.run_bind, CU hu, hd, Result.andThen_ok, if_true, iC hi, Dm ho h, Sem.run_pure]
theorem CQ {v : Q7} {K : Q7 -> Q6 -> Prop} (hk : ∀ w', iE w' w.heap.size v.cells.toList -> fU w w' kY -> w'.heap.size = w.heap.size + 1 -> K (.pointer (some ⟨w.heap.size, 0, none⟩)) w') :
 dQ P (Iy t v) w K := by
 have : (Iy t v).run P w = .ok (.value (.pointer (some ⟨w.heap.size, 0, none⟩))) (w.alloc (.cells v.cells.toList.toArray t)) := by
  unfold Iy; rw [kL]
  simp [Instr.box, newVar, newRow]
 unfold dQ
 rw [this]
 exact hk _ (iE.alloc _ _ _) (fU.alloc _ _ _) (by simp)
theorem wR {i : TypeInfo} {z : Q7} (hi : P.info? t = some i) (hz : i.zero = some z) {K : Q7 -> Q6 -> Prop}
 (hk : ∀ w', iE w' w.heap.size z.cells.toList -> fU w w' kY -> w'.heap.size = w.heap.size + 1 -> K (.pointer (some ⟨w.heap.size, 0, none⟩)) w') :
 dQ P (lH t) w K := by
 have : (lH t).run P w = .ok (.value (.pointer (some ⟨w.heap.size, 0, none⟩))) (w.alloc (.cells z.cells.toList.toArray t)) := by
  unfold lH; rw [kL]
  simp [Instr.alloc, zeroValue, typeInfo, hi, hz, newVar, newRow]
 unfold dQ
 rw [this]
 exact hk _ (iE.alloc _ _ _) (fU.alloc _ _ _) (by simp)
end
theorem lK {P : Program} {w : Q6} {k : IntKind} {a : Int} {y : Nat} {code : BoundsCode} (h0 : 0 <= a) (h1 : a <= y) : (Instr.sliceBound (.int k a) y code).run P w = .ok a.toNat w := by
 simp [Instr.sliceBound, asIntOf, h0, h1]
section
variable {P : Program} {w : Q6} {t e : TypeId} {k k' : IntKind} {lo hi : Int} {i : TypeInfo}
def iL (x : Option Addr) (m l sz : Nat) : Option Addr := if m = l then x else x.map (·.add (l * sz))
theorem JL (hu : P.underlying t = some (.slice e)) (hi' : P.info? e = some i) (x : Option Addr) (n c : Nat) (h0 : 0 <= lo) (h1 : lo <= n) :
 (hE t (.slice x n c) (some (.int k lo)) none none).run P w = .ok (.value (.slice (iL x c lo.toNat i.size) (n - lo.toNat) (c - lo.toNat))) w := by
 simp only [hE, kL, Instr.sliceAt, underlying, hu, Sem.run_bind, run_program, Result.andThen_ok, Sem.run_pure, Instr.slice, Instr.sliceBounds, pure_bind, lK h0 h1, iC hi', iL]
theorem JR (hu : P.underlying t = some (.slice e)) (hi' : P.info? e = some i) (x : Option Addr) (n c : Nat) (h0 : 0 <= hi) (h1 : hi <= c) :
 (hE t (.slice x n c) none (some (.int k hi)) none).run P w = .ok (.value (.slice (iL x c 0 i.size) (hi.toNat - 0) (c - 0))) w := by
 simp only [hE, kL, Instr.sliceAt, underlying, hu, Sem.run_bind, run_program, Result.andThen_ok, Sem.run_pure, Instr.slice, Instr.sliceBounds, pure_bind, lK h0 h1, iC hi', iL]
theorem Iv (hu : P.underlying t = some (.slice e)) (hi' : P.info? e = some i) (x : Option Addr) (n c : Nat) (h0 : 0 <= lo) (h1 : lo <= hi) (h2 : hi <= c) :
 (hE t (.slice x n c) (some (.int k lo)) (some (.int k' hi)) none).run P w = .ok (.value (.slice (iL x c lo.toNat i.size) (hi.toNat - lo.toNat) (c - lo.toNat))) w := by
 have h3 : (0 : Int) <= hi := by omega
 have h4 : lo <= (hi.toNat : Int) := by omega
 simp only [hE, kL, Instr.sliceAt, underlying, hu, Sem.run_bind, run_program, Result.andThen_ok, Sem.run_pure, Instr.slice, Instr.sliceBounds, pure_bind, lK h3 h2, lK h0 h4, iC hi', iL]
theorem Jy (hu : P.underlying t = some .string) (x : ByteArray) (h0 : 0 <= lo) (h1 : lo <= x.size) :
 (hE t (.string x) (some (.int k lo)) none none).run P w = .ok (.value (.string (x.extract lo.toNat x.size))) w := by
 simp only [hE, kL, Instr.sliceAt, underlying, hu, Sem.run_bind, run_program, Result.andThen_ok, Sem.run_pure, Instr.slice, Instr.sliceBounds, pure_bind, Option.isSome_none, PG, if_false, lK h0 h1]
theorem Jh (hu : P.underlying t = some .string) (x : ByteArray) (h0 : 0 <= hi) (h1 : hi <= x.size) :
 (hE t (.string x) none (some (.int k hi)) none).run P w = .ok (.value (.string (x.extract 0 hi.toNat))) w := by
 simp only [hE, kL, Instr.sliceAt, underlying, hu, Sem.run_bind, run_program, Result.andThen_ok, Sem.run_pure, Instr.slice, Instr.sliceBounds, pure_bind, Option.isSome_none, PG, if_false, lK h0 h1]
def tK (a : Addr) (m l sz : Nat) : Addr := if m = l then a else a.add (l * sz)
theorem I4 {n : Nat} (hu : P.underlying t = some (.array n e)) (hi' : P.info? e = some i) (x : Addr) (h0 : 0 <= lo) (h1 : lo <= n) :
 (hE t (.pointer (some x)) (some (.int k lo)) none none).run P w = .ok (.value (.slice (some (tK x n lo.toNat i.size)) (n - lo.toNat) (n - lo.toNat))) w := by
 simp only [hE, kL, Instr.sliceAt, Instr.sureAddr, underlying, hu, Sem.run_bind, run_program, Result.andThen_ok, Sem.run_pure, Instr.sliceBounds, pure_bind, lK h0 h1, iC hi', tK]
theorem IQ {n : Nat} (hu : P.underlying t = some (.array n e)) (hi' : P.info? e = some i) (x : Addr) (h0 : 0 <= hi) (h1 : hi <= n) :
 (hE t (.pointer (some x)) none (some (.int k hi)) none).run P w = .ok (.value (.slice (some (tK x n 0 i.size)) (hi.toNat - 0) (n - 0))) w := by
 simp only [hE, kL, Instr.sliceAt, Instr.sureAddr, underlying, hu, Sem.run_bind, run_program, Result.andThen_ok, Sem.run_pure, Instr.sliceBounds, pure_bind, lK h0 h1, iC hi', tK]
theorem HN {n : Nat} (hu : P.underlying t = some (.array n e)) (hi' : P.info? e = some i) (x : Addr) (h0 : 0 <= lo) (h1 : lo <= hi) (h2 : hi <= n) :
 (hE t (.pointer (some x)) (some (.int k lo)) (some (.int k' hi)) none).run P w = .ok (.value (.slice (some (tK x n lo.toNat i.size)) (hi.toNat - lo.toNat) (n - lo.toNat))) w := by
 have h3 : (0 : Int) <= hi := by omega
 have h4 : lo <= (hi.toNat : Int) := by omega
 simp only [hE, kL, Instr.sliceAt, Instr.sureAddr, underlying, hu, Sem.run_bind, run_program, Result.andThen_ok, Sem.run_pure, Instr.sliceBounds, pure_bind, lK h3 h2, lK h0 h4, iC hi', tK]
end
def Sl (w : Q6) (v : Q7) (l : List Q7) : Prop :=
 ∃ a n c, v = .slice a n c /\ n = l.length /\ n <= c /\ (0 < n -> ∃ b off, a = some ⟨b, off, none⟩ /\ ∀ i, i < n -> w.cell? ⟨b, off + i, none⟩ = l[i]?)
def FY (v : Q7) (M : Nat -> Prop) : Prop := match v with | .slice (some a) (_ + 1) _ => M a.block | _ => False
theorem Sl.ext {w w' : Q6} {v : Q7} {l : List Q7} {M : Nat -> Prop} (h : Sl w v l) (hx : fU w w' M) (hM : ¬ FY v M) : Sl w' v l := by
 obtain ⟨a, n, c, rfl, hn, hc, h⟩ := h
 refine ⟨a, n, c, rfl, hn, hc, fun h0 => ?_⟩
 obtain ⟨b, off, rfl, h2⟩ := h h0
 refine ⟨b, off, rfl, fun i hi => ?_⟩
 have h1 := h2 i hi
 obtain ⟨v, hv⟩ : ∃ v, l[i]? = some v := ⟨l[i], by simp⟩
 rw [hv] at h1 ⊢
 refine MF h1 hx ?_
 obtain ⟨m, rfl⟩ : ∃ m, n = m + 1 := ⟨n - 1, by omega⟩
 exact hM
theorem Sl.old {w : Q6} {v : Q7} {l : List Q7} (h : Sl w v l) : ¬ FY v (fun b => w.heap.size <= b) := by
 obtain ⟨a, n, c, rfl, hn, hc, h⟩ := h
 unfold FY
 split
 .rename_i x m _ e
  obtain ⟨rfl, rfl, rfl⟩ : a = some x /\ n = m + 1 /\ c = _ := by simpa using e
  obtain ⟨b, off, e, h2⟩ := h (by omega)
  have e := Qj e; subst e
  have h1 := h2 0 (by omega)
  obtain ⟨v, hv⟩ : ∃ v, l[0]? = some v := ⟨l[0], by simp⟩
  rw [hv] at h1
  have := World.block_lt_of_cell? _ _ h1
  simp at this ⊢; omega
 .simp
def lU (x : UInt8) : Q7 := .int .u8 x.toNat
abbrev Bs (w : Q6) (v : Q7) (l : List UInt8) : Prop := Sl w v (l.map lU)
theorem yB (b o n : Nat) : (⟨b, o, none⟩ : Addr).add n = ⟨b, o + n, none⟩ := by
 unfold Addr.add; split
 .rename_i h; subst h; rfl
 .rfl
section
variable {P : Program} {w : Q6} {t e : TypeId} {k : IntKind} {a : Int}
theorem CT {inf : TypeInfo} (hz : inf.size = 1) (hu : P.underlying t = some (.slice e)) (hi : P.info? e = some inf) (b o n c : Nat) (h0 : 0 <= a) (h1 : a < n) :
 (iW t (.slice (some ⟨b, o, none⟩) n c) (.int k a)).run P w = .ok (.value (.pointer (some ⟨b, o + a.toNat, none⟩))) w := by
 rw [Mg hu hi _ n c h0 h1, yB, hz, Qx]
theorem KT {inf : TypeInfo} {len : Nat} (hz : inf.size = 1) (hu : P.underlying t = some (.array len e)) (hi : P.info? e = some inf) (b o : Nat) (h0 : 0 <= a) (h1 : a < (len : Int)) :
 (iW t (.pointer (some ⟨b, o, none⟩)) (.int k a)).run P w = .ok (.value (.pointer (some ⟨b, o + a.toNat, none⟩))) w := by
 rw [LY hu hi _ h0 h1, yB, hz, Qx]
end
def FW (x : ByteArray) : List UInt8 := x.data.toList
theorem oY (x : ByteArray) : (FW x).length = x.size := by unfold FW; rw [QC] <;> rfl
theorem Kt (x : ByteArray) (i : Nat) (h : i < x.size) : x[i]'h = (FW x)[i]'(by rw [oY]; exact h) := rfl
theorem Cy (x : ByteArray) (a b : Nat) : FW (x.extract a b) = ((FW x).drop a).take (b - a) := by
 unfold FW; rw [ByteArray.data_extract, Array.toList_extract, List.extract_eq_take_drop]
theorem De (x : ByteArray) (a b : Nat) (h : b <= x.size) : (x.extract a b).size = b - a := by
 rw [<- oY, Cy, PR, PU, oY]; omega
section
variable {P : Program} {w : Q6} {s d e : TypeId}
theorem Mf (hs : P.underlying s = some (.slice e)) (hd : P.underlying d = some .string) (he : P.underlying e = some (.int .u8)) {l : List UInt8} {v : Q7} (h : Bs w v l) :
 (iO s d v).run P w = .ok (.value (.string ⟨l.toArray⟩)) w := by
 obtain ⟨a, n, c, rfl, hn, hc, h⟩ := h
 simp only [PQ] at hn
 unfold iO
 rw [kL]
 have key : (convert s d (.slice a n c)).run P w = .ok (.string ⟨l.toArray⟩) w := by
  cases a with
  | none =>
    have hl : l = [] := by
     cases l with
     | nil => rfl
     | cons x l => obtain ⟨b, off, e, _⟩ := h (by rw [hn]; simp); cases e
    subst hl
    rw [run_convert_bytes_string w s d e none n c hs he hd]
    rfl
  | some x =>
    subst hn
    refine run_convert_bytes_back w s d e x c l hs he hd fun j hj => ?_
    obtain ⟨b, off, hx, h2⟩ := h (by omega)
    have hx := Qj hx
    subst hx
    rw [yB, h2 j hj]
    simp [lU, hj]
 rw [key] <;> rfl
theorem JZ (hs : P.underlying s = some .string) (hd : P.underlying d = some (.slice e)) (he : P.underlying e = some (.int .u8)) {x : ByteArray} {K : Q7 -> Q6 -> Prop}
 (hk : ∀ w' c, Sl w' (.slice (some ⟨w.heap.size, 0, none⟩) x.size c) (x.data.toList.map lU) -> fU w w' kY -> w'.heap.size = w.heap.size + 1 →
  (∃ r, iE w' w.heap.size (x.data.toList.map lU ++ List.replicate r (Value.int .u8 0)) /\ c = x.size + r) -> K (.slice (some ⟨w.heap.size, 0, none⟩) x.size c) w') : dQ P (iO s d (.string x)) w K := by
 have run := run_bytes_of_string (P := P) w s d e x hs hd he
 have hcap : x.size <= grownCap w x.size 0 e := Nat.le_add_right _ _
 generalize grownCap w x.size 0 e = c at run hcap
 obtain ⟨r, rfl⟩ : ∃ r, c = x.size + r := ⟨c - x.size, by omega⟩
 have hrow : bytesRow x (x.size + r) = (x.data.toList.map lU ++ List.replicate r (Value.int .u8 0)).toArray := by
  unfold bytesRow
  have : x.size + r - x.size = r := by omega
  rw [this]
  apply Array.ext'
  simp only [Array.toList_append, Array.toList_map, Array.toList_replicate]
  rfl
 rw [hrow] at run
 have hlen : (x.data.toList.map lU).length = x.size := by rw [PQ, QC] <;> rfl
 have hsz : (x.data.toList.map lU ++ List.replicate r (Value.int .u8 0)).toArray.size = x.size + r := by
  rw [List.size_toArray, PN, Qg, hlen]
 rw [hsz] at run
 unfold dQ iO
 rw [kL, run]
 have ho : iE (w.drew.alloc (.cells (x.data.toList.map lU ++ List.replicate r (Value.int .u8 0)).toArray e (x.size + r, x.size + r + 1))) w.heap.size (x.data.toList.map lU ++ List.replicate r (Value.int .u8 0)) :=
  ⟨e, x.size + r, x.size + r + 1, Array.getElem?_push_size, .inl (by rw [PN, Qg, hlen]; exact PY _)⟩
 have hx : fU w (w.drew.alloc (.cells (x.data.toList.map lU ++ List.replicate r (Value.int .u8 0)).toArray e (x.size + r, x.size + r + 1))) kY := (fU.dr w kY).trans (fU.alloc _ _ kY) (fun _ _ h => h)
 refine hk _ _ ⟨_, _, _, rfl, hlen.symm, by omega, fun _ => ⟨_, _, rfl, fun i hi => ?_⟩⟩ hx (by show (w.heap.push _).size = _; rw [Array.size_push]) ⟨r, ho, rfl⟩
 rw [ho.cell]
 simp only [PM]
 rw [P3 (by rw [hlen]; exact hi)]
end
theorem JN (l : List UInt8) : ∀ x ∈ l.map lU, one x = true := by
 intro x hx
 obtain ⟨c, _, rfl⟩ := List.mem_map.1 hx
 rfl
theorem KM {b o m l sz : Nat} (h : l ≠ m) : tK ⟨b, o, none⟩ m l sz = ⟨b, o + l * sz, none⟩ := by
 unfold tK; rw [if_neg (fun e => h e.symm), yB]
theorem DD {b o m l : Nat} (h : l ≠ m) : tK ⟨b, o, none⟩ m l 1 = ⟨b, o + l, none⟩ := by rw [KM h, Qx]
theorem Sl.drop {w : Q6} {b o n c : Nat} {l : List Q7} (h : Sl w (.slice (some ⟨b, o, none⟩) n c) l) {k : Nat} (hk : k <= n) :
 Sl w (.slice (iL (some ⟨b, o, none⟩) c k 1) (n - k) (c - k)) (l.drop k) := by
 obtain ⟨x, m, c', e, hm, hc, hh⟩ := h
 cases e
 refine ⟨_, _, _, rfl, by rw [PU]; omega, by omega, fun h0 => ?_⟩
 obtain ⟨b', o', e, h2⟩ := hh (by omega)
 cases e
 have hne : ¬ c = k := by omega
 refine ⟨b, o + k, by unfold iL; rw [if_neg hne, Qe, yB, Qx], fun i hi => ?_⟩
 rw [QN, h2 (k + i) (by omega), List.getElem?_drop]
theorem Sl.take {w : Q6} {b o n c : Nat} {l : List Q7} (h : Sl w (.slice (some ⟨b, o, none⟩) n c) l) {k : Nat} (hk : k <= n) :
 Sl w (.slice (iL (some ⟨b, o, none⟩) c 0 1) (k - 0) (c - 0)) (l.take k) := by
 obtain ⟨x, m, c', e, hm, hc, hh⟩ := h
 cases e
 refine ⟨_, _, _, rfl, by rw [PR]; omega, by omega, fun h0 => ?_⟩
 obtain ⟨b', o', e, h2⟩ := hh (by omega)
 cases e
 have hne : ¬ c = 0 := by omega
 refine ⟨b, o, by unfold iL; rw [if_neg hne, Qe, yB] <;> rfl, fun i hi => ?_⟩
 rw [h2 i (by omega), QB (by omega)]
theorem Lp {b o n c k : Nat} {M : Nat -> Prop} (h : ¬ FY (.slice (some ⟨b, o, none⟩) n c) M) (hn : 0 < n) (m : Nat) : ¬ FY (.slice (iL (some ⟨b, o, none⟩) c k 1) m (c - k)) M := by
 have hb : ¬ M b := by
  obtain ⟨n', rfl⟩ : ∃ n', n = n' + 1 := ⟨n - 1, by omega⟩
  exact h
 unfold FY iL
 split
 .rename_i x q _ e
  simp only [Value.slice.injEq] at e
  obtain ⟨e, _, _⟩ := e
  split at e
  .cases e; exact hb
  .rw [Qe, yB] at e; cases e; exact hb
 .simp
theorem iE.bs {w : Q6} {b off c : Nat} {cs : List Q7} {l : List UInt8} (h : iE w b cs) (hc : l.length <= c) (hl : ∀ i (hi : i < l.length), cs[off + i]? = some (lU l[i])) : Bs w (.slice (some ⟨b, off, none⟩) l.length c) l :=
 ⟨_, _, _, rfl, by simp, hc, fun _ => ⟨b, off, rfl, fun i hi => by rw [h.cell, hl i hi]; simp [hi]⟩⟩
section
variable {P : Program} {w : Q6} {t e : TypeId} {k : IntKind} {a : Int}
theorem Oj {len : Nat} {d : TypeDesc} {i : TypeInfo} (hu : P.underlying t = some (.array len e)) (hd : P.underlying e = some d) (ha : Kj d = false) (hi : P.info? e = some i) (h1 : i.size = 1)
 (cs : Array Q7) (h0 : 0 <= a) (hl : a < (len : Int)) {v : Q7} (hv : cs[a.toNat]? = some v) : (D0 t (.agg cs) (.int k a)).run P w = .ok (.value v) w := by
 unfold D0
 rw [kL]
 simp only [Instr.index, asIntOf, pure_bind, underlying, hu, Sem.run_bind, run_program, Result.andThen_ok, Sem.run_pure, h0, hl, and_self, if_true, iC hi, h1, Qx, part, CU hd, ha, PG, if_false, hv]
def Ox (P : Program) (t : TypeId) (cs : Array Q7) (k : IntKind) (a : Int) (w : Q6) : Result Next := (D0 t (.agg cs) (.int k a)).run P w
theorem LF {len : Nat} {d : TypeDesc} {i : TypeInfo} (hu : P.underlying t = some (.array len e)) (hd : P.underlying e = some d) (ha : Kj d = false) (hi : P.info? e = some i) (h1 : i.size = 1)
 (cs : Array Q7) (h0 : 0 <= a) (hl : a < (len : Int)) : (D0 t (.agg cs) (.int k a)).run P w = JT cs[a.toNat]? w (Ox P t cs k a w) := by
 cases hv : cs[a.toNat]? with
 | none => rfl
 | some v => exact Oj hu hd ha hi h1 cs h0 hl hv
theorem EE {b off : Nat} {l : List Q7} (h : ∀ i, i < l.length -> w.cell? ⟨b, off + i, none⟩ = l[i]?) (n : Nat) (hn : n <= l.length) :
 (loadCells ⟨b, off, none⟩ n).run P w = .ok (l.take n).toArray w := by
 have key : ∀ (m i : Nat) (acc : Array Q7), i + m <= l.length -> (loadCellsFrom ⟨b, off, none⟩ i m acc).run P w = .ok (acc ++ ((l.drop i).take m).toArray) w := by
  intro m
  induction m with
  | zero => intro i acc _; simp [loadCellsFrom]
  | succ m ih =>
    intro i acc hm
    have hc := h i (by omega)
    rw [PT (by omega)] at hc
    simp only [loadCellsFrom, Sem.run_bind, run_load, yB, hc, Result.andThen_ok]
    rw [ih (i + 1) _ (by omega), QS (by omega : i < l.length), P0]
    simp
 unfold loadCells
 rw [key n 0 #[] (by omega)]
 simp
theorem HH {sz n : Nat} {v : Q7} {l : List Q7} (h1 : sz = 1) (h : Sl w v l) (hn : n <= l.length) : (Builtin.firstCells sz n v).run P w = .ok (l.take n).toArray w := by
 subst h1
 obtain ⟨x, m, c, rfl, hm, hc, hh⟩ := h
 cases x with
 | none =>
   have : l = [] := by
    cases l with
    | nil => rfl
    | cons y l => obtain ⟨b, off, e, _⟩ := hh (by rw [hm]; simp); cases e
   subst this
   simp [Builtin.firstCells]
 | some x =>
   simp only [Builtin.firstCells, Qx]
   by_cases h0 : 0 < m
   .obtain ⟨b, off, e, h2⟩ := hh h0
    have e := Qj e; subst e
    exact EE (fun i hi => h2 i (by omega)) n hn
   .have h00 : n = 0 := by omega
    subst h00
    simp [loadCells, loadCellsFrom]
theorem Om {v : Q7} {l : List Q7} (h : Sl w v l) : (Builtin.lenOf v).run P w = .ok l.length w := by
 obtain ⟨x, m, c, rfl, hm, hc, hh⟩ := h
 simp [Builtin.lenOf, hm]
theorem Lz {ty t2 : TypeId} {i : TypeInfo} (hu : P.underlying t = some (.slice e)) (hi : P.info? e = some i) (h1 : i.size = 1) {b off dl c : Nat} {cs : List Q7} (ho : iE w b cs) (hl : off + dl <= cs.length)
 {v : Q7} {l : List Q7} (h : Sl w v l) (hv : ∀ x ∈ l, one x = true) {K : Q7 -> Q6 -> Prop}
 (hk : ∀ w', iE w' b (gJ cs off (l.take (min l.length dl))) -> fU w w' (fun x => x = b) -> w'.heap.size = w.heap.size -> K (.int .i64 (min l.length dl : Nat)) w') :
 dQ P (mC .copy #[t, t2] ty [.slice (some ⟨b, off, none⟩) dl c, v]) w K := by
 have hlen : (l.take (min l.length dl)).length = min l.length dl := by rw [PR]; omega
 obtain ⟨w', s1, s2, s3, s4, _⟩ := xK (P := P) (M := fun x => x = b) rfl (l.take (min l.length dl)) w off 0 cs ho (by rw [hlen]; omega) (fun x hx => hv x (List.mem_of_mem_take hx))
 have : (mC .copy #[t, t2] ty [.slice (some ⟨b, off, none⟩) dl c, v]).run P w = .ok (.value (.int .i64 (min l.length dl : Nat))) w' := by
  unfold mC builtin
  simp only [Builtin.copy_, Qy, PE, PF]
  simp only [underlying, Sem.run_bind, run_program, Result.andThen_ok, hu, Sem.run_pure, Om h, iC hi, h1]
  have := HH (P := P) (n := min l.length dl) rfl h (Nat.min_le_left _ _)
  rw [show (Nat.min l.length dl) = min l.length dl from rfl, this]
  simp only [Result.andThen_ok, s1, goInt]
 unfold dQ
 rw [this]
 exact hk w' (by simpa using s2) s3 s4
theorem L2 {i : TypeInfo} {z : Q7} (hu : P.underlying t = some (.slice e)) (hi : P.info? e = some i) (h1 : i.size = 1) (hz : i.zero = some z) (hz1 : one z = true) {n : Int} (h0 : 0 <= n) (hn : i.bytes * n <= 2 ^ 48) (hn2 : n <= 9223372036854775807)
 {K : Q7 -> Q6 -> Prop}
 (hk : ∀ w', iE w' w.heap.size (List.replicate n.toNat z) -> fU w w' kY -> w'.heap.size = w.heap.size + 1 -> K (.slice (some ⟨w.heap.size, 0, none⟩) n.toNat n.toNat) w') :
 dQ P (Cf t (.int k n) (.int k n)) w K := by
 have hw : IntKind.i64.wrap n = n := dZ (by omega) hn2
 have hcells : z.cells = #[z] := H7 hz1
 have harr : (Array.range n.toNat).map (fun j => (#[z] : Array Q7)[j % (#[z] : Array Q7).size]!) = (List.replicate n.toNat z).toArray := by
  apply Array.ext
  .simp
  .intro j h1 h2; simp [Nat.mod_one]
 have hz' : (zeroValue e).run P w = .ok z w := by simp [zeroValue, typeInfo, hi, hz]
 have : (Cf t (.int k n) (.int k n)).run P w = .ok (.value (.slice (some ⟨w.heap.size, 0, none⟩) n.toNat n.toNat)) (w.alloc (.cells (List.replicate n.toNat z).toArray e)) := by
  unfold Cf
  rw [kL]
  have t1 : (decide (n < 0) || decide ((i.bytes : Int) * n > 2 ^ 48) || decide (n < 0) || decide (n > n)) = false := by
   simp only [Q3, decide_eq_false_iff_not]; omega
  by_cases hn0 : n.toNat = 0
  .simp only [Instr.makeSlice, underlying, typeInfo, asInt, asIntOf, pure_bind, Sem.run_bind, run_program, Result.andThen_ok, hu, hi, Sem.run_pure, hw, t1, PG, if_false, run_askRoom, iC hi, h1, Qx, hn0, if_true, newRow, run_newObj]
   have : (Array.range 0).map (fun x => (#[] : Array Q7)[x % (#[] : Array Q7).size]!) = (List.replicate 0 z).toArray := by simp
   rw [this]
   rfl
  .simp only [Instr.makeSlice, underlying, typeInfo, asInt, asIntOf, pure_bind, Sem.run_bind, run_program, Result.andThen_ok, hu, hi, Sem.run_pure, hw, t1, PG, if_false, run_askRoom, iC hi, h1, Qx, hn0, hz', hcells, newRow, run_newObj, harr]
   rfl
 unfold dQ
 rw [this]
 exact hk _ (iE.alloc _ _ _) (fU.alloc _ _ _) (by simp)
end
def Cl (w : Q6) (sz : Nat) (v : Q7) (n : Nat) (l : List Q7) : Prop :=
 ∃ a c, v = .slice a n c /\ l.length = n * sz /\ (0 < n -> ∃ b off, a = some ⟨b, off, none⟩ /\ ∀ i, i < l.length -> w.cell? ⟨b, off + i, none⟩ = l[i]?)
def ER (w : Q6) (base sz : Nat) (v : Q7) (n : Nat) (l : List Q7) : Prop :=
 l.length = n * sz /\ ((v = .slice none 0 0 /\ n = 0) ∨
   ∃ b c rest, v = .slice (some ⟨b, 0, none⟩) n c /\ base <= b /\ iE w b (l ++ rest) /\ (l ++ rest).length = c * sz /\ n <= c)
def uR (w : Q6) (S : Nat -> Prop) (sz : Nat) (v : Q7) (n : Nat) (l : List Q7) : Prop :=
 l.length = n * sz /\ ((v = .slice none 0 0 /\ n = 0) ∨
   ∃ b c rest, v = .slice (some ⟨b, 0, none⟩) n c /\ S b /\ iE w b (l ++ rest) /\ (l ++ rest).length = c * sz /\ n <= c)
theorem Sl.cl {w : Q6} {v : Q7} {l : List Q7} (h : Sl w v l) : Cl w 1 v l.length l := by
 obtain ⟨a, n, c, rfl, rfl, hc, h⟩ := h
 exact ⟨a, c, rfl, by omega, fun h0 => h h0⟩
theorem iE.cl {w : Q6} {b sz n c off : Nat} {cs l : List Q7} (h : iE w b cs) (hl : l.length = n * sz) (hcs : ∀ i, i < l.length -> cs[off + i]? = l[i]?) : Cl w sz (.slice (some ⟨b, off, none⟩) n c) n l :=
 ⟨_, _, rfl, hl, fun _ => ⟨b, off, rfl, fun i hi => by rw [h.cell, hcs i hi]⟩⟩
theorem ER.nil (w : Q6) (base sz : Nat) : ER w base sz (.slice none 0 0) 0 [] := ⟨by simp, .inl ⟨rfl, rfl⟩⟩
theorem ER.ext {w w' : Q6} {base sz n : Nat} {v : Q7} {l : List Q7} {M : Nat -> Prop} (h : ER w base sz v n l) (hx : fU w w' M) (hM : ∀ b, base <= b -> ¬ M b) : ER w' base sz v n l := by
 refine ⟨h.1, ?_⟩
 rcases h.2 with h2 | ⟨b, c, rest, h1, h2, h3, h4, h5⟩
 .exact .inl h2
 .exact .inr ⟨b, c, rest, h1, h2, h3.ext hx (hM b h2), h4, h5⟩
theorem ER.cl {w : Q6} {base sz n : Nat} {v : Q7} {l : List Q7} (h : ER w base sz v n l) : Cl w sz v n l := by
 rcases h.2 with ⟨rfl, rfl⟩ | ⟨b, c, rest, rfl, h2, h3, h4, h5⟩
 .exact ⟨_, _, rfl, h.1, fun h => by omega⟩
 .refine ⟨_, _, rfl, h.1, fun _ => ⟨b, 0, rfl, fun i hi => ?_⟩⟩
  rw [h3.cell, PM, P3 hi]
theorem ER.sl {w : Q6} {base n : Nat} {v : Q7} {l : List Q7} (h : ER w base 1 v n l) : Sl w v l := by
 have hl := h.1
 rcases h.2 with ⟨rfl, rfl⟩ | ⟨b, c, rest, rfl, h2, h3, h4, h5⟩
 .exact ⟨_, _, _, rfl, by omega, by omega, fun h => by omega⟩
 .refine ⟨_, _, _, rfl, by omega, h5, fun _ => ⟨b, 0, rfl, fun i hi => ?_⟩⟩
  rw [h3.cell, PM, P3 (by omega)]
section
variable {P : Program} {w : Q6} {t e : TypeId}
theorem IF {b off : Nat} {l : List Q7} (h : ∀ i, i < l.length -> w.cell? ⟨b, off + i, none⟩ = l[i]?) : (loadCells ⟨b, off, none⟩ l.length).run P w = .ok l.toArray w := by
 have := EE (P := P) h l.length (PY _)
 rwa [List.take_length] at this
theorem tX {sz n : Nat} {v : Q7} {l : List Q7} (h : Cl w sz v n l) : (Builtin.firstCells sz n v).run P w = .ok l.toArray w := by
 obtain ⟨x, c, rfl, hl, hh⟩ := h
 cases x with
 | none =>
   have : n = 0 := by
    rcases Nat.eq_zero_or_pos n with h | h
    .exact h
    .obtain ⟨b, off, e, _⟩ := hh h; cases e
   subst this
   have : l = [] := Qw.1 (by omega)
   subst this
   simp [Builtin.firstCells]
 | some x =>
   simp only [Builtin.firstCells]
   rw [<- hl]
   by_cases h0 : 0 < n
   .obtain ⟨b, off, e, h2⟩ := hh h0
    have e := Qj e; subst e
    exact IF h2
   .have : n = 0 := by omega
    subst this
    have : l = [] := Qw.1 (by omega)
    subst this
    simp [loadCells, loadCellsFrom]
theorem AP (zs : Array Q7) (n : Nat) : (Builtin.zeroCells zs n).size = n * zs.size := by simp [Builtin.zeroCells]
theorem HQ (vs : List Q7) : ∀ (PD rest : List Q7), vs.length <= rest.length -> gJ (PD ++ rest) PD.length vs = PD ++ vs ++ rest.drop vs.length := by
 induction vs with
 | nil => intro PD rest _; simp [gJ]
 | cons v vs ih =>
   intro PD rest h
   cases rest with
   | nil => simp at h
   | cons r rest =>
     have := ih (PD ++ [v]) rest (by simpa using h)
     simp only [gJ, PN, P9, List.length_nil, P1, QM, QU] at this ⊢
     rw [List.drop_succ_cons, <- this, Qh _ _ (PY _), Nat.sub_self, PV, PM]
theorem IW {S : Nat -> Prop} {sz n m : Nat} {i : TypeInfo} {z : Q7} {ty t2 e2 : TypeId} (hu : P.underlying t = some (.slice e)) (hu2 : P.underlying t2 = some (.slice e2)) (hi : P.info? e = some i) (hsz : i.size = sz) (hz : i.zero = some z) (hzs : z.cells.size = sz)
 {v x : Q7} {l news : List Q7} (h : uR w S sz v n l) (hx : Cl w sz x m news) (hone : ∀ y ∈ news, one y = true) (hb : ∀ b, w.heap.size <= b -> S b)
 (hn : n + m <= 9223372036854775807) (hbytes : (n + m) * i.bytes <= 140737488355328) (_hpos : i.bytes ≠ 0)
 {K : Q7 -> Q6 -> Prop} (hk : ∀ v' w', uR w' S sz v' (n + m) (l ++ news) -> fU w w' S -> Cl w' sz v n l -> K v' w') : dQ P (mC .append #[t, t2] ty [v, x]) w K := by
 have hlx : (Builtin.lenOf x).run P w = .ok m w := by
  obtain ⟨a, c, rfl, _⟩ := hx; simp [Builtin.lenOf]
 have hnl := hx.choose_spec.choose_spec.2.1
 have hfx := tX (P := P) hx
 have hmax : IntKind.i64.max = 9223372036854775807 := by decide
 have hnot : ¬ (((n + m : Nat) : Int) > IntKind.i64.max /\ (False ∨ i.bytes = 0)) := by rw [hmax]; omega
 have hz' : ∀ w, (zeroValue e).run P w = .ok z w := fun w => by simp [zeroValue, typeInfo, hi, hz]
 have hlen := h.1
 rcases h.2 with ⟨rfl, rfl⟩ | ⟨b, c, rest, rfl, h2, h3, h4, h5⟩
 .
  have hl0 : l = [] := Qw.1 (by omega)
  subst hl0
  by_cases hm : m = 0
  .subst hm
   have hn0 : news = [] := Qw.1 (by omega)
   subst hn0
   have : (mC .append #[t, t2] ty [.slice none 0 0, x]).run P w = .ok (.value (.slice none 0 0)) w := by
    unfold mC builtin
    simp only [Builtin.append_, Qy, PE, PF]
    simp only [underlying, Sem.run_bind, run_program, Result.andThen_ok, hu, hu2, Sem.run_pure, iC hi, hsz, PG, if_false, hlx, PY, Nat.add_zero, if_true, PK, hfx]
   unfold dQ
   rw [this]
   exact hk _ _ ⟨by simp, .inl ⟨rfl, by omega⟩⟩ (fU.refl _ _) ⟨none, 0, rfl, hlen, fun h => absurd h (by omega)⟩
  .have hfit := growslice_fits (need := 0 + m) (old := 0) (bytes := i.bytes) (by omega) (by omega)
   have hfit' : ¬ (Builtin.nextslicecap (0 + m) 0 * i.bytes > 2 ^ 48) := by omega
   have hle : ¬ (0 + m <= 0) := by omega
   have hq : (Question.appendCap (0 + m) 0 e).forced = false := rfl
   obtain ⟨r, hr⟩ : ∃ r, (Question.appendCap (0 + m) 0 e).cut (w.tape w.drawn (.appendCap (0 + m) 0 e)) = m + r :=
    ⟨(w.tape w.drawn (.appendCap (0 + m) 0 e)) % (2 ^ 63 - (0 + m)), by simp only [Question.cut]; omega⟩
   have : (mC .append #[t, t2] ty [.slice none 0 0, x]).run P w = .ok (.value (.slice (some ⟨w.heap.size, 0, none⟩) (0 + m) (m + r))) ((dr w).alloc (.cells (news ++ (Builtin.zeroCells z.cells (m + r - (0 + m))).toList).toArray e)) := by
    have hfx' := tX (P := P) (w := dr w) hx
    unfold mC builtin
    simp only [Builtin.append_, Qy, PE, PF]
    simp only [underlying, typeInfo, Sem.run_bind, run_program, Result.andThen_ok, hu, hu2, hi, Sem.run_pure, iC hi, hsz, PG, if_false, hlx, hle, PK, if_true, hnot, hfit', run_choose, hq, hr, run_askRoom]
    change ((Sem.run P _ (dr w)).andThen _).andThen _ = _
    simp only [Sem.run_bind, hfx', run_firstCells_none, Result.andThen_ok, hz', Sem.run_pure, newRow, run_newObj]
    have e1 : (#[] ++ news.toArray ++ Builtin.zeroCells z.cells (m + r - (0 + m)) : Array Q7) = (news ++ (Builtin.zeroCells z.cells (m + r - (0 + m))).toList).toArray := by
     apply Array.ext'; simp
    rw [e1]
    rfl
   unfold dQ
   rw [this]
   refine hk _ _ ⟨by simp only [QU]; rw [hnl, PM], .inr ⟨w.heap.size, m + r, (Builtin.zeroCells z.cells (m + r - (0 + m))).toList, by rw [PM], hb _ (PY _), iE.alloc (dr w) _ _, ?_, by omega⟩⟩ ((fU.dr w _).seq (fU.alloc _ _ _)) ⟨none, 0, rfl, hlen, fun h => absurd h (by omega)⟩
   simp only [QU, PN, QC, AP, hzs, hnl]
   rw [show m + r - (0 + m) = r from by omega, QR]
 .by_cases hc : n + m <= c
  .
   have hroom : news.length <= rest.length := by
    rw [PN, hlen] at h4
    have : (n + m) * sz <= c * sz := Nat.mul_le_mul_right _ hc
    rw [QR] at this; omega
   obtain ⟨w', s1, s2, s3, s4, _⟩ := xK (P := P) (M := S) h2 news w (n * sz) 0 (l ++ rest) h3 (by rw [PN, hlen]; omega) hone
   have : (mC .append #[t, t2] ty [.slice (some ⟨b, 0, none⟩) n c, x]).run P w = .ok (.value (.slice (some ⟨b, 0, none⟩) (n + m) c)) w' := by
    unfold mC builtin
    simp only [Builtin.append_, Qy, PE, PF]
    simp only [underlying, Sem.run_bind, run_program, Result.andThen_ok, hu, hu2, Sem.run_pure, iC hi, hsz, PG, if_false, hlx, hc, if_true, PK, hfx, yB, PM, s1]
   unfold dQ
   rw [this]
   rw [Nat.add_zero, <- hlen, HQ _ _ _ hroom] at s2
   refine hk _ _ ⟨by rw [PN, hlen, hnl, QR], .inr ⟨b, c, rest.drop news.length, rfl, h2, s2, ?_, hc⟩⟩ s3 ⟨_, _, rfl, hlen, fun _ => ⟨b, 0, rfl, fun i hi => by
    rw [s2.cell, PM, P1, P3 hi]⟩⟩
   rw [<- h4]; simp; omega
  .
   have hfit := growslice_fits (need := n + m) (old := c) (bytes := i.bytes) (by omega) hbytes
   have hfit' : ¬ (Builtin.nextslicecap (n + m) c * i.bytes > 2 ^ 48) := by omega
   have hq : (Question.appendCap (n + m) c e).forced = false := rfl
   obtain ⟨r, hr⟩ : ∃ r, (Question.appendCap (n + m) c e).cut (w.tape w.drawn (.appendCap (n + m) c e)) = n + m + r :=
    ⟨(w.tape w.drawn (.appendCap (n + m) c e)) % (2 ^ 63 - (n + m)), by simp only [Question.cut]⟩
   have hold : Cl (dr w) sz (.slice (some ⟨b, 0, none⟩) n c) n l := ⟨_, _, rfl, hlen, fun _ => ⟨b, 0, rfl, fun i hi => by
    show w.cell? _ = _
    rw [h3.cell, PM, P3 hi]⟩⟩
   have : (mC .append #[t, t2] ty [.slice (some ⟨b, 0, none⟩) n c, x]).run P w = .ok (.value (.slice (some ⟨w.heap.size, 0, none⟩) (n + m) (n + m + r))) ((dr w).alloc (.cells (l ++ news ++ (Builtin.zeroCells z.cells (n + m + r - (n + m))).toList).toArray e)) := by
    have hfx' := tX (P := P) (w := dr w) hx
    have hfo := tX (P := P) hold
    unfold mC builtin
    simp only [Builtin.append_, Qy, PE, PF]
    simp only [underlying, typeInfo, Sem.run_bind, run_program, Result.andThen_ok, hu, hu2, hi, Sem.run_pure, iC hi, hsz, PG, if_false, hlx, hc, PK, if_true, hnot, hfit', run_choose, hq, hr, run_askRoom]
    change ((Sem.run P _ (dr w)).andThen _).andThen _ = _
    simp only [Sem.run_bind, hfx', hfo, Result.andThen_ok, hz', Sem.run_pure, newRow, run_newObj]
    have e1 : (l.toArray ++ news.toArray ++ Builtin.zeroCells z.cells (n + m + r - (n + m)) : Array Q7) = (l ++ news ++ (Builtin.zeroCells z.cells (n + m + r - (n + m))).toList).toArray := by
     apply Array.ext'; simp
    rw [e1]
    rfl
   unfold dQ
   rw [this]
   refine hk _ _ ⟨by rw [PN, hlen, hnl, QR], .inr ⟨w.heap.size, n + m + r, _, rfl, hb _ (PY _), iE.alloc (dr w) _ _, ?_, by omega⟩⟩ ((fU.dr w _).seq (fU.alloc _ _ _)) ⟨_, _, rfl, hlen, fun _ => ⟨b, 0, rfl, fun i hi => by
    have o9 := h3.ext ((fU.dr w kY).seq (fU.alloc (dr w) (.cells (l ++ news ++ (Builtin.zeroCells z.cells (n + m + r - (n + m))).toList).toArray e) kY)) (fun h => h)
    rw [o9.cell, PM, P3 hi]⟩⟩
   simp only [PN, QC, AP, hzs, hnl, hlen]
   rw [show n + m + r - (n + m) = r from by omega, QR, QR]
theorem FZ {S : Nat -> Prop} {sz n m : Nat} {i : TypeInfo} {z : Q7} {ty t2 e2 : TypeId} (hu : P.underlying t = some (.slice e)) (hu2 : P.underlying t2 = some (.slice e2)) (hi : P.info? e = some i) (hsz : i.size = sz) (hz : i.zero = some z) (hzs : z.cells.size = sz)
 {v x : Q7} {l news : List Q7} (h : uR w S sz v n l) (hx : Cl w sz x m news) (hone : ∀ y ∈ news, one y = true) (hb : ∀ b, w.heap.size <= b -> S b)
 (hn : n + m <= 9223372036854775807) (hbytes : (n + m) * i.bytes <= 140737488355328) (_hpos : i.bytes ≠ 0)
 {K : Q7 -> Q6 -> Prop} (hk : ∀ v' w', uR w' S sz v' (n + m) (l ++ news) -> fU w w' S -> K v' w') : dQ P (mC .append #[t, t2] ty [v, x]) w K :=
 IW hu hu2 hi hsz hz hzs h hx hone hb hn hbytes _hpos fun v' w' a b _ => hk v' w' a b
theorem Kb {base sz n m : Nat} {i : TypeInfo} {z : Q7} {ty t2 e2 : TypeId} (hu : P.underlying t = some (.slice e)) (hu2 : P.underlying t2 = some (.slice e2)) (hi : P.info? e = some i) (hsz : i.size = sz) (hz : i.zero = some z) (hzs : z.cells.size = sz)
 {v x : Q7} {l news : List Q7} (h : ER w base sz v n l) (hx : Cl w sz x m news) (hone : ∀ y ∈ news, one y = true) (hb : base <= w.heap.size)
 (hn : n + m <= 9223372036854775807) (hbytes : (n + m) * i.bytes <= 140737488355328) (_hpos : i.bytes ≠ 0)
 {K : Q7 -> Q6 -> Prop} (hk : ∀ v' w', ER w' base sz v' (n + m) (l ++ news) -> fU w w' (fun y => base <= y) -> K v' w') : dQ P (mC .append #[t, t2] ty [v, x]) w K :=
 FZ (S := fun y => base <= y) hu hu2 hi hsz hz hzs h hx hone (fun _ h => Nat.le_trans hb h) hn hbytes _hpos hk
end
section
variable {P : Program} {w : Q6} {t e : TypeId}
theorem JV {i : TypeInfo} {z : Q7} {n : Nat} {ps : List (Nat × Q7)} {cells : Array Q7} (hu : P.underlying t = some (.slice e)) (hi : P.info? e = some i) (hz : i.zero = some z)
 (h1 : ¬ n * i.size > 2 ^ 24) (h0 : ¬ n * i.size = 0) (hf : Instr.fill (fun j => some (j * i.size, i.size)) ((Array.range (n * i.size)).map (z.cells[· % z.cells.size]!)) ps = some cells)
 {K : Q7 -> Q6 -> Prop} (hk : ∀ w', iE w' w.heap.size cells.toList -> fU w w' kY -> w'.heap.size = w.heap.size + 1 -> K (.slice (some ⟨w.heap.size, 0, none⟩) n n) w') :
 dQ P (iK t n ps) w K := by
 have hz' : (zeroValue e).run P w = .ok z w := by simp [zeroValue, typeInfo, hi, hz]
 have : (iK t n ps).run P w = .ok (.value (.slice (some ⟨w.heap.size, 0, none⟩) n n)) (w.alloc (.cells cells.toList.toArray e)) := by
  unfold iK; rw [kL]
  simp only [Instr.buildSlice, underlying, pure_bind, Sem.run_bind, run_program, Result.andThen_ok, hu, Sem.run_pure, iC hi, h1, h0, if_false, hz', hf, newRow, run_newObj]
  rfl
 unfold dQ
 rw [this]
 exact hk _ (iE.alloc _ _ _) (fU.alloc _ _ _) (by simp)
theorem iE.mark {b : Nat} {cs : List Q7} (h : iE w b cs) : iE (w.freeze ⟨b, cs.length, none⟩ 1) b cs := by
 have hb := h.lt
 obtain ⟨T, lo, hi, h, k⟩ := h
 by_cases hlh : (lo == hi) = true
 .refine ⟨T, cs.length, cs.length + 1, ?_, .inl (PY _)⟩
  show (w.heap.modify b _)[b]? = _
  rw [QL, if_pos rfl, h]
  have hlh : lo = hi := by simpa using hlh
  simp [hlh]
 .refine ⟨T, min lo cs.length, max hi (cs.length + 1), ?_, .inl ?_⟩
  .show (w.heap.modify b _)[b]? = _
   rw [QL, if_pos rfl, h]
   have hlh : ¬ lo = hi := by simpa using hlh
   simp [hlh]
  .rcases k with k | k
   .omega
   .exfalso; apply hlh; rw [k]; simp
theorem fU.mark (w : Q6) (a : Addr) : fU w (w.freeze a 1) (fun y => y = a.block) :=
 ⟨rfl, rfl, rfl, by show _ <= (w.heap.modify _ _).size; simp, fun b hb hn => by
  show (w.heap.modify a.block _)[b]? = _
  rw [QL]
  rw [if_neg (fun h => hn h.symm)]⟩
theorem Nr (hu : P.underlying t = some (.slice e)) (he : P.underlying e = some (.int .u8)) {b off n c : Nat} {cs : List Q7} (ho : iE w b cs)
 {K : Q7 -> Q6 -> Prop} (hk : ∀ w', iE w' b cs -> fU w w' (fun y => y = b) -> w'.heap.size = w.heap.size -> K (.slice (some ⟨b, off, none⟩) n c) w') :
 dQ P (iO t t (.slice (some ⟨b, off, none⟩) n c)) w K := by
 obtain ⟨T, hs⟩ : ∃ T, w.shape? b = some (T, cs.length) := by
  obtain ⟨T, lo, hi, h, _⟩ := ho
  exact ⟨T, by unfold World.shape?; rw [h]; simp⟩
 have : (iO t t (.slice (some ⟨b, off, none⟩) n c)).run P w = .ok (.value (.slice (some ⟨b, off, none⟩) n c)) (w.freeze ⟨b, cs.length, none⟩ 1) := by
  unfold iO; rw [kL]
  simp [convert, underlying, hu, he, markStringish, shape, freeze, Sem.run, hs]
 unfold dQ
 rw [this]
 exact hk _ ho.mark (fU.mark w _) (by show (w.heap.modify _ _).size = _; simp)
end
section
variable {P : Program} {w : Q6} {t e : TypeId}
def Grown (es : Array MapEntry) (clock : Nat) : Prop := (es.toList.map (·.born)).Pairwise (· < ·) /\ ∀ e ∈ es.toList, e.born < clock
def Mp {κ : Type} (w : Q6) (m : Nat) (enc : κ -> Q7) (l : List (κ × Q7)) : Prop :=
 ∃ es clock, w.heap[m]? = some (.map es clock) /\ es.toList.map (fun e => (e.key, e.val)) = l.map (fun p => (enc p.1, p.2)) /\ Grown es clock /\ (l.map (·.1)).Nodup
theorem Mp.lt {κ : Type} {m : Nat} {enc : κ -> Q7} {l : List (κ × Q7)} (h : Mp w m enc l) : m < w.heap.size := by
 obtain ⟨es, c, h, _⟩ := h
 rcases QH m w.heap.size with h' | h'
 .exact h'
 .rw [QY h'] at h; cases h
theorem Mp.ext {κ : Type} {w w' : Q6} {m : Nat} {enc : κ -> Q7} {l : List (κ × Q7)} {M : Nat -> Prop} (h : Mp w m enc l) (hx : fU w w' M) (hM : ¬ M m) : Mp w' m enc l := by
 have := h.lt
 obtain ⟨es, c, h, k⟩ := h
 exact ⟨es, c, by rw [hx.keep m this hM]; exact h, k⟩
theorem Mp.dr {κ : Type} {w : Q6} {m : Nat} {enc : κ -> Q7} {l : List (κ × Q7)} (h : Mp w m enc l) : Mp (dr w) m enc l := h
variable {κ : Type} [DecidableEq κ] {enc : κ -> Q7}
end
theorem jD {w : Q6} {b : Nat} {cs : List Q7} (h : iE w b cs) : iE (dr w) b cs := h.ext (fU.dr w kY) (fun h => h)
theorem Sl.dr {w : Q6} {v : Q7} {l : List Q7} (h : Sl w v l) : Sl (dr w) v l := h
theorem Sl.open {w : Q6} {v : Q7} {l : List UInt8} (h : Bs w v l) (h0 : 0 < l.length) : ∃ b off c, v = .slice (some ⟨b, off, none⟩) l.length c /\ l.length <= c /\ ∀ i, (h : i < l.length) -> w.cell? ⟨b, off + i, none⟩ = some (lU l[i]) := by
 obtain ⟨a, n, c, rfl, hn, hc, h⟩ := h
 simp only [PQ] at hn
 subst hn
 obtain ⟨b, off, rfl, hh⟩ := h h0
 exact ⟨b, off, c, rfl, hc, fun i hi => by rw [hh i hi]; simp [hi]⟩
theorem Sl.len {w : Q6} {v : Q7} {l : List Q7} (h : Sl w v l) : ∃ a c, v = .slice a l.length c /\ l.length <= c := by
 obtain ⟨a, n, c, rfl, rfl, hc, _⟩ := h
 exact ⟨a, c, rfl, hc⟩
theorem lC (v : Q7) : ¬ FY v kY := by unfold FY kY; split <;> simp
theorem Hl {b o m l : Nat} (h : l ≠ m) : iL (some ⟨b, o, none⟩) m l 1 = some ⟨b, o + l, none⟩ := by
 unfold iL; rw [if_neg (fun e => h e.symm)]; simp [yB]
theorem ER.len {w : Q6} {b sz n : Nat} {v : Q7} {l : List Q7} (h : ER w b sz v n l) : ∃ a c, v = .slice a n c := by
 rcases h.2 with ⟨rfl, rfl⟩ | ⟨x, c, r, rfl, _⟩
 .exact ⟨_, _, rfl⟩
 .exact ⟨_, _, rfl⟩
theorem Sl.nil (w : Q6) : Sl w (.slice none 0 0) [] := ⟨none, 0, 0, rfl, rfl, PY _, fun h => absurd h (by simp)⟩
theorem Sl.take' {w : Q6} {a : Option Addr} {n c : Nat} {l : List Q7} (h : Sl w (.slice a n c) l) {k : Nat} (hk : k <= n) : Sl w (.slice (iL a c 0 1) (k - 0) (c - 0)) (l.take k) := by
 have h' := h
 obtain ⟨a', n', c', e, hn, hc, hh⟩ := h'
 cases e
 by_cases h0 : k = 0
 .subst h0
  exact ⟨_, _, _, rfl, by simp, by omega, fun h => by simp at h⟩
 .obtain ⟨b, off, rfl, _⟩ := hh (by omega)
  exact h.take hk
theorem Sl.drop' {w : Q6} {a : Option Addr} {n c : Nat} {l : List Q7} (h : Sl w (.slice a n c) l) {k : Nat} (hk : k <= n) : Sl w (.slice (iL a c k 1) (n - k) (c - k)) (l.drop k) := by
 have h' := h
 obtain ⟨a', n', c', e, hn, hc, hh⟩ := h'
 cases e
 by_cases h0 : n = 0
 .exact ⟨_, _, _, rfl, by rw [PU]; omega, by omega, fun h => by omega⟩
 .obtain ⟨b, off, rfl, _⟩ := hh (by omega)
  exact h.drop hk
theorem Sl.openV {w : Q6} {v : Q7} {l : List Q7} (h : Sl w v l) (h0 : 0 < l.length) : ∃ b off c, v = .slice (some ⟨b, off, none⟩) l.length c /\ l.length <= c /\ ∀ i, (h : i < l.length) -> w.cell? ⟨b, off + i, none⟩ = some l[i] := by
 obtain ⟨a, n, c, rfl, hn, hc, h⟩ := h
 subst hn
 obtain ⟨b, off, rfl, hh⟩ := h h0
 exact ⟨b, off, c, rfl, hc, fun i hi => by rw [hh i hi]; simp [hi]⟩
theorem JX {P : Program} {w : Q6} {t e : TypeId} {k k' : IntKind} {hi mx : Int} {i : TypeInfo} (hu : P.underlying t = some (.slice e)) (hi' : P.info? e = some i) (x : Option Addr) (n c : Nat) (h0 : 0 <= hi) (h1 : hi <= mx) (h2 : mx <= c) :
 (hE t (.slice x n c) none (some (.int k hi)) (some (.int k' mx))).run P w = .ok (.value (.slice (iL x mx.toNat 0 i.size) (hi.toNat - 0) (mx.toNat - 0))) w := by
 have h3 : (0 : Int) <= mx := by omega
 have h4 : hi <= (mx.toNat : Int) := by omega
 simp only [hE, kL, Instr.sliceAt, underlying, hu, Sem.run_bind, run_program, Result.andThen_ok, Sem.run_pure, Instr.slice, Instr.sliceBounds, pure_bind, lK h3 h2, lK h0 h4, iC hi', iL]
end Go.En
namespace Go.Proofs.YthohephggmkeeaaDoor
open Go Go.En
set_option maxRecDepth 4000
theorem cR {ty : TypeId} (x : Option Addr) (n c : Nat) (w : Q6) : (mC .len #[22] ty [.slice x n c]).run pg w = .ok (.value (.int .i64 n)) w := IC Tryd.underlying22 x n c
theorem cO {k : IntKind} (a : Int) (w : Q6) : (iO 5 3 (.int k a)).run pg w = .ok (.value (.int .i64 (IntKind.i64.wrap a))) w := tB Tryd.underlying5 Tryd.underlying3
theorem cH {k : IntKind} (a : Int) (w : Q6) : (iO 23 3 (.int k a)).run pg w = .ok (.value (.int .i64 (IntKind.i64.wrap a))) w := tB Tryd.underlying23 Tryd.underlying3
theorem Dy : (pg).info? 5 = some Tryd.t5 := by kernel_rfl
theorem bY {k : IntKind} {hi : Int} (a : Option Addr) (n c : Nat) (w : Q6) (h0 : 0 <= hi) (h1 : hi <= c) : (hE 22 (.slice a n c) none (some (.int k hi)) none).run pg w = .ok (.value (.slice (iL a c (0) 1) (hi.toNat - 0) (c - 0))) w := JR Tryd.underlying22 Dy _ n c h0 h1
theorem kU {l : List UInt8} {v : Q7} {w : Q6} (h : Bs w v l) : (iO 22 9 v).run pg w = .ok (.value (.string ⟨l.toArray⟩)) w := Mf Tryd.underlying22 Tryd.underlying9 Tryd.underlying5 h
theorem cV {k : IntKind} {a : Int} (b o n c : Nat) (w : Q6) (h0 : 0 <= a) (h1 : a < n) : (iW 22 (.slice (some ⟨b, o, none⟩) n c) (.int k a)).run pg w = .ok (.value (.pointer (some ⟨b, o + a.toNat, none⟩))) w := CT rfl Tryd.underlying22 Dy b o n c h0 h1
theorem dJ (x : Addr) (w : Q6) : (fM 5 (.pointer (some x))).run pg w = JT (w.cell? x) w (Ly pg 5 x w) := Ip Tryd.underlying5 rfl x w
theorem MH {b off : Nat} {cs : List Q7} {w : Q6} {v : Q7} {K : Q7 -> Q6 -> Prop} (ho : iE w b cs) (hv : one v = true) (h : off < cs.length) (hk : ∀ w', iE w' b (cs.set off v) -> fU w w' (fun x => x = b) -> w'.heap.size = w.heap.size -> K undef w') : dQ pg (fQ 5 (.pointer (some ⟨b, off, none⟩)) v) w K := oT Dy rfl ho hv h hk
theorem bW {ty : TypeId} (x : Option Addr) (n c : Nat) (w : Q6) : (mC .len #[30] ty [.slice x n c]).run pg w = .ok (.value (.int .i64 n)) w := IC Tryd.underlying30 x n c
theorem Kw : (pg).info? 22 = some Tryd.t22 := by kernel_rfl
theorem bX {k : IntKind} {a : Int} (b o n c : Nat) (w : Q6) (h0 : 0 <= a) (h1 : a < n) : (iW 30 (.slice (some ⟨b, o, none⟩) n c) (.int k a)).run pg w = .ok (.value (.pointer (some ⟨b, o + a.toNat, none⟩))) w := CT rfl Tryd.underlying30 Kw b o n c h0 h1
theorem cS (x : Addr) (w : Q6) : (fM 22 (.pointer (some x))).run pg w = JT (w.cell? x) w (Ly pg 22 x w) := Ip Tryd.underlying22 rfl x w
theorem rI {n : Nat} {ps : List (Nat × Q7)} {cells : Array Q7} {w : Q6} (h1 : ¬ n * 1 > 2 ^ 24) (h0 : ¬ n * 1 = 0) (hf : Go.Instr.fill (fun j => some (j * 1, 1)) ((Array.range (n * 1)).map ((Tryd.t5.zero.get!).cells[· % (Tryd.t5.zero.get!).cells.size]!)) ps = some cells) {K : Q7 -> Q6 -> Prop} (hk : ∀ w', iE w' w.heap.size cells.toList -> fU w w' kY -> w'.heap.size = w.heap.size + 1 -> K (.slice (some ⟨w.heap.size, 0, none⟩) n n) w') : dQ pg (iK 22 n ps) w K := JV (i := Tryd.t5) Tryd.underlying22 Dy rfl h1 h0 hf hk
theorem CB {base n m : Nat} {ty : TypeId} {w : Q6} {v x : Q7} {l news : List Q7} (h : ER w base 1 v n l) (hx : Cl w 1 x m news) (hone : ∀ y ∈ news, one y = true) (hb : base <= w.heap.size) (hbytes : (n + m) * 1 <= 140737488355328) {K : Q7 -> Q6 -> Prop} (hk : ∀ v' w', ER w' base 1 v' (n + m) (l ++ news) -> fU w w' (fun y => base <= y) -> K v' w') : dQ pg (mC .append #[22, 22] ty [v, x]) w K := Kb (i := Tryd.t5) Tryd.underlying22 Tryd.underlying22 Dy rfl rfl rfl h hx hone hb (by omega) hbytes (by decide) hk
theorem cK {ty : TypeId} (x : Option Addr) (n c : Nat) (w : Q6) : (mC .len #[34] ty [.slice x n c]).run pg w = .ok (.value (.int .i64 n)) w := IC Tryd.underlying34 x n c
theorem OZ : (pg).info? 23 = some Tryd.t23 := by kernel_rfl
theorem cL {k : IntKind} {a : Int} (b o n c : Nat) (w : Q6) (h0 : 0 <= a) (h1 : a < n) : (iW 34 (.slice (some ⟨b, o, none⟩) n c) (.int k a)).run pg w = .ok (.value (.pointer (some ⟨b, o + a.toNat, none⟩))) w := CT rfl Tryd.underlying34 OZ b o n c h0 h1
theorem dE (x : Addr) (w : Q6) : (fM 23 (.pointer (some x))).run pg w = JT (w.cell? x) w (Ly pg 23 x w) := Ip Tryd.underlying23 rfl x w
theorem Jo {k : IntKind} {n : Int} {w : Q6} {K : Q7 -> Q6 -> Prop} (h0 : 0 <= n) (hn : 1 * n <= 2 ^ 48) (hk : ∀ w', iE w' w.heap.size (List.replicate n.toNat (.int .u8 0)) -> fU w w' kY -> w'.heap.size = w.heap.size + 1 -> K (.slice (some ⟨w.heap.size, 0, none⟩) n.toNat n.toNat) w') : dQ pg (Cf 22 (.int k n) (.int k n)) w K := L2 (i := Tryd.t5) Tryd.underlying22 Dy rfl rfl rfl h0 hn (by omega) hk
theorem EO {b off n c : Nat} {cs : List Q7} {w : Q6} (ho : iE w b cs) {K : Q7 -> Q6 -> Prop} (hk : ∀ w', iE w' b cs -> fU w w' (fun y => y = b) -> w'.heap.size = w.heap.size -> K (.slice (some ⟨b, off, none⟩) n c) w') : dQ pg (iO 22 22 (.slice (some ⟨b, off, none⟩) n c)) w K := Nr Tryd.underlying22 Tryd.underlying5 ho hk
theorem cP {k : IntKind} (a : Int) (w : Q6) : (iO 3 5 (.int k a)).run pg w = .ok (.value (.int .u8 (IntKind.u8.wrap a))) w := tB Tryd.underlying3 Tryd.underlying5
theorem IH : (pg).info? 3 = some Tryd.t3 := by kernel_rfl
theorem dD {ty : TypeId} (x : Option Addr) (n c : Nat) (w : Q6) : (mC .len #[37] ty [.slice x n c]).run pg w = .ok (.value (.int .i64 n)) w := IC Tryd.underlying37 x n c
theorem dC {k : IntKind} {a : Int} (b o n c : Nat) (w : Q6) (h0 : 0 <= a) (h1 : a < n) : (iW 37 (.slice (some ⟨b, o, none⟩) n c) (.int k a)).run pg w = .ok (.value (.pointer (some ⟨b, o + a.toNat, none⟩))) w := CT rfl Tryd.underlying37 IH b o n c h0 h1
theorem dW (x : Addr) (w : Q6) : (fM 3 (.pointer (some x))).run pg w = JT (w.cell? x) w (Ly pg 3 x w) := Ip Tryd.underlying3 rfl x w
theorem cZ {ox oy : Operand} (c d : Bool) (w : Q6) : (fD .eql 4 ox oy (.bool c) (.bool d)).run pg w = .ok (.value (.bool (c == d))) w := NU c d Tryd.underlying4
theorem cF {k : IntKind} (a : Int) (w : Q6) : (iO 3 40 (.int k a)).run pg w = .ok (.value (.int .u64 (IntKind.u64.wrap a))) w := tB Tryd.underlying3 Tryd.underlying40
theorem DR {x : ByteArray} {w : Q6} {K : Q7 -> Q6 -> Prop} (hk : ∀ w' c, Sl w' (.slice (some ⟨w.heap.size, 0, none⟩) x.size c) (x.data.toList.map lU) -> fU w w' kY -> w'.heap.size = w.heap.size + 1 -> (∃ r, iE w' w.heap.size (x.data.toList.map lU ++ List.replicate r (.int .u8 0)) /\ c = x.size + r) -> K (.slice (some ⟨w.heap.size, 0, none⟩) x.size c) w') : dQ pg (iO 9 22 (.string x)) w K := JZ Tryd.underlying9 Tryd.underlying22 Tryd.underlying5 hk
theorem bH {k k' : IntKind} {lo hi : Int} (a : Option Addr) (n c : Nat) (w : Q6) (h0 : 0 <= lo) (h1 : lo <= hi) (h2 : hi <= c) : (hE 22 (.slice a n c) (some (.int k lo)) (some (.int k' hi)) none).run pg w = .ok (.value (.slice (iL a c (lo.toNat) 1) (hi.toNat - lo.toNat) (c - lo.toNat))) w := Iv Tryd.underlying22 Dy _ n c h0 h1 h2
theorem bR {k : IntKind} (a : Int) (w : Q6) : (iO 40 5 (.int k a)).run pg w = .ok (.value (.int .u8 (IntKind.u8.wrap a))) w := tB Tryd.underlying40 Tryd.underlying5
theorem aT (b o : Nat) (w : Q6) : (fJ 47 (.pointer (some ⟨b, o, none⟩)) 3).run pg w = .ok (.value (.pointer (some ⟨b, o + 3, none⟩))) w := jZ (i := 3) Tryd.underlying47 rfl Kw (by decide) _
theorem aC (b o : Nat) (w : Q6) : (fJ 47 (.pointer (some ⟨b, o, none⟩)) 4).run pg w = .ok (.value (.pointer (some ⟨b, o + 4, none⟩))) w := jZ (i := 4) Tryd.underlying47 rfl IH (by decide) _
theorem aL (b o : Nat) (w : Q6) : (fJ 47 (.pointer (some ⟨b, o, none⟩)) 5).run pg w = .ok (.value (.pointer (some ⟨b, o + 5, none⟩))) w := jZ (i := 5) Tryd.underlying47 rfl IH (by decide) _
theorem dF {ty : TypeId} (x : ByteArray) (w : Q6) : (mC .len #[9] ty [.string x]).run pg w = .ok (.value (.int .i64 x.size)) w := Ou Tryd.underlying9 x
theorem aI (n0 : Int) (n1 : Int) (n2 : Int) (n3 : Int) (w : Q6) : (iB 49 [(0, (.int .u64 n0)), (1, (.int .u64 n1)), (2, (.int .u64 n2)), (3, (.int .u64 n3))]).run pg w = .ok (.value (.agg #[(.int .u64 n0), (.int .u64 n1), (.int .u64 n2), (.int .u64 n3)])) w := by kernel_rfl
theorem Kv : (pg).info? 49 = some Tryd.t49 := by kernel_rfl
theorem HF {w : Q6} {K : Q7 -> Q6 -> Prop} (hk : ∀ w', iE w' w.heap.size [(.int .u64 0), (.int .u64 0), (.int .u64 0), (.int .u64 0)] -> fU w w' kY -> w'.heap.size = w.heap.size + 1 -> K (.pointer (some ⟨w.heap.size, 0, none⟩)) w') : dQ pg (lH 49) w K := wR (i := Tryd.t49) Kv rfl hk
theorem GV {b off : Nat} {cs : List Q7} {w : Q6} {xs : Array Q7} {K : Q7 -> Q6 -> Prop} (ho : iE w b cs) (hs : xs.size = 4) (hv : ∀ x ∈ xs.toList, one x = true) (h : off + 4 <= cs.length) (hk : ∀ w', iE w' b (gJ cs off xs.toList) -> fU w w' (fun x => x = b) -> w'.heap.size = w.heap.size -> K undef w') : dQ pg (fQ 49 (.pointer (some ⟨b, off, none⟩)) (.agg xs)) w K := tN (v := .agg xs) Kv ho hs hv h hk
theorem Hc : (pg).info? 40 = some Tryd.t40 := by kernel_rfl
theorem cD {k : IntKind} {a : Int} (b o : Nat) (w : Q6) (h0 : 0 <= a) (h1 : a < 4) : (iW 49 (.pointer (some ⟨b, o, none⟩)) (.int k a)).run pg w = .ok (.value (.pointer (some ⟨b, o + a.toNat, none⟩))) w := KT rfl Tryd.underlying49 Hc b o h0 (by simpa using h1)
theorem dB (x : Addr) (w : Q6) : (fM 40 (.pointer (some x))).run pg w = JT (w.cell? x) w (Ly pg 40 x w) := Ip Tryd.underlying40 rfl x w
theorem tJ {b off : Nat} {cs : List Q7} {w : Q6} {v : Q7} {K : Q7 -> Q6 -> Prop} (ho : iE w b cs) (hv : one v = true) (h : off < cs.length) (hk : ∀ w', iE w' b (cs.set off v) -> fU w w' (fun x => x = b) -> w'.heap.size = w.heap.size -> K undef w') : dQ pg (fQ 40 (.pointer (some ⟨b, off, none⟩)) v) w K := oT Hc rfl ho hv h hk
theorem dA {k : IntKind} {a : Int} (x : ByteArray) (w : Q6) (h0 : 0 <= a) (h1 : a.toNat < x.size) : (D0 9 (.string x) (.int k a)).run pg w = .ok (.value (.int .u8 (x[a.toNat]'h1).toNat)) w := Oi Tryd.underlying9 x h0 h1
theorem bN {k : IntKind} (a : Int) (w : Q6) : (iO 5 40 (.int k a)).run pg w = .ok (.value (.int .u64 (IntKind.u64.wrap a))) w := tB Tryd.underlying5 Tryd.underlying40
theorem aH (p0 : Option Addr) (n1 : Int) (n2 : Int) (w : Q6) : (iB 47 [(0, (.pointer p0)), (1, (.int .u64 n1)), (2, (.int .i64 n2))]).run pg w = .ok (.value (.agg #[(.pointer p0), (.int .u64 n1), (.int .i64 n2), (.slice none 0 0), (.int .i64 0), (.int .i64 0)])) w := by kernel_rfl
theorem NC : (pg).info? 45 = some Tryd.t45 := by kernel_rfl
theorem bC (b o : Nat) (w : Q6) : (fJ 47 (.pointer (some ⟨b, o, none⟩)) 0).run pg w = .ok (.value (.pointer (some ⟨b, o, none⟩))) w := jZ (i := 0) Tryd.underlying47 rfl NC (by decide) _
theorem aZ (x : Addr) (w : Q6) : (fM 45 (.pointer (some x))).run pg w = JT (w.cell? x) w (Ly pg 45 x w) := Ip Tryd.underlying45 rfl x w
theorem cM {k : IntKind} {lo : Int} (x : ByteArray) (w : Q6) (h0 : 0 <= lo) (h1 : lo <= x.size) : (hE 9 (.string x) (some (.int k lo)) none none).run pg w = .ok (.value (.string (x.extract lo.toNat x.size))) w := Jy Tryd.underlying9  x h0 h1
theorem aD (s0 : ByteArray) (w : Q6) : (iB 58 [(0, (.string s0))]).run pg w = .ok (.value (.agg #[(.string s0), (.int .i64 0)])) w := by kernel_rfl
theorem KD : (pg).info? 58 = some Tryd.t58 := by kernel_rfl
theorem oU {w : Q6} {K : Q7 -> Q6 -> Prop} (hk : ∀ w', iE w' w.heap.size [(.string ⟨#[]⟩), (.int .i64 0)] -> fU w w' kY -> w'.heap.size = w.heap.size + 1 -> K (.pointer (some ⟨w.heap.size, 0, none⟩)) w') : dQ pg (lH 58) w K := wR (i := Tryd.t58) KD rfl hk
theorem lE {b off : Nat} {cs : List Q7} {w : Q6} {xs : Array Q7} {K : Q7 -> Q6 -> Prop} (ho : iE w b cs) (hs : xs.size = 2) (hv : ∀ x ∈ xs.toList, one x = true) (h : off + 2 <= cs.length) (hk : ∀ w', iE w' b (gJ cs off xs.toList) -> fU w w' (fun x => x = b) -> w'.heap.size = w.heap.size -> K undef w') : dQ pg (fQ 58 (.pointer (some ⟨b, off, none⟩)) (.agg xs)) w K := tN (v := .agg xs) KD ho hs hv h hk
theorem aX (a0 : Option Addr) (l0 c0 : Nat) (w : Q6) : (iB 63 [(0, (.slice a0 l0 c0))]).run pg w = .ok (.value (.agg #[(.slice a0 l0 c0), (.int .i64 0)])) w := by kernel_rfl
theorem aM {ox oy : Operand} (x : Option Addr) (w : Q6) : (fD .eql 45 ox oy (.pointer x) (.pointer none)).run pg w = .ok (.value (.bool x.isNone)) w := LU Tryd.underlying45 x
theorem aV (b o : Nat) (w : Q6) : (fJ 63 (.pointer (some ⟨b, o, none⟩)) 0).run pg w = .ok (.value (.pointer (some ⟨b, o, none⟩))) w := jZ (i := 0) Tryd.underlying63 rfl Kw (by decide) _
theorem cU {k : IntKind} (a : Int) (w : Q6) : (iO 3 35 (.int k a)).run pg w = .ok (.value (.int .u64 (IntKind.u64.wrap a))) w := tB Tryd.underlying3 Tryd.underlying35
theorem Mt : (pg).info? 26 = some Tryd.t26 := by kernel_rfl
theorem aW (b o : Nat) (w : Q6) : (fJ 63 (.pointer (some ⟨b, o, none⟩)) 1).run pg w = .ok (.value (.pointer (some ⟨b, o + 1, none⟩))) w := jZ (i := 1) Tryd.underlying63 rfl Mt (by decide) _
theorem cJ (x : Addr) (w : Q6) : (fM 26 (.pointer (some x))).run pg w = JT (w.cell? x) w (Ly pg 26 x w) := Ip Tryd.underlying26 rfl x w
theorem KH : (pg).info? 67 = some Tryd.t67 := by kernel_rfl
theorem qN {w : Q6} {K : Q7 -> Q6 -> Prop} (hk : ∀ w', iE w' w.heap.size [(.int .u64 0), (.int .u64 0), (.bool false), (.bool false)] -> fU w w' kY -> w'.heap.size = w.heap.size + 1 -> K (.pointer (some ⟨w.heap.size, 0, none⟩)) w') : dQ pg (lH 67) w K := wR (i := Tryd.t67) KH rfl hk
theorem jF {b off : Nat} {cs : List Q7} {w : Q6} {xs : Array Q7} {K : Q7 -> Q6 -> Prop} (ho : iE w b cs) (hs : xs.size = 4) (hv : ∀ x ∈ xs.toList, one x = true) (h : off + 4 <= cs.length) (hk : ∀ w', iE w' b (gJ cs off xs.toList) -> fU w w' (fun x => x = b) -> w'.heap.size = w.heap.size -> K undef w') : dQ pg (fQ 67 (.pointer (some ⟨b, off, none⟩)) (.agg xs)) w K := tN (v := .agg xs) KH ho hs hv h hk
theorem bS {k : IntKind} {lo : Int} (a : Option Addr) (n c : Nat) (w : Q6) (h0 : 0 <= lo) (h1 : lo <= n) : (hE 22 (.slice a n c) (some (.int k lo)) none none).run pg w = .ok (.value (.slice (iL a c (lo.toNat) 1) (n - lo.toNat) (c - lo.toNat))) w := JL Tryd.underlying22 Dy _ n c h0 h1
theorem DK {b off : Nat} {cs : List Q7} {w : Q6} {v : Q7} {K : Q7 -> Q6 -> Prop} (ho : iE w b cs) (hv : one v = true) (h : off < cs.length) (hk : ∀ w', iE w' b (cs.set off v) -> fU w w' (fun x => x = b) -> w'.heap.size = w.heap.size -> K undef w') : dQ pg (fQ 45 (.pointer (some ⟨b, off, none⟩)) v) w K := oT NC rfl ho hv h hk
theorem aF (b o : Nat) (w : Q6) : (fJ 67 (.pointer (some ⟨b, o, none⟩)) 0).run pg w = .ok (.value (.pointer (some ⟨b, o, none⟩))) w := jZ (i := 0) Tryd.underlying67 rfl Hc (by decide) _
theorem aG (b o : Nat) (w : Q6) : (fJ 47 (.pointer (some ⟨b, o, none⟩)) 1).run pg w = .ok (.value (.pointer (some ⟨b, o + 1, none⟩))) w := jZ (i := 1) Tryd.underlying47 rfl Hc (by decide) _
theorem M7 : (pg).info? 4 = some Tryd.t4 := by kernel_rfl
theorem aK (b o : Nat) (w : Q6) : (fJ 67 (.pointer (some ⟨b, o, none⟩)) 2).run pg w = .ok (.value (.pointer (some ⟨b, o + 2, none⟩))) w := jZ (i := 2) Tryd.underlying67 rfl M7 (by decide) _
theorem dO (x : Addr) (w : Q6) : (fM 4 (.pointer (some x))).run pg w = JT (w.cell? x) w (Ly pg 4 x w) := Ip Tryd.underlying4 rfl x w
theorem aP (b o : Nat) (w : Q6) : (fJ 67 (.pointer (some ⟨b, o, none⟩)) 1).run pg w = .ok (.value (.pointer (some ⟨b, o + 1, none⟩))) w := jZ (i := 1) Tryd.underlying67 rfl Hc (by decide) _
theorem aO (b o : Nat) (w : Q6) : (fJ 47 (.pointer (some ⟨b, o, none⟩)) 2).run pg w = .ok (.value (.pointer (some ⟨b, o + 2, none⟩))) w := jZ (i := 2) Tryd.underlying47 rfl IH (by decide) _
theorem bD (Mk LQ L3 : Q7) (w : Q6) : (iB 80 [(2, (.agg #[Mk, LQ, L3]))]).run pg w = .ok (.value (.agg #[(.slice none 0 0), (.int .i64 0), (.slice none 0 0), (.int .i64 0), (.slice none 0 0), (.int .i64 0), (.slice none 0 0), Mk, LQ, L3])) w := by kernel_rfl
theorem Ku : (pg).info? 80 = some Tryd.t80 := by kernel_rfl
theorem BO {w : Q6} {K : Q7 -> Q6 -> Prop} (hk : ∀ w', iE w' w.heap.size [(.slice none 0 0), (.int .i64 0), (.slice none 0 0), (.int .i64 0), (.slice none 0 0), (.int .i64 0), (.slice none 0 0), (.int .u32 0), (.int .u32 0), (.int .u32 0)] -> fU w w' kY -> w'.heap.size = w.heap.size + 1 -> K (.pointer (some ⟨w.heap.size, 0, none⟩)) w') : dQ pg (lH 80) w K := wR (i := Tryd.t80) Ku rfl hk
theorem iU {b off : Nat} {cs : List Q7} {w : Q6} {xs : Array Q7} {K : Q7 -> Q6 -> Prop} (ho : iE w b cs) (hs : xs.size = 10) (hv : ∀ x ∈ xs.toList, one x = true) (h : off + 10 <= cs.length) (hk : ∀ w', iE w' b (gJ cs off xs.toList) -> fU w w' (fun x => x = b) -> w'.heap.size = w.heap.size -> K undef w') : dQ pg (fQ 80 (.pointer (some ⟨b, off, none⟩)) (.agg xs)) w K := tN (v := .agg xs) Ku ho hs hv h hk
theorem tP {b off : Nat} {cs : List Q7} {w : Q6} (ho : iE w b cs) (h : off + 10 <= cs.length) : (fM 80 (.pointer (some ⟨b, off, none⟩))).run pg w = .ok (.value (.agg ((cs.drop off).take 10).toArray)) w := GR Tryd.underlying80 rfl Ku ho h
theorem aR (b o : Nat) (w : Q6) : (fJ 67 (.pointer (some ⟨b, o, none⟩)) 3).run pg w = .ok (.value (.pointer (some ⟨b, o + 3, none⟩))) w := jZ (i := 3) Tryd.underlying67 rfl M7 (by decide) _
theorem FM {b off : Nat} {cs : List Q7} {w : Q6} {v : Q7} {K : Q7 -> Q6 -> Prop} (ho : iE w b cs) (hv : one v = true) (h : off < cs.length) (hk : ∀ w', iE w' b (cs.set off v) -> fU w w' (fun x => x = b) -> w'.heap.size = w.heap.size -> K undef w') : dQ pg (fQ 22 (.pointer (some ⟨b, off, none⟩)) v) w K := oT Kw rfl ho hv h hk
theorem Iq {b off : Nat} {cs : List Q7} {w : Q6} {v : Q7} {K : Q7 -> Q6 -> Prop} (ho : iE w b cs) (hv : one v = true) (h : off < cs.length) (hk : ∀ w', iE w' b (cs.set off v) -> fU w w' (fun x => x = b) -> w'.heap.size = w.heap.size -> K undef w') : dQ pg (fQ 3 (.pointer (some ⟨b, off, none⟩)) v) w K := oT IH rfl ho hv h hk
theorem cB {k : IntKind} (a : Int) (w : Q6) : (iO 40 3 (.int k a)).run pg w = .ok (.value (.int .i64 (IntKind.i64.wrap a))) w := tB Tryd.underlying40 Tryd.underlying3
theorem sR {b off : Nat} {cs : List Q7} {w : Q6} (ho : iE w b cs) (h : off + 2 <= cs.length) {K : Q7 -> Prop} (hk : K (.agg ((cs.drop off).take 2).toArray)) : Fm pg 58 (.pointer (some ⟨b, off, none⟩)) w K := EK Tryd.underlying58 rfl KD ho h hk
theorem aE (b o : Nat) (w : Q6) : (fJ 58 (.pointer (some ⟨b, o, none⟩)) 1).run pg w = .ok (.value (.pointer (some ⟨b, o + 1, none⟩))) w := jZ (i := 1) Tryd.underlying58 rfl Mt (by decide) _
theorem Iw {b off : Nat} {cs : List Q7} {w : Q6} {v : Q7} {K : Q7 -> Q6 -> Prop} (ho : iE w b cs) (hv : one v = true) (h : off < cs.length) (hk : ∀ w', iE w' b (cs.set off v) -> fU w w' (fun x => x = b) -> w'.heap.size = w.heap.size -> K undef w') : dQ pg (fQ 26 (.pointer (some ⟨b, off, none⟩)) v) w K := oT Mt rfl ho hv h hk
theorem oC {b off : Nat} {cs : List Q7} {w : Q6} (ho : iE w b cs) (h : off + 2 <= cs.length) : (fM 58 (.pointer (some ⟨b, off, none⟩))).run pg w = .ok (.value (.agg ((cs.drop off).take 2).toArray)) w := GR Tryd.underlying58 rfl KD ho h
theorem bZ {ox oy : Operand} (x : Option Addr) (n c : Nat) (w : Q6) : (fD .eql 22 ox oy (.slice x n c) (.slice none 0 0)).run pg w = .ok (.value (.bool x.isNone)) w := Nd Tryd.underlying22 x n c
theorem bT {k k' : IntKind} {hi mx : Int} (a : Option Addr) (n c : Nat) (w : Q6) (h0 : 0 <= hi) (h1 : hi <= mx) (h2 : mx <= c) : (hE 22 (.slice a n c) none (some (.int k hi)) (some (.int k' mx))).run pg w = .ok (.value (.slice (iL a mx.toNat 0 1) (hi.toNat - 0) (mx.toNat - 0))) w := JX Tryd.underlying22 Dy a n c h0 h1 h2
theorem mO {b off : Nat} {cs : List Q7} {w : Q6} (ho : iE w b cs) (h : off + 4 <= cs.length) {K : Q7 -> Prop} (hk : K (.agg ((cs.drop off).take 4).toArray)) : Fm pg 67 (.pointer (some ⟨b, off, none⟩)) w K := EK Tryd.underlying67 rfl KH ho h hk
theorem bG  (w : Q6) : (iB 67 []).run pg w = .ok (.value (.agg #[(.int .u64 0), (.int .u64 0), (.bool false), (.bool false)])) w := by kernel_rfl
theorem bB (b0 : Bool) (w : Q6) : (iB 67 [(3, (.bool b0))]).run pg w = .ok (.value (.agg #[(.int .u64 0), (.int .u64 0), (.bool false), (.bool b0)])) w := by kernel_rfl
theorem aY (n0 : Int) (n1 : Int) (n2 : Int) (n3 : Int) (w : Q6) : (iB 87 [(0, (.int .i64 n0)), (1, (.int .i64 n1)), (2, (.int .i64 n2)), (3, (.int .i64 n3))]).run pg w = .ok (.value (.agg #[(.int .i64 n0), (.int .i64 n1), (.int .i64 n2), (.int .i64 n3)])) w := by kernel_rfl
theorem cX {k : IntKind} {a : Int} (cs : Array Q7) (w : Q6) (h0 : 0 <= a) (h1 : a < 4) : (D0 87 (.agg cs) (.int k a)).run pg w = JT cs[a.toNat]? w (Ox pg 87 cs k a w) := LF Tryd.underlying87 Tryd.underlying3 rfl IH rfl cs h0 (by simpa using h1)
theorem M5 {b off : Nat} {cs : List Q7} {w : Q6} {v : Q7} {K : Q7 -> Q6 -> Prop} (ho : iE w b cs) (hv : one v = true) (h : off < cs.length) (hk : ∀ w', iE w' b (cs.set off v) -> fU w w' (fun x => x = b) -> w'.heap.size = w.heap.size -> K undef w') : dQ pg (fQ 4 (.pointer (some ⟨b, off, none⟩)) v) w K := oT M7 rfl ho hv h hk
theorem Fh {b off : Nat} {cs : List Q7} {w : Q6} (ho : iE w b cs) (h : off + 4 <= cs.length) : (fM 67 (.pointer (some ⟨b, off, none⟩))).run pg w = .ok (.value (.agg ((cs.drop off).take 4).toArray)) w := GR Tryd.underlying67 rfl KH ho h
theorem LH : (pg).info? 72 = some Tryd.t72 := by kernel_rfl
theorem FE {b off : Nat} {cs : List Q7} {w : Q6} (ho : iE w b cs) (h : off + 3 <= cs.length) {K : Q7 -> Prop} (hk : K (.agg ((cs.drop off).take 3).toArray)) : Fm pg 72 (.pointer (some ⟨b, off, none⟩)) w K := EK Tryd.underlying72 rfl LH ho h hk
theorem Gp {w : Q6} {K : Q7 -> Q6 -> Prop} (hk : ∀ w', iE w' w.heap.size [(.int .u32 0), (.int .u32 0), (.int .u32 0)] -> fU w w' kY -> w'.heap.size = w.heap.size + 1 -> K (.pointer (some ⟨w.heap.size, 0, none⟩)) w') : dQ pg (lH 72) w K := wR (i := Tryd.t72) LH rfl hk
theorem aJ (n0 : Int) (n1 : Int) (n2 : Int) (w : Q6) : (iB 72 [(0, (.int .u32 n0)), (1, (.int .u32 n1)), (2, (.int .u32 n2))]).run pg w = .ok (.value (.agg #[(.int .u32 n0), (.int .u32 n1), (.int .u32 n2)])) w := by kernel_rfl
theorem Fk {b off : Nat} {cs : List Q7} {w : Q6} {xs : Array Q7} {K : Q7 -> Q6 -> Prop} (ho : iE w b cs) (hs : xs.size = 3) (hv : ∀ x ∈ xs.toList, one x = true) (h : off + 3 <= cs.length) (hk : ∀ w', iE w' b (gJ cs off xs.toList) -> fU w w' (fun x => x = b) -> w'.heap.size = w.heap.size -> K undef w') : dQ pg (fQ 72 (.pointer (some ⟨b, off, none⟩)) (.agg xs)) w K := tN (v := .agg xs) LH ho hs hv h hk
theorem kQ {b off : Nat} {cs : List Q7} {w : Q6} (ho : iE w b cs) (h : off + 10 <= cs.length) {K : Q7 -> Prop} (hk : K (.agg ((cs.drop off).take 10).toArray)) : Fm pg 80 (.pointer (some ⟨b, off, none⟩)) w K := EK Tryd.underlying80 rfl Ku ho h hk
theorem bM  (w : Q6) : (iB 80 []).run pg w = .ok (.value (.agg #[(.slice none 0 0), (.int .i64 0), (.slice none 0 0), (.int .i64 0), (.slice none 0 0), (.int .i64 0), (.slice none 0 0), (.int .u32 0), (.int .u32 0), (.int .u32 0)])) w := by kernel_rfl
theorem LD : (pg).info? 90 = some Tryd.t90 := by kernel_rfl
theorem xI {w : Q6} {K : Q7 -> Q6 -> Prop} (hk : ∀ w', iE w' w.heap.size [(.bool false), (.int .i64 0), (.int .i64 0)] -> fU w w' kY -> w'.heap.size = w.heap.size + 1 -> K (.pointer (some ⟨w.heap.size, 0, none⟩)) w') : dQ pg (lH 90) w K := wR (i := Tryd.t90) LD rfl hk
theorem qL {b off : Nat} {cs : List Q7} {w : Q6} {xs : Array Q7} {K : Q7 -> Q6 -> Prop} (ho : iE w b cs) (hs : xs.size = 3) (hv : ∀ x ∈ xs.toList, one x = true) (h : off + 3 <= cs.length) (hk : ∀ w', iE w' b (gJ cs off xs.toList) -> fU w w' (fun x => x = b) -> w'.heap.size = w.heap.size -> K undef w') : dQ pg (fQ 90 (.pointer (some ⟨b, off, none⟩)) (.agg xs)) w K := tN (v := .agg xs) LD ho hs hv h hk
theorem aU (b o : Nat) (w : Q6) : (fJ 90 (.pointer (some ⟨b, o, none⟩)) 2).run pg w = .ok (.value (.pointer (some ⟨b, o + 2, none⟩))) w := jZ (i := 2) Tryd.underlying90 rfl IH (by decide) _
theorem aQ (b o : Nat) (w : Q6) : (fJ 90 (.pointer (some ⟨b, o, none⟩)) 1).run pg w = .ok (.value (.pointer (some ⟨b, o + 1, none⟩))) w := jZ (i := 1) Tryd.underlying90 rfl IH (by decide) _
theorem aS (b o : Nat) (w : Q6) : (fJ 90 (.pointer (some ⟨b, o, none⟩)) 0).run pg w = .ok (.value (.pointer (some ⟨b, o, none⟩))) w := jZ (i := 0) Tryd.underlying90 rfl M7 (by decide) _
theorem OV : (pg).info? 9 = some Tryd.t9 := by kernel_rfl
theorem aA (b o : Nat) (w : Q6) : (fJ 58 (.pointer (some ⟨b, o, none⟩)) 0).run pg w = .ok (.value (.pointer (some ⟨b, o, none⟩))) w := jZ (i := 0) Tryd.underlying58 rfl OV (by decide) _
theorem dG (x : Addr) (w : Q6) : (fM 9 (.pointer (some x))).run pg w = JT (w.cell? x) w (Ly pg 9 x w) := Ip Tryd.underlying9 rfl x w
theorem cN {k : IntKind} {hi : Int} (x : ByteArray) (w : Q6) (h0 : 0 <= hi) (h1 : hi <= x.size) : (hE 9 (.string x) none (some (.int k hi)) none).run pg w = .ok (.value (.string (x.extract 0 hi.toNat))) w := Jh Tryd.underlying9  x h0 h1
theorem Lh {b off : Nat} {cs : List Q7} {w : Q6} {v : Q7} {K : Q7 -> Q6 -> Prop} (ho : iE w b cs) (hv : one v = true) (h : off < cs.length) (hk : ∀ w', iE w' b (cs.set off v) -> fU w w' (fun x => x = b) -> w'.heap.size = w.heap.size -> K undef w') : dQ pg (fQ 9 (.pointer (some ⟨b, off, none⟩)) v) w K := oT OV rfl ho hv h hk
theorem BM {b off : Nat} {cs : List Q7} {w : Q6} (ho : iE w b cs) (h : off + 3 <= cs.length) {K : Q7 -> Prop} (hk : K (.agg ((cs.drop off).take 3).toArray)) : Fm pg 90 (.pointer (some ⟨b, off, none⟩)) w K := EK Tryd.underlying90 rfl LD ho h hk
theorem bO  (w : Q6) : (iB 90 []).run pg w = .ok (.value (.agg #[(.bool false), (.int .i64 0), (.int .i64 0)])) w := by kernel_rfl
theorem aN (b0 : Bool) (n1 : Int) (n2 : Int) (w : Q6) : (iB 90 [(0, (.bool b0)), (1, (.int .i64 n1)), (2, (.int .i64 n2))]).run pg w = .ok (.value (.agg #[(.bool b0), (.int .i64 n1), (.int .i64 n2)])) w := by kernel_rfl
theorem cW {k : IntKind} (a : Int) (w : Q6) : (iO 35 3 (.int k a)).run pg w = .ok (.value (.int .i64 (IntKind.i64.wrap a))) w := tB Tryd.underlying35 Tryd.underlying3
theorem CJ {ty : TypeId} {w : Q6} {b off dl c : Nat} {cs : List Q7} (ho : iE w b cs) (hl : off + dl <= cs.length) {v : Q7} {l : List Q7} (h : Sl w v l) (hv : ∀ x ∈ l, one x = true) {K : Q7 -> Q6 -> Prop} (hk : ∀ w', iE w' b (gJ cs off (l.take (min l.length dl))) -> fU w w' (fun x => x = b) -> w'.heap.size = w.heap.size -> K (.int .i64 (min l.length dl : Nat)) w') : dQ pg (mC .copy #[22, 22] ty [.slice (some ⟨b, off, none⟩) dl c, v]) w K := Lz Tryd.underlying22 Dy rfl ho hl h hv hk
theorem bU {k : IntKind} (a : Int) (w : Q6) : (iO 35 70 (.int k a)).run pg w = .ok (.value (.int .u32 (IntKind.u32.wrap a))) w := tB Tryd.underlying35 Tryd.underlying70
theorem bV {k : IntKind} (a : Int) (w : Q6) : (iO 70 35 (.int k a)).run pg w = .ok (.value (.int .u64 (IntKind.u64.wrap a))) w := tB Tryd.underlying70 Tryd.underlying35
theorem cI (Mk LQ L3 O8 : Q7) (w : Q6) : (iB 138 [(0, (.agg #[Mk, LQ, L3, O8]))]).run pg w = .ok (.value (.agg #[Mk, LQ, L3, O8, (.int .u8 0), (.int .u8 0), (.int .u8 0), (.int .u8 0), (.int .u8 0), (.int .u8 0), (.int .u8 0), (.int .u8 0), (.int .u8 0), (.int .u8 0), (.int .u8 0), (.int .u8 0), (.int .u8 0), (.int .u8 0), (.int .u8 0), (.int .u8 0), (.int .u8 0), (.int .u8 0), (.int .u8 0), (.int .u8 0), (.int .u8 0), (.int .u8 0), (.int .u8 0), (.int .u8 0), (.int .u8 0), (.int .u8 0), (.int .u8 0), (.int .u8 0), (.int .u8 0), (.int .u8 0), (.int .u8 0), (.int .u8 0), (.int .i64 0), (.int .u64 0)])) w := by kernel_rfl
theorem bQ {ox oy : Operand} (x : Option Addr) (w : Q6) : (fD .eql 106 ox oy (.pointer x) (.pointer none)).run pg w = .ok (.value (.bool x.isNone)) w := LU Tryd.underlying106 x
theorem bP (b o : Nat) (w : Q6) : (fJ 138 (.pointer (some ⟨b, o, none⟩)) 3).run pg w = .ok (.value (.pointer (some ⟨b, o + 37, none⟩))) w := jZ (i := 3) Tryd.underlying138 rfl Hc (by decide) _
theorem Og : (pg).info? 136 = some Tryd.t136 := by kernel_rfl
theorem bL (b o : Nat) (w : Q6) : (fJ 138 (.pointer (some ⟨b, o, none⟩)) 1).run pg w = .ok (.value (.pointer (some ⟨b, o + 4, none⟩))) w := jZ (i := 1) Tryd.underlying138 rfl Og (by decide) _
theorem cA (b o : Nat) (w : Q6) : (fJ 138 (.pointer (some ⟨b, o, none⟩)) 2).run pg w = .ok (.value (.pointer (some ⟨b, o + 36, none⟩))) w := jZ (i := 2) Tryd.underlying138 rfl IH (by decide) _
theorem bJ {k : IntKind} {lo : Int} (b o : Nat) (w : Q6) (h0 : 0 <= lo) (h1 : lo <= 32) : (hE 136 (.pointer (some ⟨b, o, none⟩)) (some (.int k lo)) none none).run pg w = .ok (.value (.slice (some (tK ⟨b, o, none⟩ 32 (lo.toNat) 1)) (32 - lo.toNat) (32 - lo.toNat))) w := I4 Tryd.underlying136 Dy _ h0 (by simpa using h1)
theorem cC (b o : Nat) (w : Q6) : (fJ 138 (.pointer (some ⟨b, o, none⟩)) 0).run pg w = .ok (.value (.pointer (some ⟨b, o, none⟩))) w := jZ (i := 0) Tryd.underlying138 rfl Kv (by decide) _
theorem bA {k k' : IntKind} {lo hi : Int} (b o : Nat) (w : Q6) (h0 : 0 <= lo) (h1 : lo <= hi) (h2 : hi <= 32) : (hE 136 (.pointer (some ⟨b, o, none⟩)) (some (.int k lo)) (some (.int k' hi)) none).run pg w = .ok (.value (.slice (some (tK ⟨b, o, none⟩ 32 (lo.toNat) 1)) (hi.toNat - lo.toNat) (32 - lo.toNat))) w := HN Tryd.underlying136 Dy _ h0 h1 (by simpa using h2)
theorem bK {k : IntKind} {hi : Int} (b o : Nat) (w : Q6) (h0 : 0 <= hi) (h1 : hi <= 32) : (hE 136 (.pointer (some ⟨b, o, none⟩)) none (some (.int k hi)) none).run pg w = .ok (.value (.slice (some (tK ⟨b, o, none⟩ 32 (0) 1)) (hi.toNat - 0) (32 - 0))) w := IQ Tryd.underlying136 Dy _ h0 (by simpa using h1)
theorem bF {k : IntKind} (a : Int) (w : Q6) : (iO 70 40 (.int k a)).run pg w = .ok (.value (.int .u64 (IntKind.u64.wrap a))) w := tB Tryd.underlying70 Tryd.underlying40
theorem bE {k : IntKind} (a : Int) (w : Q6) : (iO 40 70 (.int k a)).run pg w = .ok (.value (.int .u32 (IntKind.u32.wrap a))) w := tB Tryd.underlying40 Tryd.underlying70
theorem Hy {b off : Nat} {cs : List Q7} {w : Q6} (ho : iE w b cs) (h : off + 4 <= cs.length) : (fM 49 (.pointer (some ⟨b, off, none⟩))).run pg w = .ok (.value (.agg ((cs.drop off).take 4).toArray)) w := GR Tryd.underlying49 rfl Kv ho h
theorem cG {k : IntKind} {a : Int} (cs : Array Q7) (w : Q6) (h0 : 0 <= a) (h1 : a < 4) : (D0 49 (.agg cs) (.int k a)).run pg w = JT cs[a.toNat]? w (Ox pg 49 cs k a w) := LF Tryd.underlying49 Tryd.underlying40 rfl Hc rfl cs h0 (by simpa using h1)
end Go.Proofs.YthohephggmkeeaaDoor
namespace Go.Pu
def DO (p : Int) : Int := if p < 0 then 1 else p
def fits : Int -> List Int -> Bool
 | left, [] => left == 0
 | left, p :: r => if p < -1 ∨ left < DO p then false else fits (left - DO p) r
def I7 (ps : List Int) : Int := (ps.map DO).sum
def NH (log : Int) (ps : List Int) : Bool := decide (5 <= log /\ log <= 15 /\ 1 <= ps.length /\ ps.length <= 256 /\ ps.getLast? ≠ some 0)
def OH (log : Int) (ps : List Int) : Bool := NH log ps && fits (2 ^ log.toNat) ps
theorem H8 (p : Int) (ps : List Int) : I7 (p :: ps) = DO p + I7 ps := by simp [I7]
theorem HP {p : Int} (h : -1 <= p) : 0 <= DO p := by unfold DO; split <;> omega
theorem IV {ps : List Int} (h : ∀ p ∈ ps, -1 <= p) : 0 <= I7 ps := by
 induction ps with
 | nil => simp [I7]
 | cons p r ih =>
   rw [H8]
   have := HP (h p (by simp))
   have := ih fun q hq => h q (P2 _ hq)
   omega
theorem IT : ∀ {ps : List Int} {left : Int}, fits left ps = true ↔ (∀ p ∈ ps, -1 <= p) /\ I7 ps = left
 | [], left => by simp [fits, I7]; constructor <;> intro h <;> omega
 | p :: r, left => by
   rw [fits, H8]
   by_cases h : p < -1 ∨ left < DO p
   .rw [if_pos h]
    constructor
    .intro h; cases h
    .rintro ⟨h1, h2⟩
     have hp := h1 p (by simp)
     have := IV (ps := r) fun q hq => h1 q (P2 _ hq)
     omega
   .rw [if_neg h, IT]
    constructor
    .rintro ⟨h1, h2⟩
     exact ⟨fun q hq => by rcases Qz.1 hq with rfl | hq; · omega
                           .exact h1 q hq, by omega⟩
    .rintro ⟨h1, h2⟩
     exact ⟨fun q hq => h1 q (P2 _ hq), by omega⟩
structure Pp (log : Nat) (ps : List Int) : Prop where
 log5 : 5 <= log
 log15 : log <= 15
 len1 : 1 <= ps.length
 len256 : ps.length <= 256
 last : ps.getLast? ≠ some 0
 low : ∀ p ∈ ps, -1 <= p
 sum : I7 ps = 2 ^ log
theorem Pp.b {log : Nat} {ps : List Int} (h : Pp log ps) : OH log ps = true := by
 unfold OH NH
 simp only [PO, decide_eq_true_eq]
 have h1 := h.log5
 have h2 := h.log15
 refine ⟨⟨by omega, by omega, h.len1, h.len256, h.last⟩, ?_⟩
 rw [IT, PJ]
 exact ⟨h.low, h.sum⟩
def pos (n j : Nat) : Nat := (j * (n / 2 + n / 8 + 3)) % n
end Go.Pu
namespace Go.En
open Go
section
variable {P : Program} {w : Q6} {t e : TypeId}
theorem JB {i : TypeInfo} (hu : P.underlying t = some (.slice e)) (hi : P.info? e = some i)
 {K : Q7 -> Q6 -> Prop} (hk : ∀ w', iE w' w.heap.size [] -> fU w w' kY -> w'.heap.size = w.heap.size + 1 -> K (.slice (some ⟨w.heap.size, 0, none⟩) 0 0) w') :
 dQ P (iK t 0 []) w K := by
 have : (iK t 0 []).run P w = .ok (.value (.slice (some ⟨w.heap.size, 0, none⟩) 0 0)) (w.alloc (.cells ([] : List Q7).toArray e)) := by
  unfold iK; rw [kL]
  have h1 : ¬ (0 > 2 ^ 24) := by omega
  have e : ∀ f : Nat -> Q7, Array.map f (Array.range 0) = #[] := fun f => by simp
  simp only [Instr.buildSlice, underlying, pure_bind, Sem.run_bind, run_program, Result.andThen_ok, hu, Sem.run_pure, iC hi, Nat.zero_mul, h1, if_false, if_true, newRow, run_newObj, Instr.fill, e]
  rfl
 unfold dQ
 rw [this]
 exact hk _ (iE.alloc _ _ _) (fU.alloc _ _ _) (by simp)
def At (v : Q7) (b : Nat) : Prop := ∀ M : Nat -> Prop, ¬ M b -> ¬ FY v M
theorem At.nil (c b : Nat) (a : Option Addr) : At (.slice a 0 c) b := fun M h => by unfold FY; split <;> simp_all
theorem At.at (b o n c : Nat) : At (.slice (some ⟨b, o, none⟩) n c) b := fun M h => by
 unfold FY; split
 .rename_i x m _ e
  obtain ⟨rfl, _⟩ : (⟨b, o, none⟩ : Addr) = x /\ _ := by simpa using e
  exact h
 .simp
theorem ER.at' {w : Q6} {base sz n : Nat} {v : Q7} {l : List Q7} (h : ER w base sz v n l) (hb : base < w.heap.size) : ∃ b, base <= b /\ b < w.heap.size /\ At v b := by
 rcases h.2 with ⟨rfl, rfl⟩ | ⟨b, c, rest, rfl, h2, h3, h4, h5⟩
 .exact ⟨base, PY _, hb, At.nil _ _ _⟩
 .exact ⟨b, h2, h3.lt, At.at _ _ _ _⟩
end
end Go.En
namespace Go.Proofs.YthohephggmkeeaaDoor
open Go Go.En Go.Pu
set_option maxRecDepth 4000
theorem Oq {w : Q6} {v : Q7} {l : List UInt8} (h : Bs w v l) (h0 : 0 < l.length) : ∃ b off c, v = .slice (some ⟨b, off, none⟩) l.length c /\ l.length <= c /\ ∀ i, (h : i < l.length) -> w.cell? ⟨b, off + i, none⟩ = some (.int .u8 (l[i].toNat : Nat)) := by
 obtain ⟨b, off, c, rfl, hc, hcell⟩ := h.openV (by simpa using h0)
 refine ⟨b, off, c, by rw [PQ], by simpa using hc, fun i hi => ?_⟩
 have := hcell i (by simpa using hi)
 simpa [lU] using this
theorem MU {v : Q7} {l : List UInt8} {w : Q6} (h : Bs w v l) (hl : l.length <= 1000000000) :
 fK pg lX #[v] w (fun r w' => ER w' w.heap.size 1 r l.length (l.map lU) /\ fU w w' kY) := by
 refine Bq ?_
 have h1 := h
 obtain ⟨a, n, c, rfl, hn, hc, hh⟩ := h
 rw [PQ] at hn
 unfold yP oS
 cases a with
 | none =>
   have h0 : l = [] := by
    cases l with
    | nil => rfl
    | cons x l => obtain ⟨b, off, h, _⟩ := hh (by simp at hn; omega); cases h
   subst h0
   simp (disch := omega) only [dQ, bZ, PI, cQ, dI]
   exact ⟨ER.nil _ _ _, fU.refl _ _⟩
 | some x =>
   simp (disch := omega) only [dQ, bZ, PH, cQ, cY]
   refine JB Tryd.underlying22 Dy fun w1 o1 x1 s1 => ?_
   have hcl1 := (h1.ext x1 (lC _)).cl
   rw [PQ] at hcl1
   have hos : ER w1 w.heap.size 1 (.slice (some ⟨w.heap.size, 0, none⟩) 0 0) 0 [] := ⟨rfl, .inr ⟨_, 0, [], rfl, PY _, o1, rfl, PY _⟩⟩
   refine CB hos hcl1 (JN _) x1.size (by omega) fun v3 w3 o3 x3 => ?_
   rw [PM, QU] at o3
   exact ⟨o3, x1.trans x3 fun b hb h => Nat.not_le_of_lt hb h⟩
def NX (v : Q7) (lo hi : Nat) : Prop := ∀ M : Nat -> Prop, (∀ b, lo <= b -> b < hi -> ¬ M b) -> ¬ FY v M
theorem ER.atI {w : Q6} {base sz n : Nat} {v : Q7} {l : List Q7} (h : ER w base sz v n l) : NX v base w.heap.size := by
 intro M hM
 rcases h.2 with ⟨rfl, rfl⟩ | ⟨b, c, rest, rfl, h2, h3, h4, h5⟩
 .exact fun h => h
 .exact At.at b 0 n c M (hM b h2 h3.lt)
end Go.Proofs.YthohephggmkeeaaDoor
namespace Go.Pu
open Go Go.En
def OP (c : UInt8) : List Bool := (List.range 8).map c.toNat.testBit
def NM : List UInt8 -> List Bool
 | [] => []
 | c :: l => OP c ++ NM l
theorem OB {x i : Nat} (h : x < 2 ^ i) (b : Nat) : x ||| (b * 2 ^ i) = x + 2 ^ i * b := by
 rw [Nat.or_comm, QX b, <- Nat.two_pow_add_eq_or_of_lt h b, Nat.add_comm]
theorem M3 {a b : Nat} (ha : a < 2 ^ 64) (hb : b < 2 ^ 64) : OE .u64 (a : Int) (b : Int) = ((a ||| b : Nat) : Int) := by
 have h := Nat.or_lt_two_pow ha hb
 unfold OE
 have e : IntKind.u64.bits = 64 := rfl
 rw [e, BitVec.ofInt_natCast, BitVec.ofInt_natCast, BitVec.toNat_or, BitVec.toNat_ofNat, BitVec.toNat_ofNat, Qa ha, Qa hb]
 exact dY (by omega) (by have : ((a ||| b : Nat) : Int) < ((2 ^ 64 : Nat) : Int) := by exact_mod_cast h
                         omega)
end Go.Pu
namespace Go.Proofs.YthohephggmkeeaaDoor
open Go Go.En Go.Pu
set_option maxRecDepth 4000
def Pg (w : Q6) (lo hi : Nat) (l : List UInt8) (st : Nat) : Prop := ∃ v, iE w hi [v, .int .i64 st] /\ Bs w v l /\ NX v lo hi
theorem Pg.ext {w w' : Q6} {lo hi st : Nat} {l : List UInt8} {M : Nat -> Prop} (h : Pg w lo hi l st) (hx : fU w w' M) (hM : ∀ b, lo <= b -> b <= hi -> ¬ M b) (hlh : lo <= hi) : Pg w' lo hi l st := by
 obtain ⟨v, h1, h2, h3⟩ := h
 exact ⟨v, h1.ext hx (hM _ hlh (PY _)), h2.ext hx (h3 M fun b hb hh => hM b hb (by omega)), h3⟩
theorem NX.sub {a : Option Addr} {n c m c' k sz lo hi : Nat} (h : NX (.slice a n c) lo hi) (hm : m <= n) : NX (.slice (iL a c k sz) m c') lo hi := by
 intro M hM hin
 cases m with
 | zero => unfold FY at hin; split at hin <;> simp_all
 | succ m =>
   obtain ⟨n', rfl⟩ : ∃ n', n = n' + 1 := ⟨n - 1, by omega⟩
   have h1 := h M hM
   cases a with
   | none => unfold iL at hin; split at hin <;> exact hin
   | some x =>
     unfold iL at hin
     have h2 : M x.block := by
      split at hin
      .exact hin
      .rw [Qe] at hin
       have e : (x.add (k * sz)).block = x.block := by unfold Addr.add; split <;> rfl
       have h3 : M (x.add (k * sz)).block := hin
       rwa [e] at h3
     exact h1 h2
end Go.Proofs.YthohephggmkeeaaDoor
namespace Go.Pu
def jH : List UInt8 -> Nat
 | [] => 0
 | c :: l => c.toNat + 256 * jH l
theorem yU : ∀ l : List UInt8, jH l < 256 ^ l.length
 | [] => by simp [jH]
 | c :: l => by
   have := yU l
   have hc := c.toNat_lt
   rw [jH, P9, Q4]; omega
theorem Im (c : UInt8) : ∀ l : List UInt8, jH (l ++ [c]) = jH l + 256 ^ l.length * c.toNat
 | [] => by simp [jH]
 | d :: l => by
   rw [QM, jH, Im c l, jH, P9, Q4, Nat.mul_add, QN, QX (256 ^ l.length) 256, Nat.mul_assoc]
theorem MG (i : Nat) : 256 ^ i = 2 ^ (8 * i) := by rw [Nat.pow_mul]
theorem MT (l : List UInt8) (c : UInt8) : jH l ||| (c.toNat * 2 ^ (8 * l.length)) = jH (l ++ [c]) := by
 have := yU l
 rw [MG] at this
 rw [OB this, Im, MG]
def iN (x : Nat) : Nat -> List UInt8
 | 0 => []
 | n + 1 => UInt8.ofNat (x % 256) :: iN (x / 256) n
theorem fO : ∀ (n x : Nat), (iN x n).length = n
 | 0, _ => rfl
 | n + 1, x => by rw [iN, P9, fO n]
theorem tD : ∀ (n x : Nat), jH (iN x n) = x % 256 ^ n
 | 0, x => by simp [iN, jH, Nat.mod_one]
 | n + 1, x => by
   rw [iN, jH, tD n, Q4, QX (256 ^ n) 256, Nat.mod_mul]
   have : (UInt8.ofNat (x % 256)).toNat = x % 256 := by
    rw [UInt8.toNat_ofNat']; omega
   rw [this]
theorem Io : ∀ (n x : Nat), iN x (n + 1) = iN x n ++ [UInt8.ofNat (x / 256 ^ n % 256)]
 | 0, x => by simp [iN]
 | n + 1, x => by
   rw [iN, Io n (x / 256), iN, QM, QG, Q4, QX (256 ^ n) 256]
end Go.Pu
namespace Go.Proofs.YthohephggmkeeaaDoor
open Go Go.En Go.Pu
set_option maxRecDepth 4000
def J9 (v : Q7) (S : Nat -> Prop) : Prop := ∀ M : Nat -> Prop, (∀ b, S b -> ¬ M b) -> ¬ FY v M
theorem NX.toS {v : Q7} {lo hi : Nat} {S : Nat -> Prop} (h : NX v lo hi) (hS : ∀ b, lo <= b -> b < hi -> S b) : J9 v S := fun M hM => h M fun b h1 h2 => hM b (hS b h1 h2)
theorem J9.mono {v : Q7} {S T : Nat -> Prop} (h : J9 v S) (hT : ∀ b, S b -> T b) : J9 v T := fun M hM => h M fun b hb => hM b (hT b hb)
theorem J9.nil (S : Nat -> Prop) : J9 (.slice none 0 0) S := fun M _ h => h
theorem J9.sub {a : Option Addr} {n c m c' k mx sz : Nat} {S : Nat -> Prop} (h : J9 (.slice a n c) S) (hm : m <= n) : J9 (.slice (iL a mx k sz) m c') S := by
 intro M hM hin
 cases m with
 | zero => unfold FY at hin; split at hin <;> simp_all
 | succ m =>
   obtain ⟨n', rfl⟩ : ∃ n', n = n' + 1 := ⟨n - 1, by omega⟩
   have h1 := h M hM
   cases a with
   | none => unfold iL at hin; split at hin <;> exact hin
   | some x =>
     unfold iL at hin
     have h2 : M x.block := by
      split at hin
      .exact hin
      .rw [Qe] at hin
       have e : (x.add (k * sz)).block = x.block := by unfold Addr.add; split <;> rfl
       have h3 : M (x.add (k * sz)).block := hin
       rwa [e] at h3
     exact h1 h2
theorem O0 {w : Q6} {a : Option Addr} {n c : Nat} {l : List Q7} (h : Sl w (.slice a n c) l) {k : Nat} (hk : k <= n) : Sl w (.slice (iL a k 0 1) (k - 0) (k - 0)) (l.take k) := by
 obtain ⟨a', n', c', e, hn, hc, h⟩ := h
 cases e
 refine ⟨_, _, _, rfl, by rw [PR]; omega, PY _, fun h0 => ?_⟩
 obtain ⟨b, off, rfl, h2⟩ := h (by omega)
 have hs : iL (some ⟨b, off, none⟩) k 0 1 = some ⟨b, off + 0 * 1, none⟩ := by unfold iL; rw [if_neg (by omega)] <;> rfl
 refine ⟨b, off, by rw [hs]; simp, fun i hi => ?_⟩
 rw [QB (by omega)]
 exact h2 i (by omega)
def Bg (w : Q6) (lo hi p : Nat) (l : List UInt8) (e : Int) : Prop := lo <= p /\ p < hi /\ ∃ v, iE w p [v, .int .i64 e] /\ Bs w v l /\ J9 v (fun b => lo <= b /\ b < hi /\ b ≠ p)
theorem Bg.ext {w w' : Q6} {lo hi p : Nat} {l : List UInt8} {e : Int} {M : Nat -> Prop} (h : Bg w lo hi p l e) (x : fU w w' M) (hM : ∀ b, lo <= b -> b < hi -> ¬ M b) : Bg w' lo hi p l e := by
 obtain ⟨h0, h0', v, h1, h2, h3⟩ := h
 exact ⟨h0, h0', v, h1.ext x (hM _ h0 h0'), h2.ext x (h3 M fun b hb => hM b hb.1 hb.2.1), h3⟩
theorem Bg.lt {w : Q6} {lo hi p : Nat} {l : List UInt8} {e : Int} (h : Bg w lo hi p l e) : p < w.heap.size := by
 obtain ⟨_, _, v, h1, _⟩ := h; exact h1.lt
theorem uP {v : Q7} {l : List UInt8} {w : Q6} (h : Bs w v l) (hl : l.length <= 1000000000) :
 fK pg iR #[v] w (fun r w' => ∃ p, r = .pointer (some ⟨p, 0, none⟩) /\ Bg w' w.heap.size w'.heap.size p l 0 /\ fU w w' kY) := by
 refine B9 ?_
 unfold AR pS
 refine (MU h hl).mono ?_
 rintro r w1 ⟨ho, x1⟩
 have hat := ER.atI ho
 have hs := ho.sl
 obtain ⟨va, vc, rfl⟩ := ho.len
 simp (disch := omega) only [dQ, aX, cQ]
 refine CQ fun w2 o2 x2 s2 => ?_
 have o2 : iE w2 w1.heap.size [.slice va l.length vc, .int .i64 0] := o2
 have hz := o2.lt
 exact ⟨w1.heap.size, rfl, ⟨x1.size, hz, _, o2, hs.ext x2 (lC _), hat.toS fun b h1 h2 => ⟨h1, by omega, by omega⟩⟩, x1.seq x2⟩
def sT (l : List UInt8) (e : Int) (n : Nat) : List UInt8 × List UInt8 × Int := if e ≠ 0 then ([], l, e) else if l.length < n then ([], l, 10) else (l.take n, l.drop n, 0)
theorem Ji {lo hi p n : Nat} {l : List UInt8} {e : Int} {w : Q6} (h : Bg w lo hi p l e) (hl : l.length <= 1000000000) (hn : n <= 1000000000) :
 fK pg kB #[.pointer (some ⟨p, 0, none⟩), .int .i64 n, .bool true] w (fun r w' => Bs w' r (sT l e n).1 /\ J9 r (fun b => lo <= b /\ b < hi /\ b ≠ p) /\ Bg w' lo hi p (sT l e n).2.1 (sT l e n).2.2 /\ fU w w' (fun y => y = p)) := by
 refine AV ?_
 unfold wZ nW
 have h' := h
 obtain ⟨h0, h0', v, o, hb, hat⟩ := h'
 obtain ⟨va, vc, rfl, hvc⟩ := hb.len
 rw [PQ] at hb hat o hvc
 have c0 := o.cell (off := 0)
 have c1 := o.cell (off := 1)
 simp only [PE, PF] at c0 c1
 by_cases he : e = 0
 rotate_left
 .have n1 : (e != 0) = true := by simpa using he
  have ht : sT l e n = ([], l, e) := by unfold sT; rw [if_pos he]
  rw [ht]
  simp (disch := omega) only [dQ, eA, eB, PL, cQ, aW, PM, aV, cS, cY, cJ, c1, dH, eC, n1, dI]
  exact ⟨Sl.nil _, J9.nil _, h, fU.refl _ _⟩
 subst he
 have n1 : ((0 : Int) != 0) = false := rfl
 by_cases hsh : l.length < n
 .have d1 : decide ((l.length : Int) < (n : Int)) = true := by simp; omega
  have ht : sT l 0 n = ([], l, 10) := by unfold sT; rw [if_neg (by decide), if_pos hsh]
  rw [ht]
  simp (disch := omega) only [dQ, eA, eB, PL, cQ, aW, PM, aV, cS, cY, cJ, c1, dH, eC, n1, c0, cR, eH, d1, dI]
  refine Iw o rfl (by simp) fun w1 o1 x1 s1 => ?_
  simp only [PV, PW] at o1
  exact ⟨Sl.nil _, J9.nil _, ⟨h0, h0', _, o1, hb.ext x1 (hat _ fun b hb => hb.2.2), hat⟩, x1⟩
 .have d1 : decide ((l.length : Int) < (n : Int)) = false := by simp; omega
  have ht : sT l 0 n = (l.take n, l.drop n, 0) := by unfold sT; rw [if_neg (by decide), if_neg hsh]
  rw [ht]
  simp (disch := omega) only [dQ, eA, eB, PL, cQ, aW, PM, aV, cS, cY, cJ, c1, dH, eC, n1, c0, cR, eH, d1, bT, PJ, bS]
  refine FM o rfl (by simp [one]) fun w1 o1 x1 s1 => ?_
  simp only [PV, PW] at o1
  have hbn : Bs w (.slice (iL va n 0 1) (n - 0) (n - 0)) (l.take n) := by
   have := O0 hb (k := n) (by omega)
   rwa [<- QP] at this
  have hbd : Bs w (.slice (iL va vc n 1) (l.length - n) (vc - n)) (l.drop n) := by
   have := hb.drop' (k := n) (by omega)
   rwa [<- QQ] at this
  have hn1 := hat.sub (mx := n) (k := 0) (sz := 1) (m := n - 0) (c' := n - 0) (by omega)
  have hn2 := hat.sub (mx := vc) (k := n) (sz := 1) (m := l.length - n) (c' := vc - n) (by omega)
  exact ⟨hbn.ext x1 (hn1 _ fun b hb => hb.2.2), hn1, ⟨h0, h0', _, o1, hbd.ext x1 (hn2 _ fun b hb => hb.2.2), hn2⟩, x1⟩
theorem CC {lo hi p : Nat} {l : List UInt8} {e : Int} {w : Q6} (h : Bg w lo hi p l e) :
 fK pg iF #[.pointer (some ⟨p, 0, none⟩)] w (fun r w' => r = .int .i64 l.length /\ w' = w) := by
 refine AW ?_
 unfold xE nP
 obtain ⟨h0, h0', v, o, hb, hat⟩ := h
 obtain ⟨va, vc, rfl, hvc⟩ := hb.len
 rw [PQ] at hb hat o hvc
 have c0 := o.cell (off := 0)
 simp only [PE, PF] at c0
 simp (disch := omega) only [dQ, aM, PH, eA, cQ, aV, cS, and_true, c0, dH, cR, cY]
theorem yV {lo hi p : Nat} {l : List UInt8} {e : Int} {w : Q6} (h : Bg w lo hi p l e) :
 fK pg gP #[.pointer (some ⟨p, 0, none⟩)] w (fun r w' => r = .int .i64 e /\ w' = w) := by
 refine Bv ?_
 unfold yX pC
 obtain ⟨h0, h0', v, o, hb, hat⟩ := h
 have c1 := o.cell (off := 1)
 simp only [PE, PF] at c1
 simp (disch := omega) only [dQ, aM, PH, eA, cQ, aW, PM, cJ, and_true, c1, dH, cY]
theorem EU {lo hi p n : Nat} {l : List UInt8} {e : Int} {w : Q6} (h : Bg w lo hi p l e) (hl : l.length <= 1000000000) (hn : n <= 1000000000) :
 fK pg iX #[.pointer (some ⟨p, 0, none⟩), .int .i64 n] w (fun r w' => Bs w' r (sT l e n).1 /\ J9 r (fun b => lo <= b /\ b < hi /\ b ≠ p) /\ Bg w' lo hi p (sT l e n).2.1 (sT l e n).2.2 /\ fU w w' (fun y => y = p)) := by
 refine Ao ?_
 unfold vU mV
 have d1 : decide ((0 : Int) <= (n : Int)) = true := by simp
 simp (disch := omega) only [dQ, aM, PH, eD, d1, cQ, cY]
 refine (Ji h hl hn).mono ?_
 rintro r w1 hr
 exact hr
theorem pD {lo hi p n : Nat} {l : List UInt8} {e : Int} {w : Q6} (h : Bg w lo hi p l e) (hl : l.length <= 1000000000) (hn : 1 <= n /\ n <= 8) :
 fK pg fT #[.pointer (some ⟨p, 0, none⟩), .int .i64 n] w (fun r w' => r = .int .u64 (jH (sT l e n).1 : Nat) /\ Bg w' lo hi p (sT l e n).2.1 (sT l e n).2.2 /\ fU w w' (fun y => y = p)) := by
 refine yN ?_
 unfold uT mF mK mI mL mP
 have d1 : decide ((1 : Int) <= (n : Int)) = true := by simp; omega
 have d2 : decide ((n : Int) <= 8) = true := by simp; omega
 simp (disch := omega) only [dQ, aM, PH, eD, d1, cQ, dS, dR, if_true, dN, eJ, d2, cY]
 refine (Ji h hl (by omega)).mono ?_
 rintro r w1 ⟨hb, hat, hr, x1⟩
 obtain ⟨t, ht⟩ : ∃ t, t = (sT l e n).1 := ⟨_, rfl⟩
 have htl : t.length <= 8 := by
  rw [ht]; unfold sT
  split
  .simp
  .split
   .simp
   .simp; omega
 rw [<- ht] at hb ⊢
 obtain ⟨va, vc, rfl, hvc⟩ := hb.len
 rw [PQ] at hb hvc hat
 simp (disch := omega) only [PQ, cR, cQ]
 unfold mH mB
 refine iG.rule (fun m s w' => ∃ i : Nat, m = t.length - i /\ i <= t.length /\ s = (.int .u64 (jH (t.take i) : Nat), .int .i64 i) /\ w' = w1) t.length ⟨0, rfl, by omega, rfl, rfl⟩ ?_
 rintro m s w2 ⟨i, rfl, hi, rfl, hw⟩
 rw [hw]; clear hw w2
 unfold kF
 by_cases hlt : i < t.length
 .have d3 : decide ((i : Int) < (t.length : Int)) = true := by simp; omega
  obtain ⟨c, hc⟩ : ∃ c, c = t[i]'hlt := ⟨_, rfl⟩
  have htk : t.take (i + 1) = t.take i ++ [c] := by rw [List.take_add_one, PT hlt, <- hc] <;> rfl
  have hor := MT (t.take i) c
  rw [<- htk, PR, Qp (by omega)] at hor
  have hcl : c.toNat < 256 := Qq c
  obtain ⟨b, off, c', hv, hcc, hcell⟩ := hb.openV (by rw [PQ]; omega)
  have g1 := hcell i (by rw [PQ]; exact hlt)
  rw [PQ] at hv
  cases hv
  rw [List.getElem_map, <- hc] at g1
  simp only [lU] at g1
  generalize c.toNat = cx at *
  have hp : 2 ^ (8 * i) <= 2 ^ 56 := Qt (by omega) (by omega)
  have hm : cx * 2 ^ (8 * i) <= 255 * 2 ^ 56 := Nat.mul_le_mul (by omega) hp
  have hb0 := yU (t.take i)
  have hb1 := yU (t.take (i + 1))
  rw [PR, Qp (by omega)] at hb0 hb1
  have hq : 256 ^ i <= 256 ^ 7 := Qt (by omega) (by omega)
  have e0 : ((8 : Int) * (i : Int)) = ((8 * i : Nat) : Int) := by omega
  have e5 : IntKind.u64.wrap ((cx : Int) * 2 ^ (min (8 * i) IntKind.u64.bits)) = ((cx * 2 ^ (8 * i) : Nat) : Int) := by
   rw [show min (8 * i) IntKind.u64.bits = 8 * i from Qp (by have : IntKind.u64.bits = 64 := rfl
                                                             omega)]
   have e : (cx : Int) * 2 ^ (8 * i) = ((cx * 2 ^ (8 * i) : Nat) : Int) := by simp
   rw [e]
   exact dY (by omega) (by omega)
  have e6 := M3 (a := jH (t.take i)) (b := cx * 2 ^ (8 * i)) (by omega) (by omega)
  rw [hor] at e6
  have e7 : IntKind.u64.wrap (cx : Int) = (cx : Int) := dY (by omega) (by omega)
  simp (disch := omega) only [dQ, eF, d3, cV, PJ, eI, e0, dZ, eE, cQ, cU, dY, dJ, g1, dH, bN, e7, eL, e5, fF, e6, and_true, dI]
  exact ⟨t.length - (i + 1), by omega, i + 1, rfl, by omega, rfl⟩
 .have d3 : decide ((i : Int) < (t.length : Int)) = false := by simp; omega
  obtain rfl : i = t.length := by omega
  simp (disch := omega) only [dQ, eF, d3, eI, dZ, eE, cQ, cU, dY, cY]
  unfold kJ
  rw [List.take_length]
  exact ⟨rfl, hr, x1⟩
def GU (s : List UInt8 × Int) (n : Nat) : List UInt8 × Int := ((sT s.1 s.2 n).2.1, (sT s.1 s.2 n).2.2)
def JF (s : List UInt8 × Int) (n : Nat) : Nat := jH (sT s.1 s.2 n).1
structure FH where
 window : Nat
 size : Nat
 known : Bool
 sum : Bool
def LL (w : Nat) : Nat := 2 ^ (10 + w / 8) + 2 ^ (10 + w / 8) / 8 * (w % 8)
def CY (d : Nat) : Bool := d / 32 % 2 == 1
def Kc (d : Nat) : Nat := if d % 4 = 3 then 4 else d % 4
def D8 (d : Nat) : Nat := if d / 64 = 0 then (if CY d then 1 else 0) else 2 ^ (d / 64)
def IB (s : List UInt8 × Int) (n : Nat) : List UInt8 × Int := if 0 < n then GU s n else s
def He (s : List UInt8 × Int) (n : Nat) : Nat := if 0 < n then JF s n else 0
def NB (s1 : List UInt8 × Int) (d : Nat) : List UInt8 × Int := if CY d then s1 else GU s1 1
def Ft (L : Nat) (s4 : List UInt8 × Int) (dict : Nat) (h : FH) : Except Int (FH × Nat) :=
 if s4.2 ≠ 0 then .error s4.2 else if dict ≠ 0 then .error 14 else .ok (h, L - s4.1.length)
def Lv (d x : Nat) : Nat := if D8 d = 2 then x + 256 else x
def FT (L : Nat) (s1 : List UInt8 × Int) (d : Nat) : Except Int (FH × Nat) :=
 Ft L (IB (IB (NB s1 d) (Kc d)) (D8 d)) (He (NB s1 d) (Kc d))
  ⟨if CY d then Lv d (He (IB (NB s1 d) (Kc d)) (D8 d)) else LL (JF s1 1), Lv d (He (IB (NB s1 d) (Kc d)) (D8 d)), decide (0 < D8 d), d / 4 % 2 == 1⟩
def yZ (l : List UInt8) : Except Int (FH × Nat) :=
 if (GU (l, 0) 1).2 ≠ 0 then .error (GU (l, 0) 1).2 else if JF (l, 0) 1 / 8 % 2 = 1 then .error 11 else FT l.length (GU (l, 0) 1) (JF (l, 0) 1)
def Pa (h : FH) : Q7 := .agg #[.int .u64 (h.window : Nat), .int .u64 (h.size : Nat), .bool h.known, .bool h.sum]
def MM : Except Int (FH × Nat) -> Q7
 | .error e => .tuple #[Pa ⟨0, 0, false, false⟩, .int .i64 0, .int .i64 e]
 | .ok (h, n) => .tuple #[Pa h, .int .i64 (n : Nat), .int .i64 0]
def AM (h : FH) : List Q7 := [.int .u64 (h.window : Nat), .int .u64 (h.size : Nat), .bool h.known, .bool h.sum]
theorem Jv {RR : Q7 -> Q6 -> Prop} {v : Q7} {L lo hi pr ph pt dict : Nat} {l : List UInt8} {e : Int} {h : FH} {z : FH} {w : Q6} (hr : Bg w lo hi pr l e) (hl : l.length <= 1000000) (hv : ∃ a c, v = .slice a L c) (hL : l.length <= L) (hL2 : L <= 1000000) (oh : iE w ph (AM h)) (ot : iE w pt (AM z)) (hne : ph ≠ pt) (hpt : ¬ (lo <= pt /\ pt < hi))
 (hk : ∀ w', fU w w' (fun y => y = pt) -> RR (MM (Ft L (l, e) dict h)) w') :
 pW RR v (.pointer (some ⟨pt, 0, none⟩)) (.pointer (some ⟨pr, 0, none⟩)) (.pointer (some ⟨ph, 0, none⟩)) (.int .u64 (dict : Nat)) w := by
 unfold pW
 obtain ⟨a, c, rfl⟩ := hv
 refine (yV hr).mono ?_
 rintro r w1 ⟨rfl, rfl⟩
 unfold Ft at hk
 by_cases he : e = 0
 .subst he
  have n0 : ((0 : Int) != 0) = false := rfl
  simp only [ne_eq, not_true, if_false] at hk
  by_cases hd : dict = 0
  .subst hd
   have n1 : (((0 : Nat) : Int) != 0) = false := rfl
   simp only [ne_eq, not_true, if_false] at hk
   have hq := Fh (off := 0) (jD oh) (by simp [AM])
   simp only [AM, P5, P0, P6] at hq
   simp (disch := omega) only [dQ, fE, cQ, stepR_skip, eE, eS, eI, eP, eX, fB, fF, eN, dL, eL, eQ, eZ, eC, eF, eJ, eH, eD, fA, eU, eB, dR, eM, eY, eA, fY, gC, gB, fZ, fV, fX, gA, fW, gD, dH, Result.ok.injEq, Next.value.injEq, true_and, and_true, dZ, dY, eT, fC, eK, fG, PJ, dS, dT, dU, dV, dN, dK, dP, dM, dI, cY, if_true, if_false, PG, PM, PH, PI, PL, PK, PF, PE, cR, cO, cH, bY, cV, dJ, bW, bX, cS, cK, cL, dE, cP, dD, dC, dW, cZ, cF, bH, bR, aT, aC, aL, dF, aI, cD, dB, dA, bN, aH, bC, aZ, cM, aD, aX, aM, aV, cU, aW, cJ, bS, aF, aG, aK, dO, aP, aO, bD, aR, cB, aE, bZ, bT, bG, bB, aY, cX, aJ, bM, aU, aQ, aS, aA, dG, cN, bO, aN, cW, bU, bV, cI, bQ, bP, bL, cA, bJ, cC, bA, bK, bF, bE, cG, n0, n1, hq]
   refine (CC (hr.ext (fU.dr w1 kY) (fun _ _ _ h => h))).mono ?_
   rintro r w2 ⟨rfl, rfl⟩
   have e1 : (L : Int) - (l.length : Int) = ((L - l.length : Nat) : Int) := by omega
   simp (disch := omega) only [dQ, fE, cQ, stepR_skip, eE, eS, eI, eP, eX, fB, fF, eN, dL, eL, eQ, eZ, eC, eF, eJ, eH, eD, fA, eU, eB, dR, eM, eY, eA, fY, gC, gB, fZ, fV, fX, gA, fW, gD, dH, Result.ok.injEq, Next.value.injEq, true_and, and_true, dZ, dY, eT, fC, eK, fG, PJ, dS, dT, dU, dV, dN, dK, dP, dM, dI, cY, if_true, if_false, PG, PM, PH, PI, PL, PK, PF, PE, cR, cO, cH, bY, cV, dJ, bW, bX, cS, cK, cL, dE, cP, dD, dC, dW, cZ, cF, bH, bR, aT, aC, aL, dF, aI, cD, dB, dA, bN, aH, bC, aZ, cM, aD, aX, aM, aV, cU, aW, cJ, bS, aF, aG, aK, dO, aP, aO, bD, aR, cB, aE, bZ, bT, bG, bB, aY, cX, aJ, bM, aU, aQ, aS, aA, dG, cN, bO, aN, cW, bU, bV, cI, bQ, bP, bL, cA, bJ, cC, bA, bK, bF, bE, cG, hq, e1]
   refine jF (jD ot) rfl (by simp [one]) (by simp [AM]) fun w3 o3 x3 s3 => ?_
   try simp (disch := omega) only [dQ, fE, cQ, stepR_skip, eE, eS, eI, eP, eX, fB, fF, eN, dL, eL, eQ, eZ, eC, eF, eJ, eH, eD, fA, eU, eB, dR, eM, eY, eA, fY, gC, gB, fZ, fV, fX, gA, fW, gD, dH, Result.ok.injEq, Next.value.injEq, true_and, and_true, dZ, dY, eT, fC, eK, fG, PJ, dS, dT, dU, dV, dN, dK, dP, dM, dI, cY, if_true, if_false, PG, PM, PH, PI, PL, PK, PF, PE, cR, cO, cH, bY, cV, dJ, bW, bX, cS, cK, cL, dE, cP, dD, dC, dW, cZ, cF, bH, bR, aT, aC, aL, dF, aI, cD, dB, dA, bN, aH, bC, aZ, cM, aD, aX, aM, aV, cU, aW, cJ, bS, aF, aG, aK, dO, aP, aO, bD, aR, cB, aE, bZ, bT, bG, bB, aY, cX, aJ, bM, aU, aQ, aS, aA, dG, cN, bO, aN, cW, bU, bV, cI, bQ, bP, bL, cA, bJ, cC, bA, bK, bF, bE, cG, e1]
   refine mO o3 (by simp [gJ, AM]) ?_
   simp only [gJ, AM, PV, PW, P5, P0, P6]
   exact hk w3 ((fU.dr w1 _).seq x3)
  .have n1 : ((dict : Int) != 0) = true := by simp; omega
   rw [if_pos hd] at hk
   simp (disch := omega) only [dQ, fE, cQ, stepR_skip, eE, eS, eI, eP, eX, fB, fF, eN, dL, eL, eQ, eZ, eC, eF, eJ, eH, eD, fA, eU, eB, dR, eM, eY, eA, fY, gC, gB, fZ, fV, fX, gA, fW, gD, dH, Result.ok.injEq, Next.value.injEq, true_and, and_true, dZ, dY, eT, fC, eK, fG, PJ, dS, dT, dU, dV, dN, dK, dP, dM, dI, cY, if_true, if_false, PG, PM, PH, PI, PL, PK, PF, PE, cR, cO, cH, bY, cV, dJ, bW, bX, cS, cK, cL, dE, cP, dD, dC, dW, cZ, cF, bH, bR, aT, aC, aL, dF, aI, cD, dB, dA, bN, aH, bC, aZ, cM, aD, aX, aM, aV, cU, aW, cJ, bS, aF, aG, aK, dO, aP, aO, bD, aR, cB, aE, bZ, bT, bG, bB, aY, cX, aJ, bM, aU, aQ, aS, aA, dG, cN, bO, aN, cW, bU, bV, cI, bQ, bP, bL, cA, bJ, cC, bA, bK, bF, bE, cG, n0, n1]
   refine jF ot rfl (by simp [one]) (by simp [AM]) fun w3 o3 x3 s3 => ?_
   refine mO o3 (by simp [gJ, AM]) ?_
   simp only [gJ, AM, PV, PW, P5, P0, P6]
   exact hk w3 x3
 .have n0 : (e != 0) = true := by simp [he]
  rw [if_pos he] at hk
  simp (disch := omega) only [dQ, fE, cQ, stepR_skip, eE, eS, eI, eP, eX, fB, fF, eN, dL, eL, eQ, eZ, eC, eF, eJ, eH, eD, fA, eU, eB, dR, eM, eY, eA, fY, gC, gB, fZ, fV, fX, gA, fW, gD, dH, Result.ok.injEq, Next.value.injEq, true_and, and_true, dZ, dY, eT, fC, eK, fG, PJ, dS, dT, dU, dV, dN, dK, dP, dM, dI, cY, if_true, if_false, PG, PM, PH, PI, PL, PK, PF, PE, cR, cO, cH, bY, cV, dJ, bW, bX, cS, cK, cL, dE, cP, dD, dC, dW, cZ, cF, bH, bR, aT, aC, aL, dF, aI, cD, dB, dA, bN, aH, bC, aZ, cM, aD, aX, aM, aV, cU, aW, cJ, bS, aF, aG, aK, dO, aP, aO, bD, aR, cB, aE, bZ, bT, bG, bB, aY, cX, aJ, bM, aU, aQ, aS, aA, dG, cN, bO, aN, cW, bU, bV, cI, bQ, bP, bL, cA, bJ, cC, bA, bK, bF, bE, cG, n0]
  refine (yV hr).mono ?_
  rintro r w2 ⟨rfl, rfl⟩
  refine jF ot rfl (by simp [one]) (by simp [AM]) fun w3 o3 x3 s3 => ?_
  refine mO o3 (by simp [gJ, AM]) ?_
  simp only [gJ, AM, PV, PW, P5, P0, P6]
  exact hk w3 x3
theorem I9 {RR : Q7 -> Q6 -> Prop} {v : Q7} {L lo hi pr ph pt dict : Nat} {l : List UInt8} {e : Int} {h : FH} {z : FH} {o : Bool} {w : Q6} (hr : Bg w lo hi pr l e) (hl : l.length <= 1000000) (hv : ∃ a c, v = .slice a L c) (hL : l.length <= L) (hL2 : L <= 1000000) (oh : iE w ph (AM h)) (ot : iE w pt (AM z)) (hne : ph ≠ pt) (hpt : ¬ (lo <= pt /\ pt < hi)) (hph : ¬ (lo <= ph /\ ph < hi))
 (hk : ∀ w', fU w w' (fun y => y = pt ∨ y = ph) -> RR (MM (Ft L (l, e) dict ⟨if o then h.size else h.window, h.size, h.known, h.sum⟩)) w') :
 tS RR v (.pointer (some ⟨pt, 0, none⟩)) (.pointer (some ⟨pr, 0, none⟩)) (.pointer (some ⟨ph, 0, none⟩)) (.bool o) (.int .u64 (dict : Nat)) w := by
 unfold tS Ar
 cases o with
 | false =>
   simp (disch := omega) only [dQ, fE, cQ, stepR_skip, eE, eS, eI, eP, eX, fB, fF, eN, dL, eL, eQ, eZ, eC, eF, eJ, eH, eD, fA, eU, eB, dR, eM, eY, eA, fY, gC, gB, fZ, fV, fX, gA, fW, gD, dH, Result.ok.injEq, Next.value.injEq, true_and, and_true, dZ, dY, eT, fC, eK, fG, PJ, dS, dT, dU, dV, dN, dK, dP, dM, dI, cY, if_true, if_false, PG, PM, PH, PI, PL, PK, PF, PE, cR, cO, cH, bY, cV, dJ, bW, bX, cS, cK, cL, dE, cP, dD, dC, dW, cZ, cF, bH, bR, aT, aC, aL, dF, aI, cD, dB, dA, bN, aH, bC, aZ, cM, aD, aX, aM, aV, cU, aW, cJ, bS, aF, aG, aK, dO, aP, aO, bD, aR, cB, aE, bZ, bT, bG, bB, aY, cX, aJ, bM, aU, aQ, aS, aA, dG, cN, bO, aN, cW, bU, bV, cI, bQ, bP, bL, cA, bJ, cC, bA, bK, bF, bE, cG]
   exact Jv hr hl hv hL hL2 oh ot hne hpt fun w' x => hk w' (x.mono fun _ _ h => .inl h)
 | true =>
   have c1 := oh.cell (off := 1)
   simp only [AM, PE, PF] at c1
   simp (disch := omega) only [dQ, fE, cQ, stepR_skip, eE, eS, eI, eP, eX, fB, fF, eN, dL, eL, eQ, eZ, eC, eF, eJ, eH, eD, fA, eU, eB, dR, eM, eY, eA, fY, gC, gB, fZ, fV, fX, gA, fW, gD, dH, Result.ok.injEq, Next.value.injEq, true_and, and_true, dZ, dY, eT, fC, eK, fG, PJ, dS, dT, dU, dV, dN, dK, dP, dM, dI, cY, if_true, if_false, PG, PM, PH, PI, PL, PK, PF, PE, cR, cO, cH, bY, cV, dJ, bW, bX, cS, cK, cL, dE, cP, dD, dC, dW, cZ, cF, bH, bR, aT, aC, aL, dF, aI, cD, dB, dA, bN, aH, bC, aZ, cM, aD, aX, aM, aV, cU, aW, cJ, bS, aF, aG, aK, dO, aP, aO, bD, aR, cB, aE, bZ, bT, bG, bB, aY, cX, aJ, bM, aU, aQ, aS, aA, dG, cN, bO, aN, cW, bU, bV, cI, bQ, bP, bL, cA, bJ, cC, bA, bK, bF, bE, cG, c1]
   refine tJ oh rfl (by simp [AM]) fun w1 o1 x1 s1 => ?_
   refine Jv (h := ⟨h.size, h.size, h.known, h.sum⟩) (hr.ext x1 fun y h1 h2 h3 => hph (h3 ▸ ⟨h1, h2⟩)) hl hv hL hL2 o1 (ot.ext x1 (fun e => hne e.symm)) hne hpt fun w' x => hk w' ((x1.mono fun _ _ h => .inr h).seq (x.mono fun _ _ h => .inl h))
theorem Jq {RR : Q7 -> Q6 -> Prop} {v : Q7} {L lo hi pr ph pt dict n : Nat} {l : List UInt8} {e : Int} {h : FH} {z : FH} {o : Bool} {w : Q6} (hn : n = 2 -> h.size < 65536) (hr : Bg w lo hi pr l e) (hl : l.length <= 1000000) (hv : ∃ a c, v = .slice a L c) (hL : l.length <= L) (hL2 : L <= 1000000) (oh : iE w ph (AM h)) (ot : iE w pt (AM z)) (hne : ph ≠ pt) (hpt : ¬ (lo <= pt /\ pt < hi)) (hph : ¬ (lo <= ph /\ ph < hi))
 (hk : ∀ w', fU w w' (fun y => y = pt ∨ y = ph) -> RR (MM (Ft L (l, e) dict ⟨if o then (if n = 2 then h.size + 256 else h.size) else h.window, if n = 2 then h.size + 256 else h.size, h.known, h.sum⟩)) w') :
 uD RR v (.pointer (some ⟨pt, 0, none⟩)) (.pointer (some ⟨pr, 0, none⟩)) (.pointer (some ⟨ph, 0, none⟩)) (.bool o) (.int .u64 (dict : Nat)) (.int .i64 (n : Nat)) w := by
 unfold uD zR
 by_cases h2 : n = 2
 .have n1 : ((n : Int) == 2) = true := by rw [h2] <;> rfl
  simp only [h2, if_true] at hk
  have hs := hn h2
  have c1 := oh.cell (off := 1)
  simp only [AM, PE, PF] at c1
  have e1 : (h.size : Int) + 256 = ((h.size + 256 : Nat) : Int) := by omega
  simp (disch := omega) only [dQ, fE, cQ, stepR_skip, eE, eS, eI, eP, eX, fB, fF, eN, dL, eL, eQ, eZ, eC, eF, eJ, eH, eD, fA, eU, eB, dR, eM, eY, eA, fY, gC, gB, fZ, fV, fX, gA, fW, gD, dH, Result.ok.injEq, Next.value.injEq, true_and, and_true, dZ, dY, eT, fC, eK, fG, PJ, dS, dT, dU, dV, dN, dK, dP, dM, dI, cY, if_true, if_false, PG, PM, PH, PI, PL, PK, PF, PE, cR, cO, cH, bY, cV, dJ, bW, bX, cS, cK, cL, dE, cP, dD, dC, dW, cZ, cF, bH, bR, aT, aC, aL, dF, aI, cD, dB, dA, bN, aH, bC, aZ, cM, aD, aX, aM, aV, cU, aW, cJ, bS, aF, aG, aK, dO, aP, aO, bD, aR, cB, aE, bZ, bT, bG, bB, aY, cX, aJ, bM, aU, aQ, aS, aA, dG, cN, bO, aN, cW, bU, bV, cI, bQ, bP, bL, cA, bJ, cC, bA, bK, bF, bE, cG, n1, c1, e1]
  refine tJ oh rfl (by simp [AM]) fun w1 o1 x1 s1 => ?_
  refine I9 (h := ⟨h.window, h.size + 256, h.known, h.sum⟩) (hr.ext x1 fun y h1 h2 h3 => hph (h3 ▸ ⟨h1, h2⟩)) hl hv hL hL2 o1 (ot.ext x1 (fun e => hne e.symm)) hne hpt hph fun w' x => hk w' ((x1.mono fun _ _ h => .inr h).seq x)
 .have n1 : ((n : Int) == 2) = false := by simp; omega
  simp only [if_neg h2] at hk
  simp (disch := omega) only [dQ, fE, cQ, stepR_skip, eE, eS, eI, eP, eX, fB, fF, eN, dL, eL, eQ, eZ, eC, eF, eJ, eH, eD, fA, eU, eB, dR, eM, eY, eA, fY, gC, gB, fZ, fV, fX, gA, fW, gD, dH, Result.ok.injEq, Next.value.injEq, true_and, and_true, dZ, dY, eT, fC, eK, fG, PJ, dS, dT, dU, dV, dN, dK, dP, dM, dI, cY, if_true, if_false, PG, PM, PH, PI, PL, PK, PF, PE, cR, cO, cH, bY, cV, dJ, bW, bX, cS, cK, cL, dE, cP, dD, dC, dW, cZ, cF, bH, bR, aT, aC, aL, dF, aI, cD, dB, dA, bN, aH, bC, aZ, cM, aD, aX, aM, aV, cU, aW, cJ, bS, aF, aG, aK, dO, aP, aO, bD, aR, cB, aE, bZ, bT, bG, bB, aY, cX, aJ, bM, aU, aQ, aS, aA, dG, cN, bO, aN, cW, bU, bV, cI, bQ, bP, bL, cA, bJ, cC, bA, bK, bF, bE, cG, n1]
  exact I9 hr hl hv hL hL2 oh ot hne hpt hph hk
theorem Mc {RR : Q7 -> Q6 -> Prop} {v : Q7} {L lo hi pr ph pt dict n : Nat} {s : List UInt8 × Int} {h : FH} {z : FH} {o : Bool} {w : Q6} (hn8 : n <= 8) (hn : n = 2 -> h.size < 65536) (hk0 : h.known = false) (hs0 : h.size = 0) (hr : Bg w lo hi pr s.1 s.2) (hl : s.1.length <= 1000000) (hv : ∃ a c, v = .slice a L c) (hL : s.1.length <= L) (hL2 : L <= 1000000) (oh : iE w ph (AM h)) (ot : iE w pt (AM z)) (hne : ph ≠ pt) (hpt : ¬ (lo <= pt /\ pt < hi)) (hph : ¬ (lo <= ph /\ ph < hi)) (hpr : lo <= pr /\ pr < hi)
 (hk : ∀ w', fU w w' (fun y => y = pt ∨ y = ph ∨ y = pr) -> RR (MM (Ft L (IB s n) dict ⟨if o then (if n = 2 then He s n + 256 else He s n) else h.window, if n = 2 then He s n + 256 else He s n, decide (0 < n), h.sum⟩)) w') :
 pV RR v (.pointer (some ⟨pt, 0, none⟩)) (.pointer (some ⟨pr, 0, none⟩)) (.pointer (some ⟨ph, 0, none⟩)) (.bool o) (.int .u64 (dict : Nat)) (.int .i64 (n : Nat)) w := by
 unfold pV Ae
 by_cases h0 : 0 < n
 .have d1 : decide ((n : Int) > 0) = true := decide_eq_true (by omega)
  have d2 : decide ((0 : Int) < (n : Int)) = true := decide_eq_true (by omega)
  unfold IB He at hk
  simp only [if_pos h0, decide_eq_true h0] at hk
  have hlt : JF s n < 256 ^ n := by
   unfold JF sT
   split
   .simp [jH]; exact Nat.pow_pos (by omega)
   .split
    .simp [jH]; exact Nat.pow_pos (by omega)
    .have := yU (s.1.take n)
     rw [PR, Qp (by omega)] at this
     exact this
  have hle : (GU s n).1.length <= s.1.length := by
   unfold GU sT
   split
   .exact PY _
   .split
    .exact PY _
    .simp only [PU]; omega
  simp (disch := omega) only [dQ, fE, cQ, stepR_skip, eE, eS, eI, eP, eX, fB, fF, eN, dL, eL, eQ, eZ, eC, eF, eJ, eH, eD, fA, eU, eB, dR, eM, eY, eA, fY, gC, gB, fZ, fV, fX, gA, fW, gD, dH, Result.ok.injEq, Next.value.injEq, true_and, and_true, dZ, dY, eT, fC, eK, fG, PJ, dS, dT, dU, dV, dN, dK, dP, dM, dI, cY, if_true, if_false, PG, PM, PH, PI, PL, PK, PF, PE, cR, cO, cH, bY, cV, dJ, bW, bX, cS, cK, cL, dE, cP, dD, dC, dW, cZ, cF, bH, bR, aT, aC, aL, dF, aI, cD, dB, dA, bN, aH, bC, aZ, cM, aD, aX, aM, aV, cU, aW, cJ, bS, aF, aG, aK, dO, aP, aO, bD, aR, cB, aE, bZ, bT, bG, bB, aY, cX, aJ, bM, aU, aQ, aS, aA, dG, cN, bO, aN, cW, bU, bV, cI, bQ, bP, bL, cA, bJ, cC, bA, bK, bF, bE, cG, d1, d2]
  refine (pD hr (by omega) ⟨h0, hn8⟩).mono ?_
  rintro r w1 ⟨rfl, hr1, x1⟩
  have oh1 := oh.ext x1 (fun e => hph (e ▸ hpr))
  have ot1 := ot.ext x1 (fun e => hpt (e ▸ hpr))
  refine tJ oh1 rfl (by simp [AM]) fun w2 o2 x2 s2 => ?_
  refine M5 (off := 2) o2 rfl (by simp [AM]) fun w3 o3 x3 s3 => ?_
  have x23 := x2.seq x3
  refine Jq (h := ⟨h.window, JF s n, true, h.sum⟩) (l := (GU s n).1) (e := (GU s n).2) (fun h2 => by rw [h2] at hlt; rw [h2]; simpa using hlt) (hr1.ext x23 fun y h1 h2 h3 => hph (h3 ▸ ⟨h1, h2⟩)) (by omega) hv (by omega) hL2 o3 (ot1.ext x23 (fun e => hne e.symm)) hne hpt hph fun w' x => hk w' (((x1.mono fun _ _ h => .inr (.inr h)).seq (x23.mono fun _ _ h => .inr (.inl h))).seq (x.mono fun _ _ h => h.elim .inl fun h => .inr (.inl h)))
 .have d1 : decide ((n : Int) > 0) = false := decide_eq_false (by omega)
  have d2 : decide ((0 : Int) < (n : Int)) = false := decide_eq_false (by omega)
  unfold IB He at hk
  simp only [if_neg h0, decide_eq_false h0] at hk
  simp (disch := omega) only [dQ, fE, cQ, stepR_skip, eE, eS, eI, eP, eX, fB, fF, eN, dL, eL, eQ, eZ, eC, eF, eJ, eH, eD, fA, eU, eB, dR, eM, eY, eA, fY, gC, gB, fZ, fV, fX, gA, fW, gD, dH, Result.ok.injEq, Next.value.injEq, true_and, and_true, dZ, dY, eT, fC, eK, fG, PJ, dS, dT, dU, dV, dN, dK, dP, dM, dI, cY, if_true, if_false, PG, PM, PH, PI, PL, PK, PF, PE, cR, cO, cH, bY, cV, dJ, bW, bX, cS, cK, cL, dE, cP, dD, dC, dW, cZ, cF, bH, bR, aT, aC, aL, dF, aI, cD, dB, dA, bN, aH, bC, aZ, cM, aD, aX, aM, aV, cU, aW, cJ, bS, aF, aG, aK, dO, aP, aO, bD, aR, cB, aE, bZ, bT, bG, bB, aY, cX, aJ, bM, aU, aQ, aS, aA, dG, cN, bO, aN, cW, bU, bV, cI, bQ, bP, bL, cA, bJ, cC, bA, bK, bF, bE, cG, d1, d2]
  refine Jq (h := h) (l := s.1) (e := s.2) hn hr hl hv hL hL2 oh ot hne hpt hph fun w' x => ?_
  have := hk w' (x.mono fun _ _ h => h.elim .inl fun h => .inr (.inl h))
  rw [hs0, hk0]
  exact this
theorem I8 {RR : Q7 -> Q6 -> Prop} {v : Q7} {L lo hi pr ph pt dict d : Nat} {s : List UInt8 × Int} {h : FH} {z : FH} {w : Q6} (hd : d < 256) (hk0 : h.known = false) (hs0 : h.size = 0) (hr : Bg w lo hi pr s.1 s.2) (hl : s.1.length <= 1000000) (hv : ∃ a c, v = .slice a L c) (hL : s.1.length <= L) (hL2 : L <= 1000000) (oh : iE w ph (AM h)) (ot : iE w pt (AM z)) (hne : ph ≠ pt) (hpt : ¬ (lo <= pt /\ pt < hi)) (hph : ¬ (lo <= ph /\ ph < hi)) (hpr : lo <= pr /\ pr < hi)
 (hk : ∀ w', fU w w' (fun y => y = pt ∨ y = ph ∨ y = pr) -> RR (MM (Ft L (IB s (D8 d)) dict ⟨if CY d then Lv d (He s (D8 d)) else h.window, Lv d (He s (D8 d)), decide (0 < D8 d), h.sum⟩)) w') :
 qB RR v (.pointer (some ⟨pt, 0, none⟩)) (.pointer (some ⟨pr, 0, none⟩)) (.int .i64 (d : Nat)) (.pointer (some ⟨ph, 0, none⟩)) (.bool (CY d)) (.int .u64 (dict : Nat)) w := by
 unfold qB zP
 have main : ∀ n : Nat, n = D8 d -> pV RR v (.pointer (some ⟨pt, 0, none⟩)) (.pointer (some ⟨pr, 0, none⟩)) (.pointer (some ⟨ph, 0, none⟩)) (.bool (CY d)) (.int .u64 (dict : Nat)) (.int .i64 (n : Nat)) w := by
  rintro n rfl
  refine Mc (h := h) (s := s) ?_ (fun _ => by omega) hk0 hs0 hr hl hv hL hL2 oh ot hne hpt hph hpr fun w' x => ?_
  .unfold D8
   have : d / 64 = 0 ∨ d / 64 = 1 ∨ d / 64 = 2 ∨ d / 64 = 3 := by omega
   rcases this with h | h | h | h <;> rw [h] <;> simp
   split <;> omega
  .have := hk w' x
   unfold Lv at this
   exact this
 have h4 : d / 64 = 0 ∨ d / 64 = 1 ∨ d / 64 = 2 ∨ d / 64 = 3 := by omega
 have e6 : (d : Int).fdiv (2 ^ min (Int.toNat 6) IntKind.i64.bits) = ((d / 64 : Nat) : Int) := by
  have : (2 : Int) ^ min (Int.toNat 6) IntKind.i64.bits = 64 := by decide
  rw [this, Qb _ (by omega)]; omega
 rcases h4 with h4 | h4 | h4 | h4 <;> rw [h4] at e6
 .cases ho : CY d with
  | true =>
    have e : 1 = D8 d := by unfold D8; rw [h4, ho] <;> rfl
    have := main 1 e
    rw [ho] at this
    simp (disch := omega) only [dQ, fE, cQ, stepR_skip, eE, eS, eI, eP, eX, fB, fF, eN, dL, eL, eQ, eZ, eC, eF, eJ, eH, eD, fA, eU, eB, dR, eM, eY, eA, fY, gC, gB, fZ, fV, fX, gA, fW, gD, dH, Result.ok.injEq, Next.value.injEq, true_and, and_true, dZ, dY, eT, fC, eK, fG, PJ, dS, dT, dU, dV, dN, dK, dP, dM, dI, cY, if_true, if_false, PG, PM, PH, PI, PL, PK, PF, PE, cR, cO, cH, bY, cV, dJ, bW, bX, cS, cK, cL, dE, cP, dD, dC, dW, cZ, cF, bH, bR, aT, aC, aL, dF, aI, cD, dB, dA, bN, aH, bC, aZ, cM, aD, aX, aM, aV, cU, aW, cJ, bS, aF, aG, aK, dO, aP, aO, bD, aR, cB, aE, bZ, bT, bG, bB, aY, cX, aJ, bM, aU, aQ, aS, aA, dG, cN, bO, aN, cW, bU, bV, cI, bQ, bP, bL, cA, bJ, cC, bA, bK, bF, bE, cG, e6, h4]
    exact this
  | false =>
    have e : 0 = D8 d := by unfold D8; rw [h4, ho] <;> rfl
    have := main 0 e
    rw [ho] at this
    simp (disch := omega) only [dQ, fE, cQ, stepR_skip, eE, eS, eI, eP, eX, fB, fF, eN, dL, eL, eQ, eZ, eC, eF, eJ, eH, eD, fA, eU, eB, dR, eM, eY, eA, fY, gC, gB, fZ, fV, fX, gA, fW, gD, dH, Result.ok.injEq, Next.value.injEq, true_and, and_true, dZ, dY, eT, fC, eK, fG, PJ, dS, dT, dU, dV, dN, dK, dP, dM, dI, cY, if_true, if_false, PG, PM, PH, PI, PL, PK, PF, PE, cR, cO, cH, bY, cV, dJ, bW, bX, cS, cK, cL, dE, cP, dD, dC, dW, cZ, cF, bH, bR, aT, aC, aL, dF, aI, cD, dB, dA, bN, aH, bC, aZ, cM, aD, aX, aM, aV, cU, aW, cJ, bS, aF, aG, aK, dO, aP, aO, bD, aR, cB, aE, bZ, bT, bG, bB, aY, cX, aJ, bM, aU, aQ, aS, aA, dG, cN, bO, aN, cW, bU, bV, cI, bQ, bP, bL, cA, bJ, cC, bA, bK, bF, bE, cG, e6, h4]
    exact this
 .have e : 2 = D8 d := by unfold D8; rw [h4] <;> rfl
  simp (disch := omega) only [dQ, fE, cQ, stepR_skip, eE, eS, eI, eP, eX, fB, fF, eN, dL, eL, eQ, eZ, eC, eF, eJ, eH, eD, fA, eU, eB, dR, eM, eY, eA, fY, gC, gB, fZ, fV, fX, gA, fW, gD, dH, Result.ok.injEq, Next.value.injEq, true_and, and_true, dZ, dY, eT, fC, eK, fG, PJ, dS, dT, dU, dV, dN, dK, dP, dM, dI, cY, if_true, if_false, PG, PM, PH, PI, PL, PK, PF, PE, cR, cO, cH, bY, cV, dJ, bW, bX, cS, cK, cL, dE, cP, dD, dC, dW, cZ, cF, bH, bR, aT, aC, aL, dF, aI, cD, dB, dA, bN, aH, bC, aZ, cM, aD, aX, aM, aV, cU, aW, cJ, bS, aF, aG, aK, dO, aP, aO, bD, aR, cB, aE, bZ, bT, bG, bB, aY, cX, aJ, bM, aU, aQ, aS, aA, dG, cN, bO, aN, cW, bU, bV, cI, bQ, bP, bL, cA, bJ, cC, bA, bK, bF, bE, cG, e6, h4]
  cases ho : CY d <;> (simp (disch := omega) only [dQ, fE, cQ, stepR_skip, eE, eS, eI, eP, eX, fB, fF, eN, dL, eL, eQ, eZ, eC, eF, eJ, eH, eD, fA, eU, eB, dR, eM, eY, eA, fY, gC, gB, fZ, fV, fX, gA, fW, gD, dH, Result.ok.injEq, Next.value.injEq, true_and, and_true, dZ, dY, eT, fC, eK, fG, PJ, dS, dT, dU, dV, dN, dK, dP, dM, dI, cY, if_true, if_false, PG, PM, PH, PI, PL, PK, PF, PE, cR, cO, cH, bY, cV, dJ, bW, bX, cS, cK, cL, dE, cP, dD, dC, dW, cZ, cF, bH, bR, aT, aC, aL, dF, aI, cD, dB, dA, bN, aH, bC, aZ, cM, aD, aX, aM, aV, cU, aW, cJ, bS, aF, aG, aK, dO, aP, aO, bD, aR, cB, aE, bZ, bT, bG, bB, aY, cX, aJ, bM, aU, aQ, aS, aA, dG, cN, bO, aN, cW, bU, bV, cI, bQ, bP, bL, cA, bJ, cC, bA, bK, bF, bE, cG]; rw [<- ho]; exact main 2 e)
 .have e : 4 = D8 d := by unfold D8; rw [h4] <;> rfl
  simp (disch := omega) only [dQ, fE, cQ, stepR_skip, eE, eS, eI, eP, eX, fB, fF, eN, dL, eL, eQ, eZ, eC, eF, eJ, eH, eD, fA, eU, eB, dR, eM, eY, eA, fY, gC, gB, fZ, fV, fX, gA, fW, gD, dH, Result.ok.injEq, Next.value.injEq, true_and, and_true, dZ, dY, eT, fC, eK, fG, PJ, dS, dT, dU, dV, dN, dK, dP, dM, dI, cY, if_true, if_false, PG, PM, PH, PI, PL, PK, PF, PE, cR, cO, cH, bY, cV, dJ, bW, bX, cS, cK, cL, dE, cP, dD, dC, dW, cZ, cF, bH, bR, aT, aC, aL, dF, aI, cD, dB, dA, bN, aH, bC, aZ, cM, aD, aX, aM, aV, cU, aW, cJ, bS, aF, aG, aK, dO, aP, aO, bD, aR, cB, aE, bZ, bT, bG, bB, aY, cX, aJ, bM, aU, aQ, aS, aA, dG, cN, bO, aN, cW, bU, bV, cI, bQ, bP, bL, cA, bJ, cC, bA, bK, bF, bE, cG, e6, h4]
  cases ho : CY d <;> (simp (disch := omega) only [dQ, fE, cQ, stepR_skip, eE, eS, eI, eP, eX, fB, fF, eN, dL, eL, eQ, eZ, eC, eF, eJ, eH, eD, fA, eU, eB, dR, eM, eY, eA, fY, gC, gB, fZ, fV, fX, gA, fW, gD, dH, Result.ok.injEq, Next.value.injEq, true_and, and_true, dZ, dY, eT, fC, eK, fG, PJ, dS, dT, dU, dV, dN, dK, dP, dM, dI, cY, if_true, if_false, PG, PM, PH, PI, PL, PK, PF, PE, cR, cO, cH, bY, cV, dJ, bW, bX, cS, cK, cL, dE, cP, dD, dC, dW, cZ, cF, bH, bR, aT, aC, aL, dF, aI, cD, dB, dA, bN, aH, bC, aZ, cM, aD, aX, aM, aV, cU, aW, cJ, bS, aF, aG, aK, dO, aP, aO, bD, aR, cB, aE, bZ, bT, bG, bB, aY, cX, aJ, bM, aU, aQ, aS, aA, dG, cN, bO, aN, cW, bU, bV, cI, bQ, bP, bL, cA, bJ, cC, bA, bK, bF, bE, cG]; rw [<- ho]; exact main 4 e)
 .have e : 8 = D8 d := by unfold D8; rw [h4] <;> rfl
  simp (disch := omega) only [dQ, fE, cQ, stepR_skip, eE, eS, eI, eP, eX, fB, fF, eN, dL, eL, eQ, eZ, eC, eF, eJ, eH, eD, fA, eU, eB, dR, eM, eY, eA, fY, gC, gB, fZ, fV, fX, gA, fW, gD, dH, Result.ok.injEq, Next.value.injEq, true_and, and_true, dZ, dY, eT, fC, eK, fG, PJ, dS, dT, dU, dV, dN, dK, dP, dM, dI, cY, if_true, if_false, PG, PM, PH, PI, PL, PK, PF, PE, cR, cO, cH, bY, cV, dJ, bW, bX, cS, cK, cL, dE, cP, dD, dC, dW, cZ, cF, bH, bR, aT, aC, aL, dF, aI, cD, dB, dA, bN, aH, bC, aZ, cM, aD, aX, aM, aV, cU, aW, cJ, bS, aF, aG, aK, dO, aP, aO, bD, aR, cB, aE, bZ, bT, bG, bB, aY, cX, aJ, bM, aU, aQ, aS, aA, dG, cN, bO, aN, cW, bU, bV, cI, bQ, bP, bL, cA, bJ, cC, bA, bK, bF, bE, cG, e6, h4]
  cases ho : CY d <;> (simp (disch := omega) only [dQ, fE, cQ, stepR_skip, eE, eS, eI, eP, eX, fB, fF, eN, dL, eL, eQ, eZ, eC, eF, eJ, eH, eD, fA, eU, eB, dR, eM, eY, eA, fY, gC, gB, fZ, fV, fX, gA, fW, gD, dH, Result.ok.injEq, Next.value.injEq, true_and, and_true, dZ, dY, eT, fC, eK, fG, PJ, dS, dT, dU, dV, dN, dK, dP, dM, dI, cY, if_true, if_false, PG, PM, PH, PI, PL, PK, PF, PE, cR, cO, cH, bY, cV, dJ, bW, bX, cS, cK, cL, dE, cP, dD, dC, dW, cZ, cF, bH, bR, aT, aC, aL, dF, aI, cD, dB, dA, bN, aH, bC, aZ, cM, aD, aX, aM, aV, cU, aW, cJ, bS, aF, aG, aK, dO, aP, aO, bD, aR, cB, aE, bZ, bT, bG, bB, aY, cX, aJ, bM, aU, aQ, aS, aA, dG, cN, bO, aN, cW, bU, bV, cI, bQ, bP, bL, cA, bJ, cC, bA, bK, bF, bE, cG]; rw [<- ho]; exact main 8 e)
theorem Nz {d : Nat} (h : d < 256) : uM .i64 (d : Int) 3 = ((d % 4 : Nat) : Int) /\ (uM .i64 (d : Int) 4 != 0) = (d / 4 % 2 == 1) /\ (uM .i64 (d : Int) 8 != 0) = (d / 8 % 2 == 1) /\ (uM .i64 (d : Int) 32 != 0) = (d / 32 % 2 == 1) := by
 have : ∀ k : Fin 256, uM .i64 (k.val : Int) 3 = ((k.val % 4 : Nat) : Int) /\ (uM .i64 (k.val : Int) 4 != 0) = (k.val / 4 % 2 == 1) /\ (uM .i64 (k.val : Int) 8 != 0) = (k.val / 8 % 2 == 1) /\ (uM .i64 (k.val : Int) 32 != 0) = (k.val / 32 % 2 == 1) := by decide +kernel
 exact this ⟨d, h⟩
theorem Pj (x : Nat) (h : x < 256) : IntKind.u64.wrap (IntKind.u64.wrap (1 * 2 ^ min (10 + ((x / 8 : Nat) : Int)).toNat IntKind.u64.bits) + IntKind.u64.wrap (IntKind.u64.wrap ((IntKind.u64.wrap (1 * 2 ^ min (10 + ((x / 8 : Nat) : Int)).toNat IntKind.u64.bits)).tdiv 8) * uM IntKind.u64 (x : Int) 7)) = ((LL x : Nat) : Int) := by
 have : ∀ k : Fin 256, IntKind.u64.wrap (IntKind.u64.wrap (1 * 2 ^ min (10 + ((k.val / 8 : Nat) : Int)).toNat IntKind.u64.bits) + IntKind.u64.wrap (IntKind.u64.wrap ((IntKind.u64.wrap (1 * 2 ^ min (10 + ((k.val / 8 : Nat) : Int)).toNat IntKind.u64.bits)).tdiv 8) * uM IntKind.u64 (k.val : Int) 7)) = ((LL k.val : Nat) : Int) := by decide +kernel
 exact this ⟨x, h⟩
theorem ME {x : Nat} {w : Q6} (h : x < 256) : fK pg rZ #[.int .u64 (x : Nat)] w (fun r w' => r = .int .u64 (LL x : Nat) /\ w' = w) := by
 refine Eb ?_
 unfold EJ uX
 have e0 : (x : Int).fdiv (2 ^ min (Int.toNat 3) IntKind.u64.bits) = ((x / 8 : Nat) : Int) := by
  have : (2 : Int) ^ min (Int.toNat 3) IntKind.u64.bits = 8 := by decide
  rw [this, Qb _ (by omega)]; omega
 simp (disch := omega) only [dQ, fE, cQ, stepR_skip, eE, eS, eI, eP, eX, fB, fF, eN, dL, eL, eQ, eZ, eC, eF, eJ, eH, eD, fA, eU, eB, dR, eM, eY, eA, fY, gC, gB, fZ, fV, fX, gA, fW, gD, dH, Result.ok.injEq, Next.value.injEq, true_and, and_true, dZ, dY, eT, fC, eK, fG, PJ, dS, dT, dU, dV, dN, dK, dP, dM, dI, cY, if_true, if_false, PG, PM, PH, PI, PL, PK, PF, PE, cR, cO, cH, bY, cV, dJ, bW, bX, cS, cK, cL, dE, cP, dD, dC, dW, cZ, cF, bH, bR, aT, aC, aL, dF, aI, cD, dB, dA, bN, aH, bC, aZ, cM, aD, aX, aM, aV, cU, aW, cJ, bS, aF, aG, aK, dO, aP, aO, bD, aR, cB, aE, bZ, bT, bG, bB, aY, cX, aJ, bM, aU, aQ, aS, aA, dG, cN, bO, aN, cW, bU, bV, cI, bQ, bP, bL, cA, bJ, cC, bA, bK, bF, bE, cG, e0]
 rw [Pj x h]
theorem Ig {RR : Q7 -> Q6 -> Prop} {v : Q7} {L lo hi pr ph pt d : Nat} {s : List UInt8 × Int} {h : FH} {z : FH} {w : Q6} (hd : d < 256) (hk0 : h.known = false) (hs0 : h.size = 0) (hr : Bg w lo hi pr s.1 s.2) (hl : s.1.length <= 1000000) (hv : ∃ a c, v = .slice a L c) (hL : s.1.length <= L) (hL2 : L <= 1000000) (oh : iE w ph (AM h)) (ot : iE w pt (AM z)) (hne : ph ≠ pt) (hpt : ¬ (lo <= pt /\ pt < hi)) (hph : ¬ (lo <= ph /\ ph < hi)) (hpr : lo <= pr /\ pr < hi)
 (hk : ∀ w', fU w w' (fun y => y = pt ∨ y = ph ∨ y = pr) -> RR (MM (Ft L (IB (IB s (Kc d)) (D8 d)) (He s (Kc d)) ⟨if CY d then Lv d (He (IB s (Kc d)) (D8 d)) else h.window, Lv d (He (IB s (Kc d)) (D8 d)), decide (0 < D8 d), h.sum⟩)) w') :
 rN RR v (.pointer (some ⟨pt, 0, none⟩)) (.pointer (some ⟨pr, 0, none⟩)) (.int .i64 (d : Nat)) (.pointer (some ⟨ph, 0, none⟩)) (.bool (CY d)) w := by
 unfold rN yD
 obtain ⟨b3, _⟩ := Nz hd
 have main : ∀ n : Nat, n <= 8 -> 0 < n -> Kc d = n -> fK pg fT #[.pointer (some ⟨pr, 0, none⟩), .int .i64 n] w (fun t50 w1 => qB RR v (.pointer (some ⟨pt, 0, none⟩)) (.pointer (some ⟨pr, 0, none⟩)) (.int .i64 (d : Nat)) (.pointer (some ⟨ph, 0, none⟩)) (.bool (CY d)) t50 w1) := by
  intro n hn h0 e
  rw [e] at hk
  unfold IB at hk
  unfold He at hk
  rw [if_pos h0, if_pos h0] at hk
  have hle : (GU s n).1.length <= s.1.length := by
   unfold GU sT
   split
   .exact PY _
   .split
    .exact PY _
    .simp only [PU]; omega
  refine (pD hr (by omega) ⟨h0, hn⟩).mono ?_
  rintro r w1 ⟨rfl, hr1, x1⟩
  exact I8 (s := GU s n) (dict := JF s n) hd hk0 hs0 hr1 (by omega) hv (by omega) hL2 (oh.ext x1 (fun e => hph (e ▸ hpr))) (ot.ext x1 (fun e => hpt (e ▸ hpr))) hne hpt hph hpr fun w' x => hk w' ((x1.mono fun _ _ h => .inr (.inr h)).seq x)
 have h4 : d % 4 = 0 ∨ d % 4 = 1 ∨ d % 4 = 2 ∨ d % 4 = 3 := by omega
 rcases h4 with h4 | h4 | h4 | h4 <;> rw [h4] at b3
 .have e : Kc d = 0 := by unfold Kc; rw [h4] <;> rfl
  have n1 : decide ((0 : Int) > 0) = false := rfl
  simp (disch := omega) only [dQ, fE, cQ, stepR_skip, eE, eS, eI, eP, eX, fB, fF, eN, dL, eL, eQ, eZ, eC, eF, eJ, eH, eD, fA, eU, eB, dR, eM, eY, eA, fY, gC, gB, fZ, fV, fX, gA, fW, gD, dH, Result.ok.injEq, Next.value.injEq, true_and, and_true, dZ, dY, eT, fC, eK, fG, PJ, dS, dT, dU, dV, dN, dK, dP, dM, dI, cY, if_true, if_false, PG, PM, PH, PI, PL, PK, PF, PE, cR, cO, cH, bY, cV, dJ, bW, bX, cS, cK, cL, dE, cP, dD, dC, dW, cZ, cF, bH, bR, aT, aC, aL, dF, aI, cD, dB, dA, bN, aH, bC, aZ, cM, aD, aX, aM, aV, cU, aW, cJ, bS, aF, aG, aK, dO, aP, aO, bD, aR, cB, aE, bZ, bT, bG, bB, aY, cX, aJ, bM, aU, aQ, aS, aA, dG, cN, bO, aN, cW, bU, bV, cI, bQ, bP, bL, cA, bJ, cC, bA, bK, bF, bE, cG, b3, n1]
  refine I8 (s := s) (dict := 0) hd hk0 hs0 hr hl hv hL hL2 oh ot hne hpt hph hpr fun w' x => ?_
  have := hk w' x
  rw [e] at this
  exact this
 .have n1 : decide ((1 : Int) > 0) = true := rfl
  have n2 : decide ((0 : Int) < 1) = true := rfl
  simp (disch := omega) only [dQ, fE, cQ, stepR_skip, eE, eS, eI, eP, eX, fB, fF, eN, dL, eL, eQ, eZ, eC, eF, eJ, eH, eD, fA, eU, eB, dR, eM, eY, eA, fY, gC, gB, fZ, fV, fX, gA, fW, gD, dH, Result.ok.injEq, Next.value.injEq, true_and, and_true, dZ, dY, eT, fC, eK, fG, PJ, dS, dT, dU, dV, dN, dK, dP, dM, dI, cY, if_true, if_false, PG, PM, PH, PI, PL, PK, PF, PE, cR, cO, cH, bY, cV, dJ, bW, bX, cS, cK, cL, dE, cP, dD, dC, dW, cZ, cF, bH, bR, aT, aC, aL, dF, aI, cD, dB, dA, bN, aH, bC, aZ, cM, aD, aX, aM, aV, cU, aW, cJ, bS, aF, aG, aK, dO, aP, aO, bD, aR, cB, aE, bZ, bT, bG, bB, aY, cX, aJ, bM, aU, aQ, aS, aA, dG, cN, bO, aN, cW, bU, bV, cI, bQ, bP, bL, cA, bJ, cC, bA, bK, bF, bE, cG, b3, n1, n2]
  exact main 1 (by omega) (by omega) (by unfold Kc; rw [h4] <;> rfl)
 .have n1 : decide ((2 : Int) > 0) = true := rfl
  have n2 : decide ((0 : Int) < 2) = true := rfl
  simp (disch := omega) only [dQ, fE, cQ, stepR_skip, eE, eS, eI, eP, eX, fB, fF, eN, dL, eL, eQ, eZ, eC, eF, eJ, eH, eD, fA, eU, eB, dR, eM, eY, eA, fY, gC, gB, fZ, fV, fX, gA, fW, gD, dH, Result.ok.injEq, Next.value.injEq, true_and, and_true, dZ, dY, eT, fC, eK, fG, PJ, dS, dT, dU, dV, dN, dK, dP, dM, dI, cY, if_true, if_false, PG, PM, PH, PI, PL, PK, PF, PE, cR, cO, cH, bY, cV, dJ, bW, bX, cS, cK, cL, dE, cP, dD, dC, dW, cZ, cF, bH, bR, aT, aC, aL, dF, aI, cD, dB, dA, bN, aH, bC, aZ, cM, aD, aX, aM, aV, cU, aW, cJ, bS, aF, aG, aK, dO, aP, aO, bD, aR, cB, aE, bZ, bT, bG, bB, aY, cX, aJ, bM, aU, aQ, aS, aA, dG, cN, bO, aN, cW, bU, bV, cI, bQ, bP, bL, cA, bJ, cC, bA, bK, bF, bE, cG, b3, n1, n2]
  exact main 2 (by omega) (by omega) (by unfold Kc; rw [h4] <;> rfl)
 .have n1 : decide ((4 : Int) > 0) = true := rfl
  have n2 : decide ((0 : Int) < 4) = true := rfl
  simp (disch := omega) only [dQ, fE, cQ, stepR_skip, eE, eS, eI, eP, eX, fB, fF, eN, dL, eL, eQ, eZ, eC, eF, eJ, eH, eD, fA, eU, eB, dR, eM, eY, eA, fY, gC, gB, fZ, fV, fX, gA, fW, gD, dH, Result.ok.injEq, Next.value.injEq, true_and, and_true, dZ, dY, eT, fC, eK, fG, PJ, dS, dT, dU, dV, dN, dK, dP, dM, dI, cY, if_true, if_false, PG, PM, PH, PI, PL, PK, PF, PE, cR, cO, cH, bY, cV, dJ, bW, bX, cS, cK, cL, dE, cP, dD, dC, dW, cZ, cF, bH, bR, aT, aC, aL, dF, aI, cD, dB, dA, bN, aH, bC, aZ, cM, aD, aX, aM, aV, cU, aW, cJ, bS, aF, aG, aK, dO, aP, aO, bD, aR, cB, aE, bZ, bT, bG, bB, aY, cX, aJ, bM, aU, aQ, aS, aA, dG, cN, bO, aN, cW, bU, bV, cI, bQ, bP, bL, cA, bJ, cC, bA, bK, bF, bE, cG, b3, n1, n2]
  exact main 4 (by omega) (by omega) (by unfold Kc; rw [h4] <;> rfl)
theorem LW (s : List UInt8 × Int) (n : Nat) : (GU s n).1.length <= s.1.length := by
 unfold GU sT
 split
 .exact PY _
 .split
  .exact PY _
  .simp only [PU]; omega
theorem Hx (s : List UInt8 × Int) (n : Nat) : JF s n < 256 ^ n := by
 unfold JF sT
 split
 .simp [jH]; exact Nat.pow_pos (by omega)
 .split
  .simp [jH]; exact Nat.pow_pos (by omega)
  .have := yU (s.1.take n)
   rw [PR, Qp (by omega)] at this
   exact this
theorem JC {v : Q7} {l : List UInt8} {w : Q6} (hb : Bs w v l) (hl : l.length <= 1000000) : fK pg wI #[v] w (fun r w' => r = MM (yZ l) /\ fU w w' kY) := by
 refine Gc ?_
 unfold G9 xD xA
 refine qN fun w1 o1 x1 s1 => ?_
 obtain ⟨pt, hpt⟩ : ∃ p, p = w.heap.size := ⟨_, rfl⟩
 rw [<- hpt] at o1 ⊢
 have hz1 := o1.lt
 have hb1 := hb.ext x1 (lC _)
 obtain ⟨va, vc, hv, _⟩ := hb.len
 rw [PQ] at hv
 refine (uP hb1 (by omega)).mono ?_
 rintro r w2 ⟨pr, rfl, hr, x2⟩
 have o2 := o1.ext x2 (fun h => h)
 have hpr : w1.heap.size <= pr /\ pr < w2.heap.size := ⟨hr.1, hr.2.1⟩
 refine (pD (n := 1) hr (by omega) ⟨by omega, by omega⟩).mono ?_
 rintro r w3 ⟨rfl, hr3, x3⟩
 have e1 : (jH (sT l 0 1).1) = JF (l, 0) 1 := rfl
 have e2 : (sT l 0 1).2.1 = (GU (l, 0) 1).1 := rfl
 have e3 : (sT l 0 1).2.2 = (GU (l, 0) 1).2 := rfl
 rw [e2, e3] at hr3
 rw [e1]
 have o3 := o2.ext x3 (by intro h; omega)
 obtain ⟨d, hd⟩ : ∃ d, d = JF (l, 0) 1 := ⟨_, rfl⟩
 obtain ⟨s, hs⟩ : ∃ s, s = GU (l, 0) 1 := ⟨_, rfl⟩
 have hdl : d < 256 := by have := Hx (l, 0) 1; omega
 have hsl : s.1.length <= l.length := by have := LW (l, 0) 1; rw [hs]; exact this
 rw [<- hd]
 rw [<- hs] at hr3
 have hfr : yZ l = if s.2 ≠ 0 then .error s.2 else if d / 8 % 2 = 1 then .error 11 else FT l.length s d := by unfold yZ; rw [<- hd, <- hs]
 rw [hfr]
 obtain ⟨b3, b4, b8, b32⟩ := Nz hdl
 have wd : IntKind.i64.wrap (d : Int) = d := dZ (by omega) (by omega)
 simp (disch := omega) only [dQ, fE, cQ, stepR_skip, eE, eS, eI, eP, eX, fB, fF, eN, dL, eL, eQ, eZ, eC, eF, eJ, eH, eD, fA, eU, eB, dR, eM, eY, eA, fY, gC, gB, fZ, fV, fX, gA, fW, gD, dH, Result.ok.injEq, Next.value.injEq, true_and, and_true, dZ, dY, eT, fC, eK, fG, PJ, dS, dT, dU, dV, dN, dK, dP, dM, dI, cY, if_true, if_false, PG, PM, PH, PI, PL, PK, PF, PE, cR, cO, cH, bY, cV, dJ, bW, bX, cS, cK, cL, dE, cP, dD, dC, dW, cZ, cF, bH, bR, aT, aC, aL, dF, aI, cD, dB, dA, bN, aH, bC, aZ, cM, aD, aX, aM, aV, cU, aW, cJ, bS, aF, aG, aK, dO, aP, aO, bD, aR, cB, aE, bZ, bT, bG, bB, aY, cX, aJ, bM, aU, aQ, aS, aA, dG, cN, bO, aN, cW, bU, bV, cI, bQ, bP, bL, cA, bJ, cC, bA, bK, bF, bE, cG, wd]
 refine (yV hr3).mono ?_
 rintro r w4 ⟨rfl, h4⟩
 rw [h4]; clear h4 w4
 have x03 : fU w w3 kY := x1.trans (x2.trans x3 fun y hy h => by have := x2.size; omega) fun y hy h => h
 by_cases he : s.2 = 0
 rotate_left
 .have n0 : (s.2 != 0) = true := by simp [he]
  rw [if_pos he]
  simp (disch := omega) only [dQ, fE, cQ, stepR_skip, eE, eS, eI, eP, eX, fB, fF, eN, dL, eL, eQ, eZ, eC, eF, eJ, eH, eD, fA, eU, eB, dR, eM, eY, eA, fY, gC, gB, fZ, fV, fX, gA, fW, gD, dH, Result.ok.injEq, Next.value.injEq, true_and, and_true, dZ, dY, eT, fC, eK, fG, PJ, dS, dT, dU, dV, dN, dK, dP, dM, dI, cY, if_true, if_false, PG, PM, PH, PI, PL, PK, PF, PE, cR, cO, cH, bY, cV, dJ, bW, bX, cS, cK, cL, dE, cP, dD, dC, dW, cZ, cF, bH, bR, aT, aC, aL, dF, aI, cD, dB, dA, bN, aH, bC, aZ, cM, aD, aX, aM, aV, cU, aW, cJ, bS, aF, aG, aK, dO, aP, aO, bD, aR, cB, aE, bZ, bT, bG, bB, aY, cX, aJ, bM, aU, aQ, aS, aA, dG, cN, bO, aN, cW, bU, bV, cI, bQ, bP, bL, cA, bJ, cC, bA, bK, bF, bE, cG, n0]
  refine (yV hr3).mono ?_
  rintro r w4 ⟨rfl, h4⟩
  rw [h4]; clear h4 w4
  refine jF o3 rfl (by simp [one]) (by simp) fun w5 o5 x5 s5 => ?_
  refine mO o5 (by simp [gJ]) ?_
  simp only [gJ, PV, PW, P5, P0, P6]
  exact ⟨rfl, x03.trans x5 fun y hy h => by omega⟩
 have n0 : (s.2 != 0) = false := by simp [he]
 rw [if_neg (by simpa using he)]
 by_cases h8 : d / 8 % 2 = 1
 .have n8 : (d / 8 % 2 == 1) = true := by simp [h8]
  rw [if_pos h8]
  rw [n8] at b8
  simp (disch := omega) only [dQ, fE, cQ, stepR_skip, eE, eS, eI, eP, eX, fB, fF, eN, dL, eL, eQ, eZ, eC, eF, eJ, eH, eD, fA, eU, eB, dR, eM, eY, eA, fY, gC, gB, fZ, fV, fX, gA, fW, gD, dH, Result.ok.injEq, Next.value.injEq, true_and, and_true, dZ, dY, eT, fC, eK, fG, PJ, dS, dT, dU, dV, dN, dK, dP, dM, dI, cY, if_true, if_false, PG, PM, PH, PI, PL, PK, PF, PE, cR, cO, cH, bY, cV, dJ, bW, bX, cS, cK, cL, dE, cP, dD, dC, dW, cZ, cF, bH, bR, aT, aC, aL, dF, aI, cD, dB, dA, bN, aH, bC, aZ, cM, aD, aX, aM, aV, cU, aW, cJ, bS, aF, aG, aK, dO, aP, aO, bD, aR, cB, aE, bZ, bT, bG, bB, aY, cX, aJ, bM, aU, aQ, aS, aA, dG, cN, bO, aN, cW, bU, bV, cI, bQ, bP, bL, cA, bJ, cC, bA, bK, bF, bE, cG, n0, b8]
  refine jF o3 rfl (by simp [one]) (by simp) fun w5 o5 x5 s5 => ?_
  refine mO o5 (by simp [gJ]) ?_
  simp only [gJ, PV, PW, P5, P0, P6]
  exact ⟨rfl, x03.trans x5 fun y hy h => by omega⟩
 have n8 : (d / 8 % 2 == 1) = false := by simp [h8]
 rw [if_neg h8]
 rw [n8] at b8
 obtain ⟨RR, hRR⟩ : ∃ RR : Q7 -> Q6 -> Prop, RR = fun r w' => r = MM (FT l.length s d) /\ fU w w' kY := ⟨_, rfl⟩
 rw [<- hRR]
 have e32 : (d / 32 % 2 == 1) = CY d := rfl
 rw [e32] at b32
 simp (disch := omega) only [dQ, fE, cQ, stepR_skip, eE, eS, eI, eP, eX, fB, fF, eN, dL, eL, eQ, eZ, eC, eF, eJ, eH, eD, fA, eU, eB, dR, eM, eY, eA, fY, gC, gB, fZ, fV, fX, gA, fW, gD, dH, Result.ok.injEq, Next.value.injEq, true_and, and_true, dZ, dY, eT, fC, eK, fG, PJ, dS, dT, dU, dV, dN, dK, dP, dM, dI, cY, if_true, if_false, PG, PM, PH, PI, PL, PK, PF, PE, cR, cO, cH, bY, cV, dJ, bW, bX, cS, cK, cL, dE, cP, dD, dC, dW, cZ, cF, bH, bR, aT, aC, aL, dF, aI, cD, dB, dA, bN, aH, bC, aZ, cM, aD, aX, aM, aV, cU, aW, cJ, bS, aF, aG, aK, dO, aP, aO, bD, aR, cB, aE, bZ, bT, bG, bB, aY, cX, aJ, bM, aU, aQ, aS, aA, dG, cN, bO, aN, cW, bU, bV, cI, bQ, bP, bL, cA, bJ, cC, bA, bK, bF, bE, cG, n0, b8, b4]
 refine qN fun w5 o5 x5 s5 => ?_
 obtain ⟨ph, hph⟩ : ∃ p, p = w3.heap.size := ⟨_, rfl⟩
 rw [<- hph] at o5 ⊢
 have hz3 := x2.size
 have hz4 := x3.size
 refine jF o5 rfl (by simp [one]) (by simp) fun w6 o6 x6 s6 => ?_
 simp only [gJ, PV, PW] at o6
 have x36 : fU w3 w6 kY := x5.new x6 (by omega)
 have x06 : fU w w6 kY := x03.trans x36 fun y hy h => h
 have hr6 := hr3.ext x36 (fun _ _ _ h => h)
 have o36 := o3.ext x36 (fun h => h)
 have oh6 : iE w6 ph (AM ⟨0, 0, false, d / 4 % 2 == 1⟩) := o6
 have ot6 : iE w6 pt (AM ⟨0, 0, false, false⟩) := o36
 rw [b32]
 cases ho : CY d with
 | true =>
   simp (disch := omega) only [dQ, fE, cQ, stepR_skip, eE, eS, eI, eP, eX, fB, fF, eN, dL, eL, eQ, eZ, eC, eF, eJ, eH, eD, fA, eU, eB, dR, eM, eY, eA, fY, gC, gB, fZ, fV, fX, gA, fW, gD, dH, Result.ok.injEq, Next.value.injEq, true_and, and_true, dZ, dY, eT, fC, eK, fG, PJ, dS, dT, dU, dV, dN, dK, dP, dM, dI, cY, if_true, if_false, PG, PM, PH, PI, PL, PK, PF, PE, cR, cO, cH, bY, cV, dJ, bW, bX, cS, cK, cL, dE, cP, dD, dC, dW, cZ, cF, bH, bR, aT, aC, aL, dF, aI, cD, dB, dA, bN, aH, bC, aZ, cM, aD, aX, aM, aV, cU, aW, cJ, bS, aF, aG, aK, dO, aP, aO, bD, aR, cB, aE, bZ, bT, bG, bB, aY, cX, aJ, bM, aU, aQ, aS, aA, dG, cN, bO, aN, cW, bU, bV, cI, bQ, bP, bL, cA, bJ, cC, bA, bK, bF, bE, cG]
   rw [<- ho]
   refine Ig (L := l.length) (s := s) hdl rfl rfl hr6 (by omega) ⟨_, _, hv⟩ hsl (by omega) oh6 ot6 (by omega) (by omega) (by omega) hpr fun w' x => ?_
   rw [hRR]
   refine ⟨?_, x06.trans x fun y hy h => by omega⟩
   unfold FT NB
   rw [ho]
   rfl
 | false =>
   simp (disch := omega) only [dQ, fE, cQ, stepR_skip, eE, eS, eI, eP, eX, fB, fF, eN, dL, eL, eQ, eZ, eC, eF, eJ, eH, eD, fA, eU, eB, dR, eM, eY, eA, fY, gC, gB, fZ, fV, fX, gA, fW, gD, dH, Result.ok.injEq, Next.value.injEq, true_and, and_true, dZ, dY, eT, fC, eK, fG, PJ, dS, dT, dU, dV, dN, dK, dP, dM, dI, cY, if_true, if_false, PG, PM, PH, PI, PL, PK, PF, PE, cR, cO, cH, bY, cV, dJ, bW, bX, cS, cK, cL, dE, cP, dD, dC, dW, cZ, cF, bH, bR, aT, aC, aL, dF, aI, cD, dB, dA, bN, aH, bC, aZ, cM, aD, aX, aM, aV, cU, aW, cJ, bS, aF, aG, aK, dO, aP, aO, bD, aR, cB, aE, bZ, bT, bG, bB, aY, cX, aJ, bM, aU, aQ, aS, aA, dG, cN, bO, aN, cW, bU, bV, cI, bQ, bP, bL, cA, bJ, cC, bA, bK, bF, bE, cG]
   refine (pD (n := 1) hr6 (by omega) ⟨by omega, by omega⟩).mono ?_
   rintro r w7 ⟨rfl, hr7, x7⟩
   have e1 : (jH (sT s.1 s.2 1).1) = JF s 1 := rfl
   have e2 : (sT s.1 s.2 1).2.1 = (GU s 1).1 := rfl
   have e3 : (sT s.1 s.2 1).2.2 = (GU s 1).2 := rfl
   rw [e2, e3] at hr7
   rw [e1]
   refine (ME (by have := Hx s 1; omega)).mono ?_
   rintro r w8 ⟨rfl, h4⟩
   rw [h4]; clear h4 w8
   have oh7 := oh6.ext x7 (by intro h; omega)
   have ot7 := ot6.ext x7 (by intro h; omega)
   refine tJ (off := 0) oh7 rfl (by simp [AM]) fun w9 o9 x9 s9 => ?_
   simp only [AM, PV, PW] at o9
   have oh9 : iE w9 ph (AM ⟨LL (JF s 1), 0, false, d / 4 % 2 == 1⟩) := o9
   have x69 : fU w6 w9 (fun y => y = pr ∨ y = ph) := (x7.mono fun _ _ h => .inl h).seq (x9.mono fun _ _ h => .inr h)
   have hle := LW s 1
   rw [<- ho]
   refine Ig (L := l.length) (s := GU s 1) hdl rfl rfl (hr7.ext x9 fun y h1 h2 h => by omega) (by omega) ⟨_, _, hv⟩ (by omega) (by omega) oh9 (ot7.ext x9 (by omega)) (by omega) (by omega) (by omega) hpr fun w' x => ?_
   rw [hRR]
   refine ⟨?_, (x06.trans x69 fun y hy h => by omega).trans x fun y hy h => by omega⟩
   unfold FT NB
   rw [ho]
   rfl
theorem NJ (n : Nat) : n &&& 3 = n % 4 := Qu n 2
theorem O1 (n : Nat) : n &&& 1 = n % 2 := Qu n 1
theorem NV {x : Nat} (h : x < 2 ^ 62) : uM .i64 (x : Int) 3 = ((x % 4 : Nat) : Int) := by
 unfold uM
 have e1 : (BitVec.ofInt IntKind.i64.bits (x : Int) &&& BitVec.ofInt IntKind.i64.bits 3).toNat = x % 4 := by
  rw [BitVec.toNat_and]
  simp only [IntKind.bits, BitVec.toNat_ofInt]
  have h1 : ((x : Int) % ((2 ^ 64 : Nat) : Int)).toNat = x := by omega
  have h2 : ((3 : Int) % ((2 ^ 64 : Nat) : Int)).toNat = 3 := by decide
  rw [h1, h2, NJ]
 rw [e1]
 exact dZ (by omega) (by omega)
theorem NQ {x : Nat} (h : x < 2 ^ 62) : uM .i64 (x : Int) 1 = ((x % 2 : Nat) : Int) := by
 unfold uM
 have e1 : (BitVec.ofInt IntKind.i64.bits (x : Int) &&& BitVec.ofInt IntKind.i64.bits 1).toNat = x % 2 := by
  rw [BitVec.toNat_and]
  simp only [IntKind.bits, BitVec.toNat_ofInt]
  have h1 : ((x : Int) % ((2 ^ 64 : Nat) : Int)).toNat = x := by omega
  have h2 : ((1 : Int) % ((2 ^ 64 : Nat) : Int)).toNat = 1 := by decide
  rw [h1, h2, O1]
 rw [e1]
 exact dZ (by omega) (by omega)
def Ps (x : Nat) : Q7 := .agg #[.bool (x % 2 == 1), .int .i64 (x / 2 % 4 : Nat), .int .i64 (x / 8 : Nat)]
def Pl (l : List UInt8) : Q7 := if jH l / 2 % 4 = 3 then .tuple #[.agg #[.bool false, .int .i64 0, .int .i64 0], .int .i64 11] else .tuple #[Ps (jH l), .int .i64 0]
theorem Jx {v : Q7} {l : List UInt8} {w : Q6} (hb : Bs w v l) (hl : l.length = 3) : fK pg oK #[v] w (fun r w' => r = Pl l /\ fU w w' kY) := by
 refine Cz ?_
 unfold BT qP
 refine xI fun w1 o1 x1 s1 => ?_
 obtain ⟨pt, hpt⟩ : ∃ p, p = w.heap.size := ⟨_, rfl⟩
 rw [<- hpt] at o1 ⊢
 have hz1 := o1.lt
 have hb1 := hb.ext x1 (lC _)
 refine (uP hb1 (by omega)).mono ?_
 rintro r w2 ⟨pr, rfl, hr, x2⟩
 have o2 := o1.ext x2 (fun h => h)
 have hpr : w1.heap.size <= pr /\ pr < w2.heap.size := ⟨hr.1, hr.2.1⟩
 refine (pD (n := 3) hr (by omega) ⟨by omega, by omega⟩).mono ?_
 rintro r w3 ⟨rfl, hr3, x3⟩
 have o3 := o2.ext x3 (by intro h; omega)
 have e1 : sT l 0 3 = (l, [], 0) := by
  unfold sT
  rw [if_neg (by decide), if_neg (by omega), PX (by omega), QZ (by omega)]
 rw [e1] at hr3 ⊢
 have hlt : jH l < 2 ^ 24 := by have := yU l; rw [hl] at this; omega
 unfold Pl
 obtain ⟨x, hx⟩ : ∃ x, x = jH l := ⟨_, rfl⟩
 rw [<- hx] at hlt ⊢
 have wd : IntKind.i64.wrap (x : Int) = x := dZ (by omega) (by omega)
 have s1 : (x : Int).fdiv (2 ^ min (Int.toNat 1) IntKind.i64.bits) = ((x / 2 : Nat) : Int) := by
  have : (2 : Int) ^ min (Int.toNat 1) IntKind.i64.bits = 2 := by decide
  rw [this, Qb _ (by omega)]; omega
 have s3 : (x : Int).fdiv (2 ^ min (Int.toNat 3) IntKind.i64.bits) = ((x / 8 : Nat) : Int) := by
  have : (2 : Int) ^ min (Int.toNat 3) IntKind.i64.bits = 8 := by decide
  rw [this, Qb _ (by omega)]; omega
 have a3 := NV (x := x / 2) (by omega)
 have a1 := NQ (x := x) (by omega)
 have n0 : ((0 : Int) != 0) = false := rfl
 have x03 : fU w w3 kY := x1.trans (x2.trans x3 fun y hy h => by have := x2.size; omega) fun y hy h => h
 simp (disch := omega) only [dQ, fE, cQ, stepR_skip, eE, eS, eI, eP, eX, fB, fF, eN, dL, eL, eQ, eZ, eC, eF, eJ, eH, eD, fA, eU, eB, dR, eM, eY, eA, fY, gC, gB, fZ, fV, fX, gA, fW, gD, dH, Result.ok.injEq, Next.value.injEq, true_and, and_true, dZ, dY, eT, fC, eK, fG, PJ, dS, dT, dU, dV, dN, dK, dP, dM, dI, cY, if_true, if_false, PG, PM, PH, PI, PL, PK, PF, PE, cR, cO, cH, bY, cV, dJ, bW, bX, cS, cK, cL, dE, cP, dD, dC, dW, cZ, cF, bH, bR, aT, aC, aL, dF, aI, cD, dB, dA, bN, aH, bC, aZ, cM, aD, aX, aM, aV, cU, aW, cJ, bS, aF, aG, aK, dO, aP, aO, bD, aR, cB, aE, bZ, bT, bG, bB, aY, cX, aJ, bM, aU, aQ, aS, aA, dG, cN, bO, aN, cW, bU, bV, cI, bQ, bP, bL, cA, bJ, cC, bA, bK, bF, bE, cG, wd]
 refine (yV hr3).mono ?_
 rintro r w4 ⟨rfl, h4⟩
 rw [h4]; clear h4 w4
 by_cases h3 : x / 2 % 4 = 3
 .have d1 : decide (((x / 2 % 4 : Nat) : Int) > 2) = true := decide_eq_true (by omega)
  have d2 : decide ((2 : Int) < ((x / 2 % 4 : Nat) : Int)) = true := decide_eq_true (by omega)
  rw [if_pos h3]
  simp (disch := omega) only [dQ, fE, cQ, stepR_skip, eE, eS, eI, eP, eX, fB, fF, eN, dL, eL, eQ, eZ, eC, eF, eJ, eH, eD, fA, eU, eB, dR, eM, eY, eA, fY, gC, gB, fZ, fV, fX, gA, fW, gD, dH, Result.ok.injEq, Next.value.injEq, true_and, and_true, dZ, dY, eT, fC, eK, fG, PJ, dS, dT, dU, dV, dN, dK, dP, dM, dI, cY, if_true, if_false, PG, PM, PH, PI, PL, PK, PF, PE, cR, cO, cH, bY, cV, dJ, bW, bX, cS, cK, cL, dE, cP, dD, dC, dW, cZ, cF, bH, bR, aT, aC, aL, dF, aI, cD, dB, dA, bN, aH, bC, aZ, cM, aD, aX, aM, aV, cU, aW, cJ, bS, aF, aG, aK, dO, aP, aO, bD, aR, cB, aE, bZ, bT, bG, bB, aY, cX, aJ, bM, aU, aQ, aS, aA, dG, cN, bO, aN, cW, bU, bV, cI, bQ, bP, bL, cA, bJ, cC, bA, bK, bF, bE, cG, n0, s1, a3, d1, d2]
  refine qL o3 rfl (by simp [one]) (by simp) fun w5 o5 x5 s5 => ?_
  refine BM o5 (by simp [gJ]) ?_
  simp only [gJ, PV, PW, P5, P0, P6]
  exact ⟨trivial, x03.trans x5 fun y hy h => by omega⟩
 .have d1 : decide (((x / 2 % 4 : Nat) : Int) > 2) = false := decide_eq_false (by omega)
  have d2 : decide ((2 : Int) < ((x / 2 % 4 : Nat) : Int)) = false := decide_eq_false (by omega)
  have e5 : (((x % 2 : Nat) : Int) == 1) = (x % 2 == 1) := by
   have : x % 2 = 0 ∨ x % 2 = 1 := by omega
   rcases this with h | h <;> rw [h] <;> rfl
  rw [if_neg h3]
  simp (disch := omega) only [dQ, fE, cQ, stepR_skip, eE, eS, eI, eP, eX, fB, fF, eN, dL, eL, eQ, eZ, eC, eF, eJ, eH, eD, fA, eU, eB, dR, eM, eY, eA, fY, gC, gB, fZ, fV, fX, gA, fW, gD, dH, Result.ok.injEq, Next.value.injEq, true_and, and_true, dZ, dY, eT, fC, eK, fG, PJ, dS, dT, dU, dV, dN, dK, dP, dM, dI, cY, if_true, if_false, PG, PM, PH, PI, PL, PK, PF, PE, cR, cO, cH, bY, cV, dJ, bW, bX, cS, cK, cL, dE, cP, dD, dC, dW, cZ, cF, bH, bR, aT, aC, aL, dF, aI, cD, dB, dA, bN, aH, bC, aZ, cM, aD, aX, aM, aV, cU, aW, cJ, bS, aF, aG, aK, dO, aP, aO, bD, aR, cB, aE, bZ, bT, bG, bB, aY, cX, aJ, bM, aU, aQ, aS, aA, dG, cN, bO, aN, cW, bU, bV, cI, bQ, bP, bL, cA, bJ, cC, bA, bK, bF, bE, cG, n0, s1, a3, d1, d2, a1, s3, e5]
  refine qL o3 rfl (by simp [one]) (by simp) fun w5 o5 x5 s5 => ?_
  refine BM o5 (by simp [gJ]) ?_
  simp only [gJ, PV, PW, P5, P0, P6]
  exact ⟨rfl, x03.trans x5 fun y hy h => by omega⟩
end Go.Proofs.YthohephggmkeeaaDoor
namespace Go.Proofs.YthohephggmkeeaaDoor
open Go Go.En Go.Pu
theorem MJ {x n m : Nat} (h : m = n) : (x : Int).fdiv (2 ^ m) = ((x / 2 ^ n : Nat) : Int) := by
 subst h
 rw [Qb _ (by exact_mod_cast Nat.zero_le _)]
 push_cast
 rfl
theorem Oc {x n : Nat} (h : n <= 64) : (x : Int).fdiv (2 ^ min n IntKind.u64.bits) = ((x / 2 ^ n : Nat) : Int) := MJ (by have : IntKind.u64.bits = 64 := rfl; omega)
theorem J3 {x n : Nat} (hx : x < 2 ^ 63) (hn : n <= 62) : uM .u64 (x : Int) ((2 ^ n - 1 : Nat) : Int) = ((x % 2 ^ n : Nat) : Int) := by
 have hp : 2 ^ n <= 2 ^ 62 := Qt (by omega) hn
 unfold uM
 have e : IntKind.u64.bits = 64 := rfl
 rw [e, BitVec.ofInt_natCast, BitVec.ofInt_natCast, BitVec.toNat_and, BitVec.toNat_ofNat, BitVec.toNat_ofNat, Qa (by omega), Qa (by omega), Qu]
 have := Nat.mod_le x (2 ^ n)
 exact dY (by omega) (by omega)
end Go.Proofs.YthohephggmkeeaaDoor
namespace Go.Proofs.YthohephggmkeeaaDoor
open Go Go.En Go.Pu
set_option maxRecDepth 4000
theorem MR {n : Nat} {w : Q6} (hn : n <= 131072) :
 fK pg oL #[.int .u64 1, .int .u64 n] w (fun r w' => r = .tuple #[.int .u64 0, .int .u64 n] /\ fU w w' kY) := by
 refine Cj ?_
 unfold BJ qW
 have a1 : uM .u64 1 4294967295 = 1 := by decide
 have a2 : uM .u64 (n : Int) 4294967295 = n := by
  have := J3 (x := n) (n := 32) (by omega) (by omega)
  rw [Qa (by omega)] at this
  exact this
 have a0 : uM .u64 0 4294967295 = 0 := by decide
 have s1 : (1 : Int).fdiv (2 ^ min 32 IntKind.u64.bits) = 0 := by decide
 have s0 : (0 : Int).fdiv (2 ^ min 32 IntKind.u64.bits) = 0 := by decide
 have s2 : (n : Int).fdiv (2 ^ min 32 IntKind.u64.bits) = 0 := by
  rw [Oc (by omega), Nat.div_eq_of_lt (by omega)] <;> rfl
 have t32 : (32 : Int).toNat = 32 := rfl
 have w0 : IntKind.u64.wrap 0 = 0 := rfl
 have w1 : IntKind.u64.wrap (n : Int) = n := dY (by omega) (by omega)
 simp (disch := omega) only [dQ, fE, cQ, stepR_skip, eE, eS, eI, eP, eX, fB, fF, eN, dL, eL, eQ, eZ, eC, eF, eJ, eH, eD, fA, eU, eB, dR, eM, eY, eA, fY, gC, gB, fZ, fV, fX, gA, fW, gD, dH, Result.ok.injEq, Next.value.injEq, true_and, and_true, dZ, dY, eT, fC, eK, fG, PJ, dS, dT, dU, dV, dN, dK, dP, dM, dI, cY, if_true, if_false, PG, PM, PH, PI, PL, PK, PF, PE, cR, cO, cH, bY, cV, dJ, bW, bX, cS, cK, cL, dE, cP, dD, dC, dW, cZ, cF, bH, bR, aT, aC, aL, dF, aI, cD, dB, dA, bN, aH, bC, aZ, cM, aD, aX, aM, aV, cU, aW, cJ, bS, aF, aG, aK, dO, aP, aO, bD, aR, cB, aE, bZ, bT, bG, bB, aY, cX, aJ, bM, aU, aQ, aS, aA, dG, cN, bO, aN, cW, bU, bV, cI, bQ, bP, bL, cA, bJ, cC, bA, bK, bF, bE, cG, a1, a2, a0, s1, s2, s0, t32, w0, w1, Int.one_mul, Int.zero_mul, Int.mul_zero, Int.add_zero, Int.zero_add]
 exact fU.refl _ _
theorem O4 {n : Nat} {w : Q6} (hn : n <= 131072) :
 fK pg qH #[.int .u64 1, .int .u64 n] w (fun r w' => r = .tuple #[.int .u64 0, .int .u64 n] /\ fU w w' kY) := by
 refine DN ?_
 unfold Df tH
 simp (disch := omega) only [dQ, fE, cQ, stepR_skip, eE, eS, eI, eP, eX, fB, fF, eN, dL, eL, eQ, eZ, eC, eF, eJ, eH, eD, fA, eU, eB, dR, eM, eY, eA, fY, gC, gB, fZ, fV, fX, gA, fW, gD, dH, Result.ok.injEq, Next.value.injEq, true_and, and_true, dZ, dY, eT, fC, eK, fG, PJ, dS, dT, dU, dV, dN, dK, dP, dM, dI, cY, if_true, if_false, PG, PM, PH, PI, PL, PK, PF, PE, cR, cO, cH, bY, cV, dJ, bW, bX, cS, cK, cL, dE, cP, dD, dC, dW, cZ, cF, bH, bR, aT, aC, aL, dF, aI, cD, dB, dA, bN, aH, bC, aZ, cM, aD, aX, aM, aV, cU, aW, cJ, bS, aF, aG, aK, dO, aP, aO, bD, aR, cB, aE, bZ, bT, bG, bB, aY, cX, aJ, bM, aU, aQ, aS, aA, dG, cN, bO, aN, cW, bU, bV, cI, bQ, bP, bL, cA, bJ, cC, bA, bK, bF, bE, cG]
 refine (MR hn).mono ?_
 rintro r w1 ⟨rfl, x1⟩
 simp (disch := omega) only [dQ, fE, cQ, stepR_skip, eE, eS, eI, eP, eX, fB, fF, eN, dL, eL, eQ, eZ, eC, eF, eJ, eH, eD, fA, eU, eB, dR, eM, eY, eA, fY, gC, gB, fZ, fV, fX, gA, fW, gD, dH, Result.ok.injEq, Next.value.injEq, true_and, and_true, dZ, dY, eT, fC, eK, fG, PJ, dS, dT, dU, dV, dN, dK, dP, dM, dI, cY, if_true, if_false, PG, PM, PH, PI, PL, PK, PF, PE, cR, cO, cH, bY, cV, dJ, bW, bX, cS, cK, cL, dE, cP, dD, dC, dW, cZ, cF, bH, bR, aT, aC, aL, dF, aI, cD, dB, dA, bN, aH, bC, aZ, cM, aD, aX, aM, aV, cU, aW, cJ, bS, aF, aG, aK, dO, aP, aO, bD, aR, cB, aE, bZ, bT, bG, bB, aY, cX, aJ, bM, aU, aQ, aS, aA, dG, cN, bO, aN, cW, bU, bV, cI, bQ, bP, bL, cA, bJ, cC, bA, bK, bF, bE, cG]
 exact x1
theorem OA {z v : Q7} {i n : Nat} (hi : i <= n) : gJ (List.replicate i v ++ List.replicate (n - i) z) i ((List.replicate i v).take (min i (n - i))) = List.replicate (i + min i (n - i)) v ++ List.replicate (n - (i + min i (n - i))) z := by
 have e : (List.replicate i v).take (min i (n - i)) = List.replicate (min i (n - i)) v := by
  rw [List.take_replicate]; congr 1; omega
 rw [e]
 generalize hm : min i (n - i) = m
 have hm2 : i + m <= n := by omega
 clear hm e
 induction m generalizing i with
 | zero => simp [gJ]
 | succ m ih =>
   rw [List.replicate_succ]
   simp only [gJ]
   rw [show (List.replicate i v ++ List.replicate (n - i) z).set i v = List.replicate (i + 1) v ++ List.replicate (n - (i + 1)) z from ?_]
   .rw [ih (i := i + 1) (by omega) (by omega), show i + 1 + m = i + (m + 1) from by omega]
   .rw [Qh _ _ (by simp), Qg, Nat.sub_self, show n - i = (n - (i + 1)) + 1 from by omega, List.replicate_succ, PV, List.replicate_succ', P1]
    rfl
theorem KZ {c : UInt8} {n p : Nat} {w3 : Q6} {RR : Q7 -> Q6 -> Prop} (hn : n <= 131072) (o3 : iE w3 p (List.replicate (min 1 n) (lU c) ++ List.replicate (n - min 1 n) (.int .u8 0)))
 (hk : ∀ w4, iE w4 p (List.replicate n (lU c)) -> fU w3 w4 (fun y => y = p) -> RR (.slice (some ⟨p, 0, none⟩) n n) w4) :
 lG RR (.slice (some ⟨p, 0, none⟩) n n) (.int .i64 (min 1 n : Nat)) w3 := by
 unfold lG nN nZ
 refine iG.rule (fun m (t : Q7) w' => ∃ i : Nat, m = n - i /\ t = .int .i64 i /\ i <= n /\ (1 <= i ∨ n = 0) /\ iE w' p (List.replicate i (lU c) ++ List.replicate (n - i) (.int .u8 0)) /\ fU w3 w' (fun y => y = p)) (n - min 1 n)
  ⟨min 1 n, rfl, rfl, by omega, by omega, o3, fU.refl _ _⟩ ?_
 rintro m t w4 ⟨i, rfl, rfl, hi, h0, o4, x4⟩
 unfold lB
 by_cases hlt : i < n
 .have d5 : decide ((i : Int) < (n : Int)) = true := by simp; omega
  have q1 : (i : Int).toNat = i := PJ _
  have s1 : iL (some (⟨p, 0, none⟩ : Addr)) n i 1 = some ⟨p, 0 + i, none⟩ := Hl (by omega)
  have s2 : iL (some (⟨p, 0, none⟩ : Addr)) n 0 1 = some ⟨p, 0 + 0, none⟩ := Hl (by omega)
  simp (disch := omega) only [dQ, fE, cQ, stepR_skip, eE, eS, eI, eP, eX, fB, fF, eN, dL, eL, eQ, eZ, eC, eF, eJ, eH, eD, fA, eU, eB, dR, eM, eY, eA, fY, gC, gB, fZ, fV, fX, gA, fW, gD, dH, Result.ok.injEq, Next.value.injEq, true_and, and_true, dZ, dY, eT, fC, eK, fG, PJ, dS, dT, dU, dV, dN, dK, dP, dM, dI, cY, if_true, if_false, PG, PM, PH, PI, PL, PK, PF, PE, cR, cO, cH, bY, cV, dJ, bW, bX, cS, cK, cL, dE, cP, dD, dC, dW, cZ, cF, bH, bR, aT, aC, aL, dF, aI, cD, dB, dA, bN, aH, bC, aZ, cM, aD, aX, aM, aV, cU, aW, cJ, bS, aF, aG, aK, dO, aP, aO, bD, aR, cB, aE, bZ, bT, bG, bB, aY, cX, aJ, bM, aU, aQ, aS, aA, dG, cN, bO, aN, cW, bU, bV, cI, bQ, bP, bL, cA, bJ, cC, bA, bK, bF, bE, cG, d5, q1, s1, s2, Nat.sub_zero]
  have hs : Bs (dr w4) (.slice (some ⟨p, 0, none⟩) i n) (List.replicate i c) := by
   have := (jD o4).bs (off := 0) (c := n) (l := List.replicate i c) (by simp; omega) (fun j hj => by
    rw [Qg] at hj
    rw [PM, P3 (by simp; omega)]
    simp [List.getElem?_replicate, hj])
   rw [Qg] at this
   exact this
  refine CJ (off := i) (dl := n - i) (jD o4) (by simp) hs (by simp [one, lU]) fun w5 o5 x5 s5 => ?_
  have hm5 : (List.map lU (List.replicate i c)).length = i := by simp
  rw [hm5, List.map_replicate, OA hi] at o5
  rw [hm5]
  have e5 : (i : Int) + ((min i (n - i) : Nat) : Int) = ((i + min i (n - i) : Nat) : Int) := by omega
  have wi5 : IntKind.i64.wrap ((i + min i (n - i) : Nat) : Int) = ((i + min i (n - i) : Nat) : Int) := dZ (by omega) (by omega)
  simp (disch := omega) only [dQ, fE, cQ, stepR_skip, eE, eS, eI, eP, eX, fB, fF, eN, dL, eL, eQ, eZ, eC, eF, eJ, eH, eD, fA, eU, eB, dR, eM, eY, eA, fY, gC, gB, fZ, fV, fX, gA, fW, gD, dH, Result.ok.injEq, Next.value.injEq, true_and, and_true, dZ, dY, eT, fC, eK, fG, PJ, dS, dT, dU, dV, dN, dK, dP, dM, dI, cY, if_true, if_false, PG, PM, PH, PI, PL, PK, PF, PE, cR, cO, cH, bY, cV, dJ, bW, bX, cS, cK, cL, dE, cP, dD, dC, dW, cZ, cF, bH, bR, aT, aC, aL, dF, aI, cD, dB, dA, bN, aH, bC, aZ, cM, aD, aX, aM, aV, cU, aW, cJ, bS, aF, aG, aK, dO, aP, aO, bD, aR, cB, aE, bZ, bT, bG, bB, aY, cX, aJ, bM, aU, aQ, aS, aA, dG, cN, bO, aN, cW, bU, bV, cI, bQ, bP, bL, cA, bJ, cC, bA, bK, bF, bE, cG, e5, wi5]
  exact ⟨n - (i + min i (n - i)), by omega, i + min i (n - i), rfl, rfl, by omega, by omega, o5, x4.seq ((fU.dr w4 _).seq x5)⟩
 .have d5 : decide ((i : Int) < (n : Int)) = false := by simp; omega
  have hin : i = n := by omega
  rw [hin, Nat.sub_self, List.replicate_zero, QF] at o4
  simp (disch := omega) only [dQ, fE, cQ, stepR_skip, eE, eS, eI, eP, eX, fB, fF, eN, dL, eL, eQ, eZ, eC, eF, eJ, eH, eD, fA, eU, eB, dR, eM, eY, eA, fY, gC, gB, fZ, fV, fX, gA, fW, gD, dH, Result.ok.injEq, Next.value.injEq, true_and, and_true, dZ, dY, eT, fC, eK, fG, PJ, dS, dT, dU, dV, dN, dK, dP, dM, dI, cY, if_true, if_false, PG, PM, PH, PI, PL, PK, PF, PE, cR, cO, cH, bY, cV, dJ, bW, bX, cS, cK, cL, dE, cP, dD, dC, dW, cZ, cF, bH, bR, aT, aC, aL, dF, aI, cD, dB, dA, bN, aH, bC, aZ, cM, aD, aX, aM, aV, cU, aW, cJ, bS, aF, aG, aK, dO, aP, aO, bD, aR, cB, aE, bZ, bT, bG, bB, aY, cX, aJ, bM, aU, aQ, aS, aA, dG, cN, bO, aN, cW, bU, bV, cI, bQ, bP, bL, cA, bJ, cC, bA, bK, bF, bE, cG, d5]
  unfold lA
  exact hk w4 o4 x4
theorem L9 {v : Q7} {c : UInt8} {n : Nat} {w : Q6} (h : Bs w v [c]) (hn : n <= 131072) :
 fK pg lN #[v, .int .i64 n] w (fun r w' => ER w' w.heap.size 1 r n (List.replicate n (lU c)) /\ fU w w' kY) := by
 refine AE ?_
 obtain ⟨RR, hRR⟩ : ∃ RR : Q7 -> Q6 -> Prop, RR = fun r w' => ER w' w.heap.size 1 r n (List.replicate n (lU c)) /\ fU w w' kY := ⟨_, rfl⟩
 rw [<- hRR]
 obtain ⟨b, off, cap, rfl, hc, hcell⟩ := Oq h (by simp)
 have hl1 : ([c] : List UInt8).length = 1 := rfl
 rw [hl1] at *
 have d0 : decide ((n : Int) < 0) = false := decide_eq_false (by omega)
 have e1 : ((1 : Nat) : Int) = 1 := rfl
 have wn : IntKind.u64.wrap (n : Int) = n := dY (by omega) (by omega)
 have w1 : IntKind.u64.wrap 1 = 1 := rfl
 unfold yF mQ mU
 simp (disch := omega) only [dQ, fE, cQ, stepR_skip, eE, eS, eI, eP, eX, fB, fF, eN, dL, eL, eQ, eZ, eC, eF, eJ, eH, eD, fA, eU, eB, dR, eM, eY, eA, fY, gC, gB, fZ, fV, fX, gA, fW, gD, dH, Result.ok.injEq, Next.value.injEq, true_and, and_true, dZ, dY, eT, fC, eK, fG, PJ, dS, dT, dU, dV, dN, dK, dP, dM, dI, cY, if_true, if_false, PG, PM, PH, PI, PL, PK, PF, PE, cR, cO, cH, bY, cV, dJ, bW, bX, cS, cK, cL, dE, cP, dD, dC, dW, cZ, cF, bH, bR, aT, aC, aL, dF, aI, cD, dB, dA, bN, aH, bC, aZ, cM, aD, aX, aM, aV, cU, aW, cJ, bS, aF, aG, aK, dO, aP, aO, bD, aR, cB, aE, bZ, bT, bG, bB, aY, cX, aJ, bM, aU, aQ, aS, aA, dG, cN, bO, aN, cW, bU, bV, cI, bQ, bP, bL, cA, bJ, cC, bA, bK, bF, bE, cG, d0]
 unfold nY nX
 simp (disch := omega) only [dQ, fE, cQ, stepR_skip, eE, eS, eI, eP, eX, fB, fF, eN, dL, eL, eQ, eZ, eC, eF, eJ, eH, eD, fA, eU, eB, dR, eM, eY, eA, fY, gC, gB, fZ, fV, fX, gA, fW, gD, dH, Result.ok.injEq, Next.value.injEq, true_and, and_true, dZ, dY, eT, fC, eK, fG, PJ, dS, dT, dU, dV, dN, dK, dP, dM, dI, cY, if_true, if_false, PG, PM, PH, PI, PL, PK, PF, PE, cR, cO, cH, bY, cV, dJ, bW, bX, cS, cK, cL, dE, cP, dD, dC, dW, cZ, cF, bH, bR, aT, aC, aL, dF, aI, cD, dB, dA, bN, aH, bC, aZ, cM, aD, aX, aM, aV, cU, aW, cJ, bS, aF, aG, aK, dO, aP, aO, bD, aR, cB, aE, bZ, bT, bG, bB, aY, cX, aJ, bM, aU, aQ, aS, aA, dG, cN, bO, aN, cW, bU, bV, cI, bQ, bP, bL, cA, bJ, cC, bA, bK, bF, bE, cG, e1, wn, w1]
 refine (O4 hn).mono ?_
 rintro r w1 ⟨rfl, x1⟩
 have d1 : decide ((0 : Int) > 0) = false := rfl
 have d2 : decide ((n : Int) > 9223372036854775807) = false := decide_eq_false (by omega)
 have d3 : decide ((9223372036854775807 : Int) < (n : Int)) = false := decide_eq_false (by omega)
 have d4 : decide ((0 : Int) < 0) = false := rfl
 simp (disch := omega) only [dQ, fE, cQ, stepR_skip, eE, eS, eI, eP, eX, fB, fF, eN, dL, eL, eQ, eZ, eC, eF, eJ, eH, eD, fA, eU, eB, dR, eM, eY, eA, fY, gC, gB, fZ, fV, fX, gA, fW, gD, dH, Result.ok.injEq, Next.value.injEq, true_and, and_true, dZ, dY, eT, fC, eK, fG, PJ, dS, dT, dU, dV, dN, dK, dP, dM, dI, cY, if_true, if_false, PG, PM, PH, PI, PL, PK, PF, PE, cR, cO, cH, bY, cV, dJ, bW, bX, cS, cK, cL, dE, cP, dD, dC, dW, cZ, cF, bH, bR, aT, aC, aL, dF, aI, cD, dB, dA, bN, aH, bC, aZ, cM, aD, aX, aM, aV, cU, aW, cJ, bS, aF, aG, aK, dO, aP, aO, bD, aR, cB, aE, bZ, bT, bG, bB, aY, cX, aJ, bM, aU, aQ, aS, aA, dG, cN, bO, aN, cW, bU, bV, cI, bQ, bP, bL, cA, bJ, cC, bA, bK, bF, bE, cG, d1, d2, d3, d4]
 unfold nT oA
 have wi : IntKind.i64.wrap (n : Int) = n := dZ (by omega) (by omega)
 simp (disch := omega) only [dQ, fE, cQ, stepR_skip, eE, eS, eI, eP, eX, fB, fF, eN, dL, eL, eQ, eZ, eC, eF, eJ, eH, eD, fA, eU, eB, dR, eM, eY, eA, fY, gC, gB, fZ, fV, fX, gA, fW, gD, dH, Result.ok.injEq, Next.value.injEq, true_and, and_true, dZ, dY, eT, fC, eK, fG, PJ, dS, dT, dU, dV, dN, dK, dP, dM, dI, cY, if_true, if_false, PG, PM, PH, PI, PL, PK, PF, PE, cR, cO, cH, bY, cV, dJ, bW, bX, cS, cK, cL, dE, cP, dD, dC, dW, cZ, cF, bH, bR, aT, aC, aL, dF, aI, cD, dB, dA, bN, aH, bC, aZ, cM, aD, aX, aM, aV, cU, aW, cJ, bS, aF, aG, aK, dO, aP, aO, bD, aR, cB, aE, bZ, bT, bG, bB, aY, cX, aJ, bM, aU, aQ, aS, aA, dG, cN, bO, aN, cW, bU, bV, cI, bQ, bP, bL, cA, bJ, cC, bA, bK, bF, bE, cG, wi]
 refine Jo (by omega) (by omega) fun w2 o2 x2 s2 => ?_
 simp only [PJ] at o2 ⊢
 have z1 := x1.size
 have z2 := x2.size
 have x02 := x1.seq x2
 have h2 := h.ext x02 (lC _)
 obtain ⟨p, hp⟩ : ∃ p, p = w1.heap.size := ⟨_, rfl⟩
 rw [<- hp] at o2 ⊢
 refine CJ (off := 0) o2 (by simp) h2 (by simp [one, lU]) fun w3 o3 x3 s3 => ?_
 have hmn : min (List.map lU [c]).length n = min 1 n := rfl
 rw [hmn] at o3 ⊢
 have hs3 : gJ (List.replicate n (Value.int .u8 0)) 0 ((List.map lU [c]).take (min 1 n)) = List.replicate (min 1 n) (lU c) ++ List.replicate (n - min 1 n) (.int .u8 0) := by
  rcases Nat.eq_zero_or_pos n with rfl | hp
  .rfl
  .rw [show min 1 n = 1 from by omega]
   obtain ⟨m, rfl⟩ : ∃ m, n = m + 1 := ⟨n - 1, by omega⟩
   rfl
 rw [hs3] at o3
 have x13 : fU w1 w3 kY := x2.new x3 (by omega)
 have x03 := x1.seq x13
 refine KZ hn o3 fun w4 o4 x4 => ?_
 have z4 := x4.size
 have x04 : fU w w4 kY := x03.trans x4 fun y hy h => by omega
 rw [hRR]
 exact ⟨⟨by rw [Qg, Qx], .inr ⟨p, n, [], rfl, by omega, by rw [QF]; exact o4, by rw [QF, Qg, Qx], PY _⟩⟩, x04⟩
end Go.Proofs.YthohephggmkeeaaDoor
namespace Go.Pu
open Go Go.En
structure Pn (B : List Bool) (l : List UInt8) : Prop where
 len : l.length = (B.length + 7) / 8
 bits : NM l = B ++ List.replicate (8 * l.length - B.length) false
end Go.Pu
namespace Go.Proofs.YthohephggmkeeaaDoor
open Go Go.En Go.Pu
set_option maxRecDepth 4000
theorem LV {w w' : Q6} {S M : Nat -> Prop} {sz n : Nat} {v : Q7} {l : List Q7} (h : uR w S sz v n l) (hx : fU w w' M) (hM : ∀ b, S b -> ¬ M b) : uR w' S sz v n l := by
 refine ⟨h.1, ?_⟩
 rcases h.2 with h2 | ⟨b, c, rest, h1, h2, h3, h4, h5⟩
 .exact .inl h2
 .exact .inr ⟨b, c, rest, h1, h2, h3.ext hx (hM b h2), h4, h5⟩
def Wr (w : Q6) (lo p : Nat) (B : List Bool) : Prop := lo <= p /\ ∃ v bytes, iE w p [v, .int .i64 B.length] /\ uR w (fun b => lo <= b /\ b ≠ p) 1 v bytes.length (bytes.map lU) /\ Pn B bytes
theorem Wr.ext {w w' : Q6} {lo p : Nat} {B : List Bool} {M : Nat -> Prop} (h : Wr w lo p B) (hx : fU w w' M) (hM : ∀ b, lo <= b -> ¬ M b) : Wr w' lo p B := by
 obtain ⟨h0, v, bytes, h1, h2, h3⟩ := h
 exact ⟨h0, v, bytes, h1.ext hx (hM _ h0), LV h2 hx fun b hb => hM b hb.1, h3⟩
def Cw (w : Q6) (p : Nat) (S : Nat -> Prop) (l : List UInt8) : Prop := ¬ S p /\ ∃ v, iE w p [v] /\ uR w S 1 v l.length (l.map lU)
theorem Cw.ext {w w' : Q6} {p : Nat} {S M : Nat -> Prop} {l : List UInt8} (h : Cw w p S l) (x : fU w w' M) (hp : ¬ M p) (hM : ∀ b, S b -> ¬ M b) : Cw w' p S l := by
 obtain ⟨h0, v, h1, h2⟩ := h
 exact ⟨h0, v, h1.ext x hp, LV h2 x hM⟩
theorem Cw.lt {w : Q6} {p : Nat} {S : Nat -> Prop} {l : List UInt8} (h : Cw w p S l) : p < w.heap.size := by
 obtain ⟨_, v, h1, _⟩ := h; exact h1.lt
theorem IJ {w : Q6} {S : Nat -> Prop} {n : Nat} {v : Q7} {l : List Q7} (o3 : uR w S 1 v n l) : Sl w v l := by
 have : ER w 0 1 v n l := ⟨o3.1, by
  rcases o3.2 with h | ⟨b, c, rest, g1, g2, g3⟩
  .exact .inl h
  .exact .inr ⟨b, c, rest, g1, by omega, g3⟩⟩
 exact this.sl
end Go.Proofs.YthohephggmkeeaaDoor
namespace Go.En
open Go
theorem uR.ext {w w' : Q6} {S M : Nat -> Prop} {sz n : Nat} {v : Q7} {l : List Q7} (h : uR w S sz v n l) (hx : fU w w' M) (hM : ∀ b, S b -> ¬ M b) : uR w' S sz v n l := by
 refine ⟨h.1, ?_⟩
 rcases h.2 with h2 | ⟨b, c, rest, h1, h2, h3, h4, h5⟩
 .exact .inl h2
 .exact .inr ⟨b, c, rest, h1, h2, h3.ext hx (hM b h2), h4, h5⟩
theorem ER.ne {w : Q6} {base p sz n : Nat} {v : Q7} {l : List Q7} (h : ER w base sz v n l) (hp : w.heap.size <= p) : uR w (fun b => base <= b /\ b ≠ p) sz v n l := by
 refine ⟨h.1, ?_⟩
 rcases h.2 with h2 | ⟨b, c, rest, h1, h2, h3, h4, h5⟩
 .exact .inl h2
 .have := h3.lt
  exact .inr ⟨b, c, rest, h1, ⟨h2, by omega⟩, h3, h4, h5⟩
theorem uR.len {w : Q6} {S : Nat -> Prop} {sz n : Nat} {v : Q7} {l : List Q7} (h : uR w S sz v n l) : ∃ a c, v = .slice a n c := by
 rcases h.2 with ⟨h1, rfl⟩ | ⟨b, c, rest, h1, _⟩
 .exact ⟨_, _, h1⟩
 .exact ⟨_, _, h1⟩
end Go.En
namespace Go.Proofs.YthohephggmkeeaaDoor
open Go Go.En Go.Pu
set_option maxRecDepth 4000
theorem pY {w : Q6} {S T : Nat -> Prop} {sz n : Nat} {v : Q7} {l : List Q7} (h : uR w S sz v n l) (hT : ∀ b, S b -> b < w.heap.size -> T b) : uR w T sz v n l := by
 refine ⟨h.1, ?_⟩
 rcases h.2 with h2 | ⟨b, c, rest, h1, h2, h3, h4, h5⟩
 .exact .inl h2
 .exact .inr ⟨b, c, rest, h1, hT b h2 h3.lt, h3, h4, h5⟩
def sN : Q7 := .slice none 0 0
theorem Hp {p pr lo hi n : Nat} {cs : List Q7} {l : List UInt8} {w : Q6} (o : iE w p cs) (c0 : cs[0]? = some (.pointer (some ⟨pr, 0, none⟩))) (hr : Bg w lo hi pr l 0) (hl : l.length <= 1000000) (hn : n <= 1000000) :
 fK pg jE #[.pointer (some ⟨p, 0, none⟩), .int .i64 (n : Nat)] w (fun r w' => (l.length < n /\ r = .tuple #[sN, .int .i64 10] /\ w' = w) ∨ (n <= l.length /\ ∃ v, r = .tuple #[v, .int .i64 0] /\ Bs w' v (l.take n) /\ J9 v (fun b => lo <= b /\ b < hi /\ b ≠ pr) /\ Bg w' lo hi pr (l.drop n) 0 /\ fU w w' (fun y => y = pr))) := by
 refine AO ?_
 unfold wX nU
 have c := o.cell (off := 0)
 rw [c0] at c
 simp (disch := omega) only [dQ, fE, cQ, stepR_skip, eE, eS, eI, eP, eX, fB, fF, eN, dL, eL, eQ, eZ, eC, eF, eJ, eH, eD, fA, eU, eB, dR, eM, eY, eA, fY, gC, gB, fZ, fV, fX, gA, fW, gD, dH, Result.ok.injEq, Next.value.injEq, true_and, and_true, dZ, dY, eT, fC, eK, fG, PJ, dS, dT, dU, dV, dN, dK, dP, dM, dI, cY, if_true, if_false, PG, PM, PH, PI, PL, PK, PF, PE, cR, cO, cH, bY, cV, dJ, bW, bX, cS, cK, cL, dE, cP, dD, dC, dW, cZ, cF, bH, bR, aT, aC, aL, dF, aI, cD, dB, dA, bN, aH, bC, aZ, cM, aD, aX, aM, aV, cU, aW, cJ, bS, aF, aG, aK, dO, aP, aO, bD, aR, cB, aE, bZ, bT, bG, bB, aY, cX, aJ, bM, aU, aQ, aS, aA, dG, cN, bO, aN, cW, bU, bV, cI, bQ, bP, bL, cA, bJ, cC, bA, bK, bF, bE, cG, c]
 refine (CC hr).mono ?_
 rintro r w1 ⟨rfl, h1⟩
 rw [h1]; clear h1 w1
 by_cases h : l.length < n
 .have d1 : decide ((n : Int) > (l.length : Int)) = true := decide_eq_true (by omega)
  have d2 : decide ((l.length : Int) < (n : Int)) = true := decide_eq_true (by omega)
  simp (disch := omega) only [dQ, fE, cQ, stepR_skip, eE, eS, eI, eP, eX, fB, fF, eN, dL, eL, eQ, eZ, eC, eF, eJ, eH, eD, fA, eU, eB, dR, eM, eY, eA, fY, gC, gB, fZ, fV, fX, gA, fW, gD, dH, Result.ok.injEq, Next.value.injEq, true_and, and_true, dZ, dY, eT, fC, eK, fG, PJ, dS, dT, dU, dV, dN, dK, dP, dM, dI, cY, if_true, if_false, PG, PM, PH, PI, PL, PK, PF, PE, cR, cO, cH, bY, cV, dJ, bW, bX, cS, cK, cL, dE, cP, dD, dC, dW, cZ, cF, bH, bR, aT, aC, aL, dF, aI, cD, dB, dA, bN, aH, bC, aZ, cM, aD, aX, aM, aV, cU, aW, cJ, bS, aF, aG, aK, dO, aP, aO, bD, aR, cB, aE, bZ, bT, bG, bB, aY, cX, aJ, bM, aU, aQ, aS, aA, dG, cN, bO, aN, cW, bU, bV, cI, bQ, bP, bL, cA, bJ, cC, bA, bK, bF, bE, cG, d1, d2]
  exact .inl ⟨h, rfl⟩
 .have d1 : decide ((n : Int) > (l.length : Int)) = false := decide_eq_false (by omega)
  have d2 : decide ((l.length : Int) < (n : Int)) = false := decide_eq_false (by omega)
  simp (disch := omega) only [dQ, fE, cQ, stepR_skip, eE, eS, eI, eP, eX, fB, fF, eN, dL, eL, eQ, eZ, eC, eF, eJ, eH, eD, fA, eU, eB, dR, eM, eY, eA, fY, gC, gB, fZ, fV, fX, gA, fW, gD, dH, Result.ok.injEq, Next.value.injEq, true_and, and_true, dZ, dY, eT, fC, eK, fG, PJ, dS, dT, dU, dV, dN, dK, dP, dM, dI, cY, if_true, if_false, PG, PM, PH, PI, PL, PK, PF, PE, cR, cO, cH, bY, cV, dJ, bW, bX, cS, cK, cL, dE, cP, dD, dC, dW, cZ, cF, bH, bR, aT, aC, aL, dF, aI, cD, dB, dA, bN, aH, bC, aZ, cM, aD, aX, aM, aV, cU, aW, cJ, bS, aF, aG, aK, dO, aP, aO, bD, aR, cB, aE, bZ, bT, bG, bB, aY, cX, aJ, bM, aU, aQ, aS, aA, dG, cN, bO, aN, cW, bU, bV, cI, bQ, bP, bL, cA, bJ, cC, bA, bK, bF, bE, cG, d1, d2, c]
  refine (EU hr (by omega) (by omega)).mono ?_
  have ht : sT l 0 n = (l.take n, l.drop n, 0) := by unfold sT; rw [if_neg (by decide), if_neg h]
  rw [ht]
  rintro r w1 ⟨h1, h2, h3, h4⟩
  exact .inr ⟨by omega, r, rfl, h1, h2, h3, h4⟩
def gZ : List Q7 := [sN, .int .i64 0, sN, .int .i64 0, sN, .int .i64 0, sN, .int .u32 0, .int .u32 0, .int .u32 0]
def gL : List Q7 := [sN, .int .i64 0, sN, .int .i64 0, sN, .int .i64 0, sN, .int .u32 1, .int .u32 4, .int .u32 8]
def OM : Q7 := .agg #[.slice none 0 0, .int .i64 0, .slice none 0 0, .int .i64 0, .slice none 0 0, .int .i64 0, .slice none 0 0, .int .u32 0, .int .u32 0, .int .u32 0]
def OS : Q7 := .agg #[.slice none 0 0, .int .i64 0, .slice none 0 0, .int .i64 0, .slice none 0 0, .int .i64 0, .slice none 0 0, .int .u32 1, .int .u32 4, .int .u32 8]
def bx (l : List UInt8) : Nat := jH (l.take 3)
def vY (l : List UInt8) : Nat := bx l / 2 % 4
def xP (l : List UInt8) : Nat := bx l / 8
def Ct (l : List UInt8) : Nat := if vY l = 1 then 1 else xP l
def Jc (l : List UInt8) : List UInt8 := if vY l = 1 then List.replicate (xP l) ((l.drop 3).headD 0) else (l.drop 3).take (xP l)
def EG (l all : List UInt8) (win room : Nat) : Option (Except Int (List UInt8 × List UInt8 × Bool)) :=
 if l.length < 3 then some (.error 10) else if vY l = 3 then some (.error 11) else if min win 131072 < xP l then some (.error 12)
 else if vY l = 2 then none else if l.length - 3 < Ct l then some (.error 10)
 else if room < all.length + (Jc l).length then some (.error 12) else some (.ok (all ++ Jc l, l.drop (3 + Ct l), bx l % 2 == 1))
theorem La {RR : Q7 -> Q6 -> Prop} {p pg6 pt9 px most n : Nat} {L : Bool} {vo va x1 x2 : Q7} {N : Nat} {cs : List Q7} {w : Q6}
 (o : iE w p cs) (k2 : cs[2]? = some (.int .i64 (most : Nat))) (k3 : cs[3]? = some vo) (hvo : ∃ a c, vo = .slice a n c) (hva : ∃ a c, va = .slice a N c) (og : iE w pg6 gL) (ot : iE w pt9 gZ) (hne : pg6 ≠ pt9) (hpx : px ≠ pt9)
 (ox : iE w px [.bool L, x1, x2]) (hn : n <= 2000000) (hN : N <= 4000000) (hmost : most <= 2000000)
 (hk : ∀ w', fU w w' (fun y => y = pt9) -> RR (if most < n + N then .tuple #[sN, OM, .bool false, .int .i64 12] else .tuple #[va, OS, .bool L, .int .i64 0]) w') :
 iY RR (.pointer (some ⟨p, 0, none⟩)) va (.pointer (some ⟨pg6, 0, none⟩)) (.pointer (some ⟨pt9, 0, none⟩)) (.pointer (some ⟨px, 0, none⟩)) w := by
 unfold iY
 obtain ⟨a, c, rfl⟩ := hvo
 obtain ⟨a', c', rfl⟩ := hva
 have e2 := (jD o).cell (off := 2)
 have e3 := (jD o).cell (off := 3)
 have f2 := o.cell (off := 2)
 have f3 := o.cell (off := 3)
 have g2 := (jD (jD o)).cell (off := 2)
 have g3 := (jD (jD o)).cell (off := 3)
 rw [k2] at e2 f2 g2
 rw [k3] at e3 f3 g3
 by_cases h : most < n + N
 .have d1 : decide ((n : Int) + (N : Int) > (most : Int)) = true := decide_eq_true (by omega)
  have d2 : decide ((most : Int) < (n : Int) + (N : Int)) = true := decide_eq_true (by omega)
  rw [if_pos h] at hk
  simp (disch := omega) only [dQ, fE, cQ, stepR_skip, eE, eS, eI, eP, eX, fB, fF, eN, dL, eL, eQ, eZ, eC, eF, eJ, eH, eD, fA, eU, eB, dR, eM, eY, eA, fY, gC, gB, fZ, fV, fX, gA, fW, gD, dH, Result.ok.injEq, Next.value.injEq, true_and, and_true, dZ, dY, eT, fC, eK, fG, PJ, dS, dT, dU, dV, dN, dK, dP, dM, dI, cY, if_true, if_false, PG, PM, PH, PI, PL, PK, PF, PE, cR, cO, cH, bY, cV, dJ, bW, bX, cS, cK, cL, dE, cP, dD, dC, dW, cZ, cF, bH, bR, aT, aC, aL, dF, aI, cD, dB, dA, bN, aH, bC, aZ, cM, aD, aX, aM, aV, cU, aW, cJ, bS, aF, aG, aK, dO, aP, aO, bD, aR, cB, aE, bZ, bT, bG, bB, aY, cX, aJ, bM, aU, aQ, aS, aA, dG, cN, bO, aN, cW, bU, bV, cI, bQ, bP, bL, cA, bJ, cC, bA, bK, bF, bE, cG, e2, e3, f2, f3, g2, g3, d1, d2]
  refine iU (jD ot) rfl (by simp [one]) (by simp [gZ]) fun w1 o1 x1 s1 => ?_
  refine kQ o1 (by simp [gJ, gZ]) ?_
  simp only [gJ, gZ, PV, PW, P5, P0, P6]
  exact hk w1 ((fU.dr w _).seq x1)
 .have d1 : decide ((n : Int) + (N : Int) > (most : Int)) = false := decide_eq_false (by omega)
  have d2 : decide ((most : Int) < (n : Int) + (N : Int)) = false := decide_eq_false (by omega)
  rw [if_neg h] at hk
  have hg := tP (off := 0) (jD og) (by simp [gL])
  have hg2 := tP (off := 0) (jD (jD og)) (by simp [gL])
  simp only [gL, P5, P0, P6] at hg hg2
  have b0 := (jD ox).cell (off := 0)
  have b1 := (jD (jD ox)).cell (off := 0)
  simp only [PE] at b0 b1
  simp (disch := omega) only [dQ, fE, cQ, stepR_skip, eE, eS, eI, eP, eX, fB, fF, eN, dL, eL, eQ, eZ, eC, eF, eJ, eH, eD, fA, eU, eB, dR, eM, eY, eA, fY, gC, gB, fZ, fV, fX, gA, fW, gD, dH, Result.ok.injEq, Next.value.injEq, true_and, and_true, dZ, dY, eT, fC, eK, fG, PJ, dS, dT, dU, dV, dN, dK, dP, dM, dI, cY, if_true, if_false, PG, PM, PH, PI, PL, PK, PF, PE, cR, cO, cH, bY, cV, dJ, bW, bX, cS, cK, cL, dE, cP, dD, dC, dW, cZ, cF, bH, bR, aT, aC, aL, dF, aI, cD, dB, dA, bN, aH, bC, aZ, cM, aD, aX, aM, aV, cU, aW, cJ, bS, aF, aG, aK, dO, aP, aO, bD, aR, cB, aE, bZ, bT, bG, bB, aY, cX, aJ, bM, aU, aQ, aS, aA, dG, cN, bO, aN, cW, bU, bV, cI, bQ, bP, bL, cA, bJ, cC, bA, bK, bF, bE, cG, e2, e3, f2, f3, g2, g3, d1, d2, hg, hg2, b0, b1]
  refine iU (jD (jD ot)) rfl (by simp [one, sN]) (by simp [gZ]) fun w1 o1 x1 s1 => ?_
  have ox1 := (jD (jD ox)).ext x1 hpx
  have b2 := ox1.cell (off := 0)
  simp only [PE] at b2
  try simp (disch := omega) only [dQ, fE, cQ, stepR_skip, eE, eS, eI, eP, eX, fB, fF, eN, dL, eL, eQ, eZ, eC, eF, eJ, eH, eD, fA, eU, eB, dR, eM, eY, eA, fY, gC, gB, fZ, fV, fX, gA, fW, gD, dH, Result.ok.injEq, Next.value.injEq, true_and, and_true, dZ, dY, eT, fC, eK, fG, PJ, dS, dT, dU, dV, dN, dK, dP, dM, dI, cY, if_true, if_false, PG, PM, PH, PI, PL, PK, PF, PE, cR, cO, cH, bY, cV, dJ, bW, bX, cS, cK, cL, dE, cP, dD, dC, dW, cZ, cF, bH, bR, aT, aC, aL, dF, aI, cD, dB, dA, bN, aH, bC, aZ, cM, aD, aX, aM, aV, cU, aW, cJ, bS, aF, aG, aK, dO, aP, aO, bD, aR, cB, aE, bZ, bT, bG, bB, aY, cX, aJ, bM, aU, aQ, aS, aA, dG, cN, bO, aN, cW, bU, bV, cI, bQ, bP, bL, cA, bJ, cC, bA, bK, bF, bE, cG, b2]
  refine kQ o1 (by simp [gJ, gZ]) ?_
  simp only [gJ, gZ, PV, PW, P5, P0, P6]
  exact hk w1 (((fU.dr w _).seq (fU.dr _ _)).seq x1)
theorem OC {S : Nat -> Prop} {v x : Q7} {l m : List UInt8} {w : Q6} (h : uR w S 1 v l.length (l.map lU)) (hx : Bs w x m) (hb : ∀ b, w.heap.size <= b -> S b) (hn : l.length + m.length <= 100000000) {K : Q7 -> Q6 -> Prop}
 (hk : ∀ v' w', uR w' S 1 v' (l ++ m).length ((l ++ m).map lU) -> fU w w' S -> K v' w') : dQ pg (mC .append #[22, 22] 22 [v, x]) w K := by
 have hcl : Cl w 1 x m.length (m.map lU) := by have := hx.cl; rwa [PQ] at this
 refine FZ (m := m.length) (news := m.map lU) (i := Tryd.t5) Tryd.underlying22 Tryd.underlying22 Dy rfl rfl rfl h hcl (JN _) hb (by omega) (by rw [show Tryd.t5.bytes = 1 from rfl]; omega) (by decide) fun v3 w3 o3 x3 => ?_
 refine hk v3 w3 ?_ x3
 rw [PN, List.map_append]
 exact o3
theorem Lk {RR : Q7 -> Q6 -> Prop} {p pr pg6 pt9 px lo hi most n k sz need wv bv : Nat} {L : Bool} {A : Nat -> Prop} {vo va : Q7} {all l made : List UInt8} {cs : List Q7} {w : Q6}
 (o : iE w p cs) (k0 : cs[0]? = some (.pointer (some ⟨pr, 0, none⟩))) (k2 : cs[2]? = some (.int .i64 (most : Nat))) (k3 : cs[3]? = some vo) (hvo : ∃ a c, vo = .slice a n c) (og : iE w pg6 gL) (ot : iE w pt9 gZ) (ox : iE w px [.bool L, .int .i64 (k : Nat), .int .i64 (sz : Nat)])
 (hr : Bg w lo hi pr l 0) (ha : uR w A 1 va all.length (all.map lU)) (hA : ∀ b, A b -> b ≠ p /\ ¬ (lo <= b /\ b < hi) /\ b ≠ pg6 /\ b ≠ pt9 /\ b ≠ px) (hAn : ∀ b, w.heap.size <= b -> A b)
 (hne : pg6 ≠ pt9) (hpx : px ≠ pt9) (q1 : ¬ (lo <= p /\ p < hi)) (q2 : ¬ (lo <= pg6 /\ pg6 < hi)) (q3 : ¬ (lo <= pt9 /\ pt9 < hi)) (q4 : ¬ (lo <= px /\ px < hi)) (hk01 : k = 0 ∨ k = 1) (hsz : sz <= 131072) (hn : n <= 2000000) (hl : l.length <= 1000000) (hall : all.length <= 2000000) (hmost : most <= 2000000)
 (hneed : need = if k = 1 then 1 else sz) (hmade : made = if k = 1 then List.replicate sz (l.headD 0) else l.take sz)
 (hk1 : l.length < need -> ∀ w', fU w w' (fun y => y = pt9) -> RR (.tuple #[sN, OM, .bool false, .int .i64 10]) w')
 (hk2 : need <= l.length -> most < n + (all.length + made.length) -> ∀ w', fU w w' (fun y => A y ∨ y = pr ∨ y = pt9) -> RR (.tuple #[sN, OM, .bool false, .int .i64 12]) w')
 (hk3 : need <= l.length -> ¬ most < n + (all.length + made.length) -> ∀ w' va', uR w' A 1 va' (all ++ made).length ((all ++ made).map lU) -> Bg w' lo hi pr (l.drop need) 0 -> fU w w' (fun y => A y ∨ y = pr ∨ y = pt9) -> RR (.tuple #[va', OS, .bool L, .int .i64 0]) w') :
 jR RR (.pointer (some ⟨p, 0, none⟩)) va (.int .u64 (wv : Nat)) (.pointer (some ⟨pg6, 0, none⟩)) (.pointer (some ⟨pt9, 0, none⟩)) (.int .i64 (bv : Nat)) (.pointer (some ⟨px, 0, none⟩)) (.int .i64 (need : Nat)) w := by
 have hneed2 : need <= 131072 := by rw [hneed]; split <;> omega
 unfold jR nQ
 refine (Hp o k0 hr hl (by omega)).mono ?_
 rintro r w1 (⟨h1, rfl, h2⟩ | ⟨h1, v, rfl, hb1, hat, hr1, x1⟩)
 .rw [h2]; clear h2 w1
  have n1 : ((10 : Int) != 0) = true := rfl
  unfold sN
  simp (disch := omega) only [dQ, fE, cQ, stepR_skip, eE, eS, eI, eP, eX, fB, fF, eN, dL, eL, eQ, eZ, eC, eF, eJ, eH, eD, fA, eU, eB, dR, eM, eY, eA, fY, gC, gB, fZ, fV, fX, gA, fW, gD, dH, Result.ok.injEq, Next.value.injEq, true_and, and_true, dZ, dY, eT, fC, eK, fG, PJ, dS, dT, dU, dV, dN, dK, dP, dM, dI, cY, if_true, if_false, PG, PM, PH, PI, PL, PK, PF, PE, cR, cO, cH, bY, cV, dJ, bW, bX, cS, cK, cL, dE, cP, dD, dC, dW, cZ, cF, bH, bR, aT, aC, aL, dF, aI, cD, dB, dA, bN, aH, bC, aZ, cM, aD, aX, aM, aV, cU, aW, cJ, bS, aF, aG, aK, dO, aP, aO, bD, aR, cB, aE, bZ, bT, bG, bB, aY, cX, aJ, bM, aU, aQ, aS, aA, dG, cN, bO, aN, cW, bU, bV, cI, bQ, bP, bL, cA, bJ, cC, bA, bK, bF, bE, cG, n1]
  refine iU ot rfl (by simp [one]) (by simp [gZ]) fun w1 o1 x1 s1 => ?_
  refine kQ o1 (by simp [gJ, gZ]) ?_
  simp only [gJ, gZ, PV, PW, P5, P0, P6]
  exact hk1 h1 w1 x1
 have n1 : ((0 : Int) != 0) = false := rfl
 have hpr : lo <= pr /\ pr < hi := ⟨hr.1, hr.2.1⟩
 have ox1 := ox.ext x1 (fun e => q4 (e ▸ hpr))
 have og1 := og.ext x1 (fun e => q2 (e ▸ hpr))
 have ot1 := ot.ext x1 (fun e => q3 (e ▸ hpr))
 have o1 := o.ext x1 (fun e => q1 (e ▸ hpr))
 have ha1 := ha.ext x1 (fun b hb e => (hA b hb).2.1 (e ▸ hpr))
 have z1 := x1.size
 have c1 := ox1.cell (off := 1)
 have c2 := ox1.cell (off := 2)
 simp only [PE, PF] at c1 c2
 have fin : ∀ (m' : List UInt8) (v' : Q7) (w2 : Q6), m' = made -> uR w2 A 1 v' (all ++ m').length ((all ++ m').map lU) -> fU w1 w2 A -> iY RR (.pointer (some ⟨p, 0, none⟩)) v' (.pointer (some ⟨pg6, 0, none⟩)) (.pointer (some ⟨pt9, 0, none⟩)) (.pointer (some ⟨px, 0, none⟩)) w2 := by
  rintro m' v' w2 rfl o2 x2
  have hlen := o2.len
  refine La (n := n) (N := (all ++ m').length) (L := L) (o1.ext x2 fun h => (hA p h).1 rfl) k2 k3 hvo hlen (og1.ext x2 fun h => (hA _ h).2.2.1 rfl) (ot1.ext x2 fun h => (hA _ h).2.2.2.1 rfl) hne hpx (ox1.ext x2 fun h => (hA _ h).2.2.2.2 rfl) (by omega) ?_ hmost fun w' x => ?_
  .have : m'.length <= 131072 := by
    rw [hmade]; split
    .rw [Qg]; exact hsz
    .rw [PR]; omega
   rw [PN]; omega
  .rw [PN]
   have xx : fU w w' (fun y => A y ∨ y = pr ∨ y = pt9) := (((x1.mono fun _ _ h => .inr (.inl h)).seq (x2.mono fun _ _ h => .inl h))).seq (x.mono fun _ _ h => .inr (.inr h))
   by_cases hm : most < n + (all.length + m'.length)
   .rw [if_pos hm]; exact hk2 h1 hm w' xx
   .rw [if_neg hm]
    refine hk3 h1 hm w' v' (o2.ext x fun b hb e => (hA b hb).2.2.2.1 e) ((hr1.ext x2 fun b h1 h2 h3 => (hA b h3).2.1 ⟨h1, h2⟩).ext x fun b h1 h2 h3 => q3 (h3 ▸ ⟨h1, h2⟩)) xx
 rcases hk01 with rfl | rfl
 .have e0 : (((0 : Nat) : Int) == 0) = true := rfl
  simp only [show ¬ ((0 : Nat) = 1) from by decide, if_false] at hneed hmade
  simp (disch := omega) only [dQ, fE, cQ, stepR_skip, eE, eS, eI, eP, eX, fB, fF, eN, dL, eL, eQ, eZ, eC, eF, eJ, eH, eD, fA, eU, eB, dR, eM, eY, eA, fY, gC, gB, fZ, fV, fX, gA, fW, gD, dH, Result.ok.injEq, Next.value.injEq, true_and, and_true, dZ, dY, eT, fC, eK, fG, PJ, dS, dT, dU, dV, dN, dK, dP, dM, dI, cY, if_true, if_false, PG, PM, PH, PI, PL, PK, PF, PE, cR, cO, cH, bY, cV, dJ, bW, bX, cS, cK, cL, dE, cP, dD, dC, dW, cZ, cF, bH, bR, aT, aC, aL, dF, aI, cD, dB, dA, bN, aH, bC, aZ, cM, aD, aX, aM, aV, cU, aW, cJ, bS, aF, aG, aK, dO, aP, aO, bD, aR, cB, aE, bZ, bT, bG, bB, aY, cX, aJ, bM, aU, aQ, aS, aA, dG, cN, bO, aN, cW, bU, bV, cI, bQ, bP, bL, cA, bJ, cC, bA, bK, bF, bE, cG, n1, c1, e0]
  refine OC ha1 hb1 (fun b hb => hAn b (by omega)) (by rw [PR]; omega) fun v' w2 o2 x2 => ?_
  exact fin _ v' w2 (by rw [hmade, hneed]) o2 x2
 .have e0 : (((1 : Nat) : Int) == 0) = false := rfl
  have e1 : (((1 : Nat) : Int) == 1) = true := rfl
  simp only [if_true] at hneed hmade
  subst hneed
  simp (disch := omega) only [dQ, fE, cQ, stepR_skip, eE, eS, eI, eP, eX, fB, fF, eN, dL, eL, eQ, eZ, eC, eF, eJ, eH, eD, fA, eU, eB, dR, eM, eY, eA, fY, gC, gB, fZ, fV, fX, gA, fW, gD, dH, Result.ok.injEq, Next.value.injEq, true_and, and_true, dZ, dY, eT, fC, eK, fG, PJ, dS, dT, dU, dV, dN, dK, dP, dM, dI, cY, if_true, if_false, PG, PM, PH, PI, PL, PK, PF, PE, cR, cO, cH, bY, cV, dJ, bW, bX, cS, cK, cL, dE, cP, dD, dC, dW, cZ, cF, bH, bR, aT, aC, aL, dF, aI, cD, dB, dA, bN, aH, bC, aZ, cM, aD, aX, aM, aV, cU, aW, cJ, bS, aF, aG, aK, dO, aP, aO, bD, aR, cB, aE, bZ, bT, bG, bB, aY, cX, aJ, bM, aU, aQ, aS, aA, dG, cN, bO, aN, cW, bU, bV, cI, bQ, bP, bL, cA, bJ, cC, bA, bK, bF, bE, cG, n1, c1, e0, e1, c2]
  obtain ⟨c, t, hct⟩ : ∃ c t, l = c :: t := by
   cases l with
   | nil => simp at h1
   | cons c t => exact ⟨c, t, rfl⟩
  have e4 : l.take 1 = [c] := by rw [hct] <;> rfl
  rw [e4] at hb1
  refine (L9 hb1 hsz).mono ?_
  rintro r w2 ⟨o2, x2⟩
  have z2 := x2.size
  have hbr : Bs w2 r (List.replicate sz c) := by
   unfold Bs
   rw [List.map_replicate]
   exact o2.sl
  refine OC (ha1.ext x2 fun _ _ h => h) hbr (fun b hb => hAn b (by omega)) (by rw [Qg]; omega) fun v' w3 o3 x3 => ?_
  exact fin _ v' w3 (by rw [hmade, hct] <;> rfl) o3 ((x2.mono fun _ _ h => h.elim).seq x3)
def Nw (lo hi pr : Nat) (A : Nat -> Prop) (w : Q6) (r : Q7) (w' : Q6) : Except Int (List UInt8 × List UInt8 × Bool) -> Prop
 | .error e => r = .tuple #[sN, OM, .bool false, .int .i64 e] /\ fU w w' (fun y => A y ∨ y = pr)
 | .ok (a, l, b) => ∃ v, r = .tuple #[v, OS, .bool b, .int .i64 0] /\ uR w' A 1 v a.length (a.map lU) /\ Bg w' lo hi pr l 0 /\ fU w w' (fun y => A y ∨ y = pr)
theorem LZ {p pr lo hi most n win : Nat} {A : Nat -> Prop} {vo va : Q7} {all l : List UInt8} {cs : List Q7} {w : Q6} {m : Except Int (List UInt8 × List UInt8 × Bool)}
 (o : iE w p cs) (k0 : cs[0]? = some (.pointer (some ⟨pr, 0, none⟩))) (k2 : cs[2]? = some (.int .i64 (most : Nat))) (k3 : cs[3]? = some vo) (hvo : ∃ a c, vo = .slice a n c)
 (hr : Bg w lo hi pr l 0) (ha : uR w A 1 va all.length (all.map lU)) (hA : ∀ b, A b -> b ≠ p /\ ¬ (lo <= b /\ b < hi)) (hAn : ∀ b, w.heap.size <= b -> A b) (hhi : hi <= w.heap.size)
 (q1 : ¬ (lo <= p /\ p < hi)) (hn : n <= most) (hl : l.length <= 1000000) (hall : all.length <= 2000000) (hmost : most <= 2000000)
 (hm : EG l all win (most - n) = some m) :
 fK pg lO #[.pointer (some ⟨p, 0, none⟩), va, OS, .int .u64 (win : Nat)] w (fun r w' => Nw lo hi pr A w r w' m) := by
 refine AL ?_
 obtain ⟨RR, hRR⟩ : ∃ RR : Q7 -> Q6 -> Prop, RR = fun r w' => Nw lo hi pr A w r w' m := ⟨_, rfl⟩
 rw [<- hRR]
 unfold xV nO nS
 refine CQ fun w1 o1 x1 s1 => ?_
 have o1 : iE w1 w.heap.size gL := o1
 obtain ⟨p6, hp6⟩ : ∃ p, p = w.heap.size := ⟨_, rfl⟩
 rw [<- hp6] at o1 ⊢
 refine BO fun w2 o2 x2 s2 => ?_
 have o2 : iE w2 w1.heap.size gZ := o2
 obtain ⟨p9, hp9⟩ : ∃ p, p = w1.heap.size := ⟨_, rfl⟩
 rw [<- hp9] at o2 ⊢
 have z1 := o1.lt
 have z2 := o2.lt
 have x12 := x1.seq x2
 have og2 := o1.ext x2 (fun h => h)
 have hmn : (if (131072 : Int) < (win : Int) then (131072 : Int) else (win : Int)) = ((min win 131072 : Nat) : Int) := by
  split <;> omega
 have hw : IntKind.i64.wrap ((min win 131072 : Nat) : Int) = ((min win 131072 : Nat) : Int) := dZ (by omega) (by omega)
 simp (disch := omega) only [dQ, fE, cQ, stepR_skip, eE, eS, eI, eP, eX, fB, fF, eN, dL, eL, eQ, eZ, eC, eF, eJ, eH, eD, fA, eU, eB, dR, eM, eY, eA, fY, gC, gB, fZ, fV, fX, gA, fW, gD, dH, Result.ok.injEq, Next.value.injEq, true_and, and_true, dZ, dY, eT, fC, eK, fG, PJ, dS, dT, dU, dV, dN, dK, dP, dM, dI, cY, if_true, if_false, PG, PM, PH, PI, PL, PK, PF, PE, cR, cO, cH, bY, cV, dJ, bW, bX, cS, cK, cL, dE, cP, dD, dC, dW, cZ, cF, bH, bR, aT, aC, aL, dF, aI, cD, dB, dA, bN, aH, bC, aZ, cM, aD, aX, aM, aV, cU, aW, cJ, bS, aF, aG, aK, dO, aP, aO, bD, aR, cB, aE, bZ, bT, bG, bB, aY, cX, aJ, bM, aU, aQ, aS, aA, dG, cN, bO, aN, cW, bU, bV, cI, bQ, bP, bL, cA, bJ, cC, bA, bK, bF, bE, cG, hmn, hw]
 refine (Hp (n := 3) (o.ext x12 (fun h => h)) k0 (hr.ext x12 (fun _ _ _ h => h)) hl (by omega)).mono ?_
 unfold EG at hm
 rintro r w3 (⟨h1, rfl, h2⟩ | ⟨h1, v, rfl, hb1, hat, hr1, x3⟩)
 .rw [h2]; clear h2 w3
  rw [if_pos h1] at hm
  cases hm
  have n1 : ((10 : Int) != 0) = true := rfl
  unfold sN
  simp (disch := omega) only [dQ, fE, cQ, stepR_skip, eE, eS, eI, eP, eX, fB, fF, eN, dL, eL, eQ, eZ, eC, eF, eJ, eH, eD, fA, eU, eB, dR, eM, eY, eA, fY, gC, gB, fZ, fV, fX, gA, fW, gD, dH, Result.ok.injEq, Next.value.injEq, true_and, and_true, dZ, dY, eT, fC, eK, fG, PJ, dS, dT, dU, dV, dN, dK, dP, dM, dI, cY, if_true, if_false, PG, PM, PH, PI, PL, PK, PF, PE, cR, cO, cH, bY, cV, dJ, bW, bX, cS, cK, cL, dE, cP, dD, dC, dW, cZ, cF, bH, bR, aT, aC, aL, dF, aI, cD, dB, dA, bN, aH, bC, aZ, cM, aD, aX, aM, aV, cU, aW, cJ, bS, aF, aG, aK, dO, aP, aO, bD, aR, cB, aE, bZ, bT, bG, bB, aY, cX, aJ, bM, aU, aQ, aS, aA, dG, cN, bO, aN, cW, bU, bV, cI, bQ, bP, bL, cA, bJ, cC, bA, bK, bF, bE, cG, n1]
  refine iU o2 rfl (by simp [one]) (by simp [gZ]) fun w3 o3 x3 s3 => ?_
  refine kQ o3 (by simp [gJ, gZ]) ?_
  simp only [gJ, gZ, PV, PW, P5, P0, P6]
  rw [hRR]
  exact ⟨rfl, (x12.mono fun _ _ h => h.elim).trans x3 fun y hy h => by omega⟩
 rw [if_neg (by omega)] at hm
 have n0 : ((0 : Int) != 0) = false := rfl
 have hpr : lo <= pr /\ pr < hi := ⟨hr.1, hr.2.1⟩
 have og3 := og2.ext x3 (by intro h; omega)
 have ot3 := o2.ext x3 (by intro h; omega)
 have o3 := (o.ext x12 (fun h => h)).ext x3 (fun e => q1 (e ▸ hpr))
 have ha3 := (ha.ext x12 (fun _ _ h => h)).ext x3 (fun b hb e => (hA b hb).2 (e ▸ hpr))
 simp (disch := omega) only [dQ, fE, cQ, stepR_skip, eE, eS, eI, eP, eX, fB, fF, eN, dL, eL, eQ, eZ, eC, eF, eJ, eH, eD, fA, eU, eB, dR, eM, eY, eA, fY, gC, gB, fZ, fV, fX, gA, fW, gD, dH, Result.ok.injEq, Next.value.injEq, true_and, and_true, dZ, dY, eT, fC, eK, fG, PJ, dS, dT, dU, dV, dN, dK, dP, dM, dI, cY, if_true, if_false, PG, PM, PH, PI, PL, PK, PF, PE, cR, cO, cH, bY, cV, dJ, bW, bX, cS, cK, cL, dE, cP, dD, dC, dW, cZ, cF, bH, bR, aT, aC, aL, dF, aI, cD, dB, dA, bN, aH, bC, aZ, cM, aD, aX, aM, aV, cU, aW, cJ, bS, aF, aG, aK, dO, aP, aO, bD, aR, cB, aE, bZ, bT, bG, bB, aY, cX, aJ, bM, aU, aQ, aS, aA, dG, cN, bO, aN, cW, bU, bV, cI, bQ, bP, bL, cA, bJ, cC, bA, bK, bF, bE, cG, n0]
 refine (Jx hb1 (by rw [PR]; omega)).mono ?_
 rintro r w4 ⟨rfl, x4⟩
 have e0 : jH (l.take 3) = bx l := rfl
 unfold Pl
 rw [e0]
 have ek : bx l / 2 % 4 = vY l := rfl
 rw [ek]
 have og4 := og3.ext x4 (fun h => h)
 have ot4 := ot3.ext x4 (fun h => h)
 have zz3 := x3.size
 have zz4 := x4.size
 by_cases h3 : vY l = 3
 .rw [if_pos h3]
  rw [if_pos h3] at hm
  cases hm
  have n1 : ((11 : Int) != 0) = true := rfl
  simp (disch := omega) only [dQ, fE, cQ, stepR_skip, eE, eS, eI, eP, eX, fB, fF, eN, dL, eL, eQ, eZ, eC, eF, eJ, eH, eD, fA, eU, eB, dR, eM, eY, eA, fY, gC, gB, fZ, fV, fX, gA, fW, gD, dH, Result.ok.injEq, Next.value.injEq, true_and, and_true, dZ, dY, eT, fC, eK, fG, PJ, dS, dT, dU, dV, dN, dK, dP, dM, dI, cY, if_true, if_false, PG, PM, PH, PI, PL, PK, PF, PE, cR, cO, cH, bY, cV, dJ, bW, bX, cS, cK, cL, dE, cP, dD, dC, dW, cZ, cF, bH, bR, aT, aC, aL, dF, aI, cD, dB, dA, bN, aH, bC, aZ, cM, aD, aX, aM, aV, cU, aW, cJ, bS, aF, aG, aK, dO, aP, aO, bD, aR, cB, aE, bZ, bT, bG, bB, aY, cX, aJ, bM, aU, aQ, aS, aA, dG, cN, bO, aN, cW, bU, bV, cI, bQ, bP, bL, cA, bJ, cC, bA, bK, bF, bE, cG, n1]
  refine xI fun w5 o5 x5 s5 => ?_
  refine qL o5 rfl (by simp [one]) (by simp) fun w6 o6 x6 s6 => ?_
  have x46 : fU w4 w6 kY := x5.new x6 (by omega)
  have ot6 := ot4.ext x46 (fun h => h)
  try simp (disch := omega) only [dQ, fE, cQ, stepR_skip, eE, eS, eI, eP, eX, fB, fF, eN, dL, eL, eQ, eZ, eC, eF, eJ, eH, eD, fA, eU, eB, dR, eM, eY, eA, fY, gC, gB, fZ, fV, fX, gA, fW, gD, dH, Result.ok.injEq, Next.value.injEq, true_and, and_true, dZ, dY, eT, fC, eK, fG, PJ, dS, dT, dU, dV, dN, dK, dP, dM, dI, cY, if_true, if_false, PG, PM, PH, PI, PL, PK, PF, PE, cR, cO, cH, bY, cV, dJ, bW, bX, cS, cK, cL, dE, cP, dD, dC, dW, cZ, cF, bH, bR, aT, aC, aL, dF, aI, cD, dB, dA, bN, aH, bC, aZ, cM, aD, aX, aM, aV, cU, aW, cJ, bS, aF, aG, aK, dO, aP, aO, bD, aR, cB, aE, bZ, bT, bG, bB, aY, cX, aJ, bM, aU, aQ, aS, aA, dG, cN, bO, aN, cW, bU, bV, cI, bQ, bP, bL, cA, bJ, cC, bA, bK, bF, bE, cG, n1]
  refine iU ot6 rfl (by simp [one]) (by simp [gZ]) fun w7 o7 x7 s7 => ?_
  refine kQ o7 (by simp [gJ, gZ]) ?_
  simp only [gJ, gZ, PV, PW, P5, P0, P6]
  rw [hRR]
  exact ⟨rfl, ((x12.mono fun _ _ h => h.elim).seq ((x3.mono fun _ _ h => .inr h).seq ((x4.seq x46).mono fun _ _ h => h.elim))).trans x7 fun y hy h => by omega⟩
 rw [if_neg h3]
 rw [if_neg h3] at hm
 unfold Ps
 rw [ek]
 have es : bx l / 8 = xP l := rfl
 rw [es]
 simp (disch := omega) only [dQ, fE, cQ, stepR_skip, eE, eS, eI, eP, eX, fB, fF, eN, dL, eL, eQ, eZ, eC, eF, eJ, eH, eD, fA, eU, eB, dR, eM, eY, eA, fY, gC, gB, fZ, fV, fX, gA, fW, gD, dH, Result.ok.injEq, Next.value.injEq, true_and, and_true, dZ, dY, eT, fC, eK, fG, PJ, dS, dT, dU, dV, dN, dK, dP, dM, dI, cY, if_true, if_false, PG, PM, PH, PI, PL, PK, PF, PE, cR, cO, cH, bY, cV, dJ, bW, bX, cS, cK, cL, dE, cP, dD, dC, dW, cZ, cF, bH, bR, aT, aC, aL, dF, aI, cD, dB, dA, bN, aH, bC, aZ, cM, aD, aX, aM, aV, cU, aW, cJ, bS, aF, aG, aK, dO, aP, aO, bD, aR, cB, aE, bZ, bT, bG, bB, aY, cX, aJ, bM, aU, aQ, aS, aA, dG, cN, bO, aN, cW, bU, bV, cI, bQ, bP, bL, cA, bJ, cC, bA, bK, bF, bE, cG, n0]
 refine xI fun w5 o5 x5 s5 => ?_
 obtain ⟨px, hpx⟩ : ∃ p, p = w4.heap.size := ⟨_, rfl⟩
 rw [<- hpx] at o5 ⊢
 refine qL o5 rfl (by simp [one]) (by simp) fun w6 o6 x6 s6 => ?_
 simp only [gJ, PV, PW] at o6
 have x46 : fU w4 w6 kY := x5.new x6 (by omega)
 have c1 := o6.cell (off := 1)
 have c2 := o6.cell (off := 2)
 simp only [PE, PF] at c1 c2
 have og6 := og4.ext x46 (fun h => h)
 have ot6 := ot4.ext x46 (fun h => h)
 have z5 := o5.lt
 by_cases hb : min win 131072 < xP l
 .rw [if_pos hb] at hm
  cases hm
  have d1 : decide (((xP l : Nat) : Int) > ((min win 131072 : Nat) : Int)) = true := decide_eq_true (by omega)
  have d2 : decide (((min win 131072 : Nat) : Int) < ((xP l : Nat) : Int)) = true := decide_eq_true (by omega)
  simp (disch := omega) only [dQ, fE, cQ, stepR_skip, eE, eS, eI, eP, eX, fB, fF, eN, dL, eL, eQ, eZ, eC, eF, eJ, eH, eD, fA, eU, eB, dR, eM, eY, eA, fY, gC, gB, fZ, fV, fX, gA, fW, gD, dH, Result.ok.injEq, Next.value.injEq, true_and, and_true, dZ, dY, eT, fC, eK, fG, PJ, dS, dT, dU, dV, dN, dK, dP, dM, dI, cY, if_true, if_false, PG, PM, PH, PI, PL, PK, PF, PE, cR, cO, cH, bY, cV, dJ, bW, bX, cS, cK, cL, dE, cP, dD, dC, dW, cZ, cF, bH, bR, aT, aC, aL, dF, aI, cD, dB, dA, bN, aH, bC, aZ, cM, aD, aX, aM, aV, cU, aW, cJ, bS, aF, aG, aK, dO, aP, aO, bD, aR, cB, aE, bZ, bT, bG, bB, aY, cX, aJ, bM, aU, aQ, aS, aA, dG, cN, bO, aN, cW, bU, bV, cI, bQ, bP, bL, cA, bJ, cC, bA, bK, bF, bE, cG, n0, c1, c2, d1, d2]
  refine iU ot6 rfl (by simp [one]) (by simp [gZ]) fun w7 o7 x7 s7 => ?_
  refine kQ o7 (by simp [gJ, gZ]) ?_
  simp only [gJ, gZ, PV, PW, P5, P0, P6]
  rw [hRR]
  exact ⟨rfl, ((x12.mono fun _ _ h => h.elim).seq ((x3.mono fun _ _ h => .inr h).seq ((x4.seq x46).mono fun _ _ h => h.elim))).trans x7 fun y hy h => by omega⟩
 rw [if_neg hb] at hm
 have d1 : decide (((xP l : Nat) : Int) > ((min win 131072 : Nat) : Int)) = false := decide_eq_false (by omega)
 have d2 : decide (((min win 131072 : Nat) : Int) < ((xP l : Nat) : Int)) = false := decide_eq_false (by omega)
 have hk2' : vY l ≠ 2 := by
  intro h
  rw [if_pos h] at hm
  cases hm
 rw [if_neg hk2'] at hm
 have hk01 : vY l = 0 ∨ vY l = 1 := by
  have : vY l < 4 := Nat.mod_lt _ (by omega)
  omega
 have x02 : fU w w2 kY := x12
 have x06 : fU w w6 (fun y => y = pr) := ((x02.mono fun _ _ h => h.elim).seq x3).seq ((x4.seq x46).mono fun _ _ h => h.elim)
 have ha' : uR w (fun b => A b /\ b ≠ p6 /\ b ≠ p9 /\ b ≠ px) 1 va all.length (all.map lU) := pY ha fun b hb h1 => by
  have := x1.size
  have := x2.size
  exact ⟨hb, by omega, by omega, by omega⟩
 have ha6 := ha'.ext x06 fun b hb e => (hA b hb.1).2 (e ▸ hpr)
 have hr6 := (hr1.ext x4 fun _ _ _ h => h).ext x46 fun _ _ _ h => h
 have o6' := (o3.ext x4 fun h => h).ext x46 fun h => h
 have e8 : (l.drop 3).headD 0 = (l.drop 3).headD 0 := rfl
 have hld : (l.drop 3).length = l.length - 3 := PU
 have main : jR RR (.pointer (some ⟨p, 0, none⟩)) va (.int .u64 (win : Nat)) (.pointer (some ⟨p6, 0, none⟩)) (.pointer (some ⟨p9, 0, none⟩)) (.int .i64 (min win 131072 : Nat)) (.pointer (some ⟨px, 0, none⟩)) (.int .i64 (Ct l : Nat)) w6 := by
  have hz0 := o.lt
  refine Lk (made := Jc l) (L := bx l % 2 == 1) (A := fun b => A b /\ b ≠ p6 /\ b ≠ p9 /\ b ≠ px) o6' k0 k2 k3 hvo og6 ot6 o6 hr6 ha6 ?_ ?_ (by omega) (by omega) q1 (by omega) (by omega) (by omega) hk01 (by omega) (by omega) (by omega) hall hmost rfl rfl ?_ ?_ ?_
  .intro b hb
   exact ⟨(hA b hb.1).1, (hA b hb.1).2, hb.2.1, hb.2.2.1, hb.2.2.2⟩
  .intro b hb
   exact ⟨hAn b (by omega), by omega, by omega, by omega⟩
  .intro h w' x
   rw [if_pos (by omega)] at hm
   cases hm
   rw [hRR]
   exact ⟨rfl, (x06.mono fun _ _ h => .inr h).trans x fun y hy h => by omega⟩
  .intro h h2 w' h5
   rw [if_neg (by omega), if_pos (by omega)] at hm
   cases hm
   rw [hRR]
   refine ⟨rfl, (x06.mono fun _ _ h => .inr h).trans h5 fun y hy h => ?_⟩
   rcases h with h | h | h
   .exact .inl h.1
   .exact .inr h
   .omega
  .intro h h2 w' va' h3 h4 h5
   rw [if_neg (by omega), if_neg (by omega)] at hm
   cases hm
   rw [hRR]
   rw [Qr] at h4
   refine ⟨va', rfl, pY h3 fun b hb _ => hb.1, h4, (x06.mono fun _ _ h => .inr h).trans h5 fun y hy h => ?_⟩
   rcases h with h | h | h
   .exact .inl h.1
   .exact .inr h
   .omega
 rcases hk01 with h | h
 .have e1 : Ct l = xP l := by unfold Ct; rw [if_neg (by omega)]
  have e2 : (((vY l : Nat) : Int) == 1) = false := by rw [h] <;> rfl
  rw [e1] at main
  simp (disch := omega) only [dQ, fE, cQ, stepR_skip, eE, eS, eI, eP, eX, fB, fF, eN, dL, eL, eQ, eZ, eC, eF, eJ, eH, eD, fA, eU, eB, dR, eM, eY, eA, fY, gC, gB, fZ, fV, fX, gA, fW, gD, dH, Result.ok.injEq, Next.value.injEq, true_and, and_true, dZ, dY, eT, fC, eK, fG, PJ, dS, dT, dU, dV, dN, dK, dP, dM, dI, cY, if_true, if_false, PG, PM, PH, PI, PL, PK, PF, PE, cR, cO, cH, bY, cV, dJ, bW, bX, cS, cK, cL, dE, cP, dD, dC, dW, cZ, cF, bH, bR, aT, aC, aL, dF, aI, cD, dB, dA, bN, aH, bC, aZ, cM, aD, aX, aM, aV, cU, aW, cJ, bS, aF, aG, aK, dO, aP, aO, bD, aR, cB, aE, bZ, bT, bG, bB, aY, cX, aJ, bM, aU, aQ, aS, aA, dG, cN, bO, aN, cW, bU, bV, cI, bQ, bP, bL, cA, bJ, cC, bA, bK, bF, bE, cG, n0, c1, c2, d1, d2, e2]
  exact main
 .have e1 : Ct l = 1 := by unfold Ct; rw [if_pos (by omega)]
  have e2 : (((vY l : Nat) : Int) == 1) = true := by rw [h] <;> rfl
  rw [e1] at main
  simp (disch := omega) only [dQ, fE, cQ, stepR_skip, eE, eS, eI, eP, eX, fB, fF, eN, dL, eL, eQ, eZ, eC, eF, eJ, eH, eD, fA, eU, eB, dR, eM, eY, eA, fY, gC, gB, fZ, fV, fX, gA, fW, gD, dH, Result.ok.injEq, Next.value.injEq, true_and, and_true, dZ, dY, eT, fC, eK, fG, PJ, dS, dT, dU, dV, dN, dK, dP, dM, dI, cY, if_true, if_false, PG, PM, PH, PI, PL, PK, PF, PE, cR, cO, cH, bY, cV, dJ, bW, bX, cS, cK, cL, dE, cP, dD, dC, dW, cZ, cF, bH, bR, aT, aC, aL, dF, aI, cD, dB, dA, bN, aH, bC, aZ, cM, aD, aX, aM, aV, cU, aW, cJ, bS, aF, aG, aK, dO, aP, aO, bD, aR, cB, aE, bZ, bT, bG, bB, aY, cX, aJ, bM, aU, aQ, aS, aA, dG, cN, bO, aN, cW, bU, bV, cI, bQ, bP, bL, cA, bJ, cC, bA, bK, bF, bE, cG, n0, c1, c2, d1, d2, e2]
  exact main
end Go.Proofs.YthohephggmkeeaaDoor
namespace Go.Proofs.YthohephggmkeeaaDoor
open Go Go.En
set_option maxRecDepth 4000
def As (x : Int) (k : Nat) : Int := OE .u64 (IntKind.u64.wrap (x * 2 ^ k)) (x.fdiv (2 ^ (64 - k)))
def Jk (v x : Int) : Int := IntKind.u64.wrap (As (IntKind.u64.wrap (v + IntKind.u64.wrap (x * 14029467366897019727))) 31 * 11400714785074694791)
theorem O6 : ∀ k : Fin 64, uM .u64 (k.val : Int) 63 = (k.val : Int) := by decide
theorem NL : ∀ k : Fin 64, IntKind.u64.wrap (64 - (k.val : Int)) = 64 - (k.val : Int) := by decide
theorem EH (x : Int) (k : Nat) (hk : k < 64) (w : Q6) :
 fK pg gW #[.int .u64 x, .int .i64 (k : Int)] w (fun v w' => v = .int .u64 (As x k) /\ w' = w) := by
 refine wC ?_
 have h1 := O6 ⟨k, hk⟩
 have h2 := NL ⟨k, hk⟩
 simp only at h1 h2
 have e1 : min k IntKind.u64.bits = k := by simp only [IntKind.bits]; omega
 have e2 : min (64 - (k : Int)).toNat IntKind.u64.bits = 64 - k := by simp only [IntKind.bits]; omega
 simp (disch := omega) only [rP, lJ, dQ, fE, cQ, stepR_skip, eE, eS, eI, eP, eX, fB, fF, eN, dL, eL, eQ, eZ, eC, eF, eJ, eH, eD, fA, eU, eB, dR, eM, eY, eA, fY, gC, gB, fZ, fV, fX, gA, fW, gD, dH, Result.ok.injEq, Next.value.injEq, true_and, and_true, dZ, dY, eT, fC, eK, fG, PJ, dS, dT, dU, dV, dN, dK, dP, dM, dI, cY, if_true, if_false, PG, PM, PH, PI, PL, PK, PF, PE, cR, cO, cH, bY, cV, dJ, bW, bX, cS, cK, cL, dE, cP, dD, dC, dW, cZ, cF, bH, bR, aT, aC, aL, dF, aI, cD, dB, dA, bN, aH, bC, aZ, cM, aD, aX, aM, aV, cU, aW, cJ, bS, aF, aG, aK, dO, aP, aO, bD, aR, cB, aE, bZ, bT, bG, bB, aY, cX, aJ, bM, aU, aQ, aS, aA, dG, cN, bO, aN, cW, bU, bV, cI, bQ, bP, bL, cA, bJ, cC, bA, bK, bF, bE, cG, h1, h2, e1, e2, As]
theorem uQ (x : Int) (k : Nat) (hk : k < 64) (w : Q6) :
 fK pg jI #[.int .u64 x, .int .u64 (k : Int)] w (fun v w' => v = .int .u64 (As x k) /\ w' = w) := by
 refine Gl ?_
 have h2 := NL ⟨k, hk⟩
 simp only at h2
 have e1 : min k IntKind.u64.bits = k := by simp only [IntKind.bits]; omega
 have e2 : min (64 - (k : Int)).toNat IntKind.u64.bits = 64 - k := by simp only [IntKind.bits]; omega
 simp (disch := omega) only [Hj, Ap, dQ, fE, cQ, stepR_skip, eE, eS, eI, eP, eX, fB, fF, eN, dL, eL, eQ, eZ, eC, eF, eJ, eH, eD, fA, eU, eB, dR, eM, eY, eA, fY, gC, gB, fZ, fV, fX, gA, fW, gD, dH, Result.ok.injEq, Next.value.injEq, true_and, and_true, dZ, dY, eT, fC, eK, fG, PJ, dS, dT, dU, dV, dN, dK, dP, dM, dI, cY, if_true, if_false, PG, PM, PH, PI, PL, PK, PF, PE, cR, cO, cH, bY, cV, dJ, bW, bX, cS, cK, cL, dE, cP, dD, dC, dW, cZ, cF, bH, bR, aT, aC, aL, dF, aI, cD, dB, dA, bN, aH, bC, aZ, cM, aD, aX, aM, aV, cU, aW, cJ, bS, aF, aG, aK, dO, aP, aO, bD, aR, cB, aE, bZ, bT, bG, bB, aY, cX, aJ, bM, aU, aQ, aS, aA, dG, cN, bO, aN, cW, bU, bV, cI, bQ, bP, bL, cA, bJ, cC, bA, bK, bF, bE, cG, h2, e1, e2, As]
theorem Fz (v x : Int) (w : Q6) :
 fK pg rH #[.int .u64 v, .int .u64 x] w (fun r w' => r = .int .u64 (Jk v x) /\ w' = w) := by
 refine Hh ?_
 simp (disch := omega) only [H0, Bt, dQ, fE, cQ, stepR_skip, eE, eS, eI, eP, eX, fB, fF, eN, dL, eL, eQ, eZ, eC, eF, eJ, eH, eD, fA, eU, eB, dR, eM, eY, eA, fY, gC, gB, fZ, fV, fX, gA, fW, gD, dH, Result.ok.injEq, Next.value.injEq, true_and, and_true, dZ, dY, eT, fC, eK, fG, PJ, dS, dT, dU, dV, dN, dK, dP, dM, dI, cY, if_true, if_false, PG, PM, PH, PI, PL, PK, PF, PE, cR, cO, cH, bY, cV, dJ, bW, bX, cS, cK, cL, dE, cP, dD, dC, dW, cZ, cF, bH, bR, aT, aC, aL, dF, aI, cD, dB, dA, bN, aH, bC, aZ, cM, aD, aX, aM, aV, cU, aW, cJ, bS, aF, aG, aK, dO, aP, aO, bD, aR, cB, aE, bZ, bT, bG, bB, aY, cX, aJ, bM, aU, aQ, aS, aA, dG, cN, bO, aN, cW, bU, bV, cI, bQ, bP, bL, cA, bJ, cC, bA, bK, bF, bE, cG]
 refine (EH _ 31 (by omega) w).mono ?_
 rintro r w' ⟨rfl, rfl⟩
 simp (disch := omega) only [dQ, fE, cQ, stepR_skip, eE, eS, eI, eP, eX, fB, fF, eN, dL, eL, eQ, eZ, eC, eF, eJ, eH, eD, fA, eU, eB, dR, eM, eY, eA, fY, gC, gB, fZ, fV, fX, gA, fW, gD, dH, Result.ok.injEq, Next.value.injEq, true_and, and_true, dZ, dY, eT, fC, eK, fG, PJ, dS, dT, dU, dV, dN, dK, dP, dM, dI, cY, if_true, if_false, PG, PM, PH, PI, PL, PK, PF, PE, cR, cO, cH, bY, cV, dJ, bW, bX, cS, cK, cL, dE, cP, dD, dC, dW, cZ, cF, bH, bR, aT, aC, aL, dF, aI, cD, dB, dA, bN, aH, bC, aZ, cM, aD, aX, aM, aV, cU, aW, cJ, bS, aF, aG, aK, dO, aP, aO, bD, aR, cB, aE, bZ, bT, bG, bB, aY, cX, aJ, bM, aU, aQ, aS, aA, dG, cN, bO, aN, cW, bU, bV, cI, bQ, bP, bL, cA, bJ, cC, bA, bK, bF, bE, cG, Jk]
theorem D4 (v x : Int) (w : Q6) :
 fK pg nK #[.int .u64 v, .int .u64 x] w (fun r w' => r = .int .u64 (Jk v x) /\ w' = w) := by
 refine EZ ?_
 simp (disch := omega) only [F1, xR, dQ, fE, cQ, stepR_skip, eE, eS, eI, eP, eX, fB, fF, eN, dL, eL, eQ, eZ, eC, eF, eJ, eH, eD, fA, eU, eB, dR, eM, eY, eA, fY, gC, gB, fZ, fV, fX, gA, fW, gD, dH, Result.ok.injEq, Next.value.injEq, true_and, and_true, dZ, dY, eT, fC, eK, fG, PJ, dS, dT, dU, dV, dN, dK, dP, dM, dI, cY, if_true, if_false, PG, PM, PH, PI, PL, PK, PF, PE, cR, cO, cH, bY, cV, dJ, bW, bX, cS, cK, cL, dE, cP, dD, dC, dW, cZ, cF, bH, bR, aT, aC, aL, dF, aI, cD, dB, dA, bN, aH, bC, aZ, cM, aD, aX, aM, aV, cU, aW, cJ, bS, aF, aG, aK, dO, aP, aO, bD, aR, cB, aE, bZ, bT, bG, bB, aY, cX, aJ, bM, aU, aQ, aS, aA, dG, cN, bO, aN, cW, bU, bV, cI, bQ, bP, bL, cA, bJ, cC, bA, bK, bF, bE, cG]
 refine (uQ _ 31 (by omega) w).mono ?_
 rintro r w' ⟨rfl, rfl⟩
 simp (disch := omega) only [dQ, fE, cQ, stepR_skip, eE, eS, eI, eP, eX, fB, fF, eN, dL, eL, eQ, eZ, eC, eF, eJ, eH, eD, fA, eU, eB, dR, eM, eY, eA, fY, gC, gB, fZ, fV, fX, gA, fW, gD, dH, Result.ok.injEq, Next.value.injEq, true_and, and_true, dZ, dY, eT, fC, eK, fG, PJ, dS, dT, dU, dV, dN, dK, dP, dM, dI, cY, if_true, if_false, PG, PM, PH, PI, PL, PK, PF, PE, cR, cO, cH, bY, cV, dJ, bW, bX, cS, cK, cL, dE, cP, dD, dC, dW, cZ, cF, bH, bR, aT, aC, aL, dF, aI, cD, dB, dA, bN, aH, bC, aZ, cM, aD, aX, aM, aV, cU, aW, cJ, bS, aF, aG, aK, dO, aP, aO, bD, aR, cB, aE, bZ, bT, bG, bB, aY, cX, aJ, bM, aU, aQ, aS, aA, dG, cN, bO, aN, cW, bU, bV, cI, bQ, bP, bL, cA, bJ, cC, bA, bK, bF, bE, cG, Jk]
def oJ : List UInt8 -> Int
 | [] => 0
 | c :: l => (c.toNat : Int) + 256 * oJ l
theorem A9 : ∀ l, 0 <= oJ l
 | [] => by simp [oJ]
 | c :: l => by have := A9 l; simp only [oJ]; omega
theorem Ht (l : List UInt8) (c : UInt8) : oJ (l ++ [c]) = oJ l + (c.toNat : Int) * 256 ^ l.length := by
 induction l with
 | nil => simp [oJ]
 | cons a l ih => simp only [QM, oJ, ih, P9, Int.pow_succ, Int.mul_add]; rw [Int.mul_comm (256 : Int) (_ * _), Int.mul_assoc]; omega
theorem HA : ∀ l : List UInt8, oJ l < 256 ^ l.length
 | [] => by simp [oJ]
 | c :: l => by
   have := HA l
   have hc : c.toNat < 256 := c.toNat_lt
   simp only [oJ, P9, Int.pow_succ]; omega
theorem BK {α : Type} {l : List α} {k : Nat} (h : k < l.length) : l.take (k + 1) = l.take k ++ [l[k]] := by
 rw [List.take_succ_eq_append_getElem h]
theorem LK {x : Int} {c k : Nat} (hk : k < 8) (hx0 : 0 <= x) (hx : x < 256 ^ k) (hc : c < 256) :
 OE .u64 x (IntKind.u64.wrap ((c : Int) * 2 ^ (8 * k))) = x + (c : Int) * 256 ^ k := by
 obtain ⟨m, rfl⟩ := Int.eq_ofNat_of_zero_le hx0
 have e256 : (256 : Nat) ^ k = 2 ^ (8 * k) := by rw [show (256 : Nat) = 2 ^ 8 from rfl, <- Nat.pow_mul]
 have hm : m < 2 ^ (8 * k) := by rw [<- e256]; exact_mod_cast hx
 have hle : c * 2 ^ (8 * k) + 2 ^ (8 * k) <= 2 ^ 64 := by
  have h1 : (c + 1) * 2 ^ (8 * k) <= 256 * 2 ^ (8 * k) := Nat.mul_le_mul_right _ (by omega)
  have h2 : (256 : Nat) * 2 ^ (8 * k) = 2 ^ (8 * k + 8) := by rw [Nat.pow_add, QX]
  have h3 : (2 : Nat) ^ (8 * k + 8) <= 2 ^ 64 := Qt (by omega) (by omega)
  rw [QR] at h1; omega
 have hpos : 0 < 2 ^ (8 * k) := Nat.pow_pos (by omega)
 have w : IntKind.u64.wrap ((c : Int) * 2 ^ (8 * k)) = ((c * 2 ^ (8 * k) : Nat) : Int) := by
  have : ((c : Int) * 2 ^ (8 * k)) = ((c * 2 ^ (8 * k) : Nat) : Int) := by push_cast; rfl
  rw [this]; exact dY (by omega) (by omega)
 rw [w]
 have b1 : (BitVec.ofInt 64 (m : Int) ||| BitVec.ofInt 64 ((c * 2 ^ (8 * k) : Nat) : Int)).toNat = m + c * 2 ^ (8 * k) := by
  rw [BitVec.toNat_or]
  simp only [BitVec.toNat_ofInt]
  have e1 : (((m : Int) % ((2 ^ 64 : Nat) : Int)).toNat) = m := by omega
  have e2 : ((((c * 2 ^ (8 * k) : Nat) : Int) % ((2 ^ 64 : Nat) : Int)).toNat) = c * 2 ^ (8 * k) := by omega
  rw [e1, e2, Nat.or_comm, QX c, <- Nat.two_pow_add_eq_or_of_lt hm]
  omega
 show IntKind.u64.wrap ((BitVec.ofInt 64 (m : Int) ||| BitVec.ofInt 64 ((c * 2 ^ (8 * k) : Nat) : Int)).toNat : Int) = _
 rw [b1]
 have : ((m + c * 2 ^ (8 * k) : Nat) : Int) = (m : Int) + (c : Int) * 256 ^ k := by
  rw [<- e256]; push_cast; rfl
 rw [<- this]
 exact dY (by omega) (by omega)
theorem DH (v : Q7) (l : List UInt8) (w : Q6) (h : Bs w v l) (hl : l.length <= 8) :
 fK pg pG #[v] w (fun r w' => r = .int .u64 (oJ l) /\ w' = w) := by
 obtain ⟨a, n, c, rfl, hn, hc, hcell⟩ := h
 rw [PQ] at hn
 subst hn
 refine GF ?_
 simp (disch := omega) only [Hf, tY, An, Av, zU, Ac, zQ, zI, Af, dQ, fE, cQ, stepR_skip, eE, eS, eI, eP, eX, fB, fF, eN, dL, eL, eQ, eZ, eC, eF, eJ, eH, eD, fA, eU, eB, dR, eM, eY, eA, fY, gC, gB, fZ, fV, fX, gA, fW, gD, dH, Result.ok.injEq, Next.value.injEq, true_and, and_true, dZ, dY, eT, fC, eK, fG, PJ, dS, dT, dU, dV, dN, dK, dP, dM, dI, cY, if_true, if_false, PG, PM, PH, PI, PL, PK, PF, PE, cR, cO, cH, bY, cV, dJ, bW, bX, cS, cK, cL, dE, cP, dD, dC, dW, cZ, cF, bH, bR, aT, aC, aL, dF, aI, cD, dB, dA, bN, aH, bC, aZ, cM, aD, aX, aM, aV, cU, aW, cJ, bS, aF, aG, aK, dO, aP, aO, bD, aR, cB, aE, bZ, bT, bG, bB, aY, cX, aJ, bM, aU, aQ, aS, aA, dG, cN, bO, aN, cW, bU, bV, cI, bQ, bP, bL, cA, bJ, cC, bA, bK, bF, bE, cG]
 refine iG.rule (fun n t w' => ∃ k : Nat, n = l.length - k /\ k <= l.length /\ t = (.int .u64 (oJ (l.take k)), .int .i64 (k : Int)) /\ w' = w) l.length ⟨0, rfl, Nat.zero_le _, rfl, rfl⟩ ?_
 rintro n t w' ⟨k, rfl, hk, rfl, rfl⟩
 by_cases hlt : k < l.length
 .obtain ⟨b, off, rfl, hcell'⟩ := hcell (by omega)
  have hcl := hcell' k hlt
  rw [Qv, PT hlt, Qe] at hcl
  have hb : (l[k].toNat) < 256 := l[k].toNat_lt
  have hd : decide ((k : Int) < (l.length : Int)) = true := by simpa using hlt
  have e1 : min (8 * (k : Int)).toNat IntKind.u64.bits = 8 * k := by simp only [IntKind.bits]; omega
  simp (disch := omega) only [pZ, dQ, fE, cQ, stepR_skip, eE, eS, eI, eP, eX, fB, fF, eN, dL, eL, eQ, eZ, eC, eF, eJ, eH, eD, fA, eU, eB, dR, eM, eY, eA, fY, gC, gB, fZ, fV, fX, gA, fW, gD, dH, Result.ok.injEq, Next.value.injEq, true_and, and_true, dZ, dY, eT, fC, eK, fG, PJ, dS, dT, dU, dV, dN, dK, dP, dM, dI, cY, if_true, if_false, PG, PM, PH, PI, PL, PK, PF, PE, cR, cO, cH, bY, cV, dJ, bW, bX, cS, cK, cL, dE, cP, dD, dC, dW, cZ, cF, bH, bR, aT, aC, aL, dF, aI, cD, dB, dA, bN, aH, bC, aZ, cM, aD, aX, aM, aV, cU, aW, cJ, bS, aF, aG, aK, dO, aP, aO, bD, aR, cB, aE, bZ, bT, bG, bB, aY, cX, aJ, bM, aU, aQ, aS, aA, dG, cN, bO, aN, cW, bU, bV, cI, bQ, bP, bL, cA, bJ, cC, bA, bK, bF, bE, cG, hd, dI, hcl, lU, e1]
  have hlen : (l.take k).length = k := by simp; omega
  have hx := HA (l.take k)
  rw [hlen] at hx
  refine ⟨l.length - (k + 1), by omega, k + 1, rfl, by omega, ?_⟩
  rw [LK (by omega) (A9 _) hx hb, BK hlt, Ht, hlen]
  rfl
 .have hd : decide ((k : Int) < (l.length : Int)) = false := by simpa using hlt
  simp (disch := omega) only [pZ, dQ, fE, cQ, stepR_skip, eE, eS, eI, eP, eX, fB, fF, eN, dL, eL, eQ, eZ, eC, eF, eJ, eH, eD, fA, eU, eB, dR, eM, eY, eA, fY, gC, gB, fZ, fV, fX, gA, fW, gD, dH, Result.ok.injEq, Next.value.injEq, true_and, and_true, dZ, dY, eT, fC, eK, fG, PJ, dS, dT, dU, dV, dN, dK, dP, dM, dI, cY, if_true, if_false, PG, PM, PH, PI, PL, PK, PF, PE, cR, cO, cH, bY, cV, dJ, bW, bX, cS, cK, cL, dE, cP, dD, dC, dW, cZ, cF, bH, bR, aT, aC, aL, dF, aI, cD, dB, dA, bN, aH, bC, aZ, cM, aD, aX, aM, aV, cU, aW, cJ, bS, aF, aG, aK, dO, aP, aO, bD, aR, cB, aE, bZ, bT, bG, bB, aY, cX, aJ, bM, aU, aQ, aS, aA, dG, cN, bO, aN, cW, bU, bV, cI, bQ, bP, bL, cA, bJ, cC, bA, bK, bF, bE, cG, hd, cY]
  rw [PX (by omega)]
theorem LS (s : ByteArray) (n : Nat) (hn : n <= s.size) (w : Q6) :
 fK pg wO #[.agg #[.string s, .int .i64 0], .int .i64 (n : Int)] w
  (fun v w' => v = .tuple #[.agg #[.string (s.extract n s.size), .int .i64 0], .string (s.extract 0 n)] /\ fU w w' kY) := by
 refine Gh ?_
 simp (disch := omega) only [GZ, zK, dQ, fE, cQ, stepR_skip, eE, eS, eI, eP, eX, fB, fF, eN, dL, eL, eQ, eZ, eC, eF, eJ, eH, eD, fA, eU, eB, dR, eM, eY, eA, fY, gC, gB, fZ, fV, fX, gA, fW, gD, dH, Result.ok.injEq, Next.value.injEq, true_and, and_true, dZ, dY, eT, fC, eK, fG, PJ, dS, dT, dU, dV, dN, dK, dP, dM, dI, cY, if_true, if_false, PG, PM, PH, PI, PL, PK, PF, PE, cR, cO, cH, bY, cV, dJ, bW, bX, cS, cK, cL, dE, cP, dD, dC, dW, cZ, cF, bH, bR, aT, aC, aL, dF, aI, cD, dB, dA, bN, aH, bC, aZ, cM, aD, aX, aM, aV, cU, aW, cJ, bS, aF, aG, aK, dO, aP, aO, bD, aR, cB, aE, bZ, bT, bG, bB, aY, cX, aJ, bM, aU, aQ, aS, aA, dG, cN, bO, aN, cW, bU, bV, cI, bQ, bP, bL, cA, bJ, cC, bA, bK, bF, bE, cG]
 refine CQ fun w1 o1 x1 s1 => ?_
 refine oU fun w2 o2 x2 s2 => ?_
 have o1 := o1.ext x2 (fun h => h)
 have d1 : ((0 : Int) != 0) = false := rfl
 have d2 : decide ((n : Int) < 0) = false := by simp
 have d3 : decide ((s.size : Int) < (n : Int)) = false := by simp; omega
 simp (disch := omega) only [dQ, fE, cQ, stepR_skip, eE, eS, eI, eP, eX, fB, fF, eN, dL, eL, eQ, eZ, eC, eF, eJ, eH, eD, fA, eU, eB, dR, eM, eY, eA, fY, gC, gB, fZ, fV, fX, gA, fW, gD, dH, Result.ok.injEq, Next.value.injEq, true_and, and_true, dZ, dY, eT, fC, eK, fG, PJ, dS, dT, dU, dV, dN, dK, dP, dM, dI, cY, if_true, if_false, PG, PM, PH, PI, PL, PK, PF, PE, cR, cO, cH, bY, cV, dJ, bW, bX, cS, cK, cL, dE, cP, dD, dC, dW, cZ, cF, bH, bR, aT, aC, aL, dF, aI, cD, dB, dA, bN, aH, bC, aZ, cM, aD, aX, aM, aV, cU, aW, cJ, bS, aF, aG, aK, dO, aP, aO, bD, aR, cB, aE, bZ, bT, bG, bB, aY, cX, aJ, bM, aU, aQ, aS, aA, dG, cN, bO, aN, cW, bU, bV, cI, bQ, bP, bL, cA, bJ, cC, bA, bK, bF, bE, cG, o1.cell, Value.cells, d1, d2, d3]
 refine Lh o1 rfl (by simp [Value.cells]) fun w3 o1 x3 s3 => ?_
 have o2 := o2.ext x3 (by simp [s1])
 simp (disch := omega) only [dQ, fE, cQ, stepR_skip, eE, eS, eI, eP, eX, fB, fF, eN, dL, eL, eQ, eZ, eC, eF, eJ, eH, eD, fA, eU, eB, dR, eM, eY, eA, fY, gC, gB, fZ, fV, fX, gA, fW, gD, dH, Result.ok.injEq, Next.value.injEq, true_and, and_true, dZ, dY, eT, fC, eK, fG, PJ, dS, dT, dU, dV, dN, dK, dP, dM, dI, cY, if_true, if_false, PG, PM, PH, PI, PL, PK, PF, PE, cR, cO, cH, bY, cV, dJ, bW, bX, cS, cK, cL, dE, cP, dD, dC, dW, cZ, cF, bH, bR, aT, aC, aL, dF, aI, cD, dB, dA, bN, aH, bC, aZ, cM, aD, aX, aM, aV, cU, aW, cJ, bS, aF, aG, aK, dO, aP, aO, bD, aR, cB, aE, bZ, bT, bG, bB, aY, cX, aJ, bM, aU, aQ, aS, aA, dG, cN, bO, aN, cW, bU, bV, cI, bQ, bP, bL, cA, bJ, cC, bA, bK, bF, bE, cG, oC o1 (off := 0) (by simp [Value.cells])]
 refine lE o2 rfl (by simp [one, Value.cells]) (by decide) fun w4 o2 x4 s4 => ?_
 refine sR o2 (by simp [gJ, Value.cells]) ⟨rfl, ?_⟩
 exact ((x1.seq x2).new x3 (by omega)).new x4 (by omega)
theorem My (l : List UInt8) (k : Nat) (hk : k < 8) (hl : k < l.length) :
 IntKind.u64.wrap (oJ (l.take k) + IntKind.u64.wrap ((l[k].toNat : Int) * IntKind.u64.wrap (256 ^ k))) = oJ (l.take (k + 1)) /\ IntKind.u64.wrap (IntKind.u64.wrap (256 ^ k) * 256) = IntKind.u64.wrap (256 ^ (k + 1)) := by
 have hlen : (l.take k).length = k := by simp; omega
 have h0 := A9 (l.take k)
 have h1 := HA (l.take k)
 rw [hlen] at h1
 have hc : l[k].toNat < 256 := Qq _
 have hp : ∀ k : Fin 8, (0 : Int) < 256 ^ k.val /\ (256 : Int) ^ k.val * 256 <= 18446744073709551616 := by decide
 obtain ⟨p0, p1⟩ := hp ⟨k, hk⟩
 simp only at p0 p1
 have e : IntKind.u64.wrap (256 ^ k) = 256 ^ k := dY (by omega) (by omega)
 rw [BK hl, Ht, hlen, e]
 have m0 : 0 <= (l[k].toNat : Int) * 256 ^ k := Int.mul_nonneg (by omega) (by omega)
 have m1 : ((l[k].toNat : Int) + 1) * 256 ^ k <= 256 * 256 ^ k := Int.mul_le_mul_of_nonneg_right (by omega) (by omega)
 rw [Int.add_mul, Int.one_mul, Int.mul_comm 256] at m1
 refine ⟨?_, by rw [Int.pow_succ]⟩
 have e2 : IntKind.u64.wrap ((l[k].toNat : Int) * 256 ^ k) = (l[k].toNat : Int) * 256 ^ k := dY m0 (by omega)
 rw [e2]
 exact dY (by omega) (by omega)
theorem L7 (s : ByteArray) (n : Nat) (h1 : 1 <= n) (h8 : n <= 8) (hn : n <= s.size) (w : Q6) :
 fK pg rY #[.agg #[.string s, .int .i64 0], .int .i64 (n : Int)] w
  (fun v w' => v = .tuple #[.agg #[.string (s.extract n s.size), .int .i64 0], .int .u64 (oJ ((FW s).take n))] /\ fU w w' kY) := by
 refine Eo ?_
 simp (disch := omega) only [EP, qM, uY, uW, vJ, vD, vG, vR, vI, tO, tE, dQ, fE, cQ, stepR_skip, eE, eS, eI, eP, eX, fB, fF, eN, dL, eL, eQ, eZ, eC, eF, eJ, eH, eD, fA, eU, eB, dR, eM, eY, eA, fY, gC, gB, fZ, fV, fX, gA, fW, gD, dH, Result.ok.injEq, Next.value.injEq, true_and, and_true, dZ, dY, eT, fC, eK, fG, PJ, dS, dT, dU, dV, dN, dK, dP, dM, dI, cY, if_true, if_false, PG, PM, PH, PI, PL, PK, PF, PE, cR, cO, cH, bY, cV, dJ, bW, bX, cS, cK, cL, dE, cP, dD, dC, dW, cZ, cF, bH, bR, aT, aC, aL, dF, aI, cD, dB, dA, bN, aH, bC, aZ, cM, aD, aX, aM, aV, cU, aW, cJ, bS, aF, aG, aK, dO, aP, aO, bD, aR, cB, aE, bZ, bT, bG, bB, aY, cX, aJ, bM, aU, aQ, aS, aA, dG, cN, bO, aN, cW, bU, bV, cI, bQ, bP, bL, cA, bJ, cC, bA, bK, bF, bE, cG]
 refine CQ fun w1 o1 x1 s1 => ?_
 refine oU fun w2 o2 x2 s2 => ?_
 have o1 := o1.ext x2 (fun h => h)
 have d1 : ((0 : Int) == 0) = true := rfl
 have d2 : decide ((n : Int) < 1) = false := by simp; omega
 have d3 : decide ((8 : Int) < (n : Int)) = false := by simp; omega
 simp (disch := omega) only [dQ, fE, cQ, stepR_skip, eE, eS, eI, eP, eX, fB, fF, eN, dL, eL, eQ, eZ, eC, eF, eJ, eH, eD, fA, eU, eB, dR, eM, eY, eA, fY, gC, gB, fZ, fV, fX, gA, fW, gD, dH, Result.ok.injEq, Next.value.injEq, true_and, and_true, dZ, dY, eT, fC, eK, fG, PJ, dS, dT, dU, dV, dN, dK, dP, dM, dI, cY, if_true, if_false, PG, PM, PH, PI, PL, PK, PF, PE, cR, cO, cH, bY, cV, dJ, bW, bX, cS, cK, cL, dE, cP, dD, dC, dW, cZ, cF, bH, bR, aT, aC, aL, dF, aI, cD, dB, dA, bN, aH, bC, aZ, cM, aD, aX, aM, aV, cU, aW, cJ, bS, aF, aG, aK, dO, aP, aO, bD, aR, cB, aE, bZ, bT, bG, bB, aY, cX, aJ, bM, aU, aQ, aS, aA, dG, cN, bO, aN, cW, bU, bV, cI, bQ, bP, bL, cA, bJ, cC, bA, bK, bF, bE, cG, o1.cell, Value.cells, d1, d2, d3]
 have e1 : pg = pg := rfl
 simp (disch := omega) only [oC o1 (off := 0) (by simp [Value.cells]), cQ]
 refine (LS s n hn w2).mono ?_
 rintro v w3 ⟨rfl, x3⟩
 have o1 := o1.ext x3 (fun h => h)
 have o2 := o2.ext x3 (fun h => h)
 have z3 := x3.size
 simp (disch := omega) only [dQ, fE, cQ, stepR_skip, eE, eS, eI, eP, eX, fB, fF, eN, dL, eL, eQ, eZ, eC, eF, eJ, eH, eD, fA, eU, eB, dR, eM, eY, eA, fY, gC, gB, fZ, fV, fX, gA, fW, gD, dH, Result.ok.injEq, Next.value.injEq, true_and, and_true, dZ, dY, eT, fC, eK, fG, PJ, dS, dT, dU, dV, dN, dK, dP, dM, dI, cY, if_true, if_false, PG, PM, PH, PI, PL, PK, PF, PE, cR, cO, cH, bY, cV, dJ, bW, bX, cS, cK, cL, dE, cP, dD, dC, dW, cZ, cF, bH, bR, aT, aC, aL, dF, aI, cD, dB, dA, bN, aH, bC, aZ, cM, aD, aX, aM, aV, cU, aW, cJ, bS, aF, aG, aK, dO, aP, aO, bD, aR, cB, aE, bZ, bT, bG, bB, aY, cX, aJ, bM, aU, aQ, aS, aA, dG, cN, bO, aN, cW, bU, bV, cI, bQ, bP, bL, cA, bJ, cC, bA, bK, bF, bE, cG]
 refine lE o1 rfl (by simp [one, Value.cells]) (by simp [Value.cells]) fun w4 o1 x4 s4 => ?_
 have o2 := o2.ext x4 (by omega)
 have x := ((x1.seq x2).seq x3).new x4 (by omega)
 have hsz : (s.extract 0 n).size = n := by rw [De _ _ _ hn, Nat.sub_zero]
 obtain ⟨l, hl0⟩ : ∃ l, l = (FW s).take n := ⟨_, rfl⟩
 have hl : l.length = n := by rw [hl0, PR, oY]; omega
 have hp : FW (s.extract 0 n) = l := by rw [Cy, P5, Nat.sub_zero, hl0]
 have hget : ∀ k (h : k < (s.extract 0 n).size) (h1 : k < l.length), (s.extract 0 n)[k]'h = l[k]'h1 := fun k h h' => by
  rw [Kt]; simp only [hp]
 rw [<- hl0]
 clear hl0
 generalize s.extract 0 n = sx at hsz hp hget ⊢
 refine iG.rule (fun m t w' => ∃ k : Nat, m = n - k /\ k <= n /\ t = (.int .u64 (oJ (l.take k)), .int .u64 (IntKind.u64.wrap (256 ^ k)), .int .i64 (k : Int)) /\ w' = w4) n ⟨0, rfl, Nat.zero_le _, rfl, rfl⟩ ?_
 rintro m t w' ⟨k, rfl, hk, rfl, rfl⟩
 by_cases hlt : k < n
 .have hd : decide ((k : Int) < (sx.size : Int)) = true := by rw [hsz]; simpa using hlt
  have hk' : k < sx.size := by omega
  have hb : (l[k]'(by omega)).toNat < 256 := Qq _
  simp (disch := omega) only [nH, dQ, fE, cQ, stepR_skip, eE, eS, eI, eP, eX, fB, fF, eN, dL, eL, eQ, eZ, eC, eF, eJ, eH, eD, fA, eU, eB, dR, eM, eY, eA, fY, gC, gB, fZ, fV, fX, gA, fW, gD, dH, Result.ok.injEq, Next.value.injEq, true_and, and_true, dZ, dY, eT, fC, eK, fG, PJ, dS, dT, dU, dV, dN, dK, dP, dM, dI, cY, if_true, if_false, PG, PM, PH, PI, PL, PK, PF, PE, cR, cO, cH, bY, cV, dJ, bW, bX, cS, cK, cL, dE, cP, dD, dC, dW, cZ, cF, bH, bR, aT, aC, aL, dF, aI, cD, dB, dA, bN, aH, bC, aZ, cM, aD, aX, aM, aV, cU, aW, cJ, bS, aF, aG, aK, dO, aP, aO, bD, aR, cB, aE, bZ, bT, bG, bB, aY, cX, aJ, bM, aU, aQ, aS, aA, dG, cN, bO, aN, cW, bU, bV, cI, bQ, bP, bL, cA, bJ, cC, bA, bK, bF, bE, cG, hd, hget k hk' (by omega)]
  refine ⟨n - (k + 1), by omega, k + 1, rfl, by omega, ?_⟩
  obtain ⟨e1, e2⟩ := My l k (by omega) (by omega)
  rw [e1, e2] <;> rfl
 .have hd : decide ((k : Int) < (sx.size : Int)) = false := by rw [hsz]; simpa using hlt
  simp (disch := omega) only [nH, dQ, fE, cQ, stepR_skip, eE, eS, eI, eP, eX, fB, fF, eN, dL, eL, eQ, eZ, eC, eF, eJ, eH, eD, fA, eU, eB, dR, eM, eY, eA, fY, gC, gB, fZ, fV, fX, gA, fW, gD, dH, Result.ok.injEq, Next.value.injEq, true_and, and_true, dZ, dY, eT, fC, eK, fG, PJ, dS, dT, dU, dV, dN, dK, dP, dM, dI, cY, if_true, if_false, PG, PM, PH, PI, PL, PK, PF, PE, cR, cO, cH, bY, cV, dJ, bW, bX, cS, cK, cL, dE, cP, dD, dC, dW, cZ, cF, bH, bR, aT, aC, aL, dF, aI, cD, dB, dA, bN, aH, bC, aZ, cM, aD, aX, aM, aV, cU, aW, cJ, bS, aF, aG, aK, dO, aP, aO, bD, aR, cB, aE, bZ, bT, bG, bB, aY, cX, aJ, bM, aU, aQ, aS, aA, dG, cN, bO, aN, cW, bU, bV, cI, bQ, bP, bL, cA, bJ, cC, bA, bK, bF, bE, cG, hd, oC o1 (off := 0) (by simp [Value.cells, gJ])]
  refine lE o2 rfl (by simp [one, Value.cells, gJ]) (by decide) fun w5 o2 x5 s5 => ?_
  refine sR o2 (by simp [gJ, Value.cells]) ⟨?_, x.new x5 (by omega)⟩
  have e : l.take k = l := PX (by omega)
  rw [e]
  rfl
theorem Ko (s : ByteArray) (i n : Nat) (h1 : 1 <= n) (h8 : n <= 8) (hn : i + n <= s.size) (w : Q6) :
 fK pg tC #[.string s, .int .i64 (i : Int), .int .i64 (n : Int)] w (fun v w' => v = .int .u64 (oJ (((FW s).drop i).take n)) /\ fU w w' kY) := by
 refine HM ?_
 simp (disch := omega) only [Jt, CF, dQ, fE, cQ, stepR_skip, eE, eS, eI, eP, eX, fB, fF, eN, dL, eL, eQ, eZ, eC, eF, eJ, eH, eD, fA, eU, eB, dR, eM, eY, eA, fY, gC, gB, fZ, fV, fX, gA, fW, gD, dH, Result.ok.injEq, Next.value.injEq, true_and, and_true, dZ, dY, eT, fC, eK, fG, PJ, dS, dT, dU, dV, dN, dK, dP, dM, dI, cY, if_true, if_false, PG, PM, PH, PI, PL, PK, PF, PE, cR, cO, cH, bY, cV, dJ, bW, bX, cS, cK, cL, dE, cP, dD, dC, dW, cZ, cF, bH, bR, aT, aC, aL, dF, aI, cD, dB, dA, bN, aH, bC, aZ, cM, aD, aX, aM, aV, cU, aW, cJ, bS, aF, aG, aK, dO, aP, aO, bD, aR, cB, aE, bZ, bT, bG, bB, aY, cX, aJ, bM, aU, aQ, aS, aA, dG, cN, bO, aN, cW, bU, bV, cI, bQ, bP, bL, cA, bJ, cC, bA, bK, bF, bE, cG]
 have hsz : (s.extract i s.size).size = s.size - i := De _ _ _ (PY _)
 refine (L7 _ n h1 h8 (by omega) w).mono ?_
 rintro v w1 ⟨rfl, x1⟩
 simp (disch := omega) only [dQ, fE, cQ, stepR_skip, eE, eS, eI, eP, eX, fB, fF, eN, dL, eL, eQ, eZ, eC, eF, eJ, eH, eD, fA, eU, eB, dR, eM, eY, eA, fY, gC, gB, fZ, fV, fX, gA, fW, gD, dH, Result.ok.injEq, Next.value.injEq, true_and, and_true, dZ, dY, eT, fC, eK, fG, PJ, dS, dT, dU, dV, dN, dK, dP, dM, dI, cY, if_true, if_false, PG, PM, PH, PI, PL, PK, PF, PE, cR, cO, cH, bY, cV, dJ, bW, bX, cS, cK, cL, dE, cP, dD, dC, dW, cZ, cF, bH, bR, aT, aC, aL, dF, aI, cD, dB, dA, bN, aH, bC, aZ, cM, aD, aX, aM, aV, cU, aW, cJ, bS, aF, aG, aK, dO, aP, aO, bD, aR, cB, aE, bZ, bT, bG, bB, aY, cX, aJ, bM, aU, aQ, aS, aA, dG, cN, bO, aN, cW, bU, bV, cI, bQ, bP, bL, cA, bJ, cC, bA, bK, bF, bE, cG]
 refine oU fun w2 o2 x2 s2 => ?_
 refine lE o2 rfl (by simp [one]) (by decide) fun w3 o3 x3 s3 => ?_
 refine ⟨?_, (x1.seq x2).new x3 x1.size⟩
 rw [Cy]
 congr 2
 rw [List.take_take]
 congr 1
 omega
def NO : List Int := [IntKind.u64.wrap (11400714785074694791 + 14029467366897019727), 14029467366897019727, 0, IntKind.u64.wrap (0 - 11400714785074694791)]
def AS (vs : List Int) (s : List UInt8) (i : Nat) : List Int := vs.mapIdx fun j v => if j < i then Jk v (oJ ((s.drop (8 * j)).take 8)) else v
def AG : Nat -> List UInt8 -> List Int
 | 0, _ => NO
 | k + 1, L => AS (AG k L) ((L.drop (32 * k)).take 32) 4
theorem lQ (vs : List Int) (s : List UInt8) (i : Nat) : (AS vs s i).length = vs.length := by simp [AS]
theorem lR : ∀ k L, (AG k L).length = 4
 | 0, _ => rfl
 | k + 1, L => by rw [AG, lQ, lR k L]
theorem H9 (vs : List Int) (s : List UInt8) : AS vs s 0 = vs := by
 apply List.ext_getElem
 .simp [AS]
 .intro i h1 h2; simp [AS]
theorem Jr (vs : List Int) (s : List UInt8) (i : Nat) (h : i < vs.length) : (AS vs s i)[i]? = some vs[i] := by
 rw [PT (by rw [lQ]; exact h)]; simp [AS]
theorem JJ (vs : List Int) (s : List UInt8) (i : Nat) (h : i < vs.length) : (AS vs s i).set i (Jk vs[i] (oJ ((s.drop (8 * i)).take 8))) = AS vs s (i + 1) := by
 apply List.ext_getElem
 .simp [AS]
 .intro j h1 h2
  rw [List.getElem_set]
  simp only [AS, List.getElem_mapIdx]
  by_cases hij : i = j
  .subst hij; simp
  .simp only [hij, if_false]
   by_cases hj : j < i
   .rw [if_pos hj, if_pos (by omega)]
   .rw [if_neg hj, if_neg (by omega)]
theorem FR : ∀ k (L M : List UInt8), 32 * k <= L.length -> AG k (L ++ M) = AG k L
 | 0, _, _, _ => rfl
 | k + 1, L, M, h => by
   rw [AG, AG, FR k L M (by omega)]
   congr 1
   rw [List.drop_append_of_le_length (by omega), Qc (by rw [PU]; omega)]
def gK (vs : List Int) (kept : List UInt8) (n all : Nat) : List Q7 := vs.map (Value.int .u64) ++ (kept.map lU ++ [.int .i64 (n : Int), .int .u64 (all : Int)])
theorem kP {vs : List Int} {kept : List UInt8} {n all : Nat} (h1 : vs.length = 4) (h2 : kept.length = 32) : (gK vs kept n all).length = 38 := by
 simp [gK, h1, h2]
theorem F4 {vs : List Int} {kept : List UInt8} {n all : Nat} (i : Nat) (h : i < vs.length) : (gK vs kept n all)[i]? = some (.int .u64 vs[i]) := by
 unfold gK; rw [P3 (by simpa using h)]; simp [h]
theorem Cs {vs : List Int} {kept : List UInt8} {n all : Nat} (h1 : vs.length = 4) (i : Nat) (h : i < kept.length) : (gK vs kept n all)[4 + i]? = some (lU kept[i]) := by
 unfold gK
 rw [Ql (by simp [h1]), PQ, h1, QD, P3 (by simpa using h)]; simp [h]
theorem yQ {vs : List Int} {kept : List UInt8} {n all : Nat} (h1 : vs.length = 4) (h2 : kept.length = 32) : (gK vs kept n all)[36]? = some (.int .i64 (n : Int)) := by
 unfold gK
 rw [Ql (by simp [h1]), PQ, h1, Ql (by simp [h2]), PQ, h2] <;> rfl
theorem tZ {vs : List Int} {kept : List UInt8} {n all : Nat} (h1 : vs.length = 4) (h2 : kept.length = 32) : (gK vs kept n all)[37]? = some (.int .u64 (all : Int)) := by
 unfold gK
 rw [Ql (by simp [h1]), PQ, h1, Ql (by simp [h2]), PQ, h2] <;> rfl
theorem Gu {vs : List Int} {kept : List UInt8} {n all : Nat} (i : Nat) (x : Int) (h : i < vs.length) : (gK vs kept n all).set i (.int .u64 x) = gK (vs.set i x) kept n all := by
 unfold gK; rw [Q5 _ _ (by simpa using h), List.map_set]
theorem BR {vs : List Int} {kept : List UInt8} {n all : Nat} (h1 : vs.length = 4) (h2 : kept.length = 32) (m : Nat) : (gK vs kept n all).set 36 (.int .i64 (m : Int)) = gK vs kept m all := by
 unfold gK
 rw [Qh _ _ (by simp [h1]), PQ, h1, Qh _ _ (by simp [h2]), PQ, h2] <;> rfl
theorem EI {vs : List Int} {kept : List UInt8} {n all : Nat} (h1 : vs.length = 4) (h2 : kept.length = 32) (m : Nat) : (gK vs kept n all).set 37 (.int .u64 (m : Int)) = gK vs kept n m := by
 unfold gK
 rw [Qh _ _ (by simp [h1]), PQ, h1, Qh _ _ (by simp [h2]), PQ, h2] <;> rfl
def Bb (l : List UInt8) (o : Nat) (x : List UInt8) : List UInt8 := l.take o ++ x ++ l.drop (o + x.length)
theorem HV {l : List UInt8} {o : Nat} {x : List UInt8} (h : o + x.length <= l.length) : (Bb l o x).length = l.length := by
 simp [Bb]; omega
theorem Li {l : List UInt8} {o : Nat} {c : UInt8} {x : List UInt8} (h : o + (x.length + 1) <= l.length) : Bb (l.set o c) (o + 1) x = Bb l o (c :: x) := by
 unfold Bb
 rw [List.take_set, List.drop_set_of_lt (by omega)]
 have e : (l.take (o + 1)).set o c = l.take o ++ [c] := by
  rw [List.take_succ_eq_append_getElem (by omega), Qh _ _ (by simp; omega)]
  simp only [PR]
  rw [show o - min o l.length = 0 from by omega] <;> rfl
 rw [e]
 simp only [P1, List.singleton_append, P9, QM, QU]
 rw [show o + 1 + x.length = o + (x.length + 1) from by omega]
theorem Hs {vs : List Int} {n all : Nat} (h1 : vs.length = 4) : ∀ (x kept : List UInt8) (o : Nat), o + x.length <= kept.length →
 gJ (gK vs kept n all) (4 + o) (x.map lU) = gK vs (Bb kept o x) n all := by
 intro x
 induction x with
 | nil => intro kept o _; simp [gJ, Bb]
 | cons c x ih =>
   intro kept o h
   rw [P9] at h
   have e : (gK vs kept n all).set (4 + o) (lU c) = gK vs (kept.set o c) n all := by
    unfold gK
    rw [Qh _ _ (by simp [h1]), PQ, h1, QD, Q5 _ _ (by simp; omega), List.map_set]
   rw [QO, gJ, e, QN, ih _ _ (by simp; omega), Li (by omega)]
def KI (w : Q6) (b : Nat) (L : List UInt8) (all : Nat) : Prop :=
 ∃ kept, kept.length = 32 /\ kept.take (L.length % 32) = L.drop (32 * (L.length / 32)) /\ iE w b (gK (AG (L.length / 32) L) kept (L.length % 32) all)
abbrev Fe (w : Q6) (b : Nat) (L : List UInt8) : Prop := KI w b L L.length
theorem M6 (w : Q6) : fK pg CV #[] w (fun v w' => v = .pointer (some ⟨w.heap.size, 0, none⟩) /\ Fe w' w.heap.size [] /\ fU w w' kY) := by
 refine Iu ?_
 simp (disch := omega) only [KK, DE, dQ, fE, cQ, stepR_skip, eE, eS, eI, eP, eX, fB, fF, eN, dL, eL, eQ, eZ, eC, eF, eJ, eH, eD, fA, eU, eB, dR, eM, eY, eA, fY, gC, gB, fZ, fV, fX, gA, fW, gD, dH, Result.ok.injEq, Next.value.injEq, true_and, and_true, dZ, dY, eT, fC, eK, fG, PJ, dS, dT, dU, dV, dN, dK, dP, dM, dI, cY, if_true, if_false, PG, PM, PH, PI, PL, PK, PF, PE, cR, cO, cH, bY, cV, dJ, bW, bX, cS, cK, cL, dE, cP, dD, dC, dW, cZ, cF, bH, bR, aT, aC, aL, dF, aI, cD, dB, dA, bN, aH, bC, aZ, cM, aD, aX, aM, aV, cU, aW, cJ, bS, aF, aG, aK, dO, aP, aO, bD, aR, cB, aE, bZ, bT, bG, bB, aY, cX, aJ, bM, aU, aQ, aS, aA, dG, cN, bO, aN, cW, bU, bV, cI, bQ, bP, bL, cA, bJ, cC, bA, bK, bF, bE, cG]
 refine CQ fun w1 o1 x1 s1 => ⟨rfl, ⟨List.replicate 32 0, rfl, rfl, ?_⟩, x1⟩
 exact o1
theorem AF {w : Q6} {b : Nat} {cs : List Q7} (h : iE w b cs) : iE (dr w) b cs := h.ext (fU.dr w kY) (fun h => h)
theorem ID (w0 : Q6) (b : Nat) (vs : List Int) (kept : List UInt8) (all : Nat) (h1 : vs.length = 4) (h2 : kept.length = 32) (v : Q7) (R : Q7 -> Q7 -> Q6 -> Prop)
 (hR : ∀ w', iE w' b (gK (AS vs kept 4) kept 32 all) -> fU w0 w' (fun x => x = b) -> R (.pointer (some ⟨b, 0, none⟩)) v w') (w : Q6) (ho : iE w b (gK vs kept 32 all)) (hx : fU w0 w (fun x => x = b)) :
 oE R (.pointer (some ⟨b, 0, none⟩)) v w := by
 simp (disch := omega) only [oE, rS, sJ, rR]
 refine iG.rule (fun n t w' => ∃ i : Nat, i <= 4 /\ n = 4 - i /\ t = .int .i64 (i : Int) /\ iE w' b (gK (AS vs kept i) kept 32 all) /\ fU w0 w' (fun x => x = b)) 4
  ⟨0, by omega, rfl, rfl, by rw [H9]; exact ho, hx⟩ ?_
 rintro n t w' ⟨i, hi, rfl, rfl, ho, hx⟩
 by_cases hlt : i < 4
 .have hd : decide ((i : Int) < 4) = true := by simp; omega
  have hod := AF ho
  have hv := Jr vs kept i (by omega)
  have hc : (gK (AS vs kept i) kept 32 all)[i]? = some (.int .u64 vs[i]) := by
   rw [F4 i (by rw [lQ]; omega)]
   rw [PT (by rw [lQ]; omega)] at hv
   rw [Qj hv]
  have t1 : (8 * (i : Int)).toNat = 8 * i := by omega
  have t2 : (8 * (i : Int) + 8).toNat = 8 * i + 8 := by omega
  simp (disch := omega) only [lM, dQ, fE, cQ, stepR_skip, eE, eS, eI, eP, eX, fB, fF, eN, dL, eL, eQ, eZ, eC, eF, eJ, eH, eD, fA, eU, eB, dR, eM, eY, eA, fY, gC, gB, fZ, fV, fX, gA, fW, gD, dH, Result.ok.injEq, Next.value.injEq, true_and, and_true, dZ, dY, eT, fC, eK, fG, PJ, dS, dT, dU, dV, dN, dK, dP, dM, dI, cY, if_true, if_false, PG, PM, PH, PI, PL, PK, PF, PE, cR, cO, cH, bY, cV, dJ, bW, bX, cS, cK, cL, dE, cP, dD, dC, dW, cZ, cF, bH, bR, aT, aC, aL, dF, aI, cD, dB, dA, bN, aH, bC, aZ, cM, aD, aX, aM, aV, cU, aW, cJ, bS, aF, aG, aK, dO, aP, aO, bD, aR, cB, aE, bZ, bT, bG, bB, aY, cX, aJ, bM, aU, aQ, aS, aA, dG, cN, bO, aN, cW, bU, bV, cI, bQ, bP, bL, cA, bJ, cC, bA, bK, bF, bE, cG, hd, hod.cell, hc, t1, t2, DD (show 8 * i ≠ 32 by omega)]
  have hs : ((kept.drop (8 * i)).take 8).length = 8 := by rw [PR, PU]; omega
  have hbs : Bs (dr w') (.slice (some ⟨b, 4 + 8 * i, none⟩) (8 * i + 8 - 8 * i) (32 - 8 * i)) ((kept.drop (8 * i)).take 8) := by
   rw [show 8 * i + 8 - 8 * i = ((kept.drop (8 * i)).take 8).length from by omega]
   refine hod.bs (by omega) fun j hj => ?_
   rw [QN, Cs (by rw [lQ]; exact h1) (8 * i + j) (by omega)]
   simp
  refine (DH _ _ _ hbs (by omega)).mono ?_
  rintro r w1 ⟨rfl, rfl⟩
  simp (disch := omega) only [dQ, fE, cQ, stepR_skip, eE, eS, eI, eP, eX, fB, fF, eN, dL, eL, eQ, eZ, eC, eF, eJ, eH, eD, fA, eU, eB, dR, eM, eY, eA, fY, gC, gB, fZ, fV, fX, gA, fW, gD, dH, Result.ok.injEq, Next.value.injEq, true_and, and_true, dZ, dY, eT, fC, eK, fG, PJ, dS, dT, dU, dV, dN, dK, dP, dM, dI, cY, if_true, if_false, PG, PM, PH, PI, PL, PK, PF, PE, cR, cO, cH, bY, cV, dJ, bW, bX, cS, cK, cL, dE, cP, dD, dC, dW, cZ, cF, bH, bR, aT, aC, aL, dF, aI, cD, dB, dA, bN, aH, bC, aZ, cM, aD, aX, aM, aV, cU, aW, cJ, bS, aF, aG, aK, dO, aP, aO, bD, aR, cB, aE, bZ, bT, bG, bB, aY, cX, aJ, bM, aU, aQ, aS, aA, dG, cN, bO, aN, cW, bU, bV, cI, bQ, bP, bL, cA, bJ, cC, bA, bK, bF, bE, cG, hod.cell, hc]
  refine (Fz _ _ _).mono ?_
  rintro r w1 ⟨rfl, rfl⟩
  refine tJ hod rfl (by rw [kP (by rw [lQ]; exact h1) h2]; omega) fun w2 o2 x2 s2 => ?_
  rw [Gu i _ (by rw [lQ]; omega), JJ vs kept i (by omega)] at o2
  exact ⟨4 - (i + 1), by omega, i + 1, by omega, rfl, rfl, o2, (hx.seq (fU.dr _ _)).seq x2⟩
 .have : i = 4 := by omega
  subst this
  have hd : decide (((4 : Nat) : Int) < 4) = false := by simp
  simp (disch := omega) only [lM, dQ, fE, cQ, stepR_skip, eE, eS, eI, eP, eX, fB, fF, eN, dL, eL, eQ, eZ, eC, eF, eJ, eH, eD, fA, eU, eB, dR, eM, eY, eA, fY, gC, gB, fZ, fV, fX, gA, fW, gD, dH, Result.ok.injEq, Next.value.injEq, true_and, and_true, dZ, dY, eT, fC, eK, fG, PJ, dS, dT, dU, dV, dN, dK, dP, dM, dI, cY, if_true, if_false, PG, PM, PH, PI, PL, PK, PF, PE, cR, cO, cH, bY, cV, dJ, bW, bX, cS, cK, cL, dE, cP, dD, dC, dW, cZ, cF, bH, bR, aT, aC, aL, dF, aI, cD, dB, dA, bN, aH, bC, aZ, cM, aD, aX, aM, aV, cU, aW, cJ, bS, aF, aG, aK, dO, aP, aO, bD, aR, cB, aE, bZ, bT, bG, bB, aY, cX, aJ, bM, aU, aQ, aS, aA, dG, cN, bO, aN, cW, bU, bV, cI, bQ, bP, bL, cA, bJ, cC, bA, bK, bF, bE, cG, hd]
  exact hR _ ho hx
theorem IE (w0 : Q6) (b : Nat) (L l : List UInt8) (_hlen : L.length + l.length <= 1099511627776) (R : Q6 -> Prop)
 (hR : ∀ w', KI w' b (L ++ l) (L.length + l.length) -> fU w0 w' (fun x => x = b) -> R w') (v : Q7) (w : Q6)
 (h : KI w b L (L.length + l.length)) (hv : Bs w v l) (hb : ¬ FY v (fun x => x = b)) (hx : fU w0 w (fun x => x = b)) :
 mY R (.pointer (some ⟨b, 0, none⟩)) v w := by
 unfold mY
 refine iG.rule (fun n t w' => ∃ m : Nat, m <= l.length /\ n = l.length - m /\ Bs w' t (l.drop m) /\ ¬ FY t (fun x => x = b) /\ KI w' b (L ++ l.take m) (L.length + l.length) /\ fU w0 w' (fun x => x = b)) l.length
  ⟨0, by omega, rfl, hv, hb, by simpa using h, hx⟩ ?_
 rintro n t w' ⟨m, hm, rfl, hv, hb, ⟨kept, h2, hk, ho⟩, hx⟩
 have hv' := hv
 obtain ⟨a, n, c, rfl, hn, hc, hcell⟩ := hv'
 rw [PQ, PU] at hn
 by_cases hlt : m < l.length
 .obtain ⟨b', o', rfl, hcell'⟩ := hcell (by omega)
  have hd : decide ((0 : Int) < (n : Int)) = true := by simp; omega
  have hM : (L ++ l.take m).length = L.length + m := by simp; omega
  rw [hM] at hk ho
  obtain ⟨q, hq⟩ : ∃ q, q = (L.length + m) / 32 := ⟨_, rfl⟩
  obtain ⟨r, hr⟩ : ∃ r, r = (L.length + m) % 32 := ⟨_, rfl⟩
  rw [<- hq, <- hr] at hk ho
  have hqr : L.length + m = 32 * q + r /\ r < 32 := by omega
  have h1 : (AG q (L ++ l.take m)).length = 4 := lR _ _
  have hod := AF ho
  have t1 : (r : Int).toNat = r := by omega
  simp (disch := omega) only [jX, kW, kX, mS, kT, lS, lP, oI, kI, dQ, fE, cQ, stepR_skip, eE, eS, eI, eP, eX, fB, fF, eN, dL, eL, eQ, eZ, eC, eF, eJ, eH, eD, fA, eU, eB, dR, eM, eY, eA, fY, gC, gB, fZ, fV, fX, gA, fW, gD, dH, Result.ok.injEq, Next.value.injEq, true_and, and_true, dZ, dY, eT, fC, eK, fG, PJ, dS, dT, dU, dV, dN, dK, dP, dM, dI, cY, if_true, if_false, PG, PM, PH, PI, PL, PK, PF, PE, cR, cO, cH, bY, cV, dJ, bW, bX, cS, cK, cL, dE, cP, dD, dC, dW, cZ, cF, bH, bR, aT, aC, aL, dF, aI, cD, dB, dA, bN, aH, bC, aZ, cM, aD, aX, aM, aV, cU, aW, cJ, bS, aF, aG, aK, dO, aP, aO, bD, aR, cB, aE, bZ, bT, bG, bB, aY, cX, aJ, bM, aU, aQ, aS, aA, dG, cN, bO, aN, cW, bU, bV, cI, bQ, bP, bL, cA, bJ, cC, bA, bK, bF, bE, cG, hd, hod.cell, yQ h1 h2, DD (show r ≠ 32 by omega)]
  have hvd : Bs (dr w') (.slice (some ⟨b', o', none⟩) n c) (l.drop m) := hv.ext (fU.dr w' kY) (by unfold FY kY; split <;> simp)
  refine CJ hod (by rw [kP h1 h2]; omega) hvd (JN _) fun w1 o1 x1 s1 => ?_
  obtain ⟨u, hu⟩ : ∃ u, u = min n (32 - r) := ⟨_, rfl⟩
  have hlm : (List.map lU (l.drop m)).length = n := by rw [PQ, PU, hn]
  rw [hlm] at o1 ⊢
  rw [<- hu] at o1 ⊢
  have hu1 : u <= n /\ u <= 32 - r /\ (u = n ∨ u = 32 - r) := by omega
  have hul : ((l.drop m).take u).length = u := by rw [PR, PU]; omega
  rw [<- QP, Hs h1 _ _ _ (by omega)] at o1
  obtain ⟨kept1, hk1⟩ : ∃ x, x = Bb kept r ((l.drop m).take u) := ⟨_, rfl⟩
  rw [<- hk1] at o1
  have h21 : kept1.length = 32 := by rw [hk1, HV (by omega)]; exact h2
  simp (disch := omega) only [dQ, fE, cQ, stepR_skip, eE, eS, eI, eP, eX, fB, fF, eN, dL, eL, eQ, eZ, eC, eF, eJ, eH, eD, fA, eU, eB, dR, eM, eY, eA, fY, gC, gB, fZ, fV, fX, gA, fW, gD, dH, Result.ok.injEq, Next.value.injEq, true_and, and_true, dZ, dY, eT, fC, eK, fG, PJ, dS, dT, dU, dV, dN, dK, dP, dM, dI, cY, if_true, if_false, PG, PM, PH, PI, PL, PK, PF, PE, cR, cO, cH, bY, cV, dJ, bW, bX, cS, cK, cL, dE, cP, dD, dC, dW, cZ, cF, bH, bR, aT, aC, aL, dF, aI, cD, dB, dA, bN, aH, bC, aZ, cM, aD, aX, aM, aV, cU, aW, cJ, bS, aF, aG, aK, dO, aP, aO, bD, aR, cB, aE, bZ, bT, bG, bB, aY, cX, aJ, bM, aU, aQ, aS, aA, dG, cN, bO, aN, cW, bU, bV, cI, bQ, bP, bL, cA, bJ, cC, bA, bK, bF, bE, cG, o1.cell, yQ h1 h21]
  refine Iq o1 rfl (by rw [kP h1 h21]; omega) fun w2 o2 x2 s2 => ?_
  rw [<- Int.natCast_add, BR h1 h21] at o2
  have hx2 : fU w' w2 (fun x => x = b) := ((fU.dr w' _).seq x1).seq x2
  have hv2 := hv.ext hx2 hb
  have hv3 := hv2.drop hu1.1
  have hb3 := Lp (k := u) hb (by omega) (n - u)
  rw [<- QQ, Qr] at hv3
  have hM2 : L ++ l.take (m + u) = (L ++ l.take m) ++ (l.drop m).take u := by rw [P1, List.take_add]
  have hacc : AG q (L ++ l.take (m + u)) = AG q (L ++ l.take m) := by rw [hM2]; exact FR _ _ _ (by omega)
  have hlen2 : (L ++ l.take (m + u)).length = L.length + (m + u) := by simp; omega
  have hkeep : kept1.take (r + u) = (L ++ l.take (m + u)).drop (32 * q) := by
   rw [hk1, hM2, List.drop_append_of_le_length (by omega), <- hk]
   unfold Bb
   rw [Qc (by simp; omega), PX (by simp; omega)]
  rw [<- hacc] at o2
  simp (disch := omega) only [dQ, fE, cQ, stepR_skip, eE, eS, eI, eP, eX, fB, fF, eN, dL, eL, eQ, eZ, eC, eF, eJ, eH, eD, fA, eU, eB, dR, eM, eY, eA, fY, gC, gB, fZ, fV, fX, gA, fW, gD, dH, Result.ok.injEq, Next.value.injEq, true_and, and_true, dZ, dY, eT, fC, eK, fG, PJ, dS, dT, dU, dV, dN, dK, dP, dM, dI, cY, if_true, if_false, PG, PM, PH, PI, PL, PK, PF, PE, cR, cO, cH, bY, cV, dJ, bW, bX, cS, cK, cL, dE, cP, dD, dC, dW, cZ, cF, bH, bR, aT, aC, aL, dF, aI, cD, dB, dA, bN, aH, bC, aZ, cM, aD, aX, aM, aV, cU, aW, cJ, bS, aF, aG, aK, dO, aP, aO, bD, aR, cB, aE, bZ, bT, bG, bB, aY, cX, aJ, bM, aU, aQ, aS, aA, dG, cN, bO, aN, cW, bU, bV, cI, bQ, bP, bL, cA, bJ, cC, bA, bK, bF, bE, cG, o2.cell, yQ (lR _ _) h21]
  by_cases hfull : r + u = 32
  .have he : (((r + u : Nat) : Int) == 32) = true := by rw [hfull] <;> rfl
   rw [he]
   simp (disch := omega) only [dQ, fE, cQ, stepR_skip, eE, eS, eI, eP, eX, fB, fF, eN, dL, eL, eQ, eZ, eC, eF, eJ, eH, eD, fA, eU, eB, dR, eM, eY, eA, fY, gC, gB, fZ, fV, fX, gA, fW, gD, dH, Result.ok.injEq, Next.value.injEq, true_and, and_true, dZ, dY, eT, fC, eK, fG, PJ, dS, dT, dU, dV, dN, dK, dP, dM, dI, cY, if_true, if_false, PG, PM, PH, PI, PL, PK, PF, PE, cR, cO, cH, bY, cV, dJ, bW, bX, cS, cK, cL, dE, cP, dD, dC, dW, cZ, cF, bH, bR, aT, aC, aL, dF, aI, cD, dB, dA, bN, aH, bC, aZ, cM, aD, aX, aM, aV, cU, aW, cJ, bS, aF, aG, aK, dO, aP, aO, bD, aR, cB, aE, bZ, bT, bG, bB, aY, cX, aJ, bM, aU, aQ, aS, aA, dG, cN, bO, aN, cW, bU, bV, cI, bQ, bP, bL, cA, bJ, cC, bA, bK, bF, bE, cG]
   rw [hfull] at o2 hkeep
   have h11 := lR q (L ++ l.take (m + u))
   refine ID w2 b _ kept1 _ h11 h21 _ _ (fun w3 o3 x3 => ?_) w2 o2 (fU.refl _ _)
   have h13 : (AS (AG q (L ++ l.take (m + u))) kept1 4).length = 4 := by rw [lQ]; exact h11
   simp (disch := omega) only [jX, kW, kX, mS, kT, lS, lP, oI, kI, dQ, fE, cQ, stepR_skip, eE, eS, eI, eP, eX, fB, fF, eN, dL, eL, eQ, eZ, eC, eF, eJ, eH, eD, fA, eU, eB, dR, eM, eY, eA, fY, gC, gB, fZ, fV, fX, gA, fW, gD, dH, Result.ok.injEq, Next.value.injEq, true_and, and_true, dZ, dY, eT, fC, eK, fG, PJ, dS, dT, dU, dV, dN, dK, dP, dM, dI, cY, if_true, if_false, PG, PM, PH, PI, PL, PK, PF, PE, cR, cO, cH, bY, cV, dJ, bW, bX, cS, cK, cL, dE, cP, dD, dC, dW, cZ, cF, bH, bR, aT, aC, aL, dF, aI, cD, dB, dA, bN, aH, bC, aZ, cM, aD, aX, aM, aV, cU, aW, cJ, bS, aF, aG, aK, dO, aP, aO, bD, aR, cB, aE, bZ, bT, bG, bB, aY, cX, aJ, bM, aU, aQ, aS, aA, dG, cN, bO, aN, cW, bU, bV, cI, bQ, bP, bL, cA, bJ, cC, bA, bK, bF, bE, cG]
   refine Iq o3 rfl (by rw [kP h13 h21]; omega) fun w4 o4 x4 s4 => ?_
   have o4 : iE w4 b ((gK (AS (AG q (L ++ l.take (m + u))) kept1 4) kept1 32 (L.length + l.length)).set 36 (.int .i64 ((0 : Nat) : Int))) := o4
   rw [BR h13 h21] at o4
   have hx4 := x3.seq x4
   have hkk : kept1 = (L ++ l.take (m + u)).drop (32 * q) := by rw [<- hkeep, PX (by omega)]
   refine ⟨l.length - (m + u), by omega, m + u, by omega, rfl, hv3.ext hx4 hb3, hb3, ⟨kept1, h21, ?_, ?_⟩, (hx.seq hx2).seq hx4⟩
   .have z : (L ++ l.take (m + u)).drop (32 * ((L.length + (m + u)) / 32)) = [] := List.drop_eq_nil_of_le (by rw [hlen2]; omega)
    have z1 : (L.length + (m + u)) % 32 = 0 := by omega
    rw [hlen2, z, z1] <;> rfl
   .have z1 : (L.length + (m + u)) % 32 = 0 := by omega
    have z2 : (L.length + (m + u)) / 32 = q + 1 := by omega
    have z3 : kept1.take 32 = kept1 := PX (by omega)
    rw [hlen2, z1, z2, AG, <- hkk, z3]
    exact o4
  .have he : (((r + u : Nat) : Int) == 32) = false := by rw [beq_eq_false_iff_ne]; omega
   rw [he]
   simp (disch := omega) only [dQ, fE, cQ, stepR_skip, eE, eS, eI, eP, eX, fB, fF, eN, dL, eL, eQ, eZ, eC, eF, eJ, eH, eD, fA, eU, eB, dR, eM, eY, eA, fY, gC, gB, fZ, fV, fX, gA, fW, gD, dH, Result.ok.injEq, Next.value.injEq, true_and, and_true, dZ, dY, eT, fC, eK, fG, PJ, dS, dT, dU, dV, dN, dK, dP, dM, dI, cY, if_true, if_false, PG, PM, PH, PI, PL, PK, PF, PE, cR, cO, cH, bY, cV, dJ, bW, bX, cS, cK, cL, dE, cP, dD, dC, dW, cZ, cF, bH, bR, aT, aC, aL, dF, aI, cD, dB, dA, bN, aH, bC, aZ, cM, aD, aX, aM, aV, cU, aW, cJ, bS, aF, aG, aK, dO, aP, aO, bD, aR, cB, aE, bZ, bT, bG, bB, aY, cX, aJ, bM, aU, aQ, aS, aA, dG, cN, bO, aN, cW, bU, bV, cI, bQ, bP, bL, cA, bJ, cC, bA, bK, bF, bE, cG]
   refine ⟨l.length - (m + u), by omega, m + u, by omega, rfl, hv3, hb3, ⟨kept1, h21, ?_, ?_⟩, hx.seq hx2⟩
   .rw [hlen2, show (L.length + (m + u)) % 32 = r + u from by omega, show (L.length + (m + u)) / 32 = q from by omega]; exact hkeep
   .rw [hlen2, show (L.length + (m + u)) % 32 = r + u from by omega, show (L.length + (m + u)) / 32 = q from by omega]; exact o2
 .have hd : decide ((0 : Int) < (n : Int)) = false := by simp; omega
  simp (disch := omega) only [jX, kW, kX, mS, kT, lS, lP, oI, kI, dQ, fE, cQ, stepR_skip, eE, eS, eI, eP, eX, fB, fF, eN, dL, eL, eQ, eZ, eC, eF, eJ, eH, eD, fA, eU, eB, dR, eM, eY, eA, fY, gC, gB, fZ, fV, fX, gA, fW, gD, dH, Result.ok.injEq, Next.value.injEq, true_and, and_true, dZ, dY, eT, fC, eK, fG, PJ, dS, dT, dU, dV, dN, dK, dP, dM, dI, cY, if_true, if_false, PG, PM, PH, PI, PL, PK, PF, PE, cR, cO, cH, bY, cV, dJ, bW, bX, cS, cK, cL, dE, cP, dD, dC, dW, cZ, cF, bH, bR, aT, aC, aL, dF, aI, cD, dB, dA, bN, aH, bC, aZ, cM, aD, aX, aM, aV, cU, aW, cJ, bS, aF, aG, aK, dO, aP, aO, bD, aR, cB, aE, bZ, bT, bG, bB, aY, cX, aJ, bM, aU, aQ, aS, aA, dG, cN, bO, aN, cW, bU, bV, cI, bQ, bP, bL, cA, bJ, cC, bA, bK, bF, bE, cG, hd]
  refine hR _ ⟨kept, h2, ?_, ?_⟩ hx
  .have e : l.take m = l := PX (by omega)
   rw [e] at hk; exact hk
  .have e : l.take m = l := PX (by omega)
   rw [e] at ho; exact ho
theorem Lj (b : Nat) (L l : List UInt8) (hlen : L.length + l.length <= 1099511627776) (v : Q7) (w : Q6) (h : Fe w b L) (hv : Bs w v l) (hb : ¬ FY v (fun x => x = b)) :
 fK pg pK #[.pointer (some ⟨b, 0, none⟩), v] w (fun r w' => r = .tuple #[] /\ Fe w' b (L ++ l) /\ fU w w' (fun x => x = b)) := by
 refine C6 ?_
 obtain ⟨kept, h2, hk, ho⟩ := h
 have h1 := lR (L.length / 32) L
 have hv' := hv
 obtain ⟨a, n, c, rfl, hn, hc, hcell⟩ := hv'
 rw [PQ] at hn
 simp (disch := omega) only [CN, qR, qS, qX, dQ, fE, cQ, stepR_skip, eE, eS, eI, eP, eX, fB, fF, eN, dL, eL, eQ, eZ, eC, eF, eJ, eH, eD, fA, eU, eB, dR, eM, eY, eA, fY, gC, gB, fZ, fV, fX, gA, fW, gD, dH, Result.ok.injEq, Next.value.injEq, true_and, and_true, dZ, dY, eT, fC, eK, fG, PJ, dS, dT, dU, dV, dN, dK, dP, dM, dI, cY, if_true, if_false, PG, PM, PH, PI, PL, PK, PF, PE, cR, cO, cH, bY, cV, dJ, bW, bX, cS, cK, cL, dE, cP, dD, dC, dW, cZ, cF, bH, bR, aT, aC, aL, dF, aI, cD, dB, dA, bN, aH, bC, aZ, cM, aD, aX, aM, aV, cU, aW, cJ, bS, aF, aG, aK, dO, aP, aO, bD, aR, cB, aE, bZ, bT, bG, bB, aY, cX, aJ, bM, aU, aQ, aS, aA, dG, cN, bO, aN, cW, bU, bV, cI, bQ, bP, bL, cA, bJ, cC, bA, bK, bF, bE, cG, ho.cell, tZ h1 h2]
 refine tJ ho rfl (by rw [kP h1 h2]; omega) fun w1 o1 x1 s1 => ?_
 rw [<- Int.natCast_add, hn, EI h1 h2] at o1
 refine IE w b L l hlen _ (fun w' hh hx => ⟨?_, hx⟩) _ w1 ⟨kept, h2, hk, o1⟩ (hv.ext x1 hb) hb x1
 unfold Fe; rw [PN]; exact hh
theorem JM (n : Int) : 0 <= IntKind.u64.wrap n /\ IntKind.u64.wrap n <= 18446744073709551615 := by rw [Pf]; omega
theorem Km (x : Int) (k : Nat) : 0 <= As x k /\ As x k <= 18446744073709551615 := JM _
def jA (vs : List Int) : Nat -> Int
 | 0 => 0
 | i + 1 => IntKind.u64.wrap (jA vs i + As (vs.getD i 0) ([1, 7, 12, 18].getD i 0))
def jB (vs : List Int) : Nat -> Int
 | 0 => jA vs 4
 | i + 1 => IntKind.u64.wrap (IntKind.u64.wrap (CK .u64 (jB vs i) (Jk 0 (vs.getD i 0)) * 11400714785074694791) + 9650029242287828579)
def Ha (L : List UInt8) : Int := if L.length < 32 then 2870177450012600261 else jB (AG (L.length / 32) L) 4
def JP (x : Int) : Int :=
 let y1 := IntKind.u64.wrap (CK .u64 x (x.fdiv (2 ^ min (33 : Int).toNat IntKind.u64.bits)) * 14029467366897019727)
 let y2 := IntKind.u64.wrap (CK .u64 y1 (y1.fdiv (2 ^ min (29 : Int).toNat IntKind.u64.bits)) * 1609587929392839161)
 CK .u64 y2 (y2.fdiv (2 ^ min (32 : Int).toNat IntKind.u64.bits))
def OW (x m : Int) : Int := IntKind.u64.wrap (IntKind.u64.wrap (As (CK .u64 x (Jk 0 m)) 27 * 11400714785074694791) + 9650029242287828579)
def Mx (x m : Int) : Int := IntKind.u64.wrap (IntKind.u64.wrap (As (CK .u64 x (IntKind.u64.wrap (m * 11400714785074694791))) 23 * 14029467366897019727) + 1609587929392839161)
def OU (x : Int) (c : UInt8) : Int := IntKind.u64.wrap (As (CK .u64 x (IntKind.u64.wrap ((c.toNat : Int) * 2870177450012600261))) 11 * 11400714785074694791)
def e8 (x : Int) (B : List UInt8) : Nat -> Int
 | 0 => x
 | j + 1 => OW (e8 x B j) (oJ ((B.drop (8 * j)).take 8))
def e1 (x : Int) (B : List UInt8) : Nat -> Int
 | 0 => x
 | j + 1 => OU (e1 x B j) (B.getD j 0)
def xH (x : Int) (C : List UInt8) : Int × List UInt8 := if 4 <= C.length then (Mx x (oJ (C.take 4)), C.drop 4) else (x, C)
def IU (x : Int) (B : List UInt8) : Int :=
 let r := xH (e8 x B (B.length / 8)) (B.drop (8 * (B.length / 8)))
 e1 r.1 r.2 r.2.length
def ML (L : List UInt8) : Int := JP (IU (IntKind.u64.wrap (Ha L + (L.length : Int))) (L.drop (32 * (L.length / 32))))
theorem Ke (b : Nat) (L : List UInt8) (hlen : L.length <= 1099511627776) (w : Q6) (h : Fe w b L) :
 fK pg oH #[.pointer (some ⟨b, 0, none⟩)] w (fun r w' => r = .int .u64 (Ha L) /\ w' = w) := by
 refine Cn ?_
 obtain ⟨kept, h2, hk, ho⟩ := h
 have h1 := lR (L.length / 32) L
 by_cases hs : L.length < 32
 .have hd : decide ((L.length : Int) < 32) = true := by simp; omega
  simp (disch := omega) only [uU, mA, lZ, dQ, fE, cQ, stepR_skip, eE, eS, eI, eP, eX, fB, fF, eN, dL, eL, eQ, eZ, eC, eF, eJ, eH, eD, fA, eU, eB, dR, eM, eY, eA, fY, gC, gB, fZ, fV, fX, gA, fW, gD, dH, Result.ok.injEq, Next.value.injEq, true_and, and_true, dZ, dY, eT, fC, eK, fG, PJ, dS, dT, dU, dV, dN, dK, dP, dM, dI, cY, if_true, if_false, PG, PM, PH, PI, PL, PK, PF, PE, cR, cO, cH, bY, cV, dJ, bW, bX, cS, cK, cL, dE, cP, dD, dC, dW, cZ, cF, bH, bR, aT, aC, aL, dF, aI, cD, dB, dA, bN, aH, bC, aZ, cM, aD, aX, aM, aV, cU, aW, cJ, bS, aF, aG, aK, dO, aP, aO, bD, aR, cB, aE, bZ, bT, bG, bB, aY, cX, aJ, bM, aU, aQ, aS, aA, dG, cN, bO, aN, cW, bU, bV, cI, bQ, bP, bL, cA, bJ, cC, bA, bK, bF, bE, cG, ho.cell, tZ h1 h2, hd, Ha, hs]
 .have hd : decide ((L.length : Int) < 32) = false := by simp; omega
  obtain ⟨vs, hvs⟩ : ∃ vs, vs = AG (L.length / 32) L := ⟨_, rfl⟩
  have hH : Ha L = jB vs 4 := by rw [hvs]; unfold Ha; rw [if_neg hs]
  rw [hH]
  rw [<- hvs] at ho h1
  clear hvs hH
  simp (disch := omega) only [uU, nA, qY, qZ, rA, qQ, qV, qT, pM, pN, pR, pQ, lZ, mA, dQ, fE, cQ, stepR_skip, eE, eS, eI, eP, eX, fB, fF, eN, dL, eL, eQ, eZ, eC, eF, eJ, eH, eD, fA, eU, eB, dR, eM, eY, eA, fY, gC, gB, fZ, fV, fX, gA, fW, gD, dH, Result.ok.injEq, Next.value.injEq, true_and, and_true, dZ, dY, eT, fC, eK, fG, PJ, dS, dT, dU, dV, dN, dK, dP, dM, dI, cY, if_true, if_false, PG, PM, PH, PI, PL, PK, PF, PE, cR, cO, cH, bY, cV, dJ, bW, bX, cS, cK, cL, dE, cP, dD, dC, dW, cZ, cF, bH, bR, aT, aC, aL, dF, aI, cD, dB, dA, bN, aH, bC, aZ, cM, aD, aX, aM, aV, cU, aW, cJ, bS, aF, aG, aK, dO, aP, aO, bD, aR, cB, aE, bZ, bT, bG, bB, aY, cX, aJ, bM, aU, aQ, aS, aA, dG, cN, bO, aN, cW, bU, bV, cI, bQ, bP, bL, cA, bJ, cC, bA, bK, bF, bE, cG, ho.cell, tZ h1 h2, hd]
  refine iG.rule (fun n t w' => ∃ i : Nat, i <= 4 /\ n = 4 - i /\ t = (.int .u64 (jA vs i), .int .i64 (i : Int)) /\ w' = w) 4 ⟨0, by omega, rfl, rfl, rfl⟩ ?_
  rintro n t w' ⟨i, hi, rfl, rfl, rfl⟩
  by_cases hlt : i < 4
  .have hd : decide ((i : Int) < 4) = true := by simp; omega
   have hv := F4 (vs := vs) (kept := kept) (n := L.length % 32) (all := L.length) i (by omega)
   have hg : (#[Value.int .i64 1, .int .i64 7, .int .i64 12, .int .i64 18] : Array Q7)[i]? = some (.int .i64 (([1, 7, 12, 18].getD i 0 : Nat) : Int)) := by
    have : i = 0 ∨ i = 1 ∨ i = 2 ∨ i = 3 := by omega
    rcases this with rfl | rfl | rfl | rfl <;> rfl
   have ht : [1, 7, 12, 18].getD i 0 < 64 := by
    have : i = 0 ∨ i = 1 ∨ i = 2 ∨ i = 3 := by omega
    rcases this with rfl | rfl | rfl | rfl <;> decide
   simp (disch := omega) only [kS, dQ, fE, cQ, stepR_skip, eE, eS, eI, eP, eX, fB, fF, eN, dL, eL, eQ, eZ, eC, eF, eJ, eH, eD, fA, eU, eB, dR, eM, eY, eA, fY, gC, gB, fZ, fV, fX, gA, fW, gD, dH, Result.ok.injEq, Next.value.injEq, true_and, and_true, dZ, dY, eT, fC, eK, fG, PJ, dS, dT, dU, dV, dN, dK, dP, dM, dI, cY, if_true, if_false, PG, PM, PH, PI, PL, PK, PF, PE, cR, cO, cH, bY, cV, dJ, bW, bX, cS, cK, cL, dE, cP, dD, dC, dW, cZ, cF, bH, bR, aT, aC, aL, dF, aI, cD, dB, dA, bN, aH, bC, aZ, cM, aD, aX, aM, aV, cU, aW, cJ, bS, aF, aG, aK, dO, aP, aO, bD, aR, cB, aE, bZ, bT, bG, bB, aY, cX, aJ, bM, aU, aQ, aS, aA, dG, cN, bO, aN, cW, bU, bV, cI, bQ, bP, bL, cA, bJ, cC, bA, bK, bF, bE, cG, hd, hg, ho.cell, hv]
   refine (EH _ _ ht _).mono ?_
   rintro r w1 ⟨rfl, rfl⟩
   simp (disch := omega) only [dQ, fE, cQ, stepR_skip, eE, eS, eI, eP, eX, fB, fF, eN, dL, eL, eQ, eZ, eC, eF, eJ, eH, eD, fA, eU, eB, dR, eM, eY, eA, fY, gC, gB, fZ, fV, fX, gA, fW, gD, dH, Result.ok.injEq, Next.value.injEq, true_and, and_true, dZ, dY, eT, fC, eK, fG, PJ, dS, dT, dU, dV, dN, dK, dP, dM, dI, cY, if_true, if_false, PG, PM, PH, PI, PL, PK, PF, PE, cR, cO, cH, bY, cV, dJ, bW, bX, cS, cK, cL, dE, cP, dD, dC, dW, cZ, cF, bH, bR, aT, aC, aL, dF, aI, cD, dB, dA, bN, aH, bC, aZ, cM, aD, aX, aM, aV, cU, aW, cJ, bS, aF, aG, aK, dO, aP, aO, bD, aR, cB, aE, bZ, bT, bG, bB, aY, cX, aJ, bM, aU, aQ, aS, aA, dG, cN, bO, aN, cW, bU, bV, cI, bQ, bP, bL, cA, bJ, cC, bA, bK, bF, bE, cG]
   refine ⟨4 - (i + 1), by omega, i + 1, by omega, rfl, ?_⟩
   have hvd : vs.getD i 0 = vs[i]'(by omega) := by rw [P7, PT (by omega)] <;> rfl
   rw [jA, hvd]
   rfl
  .have : i = 4 := by omega
   subst this
   have hd : decide (((4 : Nat) : Int) < 4) = false := by simp
   have ha := Hy (off := 0) ho (by rw [kP h1 h2]; omega)
   have hb : ((gK vs kept (L.length % 32) L.length).drop 0).take 4 = vs.map (Value.int .u64) := by
    rw [P5]; unfold gK; rw [Qc (by simp; omega), PX (by simp; omega)]
   rw [hb] at ha
   simp (disch := omega) only [kS, dQ, fE, cQ, stepR_skip, eE, eS, eI, eP, eX, fB, fF, eN, dL, eL, eQ, eZ, eC, eF, eJ, eH, eD, fA, eU, eB, dR, eM, eY, eA, fY, gC, gB, fZ, fV, fX, gA, fW, gD, dH, Result.ok.injEq, Next.value.injEq, true_and, and_true, dZ, dY, eT, fC, eK, fG, PJ, dS, dT, dU, dV, dN, dK, dP, dM, dI, cY, if_true, if_false, PG, PM, PH, PI, PL, PK, PF, PE, cR, cO, cH, bY, cV, dJ, bW, bX, cS, cK, cL, dE, cP, dD, dC, dW, cZ, cF, bH, bR, aT, aC, aL, dF, aI, cD, dB, dA, bN, aH, bC, aZ, cM, aD, aX, aM, aV, cU, aW, cJ, bS, aF, aG, aK, dO, aP, aO, bD, aR, cB, aE, bZ, bT, bG, bB, aY, cX, aJ, bM, aU, aQ, aS, aA, dG, cN, bO, aN, cW, bU, bV, cI, bQ, bP, bL, cA, bJ, cC, bA, bK, bF, bE, cG, hd, ha]
   refine iG.rule (fun n t w2 => ∃ i : Nat, i <= 4 /\ n = 4 - i /\ t = (.int .u64 (jB vs i), .int .i64 (i : Int)) /\ w2 = w') 4 ⟨0, by omega, rfl, rfl, rfl⟩ ?_
   rintro n t w2 ⟨i, hi, rfl, rfl, rfl⟩
   by_cases hlt : i < 4
   .have hd : decide ((i : Int) < 4) = true := by simp; omega
    have hg : ((vs.map (Value.int .u64)).toArray)[i]? = some (.int .u64 (vs[i]'(by omega))) := by simp [show i < vs.length by omega]
    simp (disch := omega) only [kV, dQ, fE, cQ, stepR_skip, eE, eS, eI, eP, eX, fB, fF, eN, dL, eL, eQ, eZ, eC, eF, eJ, eH, eD, fA, eU, eB, dR, eM, eY, eA, fY, gC, gB, fZ, fV, fX, gA, fW, gD, dH, Result.ok.injEq, Next.value.injEq, true_and, and_true, dZ, dY, eT, fC, eK, fG, PJ, dS, dT, dU, dV, dN, dK, dP, dM, dI, cY, if_true, if_false, PG, PM, PH, PI, PL, PK, PF, PE, cR, cO, cH, bY, cV, dJ, bW, bX, cS, cK, cL, dE, cP, dD, dC, dW, cZ, cF, bH, bR, aT, aC, aL, dF, aI, cD, dB, dA, bN, aH, bC, aZ, cM, aD, aX, aM, aV, cU, aW, cJ, bS, aF, aG, aK, dO, aP, aO, bD, aR, cB, aE, bZ, bT, bG, bB, aY, cX, aJ, bM, aU, aQ, aS, aA, dG, cN, bO, aN, cW, bU, bV, cI, bQ, bP, bL, cA, bJ, cC, bA, bK, bF, bE, cG, hd, hg]
    refine (Fz _ _ _).mono ?_
    rintro r w1 ⟨rfl, rfl⟩
    simp (disch := omega) only [dQ, fE, cQ, stepR_skip, eE, eS, eI, eP, eX, fB, fF, eN, dL, eL, eQ, eZ, eC, eF, eJ, eH, eD, fA, eU, eB, dR, eM, eY, eA, fY, gC, gB, fZ, fV, fX, gA, fW, gD, dH, Result.ok.injEq, Next.value.injEq, true_and, and_true, dZ, dY, eT, fC, eK, fG, PJ, dS, dT, dU, dV, dN, dK, dP, dM, dI, cY, if_true, if_false, PG, PM, PH, PI, PL, PK, PF, PE, cR, cO, cH, bY, cV, dJ, bW, bX, cS, cK, cL, dE, cP, dD, dC, dW, cZ, cF, bH, bR, aT, aC, aL, dF, aI, cD, dB, dA, bN, aH, bC, aZ, cM, aD, aX, aM, aV, cU, aW, cJ, bS, aF, aG, aK, dO, aP, aO, bD, aR, cB, aE, bZ, bT, bG, bB, aY, cX, aJ, bM, aU, aQ, aS, aA, dG, cN, bO, aN, cW, bU, bV, cI, bQ, bP, bL, cA, bJ, cC, bA, bK, bF, bE, cG]
    refine ⟨4 - (i + 1), by omega, i + 1, by omega, rfl, ?_⟩
    have hvd : vs.getD i 0 = vs[i]'(by omega) := by rw [P7, PT (by omega)] <;> rfl
    rw [jB, hvd]
    rfl
   .have : i = 4 := by omega
    subst this
    have hd : decide (((4 : Nat) : Int) < 4) = false := by simp
    simp (disch := omega) only [kV, dQ, fE, cQ, stepR_skip, eE, eS, eI, eP, eX, fB, fF, eN, dL, eL, eQ, eZ, eC, eF, eJ, eH, eD, fA, eU, eB, dR, eM, eY, eA, fY, gC, gB, fZ, fV, fX, gA, fW, gD, dH, Result.ok.injEq, Next.value.injEq, true_and, and_true, dZ, dY, eT, fC, eK, fG, PJ, dS, dT, dU, dV, dN, dK, dP, dM, dI, cY, if_true, if_false, PG, PM, PH, PI, PL, PK, PF, PE, cR, cO, cH, bY, cV, dJ, bW, bX, cS, cK, cL, dE, cP, dD, dC, dW, cZ, cF, bH, bR, aT, aC, aL, dF, aI, cD, dB, dA, bN, aH, bC, aZ, cM, aD, aX, aM, aV, cU, aW, cJ, bS, aF, aG, aK, dO, aP, aO, bD, aR, cB, aE, bZ, bT, bG, bB, aY, cX, aJ, bM, aU, aQ, aS, aA, dG, cN, bO, aN, cW, bU, bV, cI, bQ, bP, bL, cA, bJ, cC, bA, bK, bF, bE, cG, hd]
theorem Jw (w : Q6) (R : Q7 -> Q6 -> Prop) (y : Int) (D : List UInt8) (v : Q7) (hv : Bs w v D) (hD : D.length < 32) (hR : R (.int .u64 (JP (e1 y D D.length))) w) :
 qD R (.int .u64 y) v w := by
 have hv' := hv
 obtain ⟨a, n, c, rfl, hn, hc, hcell⟩ := hv'
 rw [PQ] at hn
 simp (disch := omega) only [qD, vK, vQ, vO, vM, dQ, fE, cQ, stepR_skip, eE, eS, eI, eP, eX, fB, fF, eN, dL, eL, eQ, eZ, eC, eF, eJ, eH, eD, fA, eU, eB, dR, eM, eY, eA, fY, gC, gB, fZ, fV, fX, gA, fW, gD, dH, Result.ok.injEq, Next.value.injEq, true_and, and_true, dZ, dY, eT, fC, eK, fG, PJ, dS, dT, dU, dV, dN, dK, dP, dM, dI, cY, if_true, if_false, PG, PM, PH, PI, PL, PK, PF, PE, cR, cO, cH, bY, cV, dJ, bW, bX, cS, cK, cL, dE, cP, dD, dC, dW, cZ, cF, bH, bR, aT, aC, aL, dF, aI, cD, dB, dA, bN, aH, bC, aZ, cM, aD, aX, aM, aV, cU, aW, cJ, bS, aF, aG, aK, dO, aP, aO, bD, aR, cB, aE, bZ, bT, bG, bB, aY, cX, aJ, bM, aU, aQ, aS, aA, dG, cN, bO, aN, cW, bU, bV, cI, bQ, bP, bL, cA, bJ, cC, bA, bK, bF, bE, cG]
 refine iG.rule (fun m t w' => ∃ j : Nat, j <= n /\ m = n - j /\ t = (.int .u64 (e1 y D j), .int .i64 (j : Int)) /\ w' = w) n ⟨0, by omega, rfl, rfl, rfl⟩ ?_
 rintro m t w' ⟨j, hj, rfl, rfl, rfl⟩
 by_cases hlt : j < n
 .obtain ⟨b, off, rfl, hcell'⟩ := hcell (by omega)
  have hcl := hcell' j hlt
  rw [Qv, PT (by omega), Qe] at hcl
  have hb : (D[j]'(by omega)).toNat < 256 := Qq _
  have hd : decide ((j : Int) < (n : Int)) = true := by simpa using hlt
  simp (disch := omega) only [nE, dQ, fE, cQ, stepR_skip, eE, eS, eI, eP, eX, fB, fF, eN, dL, eL, eQ, eZ, eC, eF, eJ, eH, eD, fA, eU, eB, dR, eM, eY, eA, fY, gC, gB, fZ, fV, fX, gA, fW, gD, dH, Result.ok.injEq, Next.value.injEq, true_and, and_true, dZ, dY, eT, fC, eK, fG, PJ, dS, dT, dU, dV, dN, dK, dP, dM, dI, cY, if_true, if_false, PG, PM, PH, PI, PL, PK, PF, PE, cR, cO, cH, bY, cV, dJ, bW, bX, cS, cK, cL, dE, cP, dD, dC, dW, cZ, cF, bH, bR, aT, aC, aL, dF, aI, cD, dB, dA, bN, aH, bC, aZ, cM, aD, aX, aM, aV, cU, aW, cJ, bS, aF, aG, aK, dO, aP, aO, bD, aR, cB, aE, bZ, bT, bG, bB, aY, cX, aJ, bM, aU, aQ, aS, aA, dG, cN, bO, aN, cW, bU, bV, cI, bQ, bP, bL, cA, bJ, cC, bA, bK, bF, bE, cG, hd, hcl, lU]
  refine (EH _ 11 (by omega) _).mono ?_
  rintro r w1 ⟨rfl, rfl⟩
  simp (disch := omega) only [dQ, fE, cQ, stepR_skip, eE, eS, eI, eP, eX, fB, fF, eN, dL, eL, eQ, eZ, eC, eF, eJ, eH, eD, fA, eU, eB, dR, eM, eY, eA, fY, gC, gB, fZ, fV, fX, gA, fW, gD, dH, Result.ok.injEq, Next.value.injEq, true_and, and_true, dZ, dY, eT, fC, eK, fG, PJ, dS, dT, dU, dV, dN, dK, dP, dM, dI, cY, if_true, if_false, PG, PM, PH, PI, PL, PK, PF, PE, cR, cO, cH, bY, cV, dJ, bW, bX, cS, cK, cL, dE, cP, dD, dC, dW, cZ, cF, bH, bR, aT, aC, aL, dF, aI, cD, dB, dA, bN, aH, bC, aZ, cM, aD, aX, aM, aV, cU, aW, cJ, bS, aF, aG, aK, dO, aP, aO, bD, aR, cB, aE, bZ, bT, bG, bB, aY, cX, aJ, bM, aU, aQ, aS, aA, dG, cN, bO, aN, cW, bU, bV, cI, bQ, bP, bL, cA, bJ, cC, bA, bK, bF, bE, cG]
  refine ⟨n - (j + 1), by omega, j + 1, by omega, rfl, ?_⟩
  have hg : D.getD j 0 = D[j]'(by omega) := by rw [P7, PT (by omega)] <;> rfl
  rw [e1, hg]
  rfl
 .have hd : decide ((j : Int) < (n : Int)) = false := by simpa using hlt
  have : j = D.length := by omega
  subst this
  simp (disch := omega) only [nE, qG, dQ, fE, cQ, stepR_skip, eE, eS, eI, eP, eX, fB, fF, eN, dL, eL, eQ, eZ, eC, eF, eJ, eH, eD, fA, eU, eB, dR, eM, eY, eA, fY, gC, gB, fZ, fV, fX, gA, fW, gD, dH, Result.ok.injEq, Next.value.injEq, true_and, and_true, dZ, dY, eT, fC, eK, fG, PJ, dS, dT, dU, dV, dN, dK, dP, dM, dI, cY, if_true, if_false, PG, PM, PH, PI, PL, PK, PF, PE, cR, cO, cH, bY, cV, dJ, bW, bX, cS, cK, cL, dE, cP, dD, dC, dW, cZ, cF, bH, bR, aT, aC, aL, dF, aI, cD, dB, dA, bN, aH, bC, aZ, cM, aD, aX, aM, aV, cU, aW, cJ, bS, aF, aG, aK, dO, aP, aO, bD, aR, cB, aE, bZ, bT, bG, bB, aY, cX, aJ, bM, aU, aQ, aS, aA, dG, cN, bO, aN, cW, bU, bV, cI, bQ, bP, bL, cA, bJ, cC, bA, bK, bF, bE, cG, hd]
  exact hR
theorem LB (w : Q6) (R : Q7 -> Q6 -> Prop) (x : Int) (B : List UInt8) (v : Q7) (hv : Bs w v B) (hB : B.length < 32) (hR : R (.int .u64 (JP (IU x B))) w) :
 pH R (.int .u64 x) v w := by
 unfold pH tF tA
 refine iG.rule (fun n t w' => ∃ (j : Nat) (u : Q7), 8 * j <= B.length /\ n = B.length - j /\ t = (.int .u64 (e8 x B j), u) /\ Bs w u (B.drop (8 * j)) /\ w' = w) B.length ⟨0, v, by omega, rfl, rfl, hv, rfl⟩ ?_
 rintro n t w' ⟨j, u, hj, rfl, rfl, hu, rfl⟩
 have hu' := hu
 obtain ⟨a, n, c, rfl, hn, hc, hcell⟩ := hu'
 rw [PQ, PU] at hn
 by_cases h8 : 8 <= n
 .obtain ⟨b', o', rfl, _⟩ := hcell (by omega)
  have hd : decide ((8 : Int) <= (n : Int)) = true := by simp; omega
  have t8 : (8 : Int).toNat = 8 := rfl
  simp (disch := omega) only [mM, dQ, fE, cQ, stepR_skip, eE, eS, eI, eP, eX, fB, fF, eN, dL, eL, eQ, eZ, eC, eF, eJ, eH, eD, fA, eU, eB, dR, eM, eY, eA, fY, gC, gB, fZ, fV, fX, gA, fW, gD, dH, Result.ok.injEq, Next.value.injEq, true_and, and_true, dZ, dY, eT, fC, eK, fG, PJ, dS, dT, dU, dV, dN, dK, dP, dM, dI, cY, if_true, if_false, PG, PM, PH, PI, PL, PK, PF, PE, cR, cO, cH, bY, cV, dJ, bW, bX, cS, cK, cL, dE, cP, dD, dC, dW, cZ, cF, bH, bR, aT, aC, aL, dF, aI, cD, dB, dA, bN, aH, bC, aZ, cM, aD, aX, aM, aV, cU, aW, cJ, bS, aF, aG, aK, dO, aP, aO, bD, aR, cB, aE, bZ, bT, bG, bB, aY, cX, aJ, bM, aU, aQ, aS, aA, dG, cN, bO, aN, cW, bU, bV, cI, bQ, bP, bL, cA, bJ, cC, bA, bK, bF, bE, cG, hd, t8]
  have hs := hu.take h8
  rw [<- QP] at hs
  refine (DH _ _ _ hs (by rw [PR]; omega)).mono ?_
  rintro r w1 ⟨rfl, rfl⟩
  refine (Fz _ _ _).mono ?_
  rintro r w1 ⟨rfl, rfl⟩
  simp (disch := omega) only [dQ, fE, cQ, stepR_skip, eE, eS, eI, eP, eX, fB, fF, eN, dL, eL, eQ, eZ, eC, eF, eJ, eH, eD, fA, eU, eB, dR, eM, eY, eA, fY, gC, gB, fZ, fV, fX, gA, fW, gD, dH, Result.ok.injEq, Next.value.injEq, true_and, and_true, dZ, dY, eT, fC, eK, fG, PJ, dS, dT, dU, dV, dN, dK, dP, dM, dI, cY, if_true, if_false, PG, PM, PH, PI, PL, PK, PF, PE, cR, cO, cH, bY, cV, dJ, bW, bX, cS, cK, cL, dE, cP, dD, dC, dW, cZ, cF, bH, bR, aT, aC, aL, dF, aI, cD, dB, dA, bN, aH, bC, aZ, cM, aD, aX, aM, aV, cU, aW, cJ, bS, aF, aG, aK, dO, aP, aO, bD, aR, cB, aE, bZ, bT, bG, bB, aY, cX, aJ, bM, aU, aQ, aS, aA, dG, cN, bO, aN, cW, bU, bV, cI, bQ, bP, bL, cA, bJ, cC, bA, bK, bF, bE, cG]
  refine (EH _ 27 (by omega) _).mono ?_
  rintro r w1 ⟨rfl, rfl⟩
  simp (disch := omega) only [dQ, fE, cQ, stepR_skip, eE, eS, eI, eP, eX, fB, fF, eN, dL, eL, eQ, eZ, eC, eF, eJ, eH, eD, fA, eU, eB, dR, eM, eY, eA, fY, gC, gB, fZ, fV, fX, gA, fW, gD, dH, Result.ok.injEq, Next.value.injEq, true_and, and_true, dZ, dY, eT, fC, eK, fG, PJ, dS, dT, dU, dV, dN, dK, dP, dM, dI, cY, if_true, if_false, PG, PM, PH, PI, PL, PK, PF, PE, cR, cO, cH, bY, cV, dJ, bW, bX, cS, cK, cL, dE, cP, dD, dC, dW, cZ, cF, bH, bR, aT, aC, aL, dF, aI, cD, dB, dA, bN, aH, bC, aZ, cM, aD, aX, aM, aV, cU, aW, cJ, bS, aF, aG, aK, dO, aP, aO, bD, aR, cB, aE, bZ, bT, bG, bB, aY, cX, aJ, bM, aU, aQ, aS, aA, dG, cN, bO, aN, cW, bU, bV, cI, bQ, bP, bL, cA, bJ, cC, bA, bK, bF, bE, cG, t8]
  have hs2 := hu.drop h8
  rw [<- QQ, Qr] at hs2
  exact ⟨B.length - (j + 1), by omega, j + 1, _, by omega, rfl, rfl, by rw [Nat.mul_add]; exact hs2⟩
 .have hd : decide ((8 : Int) <= (n : Int)) = false := by simp; omega
  have hj8 : j = B.length / 8 := by omega
  obtain ⟨C, hC⟩ : ∃ C, C = B.drop (8 * j) := ⟨_, rfl⟩
  have hCl : C.length = n := by rw [hC, PU, hn]
  have htail : IU x B = (let r := xH (e8 x B j) C; e1 r.1 r.2 r.2.length) := by rw [hC, hj8] <;> rfl
  rw [htail] at hR
  rw [<- hC] at hu
  simp (disch := omega) only [mM, dQ, fE, cQ, stepR_skip, eE, eS, eI, eP, eX, fB, fF, eN, dL, eL, eQ, eZ, eC, eF, eJ, eH, eD, fA, eU, eB, dR, eM, eY, eA, fY, gC, gB, fZ, fV, fX, gA, fW, gD, dH, Result.ok.injEq, Next.value.injEq, true_and, and_true, dZ, dY, eT, fC, eK, fG, PJ, dS, dT, dU, dV, dN, dK, dP, dM, dI, cY, if_true, if_false, PG, PM, PH, PI, PL, PK, PF, PE, cR, cO, cH, bY, cV, dJ, bW, bX, cS, cK, cL, dE, cP, dD, dC, dW, cZ, cF, bH, bR, aT, aC, aL, dF, aI, cD, dB, dA, bN, aH, bC, aZ, cM, aD, aX, aM, aV, cU, aW, cJ, bS, aF, aG, aK, dO, aP, aO, bD, aR, cB, aE, bZ, bT, bG, bB, aY, cX, aJ, bM, aU, aQ, aS, aA, dG, cN, bO, aN, cW, bU, bV, cI, bQ, bP, bL, cA, bJ, cC, bA, bK, bF, bE, cG, hd]
  by_cases h4 : 4 <= n
  .obtain ⟨b', o', rfl, _⟩ := hcell (by omega)
   have hd : decide ((4 : Int) <= (n : Int)) = true := by simp; omega
   have t4 : (4 : Int).toNat = 4 := rfl
   have ha : xH (e8 x B j) C = (Mx (e8 x B j) (oJ (C.take 4)), C.drop 4) := by unfold xH; rw [if_pos (by omega)]
   rw [ha] at hR
   simp (disch := omega) only [qI, qJ, dQ, fE, cQ, stepR_skip, eE, eS, eI, eP, eX, fB, fF, eN, dL, eL, eQ, eZ, eC, eF, eJ, eH, eD, fA, eU, eB, dR, eM, eY, eA, fY, gC, gB, fZ, fV, fX, gA, fW, gD, dH, Result.ok.injEq, Next.value.injEq, true_and, and_true, dZ, dY, eT, fC, eK, fG, PJ, dS, dT, dU, dV, dN, dK, dP, dM, dI, cY, if_true, if_false, PG, PM, PH, PI, PL, PK, PF, PE, cR, cO, cH, bY, cV, dJ, bW, bX, cS, cK, cL, dE, cP, dD, dC, dW, cZ, cF, bH, bR, aT, aC, aL, dF, aI, cD, dB, dA, bN, aH, bC, aZ, cM, aD, aX, aM, aV, cU, aW, cJ, bS, aF, aG, aK, dO, aP, aO, bD, aR, cB, aE, bZ, bT, bG, bB, aY, cX, aJ, bM, aU, aQ, aS, aA, dG, cN, bO, aN, cW, bU, bV, cI, bQ, bP, bL, cA, bJ, cC, bA, bK, bF, bE, cG, hd, t4]
   have hs := hu.take h4
   rw [<- QP] at hs
   refine (DH _ _ _ hs (by rw [PR]; omega)).mono ?_
   rintro r w1 ⟨rfl, rfl⟩
   simp (disch := omega) only [dQ, fE, cQ, stepR_skip, eE, eS, eI, eP, eX, fB, fF, eN, dL, eL, eQ, eZ, eC, eF, eJ, eH, eD, fA, eU, eB, dR, eM, eY, eA, fY, gC, gB, fZ, fV, fX, gA, fW, gD, dH, Result.ok.injEq, Next.value.injEq, true_and, and_true, dZ, dY, eT, fC, eK, fG, PJ, dS, dT, dU, dV, dN, dK, dP, dM, dI, cY, if_true, if_false, PG, PM, PH, PI, PL, PK, PF, PE, cR, cO, cH, bY, cV, dJ, bW, bX, cS, cK, cL, dE, cP, dD, dC, dW, cZ, cF, bH, bR, aT, aC, aL, dF, aI, cD, dB, dA, bN, aH, bC, aZ, cM, aD, aX, aM, aV, cU, aW, cJ, bS, aF, aG, aK, dO, aP, aO, bD, aR, cB, aE, bZ, bT, bG, bB, aY, cX, aJ, bM, aU, aQ, aS, aA, dG, cN, bO, aN, cW, bU, bV, cI, bQ, bP, bL, cA, bJ, cC, bA, bK, bF, bE, cG]
   refine (EH _ 23 (by omega) _).mono ?_
   rintro r w1 ⟨rfl, rfl⟩
   simp (disch := omega) only [dQ, fE, cQ, stepR_skip, eE, eS, eI, eP, eX, fB, fF, eN, dL, eL, eQ, eZ, eC, eF, eJ, eH, eD, fA, eU, eB, dR, eM, eY, eA, fY, gC, gB, fZ, fV, fX, gA, fW, gD, dH, Result.ok.injEq, Next.value.injEq, true_and, and_true, dZ, dY, eT, fC, eK, fG, PJ, dS, dT, dU, dV, dN, dK, dP, dM, dI, cY, if_true, if_false, PG, PM, PH, PI, PL, PK, PF, PE, cR, cO, cH, bY, cV, dJ, bW, bX, cS, cK, cL, dE, cP, dD, dC, dW, cZ, cF, bH, bR, aT, aC, aL, dF, aI, cD, dB, dA, bN, aH, bC, aZ, cM, aD, aX, aM, aV, cU, aW, cJ, bS, aF, aG, aK, dO, aP, aO, bD, aR, cB, aE, bZ, bT, bG, bB, aY, cX, aJ, bM, aU, aQ, aS, aA, dG, cN, bO, aN, cW, bU, bV, cI, bQ, bP, bL, cA, bJ, cC, bA, bK, bF, bE, cG, t4]
   have hs2 := hu.drop h4
   rw [<- QQ] at hs2
   exact Jw _ _ _ _ _ hs2 (by rw [PU]; omega) hR
  .have hd : decide ((4 : Int) <= (n : Int)) = false := by simp; omega
   have ha : xH (e8 x B j) C = (e8 x B j, C) := by unfold xH; rw [if_neg (by omega)]
   rw [ha] at hR
   simp (disch := omega) only [qI, qJ, dQ, fE, cQ, stepR_skip, eE, eS, eI, eP, eX, fB, fF, eN, dL, eL, eQ, eZ, eC, eF, eJ, eH, eD, fA, eU, eB, dR, eM, eY, eA, fY, gC, gB, fZ, fV, fX, gA, fW, gD, dH, Result.ok.injEq, Next.value.injEq, true_and, and_true, dZ, dY, eT, fC, eK, fG, PJ, dS, dT, dU, dV, dN, dK, dP, dM, dI, cY, if_true, if_false, PG, PM, PH, PI, PL, PK, PF, PE, cR, cO, cH, bY, cV, dJ, bW, bX, cS, cK, cL, dE, cP, dD, dC, dW, cZ, cF, bH, bR, aT, aC, aL, dF, aI, cD, dB, dA, bN, aH, bC, aZ, cM, aD, aX, aM, aV, cU, aW, cJ, bS, aF, aG, aK, dO, aP, aO, bD, aR, cB, aE, bZ, bT, bG, bB, aY, cX, aJ, bM, aU, aQ, aS, aA, dG, cN, bO, aN, cW, bU, bV, cI, bQ, bP, bL, cA, bJ, cC, bA, bK, bF, bE, cG, hd]
   exact Jw _ _ _ _ _ hu (by omega) hR
theorem M1 (b : Nat) (L : List UInt8) (hlen : L.length <= 1099511627776) (w : Q6) (h : Fe w b L) :
 fK pg rU #[.pointer (some ⟨b, 0, none⟩)] w (fun r w' => r = .int .u64 (ML L) /\ fU w w' kY) := by
 refine EM ?_
 have h' := h
 obtain ⟨kept, h2, hk, ho⟩ := h'
 have h1 := lR (L.length / 32) L
 have hod := AF ho
 simp (disch := omega) only [D9, tL, tG, dQ, fE, cQ, stepR_skip, eE, eS, eI, eP, eX, fB, fF, eN, dL, eL, eQ, eZ, eC, eF, eJ, eH, eD, fA, eU, eB, dR, eM, eY, eA, fY, gC, gB, fZ, fV, fX, gA, fW, gD, dH, Result.ok.injEq, Next.value.injEq, true_and, and_true, dZ, dY, eT, fC, eK, fG, PJ, dS, dT, dU, dV, dN, dK, dP, dM, dI, cY, if_true, if_false, PG, PM, PH, PI, PL, PK, PF, PE, cR, cO, cH, bY, cV, dJ, bW, bX, cS, cK, cL, dE, cP, dD, dC, dW, cZ, cF, bH, bR, aT, aC, aL, dF, aI, cD, dB, dA, bN, aH, bC, aZ, cM, aD, aX, aM, aV, cU, aW, cJ, bS, aF, aG, aK, dO, aP, aO, bD, aR, cB, aE, bZ, bT, bG, bB, aY, cX, aJ, bM, aU, aQ, aS, aA, dG, cN, bO, aN, cW, bU, bV, cI, bQ, bP, bL, cA, bJ, cC, bA, bK, bF, bE, cG]
 refine (Ke b L hlen (dr w) ⟨kept, h2, hk, hod⟩).mono ?_
 rintro r w1 ⟨rfl, rfl⟩
 have hod2 := AF hod
 have hr : L.length % 32 < 32 := by omega
 have hbs : Bs (dr (dr w)) (.slice (some ⟨b, 4, none⟩) (L.length % 32 - 0) (32 - 0)) (L.drop (32 * (L.length / 32))) := by
  rw [<- hk]
  have e : (kept.take (L.length % 32)).length = L.length % 32 := by rw [PR]; omega
  rw [show L.length % 32 - 0 = (kept.take (L.length % 32)).length from by omega]
  refine hod2.bs (by omega) fun j hj => ?_
  rw [Cs h1 j (by omega)]
  simp
 have t0 : tK ⟨b, 4, none⟩ 32 0 1 = ⟨b, 4, none⟩ := by rw [DD (by omega)]
 simp (disch := omega) only [dQ, fE, cQ, stepR_skip, eE, eS, eI, eP, eX, fB, fF, eN, dL, eL, eQ, eZ, eC, eF, eJ, eH, eD, fA, eU, eB, dR, eM, eY, eA, fY, gC, gB, fZ, fV, fX, gA, fW, gD, dH, Result.ok.injEq, Next.value.injEq, true_and, and_true, dZ, dY, eT, fC, eK, fG, PJ, dS, dT, dU, dV, dN, dK, dP, dM, dI, cY, if_true, if_false, PG, PM, PH, PI, PL, PK, PF, PE, cR, cO, cH, bY, cV, dJ, bW, bX, cS, cK, cL, dE, cP, dD, dC, dW, cZ, cF, bH, bR, aT, aC, aL, dF, aI, cD, dB, dA, bN, aH, bC, aZ, cM, aD, aX, aM, aV, cU, aW, cJ, bS, aF, aG, aK, dO, aP, aO, bD, aR, cB, aE, bZ, bT, bG, bB, aY, cX, aJ, bM, aU, aQ, aS, aA, dG, cN, bO, aN, cW, bU, bV, cI, bQ, bP, bL, cA, bJ, cC, bA, bK, bF, bE, cG, hod.cell, hod2.cell, tZ h1 h2, yQ h1 h2, t0]
 refine LB _ _ _ _ _ hbs (by rw [PU]; omega) ⟨rfl, (fU.dr w _).seq (fU.dr _ _)⟩
theorem Of (L : List UInt8) (hlen : L.length <= 1099511627776) (v : Q7) (w : Q6) (hv : Bs w v L) :
 fK pg Ci #[v] w (fun r w' => r = .int .u64 (ML L) /\ fU w w' kY) := by
 refine IZ ?_
 simp (disch := omega) only [LN, Fb, dQ, fE, cQ, stepR_skip, eE, eS, eI, eP, eX, fB, fF, eN, dL, eL, eQ, eZ, eC, eF, eJ, eH, eD, fA, eU, eB, dR, eM, eY, eA, fY, gC, gB, fZ, fV, fX, gA, fW, gD, dH, Result.ok.injEq, Next.value.injEq, true_and, and_true, dZ, dY, eT, fC, eK, fG, PJ, dS, dT, dU, dV, dN, dK, dP, dM, dI, cY, if_true, if_false, PG, PM, PH, PI, PL, PK, PF, PE, cR, cO, cH, bY, cV, dJ, bW, bX, cS, cK, cL, dE, cP, dD, dC, dW, cZ, cF, bH, bR, aT, aC, aL, dF, aI, cD, dB, dA, bN, aH, bC, aZ, cM, aD, aX, aM, aV, cU, aW, cJ, bS, aF, aG, aK, dO, aP, aO, bD, aR, cB, aE, bZ, bT, bG, bB, aY, cX, aJ, bM, aU, aQ, aS, aA, dG, cN, bO, aN, cW, bU, bV, cI, bQ, bP, bL, cA, bJ, cC, bA, bK, bF, bE, cG]
 refine (M6 w).mono ?_
 rintro r w1 ⟨rfl, h1, x1⟩
 have hnb : ¬ FY v (fun x => x = w.heap.size) := by
  intro hb
  refine hv.old ?_
  unfold FY at *
  split at hb
  .omega
  .exact hb
 have hv1 := hv.ext x1 (by unfold FY kY; split <;> simp)
 refine (Lj _ [] L (by simpa using hlen) v w1 h1 hv1 hnb).mono ?_
 rintro r w2 ⟨rfl, h2, x2⟩
 refine (M1 _ L hlen w2 h2).mono ?_
 rintro r w3 ⟨rfl, x3⟩
 exact ⟨rfl, (x1.new x2 (PY _)).seq x3⟩
end Go.Proofs.YthohephggmkeeaaDoor

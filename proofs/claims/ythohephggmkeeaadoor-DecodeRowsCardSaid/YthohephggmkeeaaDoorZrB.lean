/- Parts of the proof of DecodeRows: merged and given short names by a program of ours. -/
import Derived.Laws.IdiomStrings
import Derived.Test.YthohephggmkeeaaDoorZrA
set_option linter.unusedVariables false
set_option linter.unusedSimpArgs false
open Array renaming length_toList → QZ, getElem?_eq_none → RD, getElem?_modify → Rt
open Bool renaming false_eq_true → Qm, not_false → Qq, not_true → Qr, and_eq_true → Qu, or_eq_false_iff → RI
open Int renaming fdiv_eq_ediv_of_nonneg → QT, toNat_natCast → Qp
open List renaming set_append_right → Q0, getElem?_append_right → Q8, cons_append → Q9, set_cons_zero → QB, set_cons_succ → QC, mem_cons_of_mem → QE, append_assoc → QF, getD_eq_getElem?_getD → QG, take_succ_cons → QI, length_replicate → QJ, length_cons → QK, take_of_length_le → QL, drop_zero → QN, getElem?_append_left → QO, take_zero → QP, getElem?_toArray → QW, length_eq_zero_iff → QY, getElem?_cons_zero → Qk, getElem?_cons_succ → Ql, length_append → Qt, getElem?_eq_getElem → Qv, length_map → Qw, length_drop → Qy, length_take → Qz, mem_map → RB, drop_of_length_le → RE, map_take → RG, drop_drop → Ra, getElem?_take_of_lt → Rc, nil_append → Rd, getElem?_map → Rg, take_append_of_le_length → Rh, mem_cons → Rk, map_cons → Rl, append_nil → Rn, map_drop → Rx, drop_eq_getElem_cons → Ry
open Nat renaming add_mul → Q6, le_refl → QD, mod_eq_of_lt → QV, zero_add → Qs, lt_of_lt_of_le → RA, mul_comm → RC, mul_le_mul_right → RK, pow_succ → RL, pow_le_pow_right → Re, and_two_pow_sub_one_eq_mod → Rf, mul_one → Ri, min_eq_left → Rj, div_div_eq_div_mul → Ro, lt_or_ge → Rp, add_assoc → Rw
open Option renaming map_some → QR, isNone_some → Qn, isNone_none → Qo
open Option.some renaming inj → Q1
open UInt8 renaming toNat_ofNat' → Q5, toNat_lt → Ru
namespace Go.En
open Go
def iL (w : RM) (b : Nat) (cs : List RN) : Prop :=
 ∃ T lo hi, w.heap[b]? = some (.cells cs.toArray T (lo, hi)) /\ (cs.length <= lo ∨ hi = lo)
structure fW (w w' : RM) (M : Nat -> Prop) : Prop where
 os : w'.os = w.os
 tape : w'.tape = w.tape
 output : w'.output = w.output
 size : w.heap.size <= w'.heap.size
 keep : ∀ b, b < w.heap.size -> ¬ M b -> w'.heap[b]? = w.heap[b]?
def kY : Nat -> Prop := fun _ => False
theorem fW.refl (w : RM) (M : Nat -> Prop) : fW w w M := ⟨rfl, rfl, rfl, QD _, fun _ _ _ => rfl⟩
theorem fW.mono {w w' : RM} {M N : Nat -> Prop} (h : fW w w' M) (hm : ∀ b, b < w.heap.size -> M b -> N b) : fW w w' N :=
 ⟨h.os, h.tape, h.output, h.size, fun b hb hn => h.keep b hb fun hM => hn (hm b hb hM)⟩
theorem fW.trans {a b c : RM} {M N : Nat -> Prop} (h : fW a b M) (k : fW b c N) (hn : ∀ x, x < a.heap.size -> N x -> M x) : fW a c M :=
 ⟨k.os.trans h.os, k.tape.trans h.tape, k.output.trans h.output, Nat.le_trans h.size k.size,
   fun x hx hM => (k.keep x (RA hx h.size) fun h => hM (hn x hx h)).trans (h.keep x hx hM)⟩
theorem fW.seq {a b c : RM} {M : Nat -> Prop} (h : fW a b M) (k : fW b c M) : fW a c M := h.trans k fun _ _ h => h
theorem fW.new {a b c : RM} {M : Nat -> Prop} {x : Nat} (h : fW a b M) (k : fW b c (fun y => y = x)) (hx : a.heap.size <= x) : fW a c M :=
 h.trans k fun y hy e => absurd hy (by subst e; omega)
theorem fW.below {w w' : RM} (h : fW w w' kY) : Go.RowKit.Below w.heap.size w w' :=
 ⟨h.os, h.tape, h.output, h.size, fun k hk => h.keep k hk fun h => h⟩
theorem fW.dr (w : RM) (M : Nat -> Prop) : fW w (dr w) M := ⟨rfl, rfl, rfl, QD _, fun _ _ _ => rfl⟩
theorem fW.alloc (w : RM) (o : Obj) (M : Nat -> Prop) : fW w (w.alloc o) M :=
 ⟨rfl, rfl, rfl, by simp, fun b hb _ => by show (w.heap.push o)[b]? = _; rw [Array.getElem?_push, if_neg (by omega)]⟩
theorem Hk (w : RM) (a : Addr) (v : RN) (b : Nat) (h : b ≠ a.block) : (w.setCell a v).heap[b]? = w.heap[b]? := Go.RowKit.Below.heap_setCell w a v b h
theorem fW.setCell (w : RM) (a : Addr) (v : RN) {M : Nat -> Prop} (h : a.block < w.heap.size -> M a.block) : fW w (w.setCell a v) M :=
 ⟨rfl, rfl, rfl, by simp, fun b hb hM => Hk w a v b fun e => hM (e ▸ h (e ▸ hb))⟩
theorem iL.lt {w : RM} {b : Nat} {cs : List RN} (h : iL w b cs) : b < w.heap.size := by
 obtain ⟨T, lo, hi, h, _⟩ := h
 rcases Rp b w.heap.size with h' | h'
 .exact h'
 .rw [RD h'] at h; cases h
theorem iL.ext {w w' : RM} {b : Nat} {cs : List RN} {M : Nat -> Prop} (h : iL w b cs) (hx : fW w w' M) (hM : ¬ M b) : iL w' b cs := by
 have := h.lt
 obtain ⟨T, lo, hi, h, k⟩ := h
 exact ⟨T, lo, hi, by rw [hx.keep b this hM]; exact h, k⟩
theorem iL.cell {w : RM} {b off : Nat} {cs : List RN} (h : iL w b cs) : w.cell? ⟨b, off, none⟩ = cs[off]? := by
 obtain ⟨T, lo, hi, h, _⟩ := h
 simp [World.cell?, h]
theorem iL.free {w : RM} {b off : Nat} {cs : List RN} {s : Option Nat} (h : iL w b cs) (ho : off < cs.length) : w.frozen? ⟨b, off, s⟩ = false := by
 obtain ⟨T, lo, hi, h, k⟩ := h
 simp only [World.frozen?, h]
 rcases k with k | k <;> (simp; omega)
theorem iL.setCell {w : RM} {b off : Nat} {cs : List RN} (h : iL w b cs) (v : RN) : iL (w.setCell ⟨b, off, none⟩ v) b (cs.set off v) := by
 have hb := h.lt
 obtain ⟨T, lo, hi, h, k⟩ := h
 refine ⟨T, lo, hi, ?_, by simpa using k⟩
 simp only [World.setCell, Rt, h]
 simp
theorem iL.alloc (w : RM) (cs : List RN) (T : TypeId) : iL (w.alloc (.cells cs.toArray T)) w.heap.size cs :=
 ⟨T, 0, 0, by show (w.heap.push _)[w.heap.size]? = _; simp, .inr rfl⟩
theorem Nf {w w' : RM} {M : Nat -> Prop} {a : Addr} {v : RN} (h : w.cell? a = some v) (hx : fW w w' M) (hM : ¬ M a.block) : w'.cell? a = some v := by
 have hb := World.block_lt_of_cell? w a h
 have e := hx.keep _ hb hM
 unfold World.cell? at h ⊢
 rw [e]; exact h
section
variable {P : Program} {w : RM} {t : TypeId}
def Kr (d : TypeDesc) : Bool := match d with | .struct _ | .array _ _ => true | _ => false
theorem Dn {d : TypeDesc} (hu : P.underlying t = some d) : (isAgg t).run P w = .ok (Kr d) w := by
 cases d <;> simp [isAgg, underlying, hu, Kr]
theorem hJ {i : TypeInfo} (hi : P.info? t = some i) : (sizeOf t).run P w = .ok i.size w := by simp [sizeOf, typeInfo, hi]
theorem EV {b off : Nat} {cs : List RN} (ho : iL w b cs) : ∀ (n i : Nat) (acc : Array RN), off + i + n <= cs.length →
 (loadCellsFrom ⟨b, off, none⟩ i n acc).run P w = .ok (acc ++ ((cs.drop (off + i)).take n).toArray) w := by
 intro n
 induction n with
 | zero => intro i acc _; simp [loadCellsFrom]
 | succ n ih =>
   intro i acc h
   have hc : w.cell? ((⟨b, off, none⟩ : Addr).add i) = some cs[off + i] := by
    unfold Addr.add
    split
    .rename_i hi; subst hi; rw [ho.cell]; simp
    .show w.cell? ⟨b, off + i, none⟩ = _; rw [ho.cell]; simp
   simp only [loadCellsFrom, Sem.run_bind, run_load, hc, Result.andThen_ok]
   rw [ih (i + 1) _ (by omega)]
   congr 1
   rw [Ry (by omega : off + i < cs.length)]
   simp [Rw]
theorem DV {b off n : Nat} {cs : List RN} (ho : iL w b cs) (h : off + n <= cs.length) :
 (loadCells ⟨b, off, none⟩ n).run P w = .ok ((cs.drop off).take n).toArray w := by
 unfold loadCells
 rw [EV ho n 0 #[] (by omega)]
 simp
theorem Hq {d : TypeDesc} {i : TypeInfo} (hu : P.underlying t = some d) (hd : Kr d = true) (hi : P.info? t = some i) {b off : Nat} {cs : List RN} (ho : iL w b cs) (h : off + i.size <= cs.length) :
 (fM t (.pointer (some ⟨b, off, none⟩))).run P w = .ok (.value (.agg ((cs.drop off).take i.size).toArray)) w := by
 unfold fM
 rw [lE]
 simp only [Instr.loadAt, Instr.sureAddr, loadVar, pure_bind, Sem.run_bind, Dn hu, hd, Result.andThen_ok, if_true, hJ hi, DV ho h, Sem.run_pure]
def one (v : RN) : Bool := match v with | .agg _ | .tuple _ => false | _ => true
theorem KW {a : Addr} {v x : RN} (hv : one v = true) (hc : w.cell? a = some x) (hf : w.frozen? a = false) : (store a v).run P w = .ok () (w.setCell a v) := by
 unfold store
 cases v <;> simp [one] at hv <;> simp [Sem.run, hc, hf]
def gO (cs : List RN) (off : Nat) : List RN -> List RN
 | [] => cs
 | v :: vs => gO (cs.set off v) (off + 1) vs
theorem sX {b : Nat} {M : Nat -> Prop} (hM : M b) : ∀ (vs : List RN) (w : RM) (off i : Nat) (cs : List RN), iL w b cs -> off + i + vs.length <= cs.length -> (∀ v ∈ vs, one v = true) →
 ∃ w', (storeCells ⟨b, off, none⟩ vs i).run P w = .ok () w' /\ iL w' b (gO cs (off + i) vs) /\ fW w w' M /\ w'.heap.size = w.heap.size /\ w'.drawn = w.drawn := by
 intro vs
 induction vs with
 | nil => intro w off i cs ho _ _; exact ⟨w, by simp [storeCells], ho, fW.refl _ _, rfl, rfl⟩
 | cons v vs ih =>
   intro w off i cs ho h hv
   simp only [QK] at h
   have ha : (⟨b, off, none⟩ : Addr).add i = ⟨b, off + i, none⟩ := by
    unfold Addr.add; split
    .rename_i hi; subst hi; rfl
    .rfl
   have hlt : off + i < cs.length := by omega
   have hc : w.cell? ⟨b, off + i, none⟩ = some cs[off + i] := by rw [ho.cell]; simp
   have hs := KW (P := P) (hv v (by simp)) hc (ho.free hlt)
   obtain ⟨w', h1, h2, h3, h4, h5⟩ := ih (w.setCell ⟨b, off + i, none⟩ v) off (i + 1) (cs.set (off + i) v) (ho.setCell v) (by simp; omega) (fun x hx => hv x (QE _ hx))
   refine ⟨w', ?_, h2, (fW.setCell w _ v fun _ => hM).trans h3 (fun _ _ h => h), by rw [h4]; simp, by rw [h5] <;> rfl⟩
   simp only [storeCells, Sem.run_bind, ha, hs, Result.andThen_ok]
   exact h1
theorem uH {i : TypeInfo} (hi : P.info? t = some i) {b off : Nat} {cs : List RN} (ho : iL w b cs) {v : RN} (hs : v.cells.size = i.size)
 (hv : ∀ x ∈ v.cells.toList, one x = true) (h : off + i.size <= cs.length) {K : RN -> RM -> Prop}
 (hk : ∀ w', iL w' b (gO cs off v.cells.toList) -> fW w w' (fun x => x = b) -> w'.heap.size = w.heap.size -> K undef w') : dQ P (fR t (.pointer (some ⟨b, off, none⟩)) v) w K := by
 obtain ⟨w', h1, h2, h3, h4, _⟩ := sX (P := P) (M := fun x => x = b) rfl v.cells.toList w off 0 cs ho (by simp [hs]; omega) hv
 have : (fR t (.pointer (some ⟨b, off, none⟩)) v).run P w = .ok .skip w' := by
  unfold fR
  rw [PV]
  simp only [Instr.storeAt, Instr.sureAddr, storeVar, pure_bind, Sem.run_bind, hJ hi, Result.andThen_ok, hs]
  simp [h1]
 unfold dQ
 rw [this]
 exact hk w' h2 h3 h4
theorem IP {v : RN} (hv : one v = true) : v.cells = #[v] := by cases v <;> simp [one] at hv <;> rfl
theorem rU {i : TypeInfo} (hi : P.info? t = some i) (h1 : i.size = 1) {b off : Nat} {cs : List RN} (ho : iL w b cs) {v : RN} (hv : one v = true) (h : off < cs.length) {K : RN -> RM -> Prop}
 (hk : ∀ w', iL w' b (cs.set off v) -> fW w w' (fun x => x = b) -> w'.heap.size = w.heap.size -> K undef w') : dQ P (fR t (.pointer (some ⟨b, off, none⟩)) v) w K := by
 have e := IP hv
 refine uH hi ho (by rw [e, h1] <;> rfl) (by rw [e]; simpa using hv) (by omega) fun w' a b c => hk w' ?_ b c
 rw [e] at a; exact a
def KK (c : Option RN) (w : RM) (Ma : Result Next) : Result Next := match c with | some v => .ok (.value v) w | none => Ma
def Ma (P : Program) (t : TypeId) (x : Addr) (w : RM) : Result Next := (fM t (.pointer (some x))).run P w
theorem dH (v : RN) (w : RM) (f : Result Next) : KK (some v) w f = .ok (.value v) w := rfl
theorem I8 {d : TypeDesc} (hu : P.underlying t = some d) (hd : Kr d = false) (x : Addr) (w : RM) :
 (fM t (.pointer (some x))).run P w = KK (w.cell? x) w (Ma P t x w) := by
 cases h : w.cell? x with
 | none => rfl
 | some v =>
   unfold fM
   rw [lE]
   simp only [Instr.loadAt, Instr.sureAddr, loadVar, pure_bind, Sem.run_bind, Dn hu, hd, Result.andThen_ok, Qm, if_false, run_load, h, KK]
theorem Fx {d : TypeDesc} {i : TypeInfo} (hu : P.underlying t = some d) (hd : Kr d = true) (hi : P.info? t = some i) {b off : Nat} {cs : List RN} (ho : iL w b cs) (h : off + i.size <= cs.length) {K : RN -> Prop}
 (hk : K (.agg ((cs.drop off).take i.size).toArray)) : FT P t (.pointer (some ⟨b, off, none⟩)) w K := by
 refine ⟨_, ?_, hk⟩
 simp only [asAddr, loadVar, pure_bind, Sem.run_bind, Dn hu, hd, Result.andThen_ok, if_true, hJ hi, DV ho h, Sem.run_pure]
theorem Dp {v : RN} {K : RN -> RM -> Prop} (hk : ∀ w', iL w' w.heap.size v.cells.toList -> fW w w' kY -> w'.heap.size = w.heap.size + 1 -> K (.pointer (some ⟨w.heap.size, 0, none⟩)) w') :
 dQ P (I6 t v) w K := by
 have : (I6 t v).run P w = .ok (.value (.pointer (some ⟨w.heap.size, 0, none⟩))) (w.alloc (.cells v.cells.toList.toArray t)) := by
  unfold I6; rw [lE]
  simp [Instr.box, newVar, newRow]
 unfold dQ
 rw [this]
 exact hk _ (iL.alloc _ _ _) (fW.alloc _ _ _) (by simp)
theorem xO {i : TypeInfo} {z : RN} (hi : P.info? t = some i) (hz : i.zero = some z) {K : RN -> RM -> Prop}
 (hk : ∀ w', iL w' w.heap.size z.cells.toList -> fW w w' kY -> w'.heap.size = w.heap.size + 1 -> K (.pointer (some ⟨w.heap.size, 0, none⟩)) w') :
 dQ P (lZ t) w K := by
 have : (lZ t).run P w = .ok (.value (.pointer (some ⟨w.heap.size, 0, none⟩))) (w.alloc (.cells z.cells.toList.toArray t)) := by
  unfold lZ; rw [lE]
  simp [Instr.alloc, zeroValue, typeInfo, hi, hz, newVar, newRow]
 unfold dQ
 rw [this]
 exact hk _ (iL.alloc _ _ _) (fW.alloc _ _ _) (by simp)
end
theorem mB {P : Program} {w : RM} {k : IntKind} {a : Int} {y : Nat} {code : BoundsCode} (h0 : 0 <= a) (h1 : a <= y) : (Instr.sliceBound (.int k a) y code).run P w = .ok a.toNat w := by
 simp [Instr.sliceBound, asIntOf, h0, h1]
section
variable {P : Program} {w : RM} {t e : TypeId} {k k' : IntKind} {lo hi : Int} {i : TypeInfo}
def iV (x : Option Addr) (m l sz : Nat) : Option Addr := if m = l then x else x.map (·.add (l * sz))
theorem Kn (hu : P.underlying t = some (.slice e)) (hi' : P.info? e = some i) (x : Option Addr) (n c : Nat) (h0 : 0 <= lo) (h1 : lo <= n) :
 (iB t (.slice x n c) (some (.int k lo)) none none).run P w = .ok (.value (.slice (iV x c lo.toNat i.size) (n - lo.toNat) (c - lo.toNat))) w := by
 simp only [iB, lE, Instr.sliceAt, underlying, hu, Sem.run_bind, run_program, Result.andThen_ok, Sem.run_pure, Instr.slice, Instr.sliceBounds, pure_bind, mB h0 h1, hJ hi', iV]
theorem KD (hu : P.underlying t = some (.slice e)) (hi' : P.info? e = some i) (x : Option Addr) (n c : Nat) (h0 : 0 <= hi) (h1 : hi <= c) :
 (iB t (.slice x n c) none (some (.int k hi)) none).run P w = .ok (.value (.slice (iV x c 0 i.size) (hi.toNat - 0) (c - 0))) w := by
 simp only [iB, lE, Instr.sliceAt, underlying, hu, Sem.run_bind, run_program, Result.andThen_ok, Sem.run_pure, Instr.slice, Instr.sliceBounds, pure_bind, mB h0 h1, hJ hi', iV]
theorem Jg (hu : P.underlying t = some (.slice e)) (hi' : P.info? e = some i) (x : Option Addr) (n c : Nat) (h0 : 0 <= lo) (h1 : lo <= hi) (h2 : hi <= c) :
 (iB t (.slice x n c) (some (.int k lo)) (some (.int k' hi)) none).run P w = .ok (.value (.slice (iV x c lo.toNat i.size) (hi.toNat - lo.toNat) (c - lo.toNat))) w := by
 have h3 : (0 : Int) <= hi := by omega
 have h4 : lo <= (hi.toNat : Int) := by omega
 simp only [iB, lE, Instr.sliceAt, underlying, hu, Sem.run_bind, run_program, Result.andThen_ok, Sem.run_pure, Instr.slice, Instr.sliceBounds, pure_bind, mB h3 h2, mB h0 h4, hJ hi', iV]
theorem JZ (hu : P.underlying t = some .string) (x : ByteArray) (h0 : 0 <= lo) (h1 : lo <= x.size) :
 (iB t (.string x) (some (.int k lo)) none none).run P w = .ok (.value (.string (x.extract lo.toNat x.size))) w := by
 simp only [iB, lE, Instr.sliceAt, underlying, hu, Sem.run_bind, run_program, Result.andThen_ok, Sem.run_pure, Instr.slice, Instr.sliceBounds, pure_bind, Option.isSome_none, Qm, if_false, mB h0 h1]
theorem Jt (hu : P.underlying t = some .string) (x : ByteArray) (h0 : 0 <= hi) (h1 : hi <= x.size) :
 (iB t (.string x) none (some (.int k hi)) none).run P w = .ok (.value (.string (x.extract 0 hi.toNat))) w := by
 simp only [iB, lE, Instr.sliceAt, underlying, hu, Sem.run_bind, run_program, Result.andThen_ok, Sem.run_pure, Instr.slice, Instr.sliceBounds, pure_bind, Option.isSome_none, Qm, if_false, mB h0 h1]
def uC (a : Addr) (m l sz : Nat) : Addr := if m = l then a else a.add (l * sz)
theorem Jq {n : Nat} (hu : P.underlying t = some (.array n e)) (hi' : P.info? e = some i) (x : Addr) (h0 : 0 <= lo) (h1 : lo <= n) :
 (iB t (.pointer (some x)) (some (.int k lo)) none none).run P w = .ok (.value (.slice (some (uC x n lo.toNat i.size)) (n - lo.toNat) (n - lo.toNat))) w := by
 simp only [iB, lE, Instr.sliceAt, Instr.sureAddr, underlying, hu, Sem.run_bind, run_program, Result.andThen_ok, Sem.run_pure, Instr.sliceBounds, pure_bind, mB h0 h1, hJ hi', uC]
theorem Kc {n : Nat} (hu : P.underlying t = some (.array n e)) (hi' : P.info? e = some i) (x : Addr) (h0 : 0 <= hi) (h1 : hi <= n) :
 (iB t (.pointer (some x)) none (some (.int k hi)) none).run P w = .ok (.value (.slice (some (uC x n 0 i.size)) (hi.toNat - 0) (n - 0))) w := by
 simp only [iB, lE, Instr.sliceAt, Instr.sureAddr, underlying, hu, Sem.run_bind, run_program, Result.andThen_ok, Sem.run_pure, Instr.sliceBounds, pure_bind, mB h0 h1, hJ hi', uC]
theorem It {n : Nat} (hu : P.underlying t = some (.array n e)) (hi' : P.info? e = some i) (x : Addr) (h0 : 0 <= lo) (h1 : lo <= hi) (h2 : hi <= n) :
 (iB t (.pointer (some x)) (some (.int k lo)) (some (.int k' hi)) none).run P w = .ok (.value (.slice (some (uC x n lo.toNat i.size)) (hi.toNat - lo.toNat) (n - lo.toNat))) w := by
 have h3 : (0 : Int) <= hi := by omega
 have h4 : lo <= (hi.toNat : Int) := by omega
 simp only [iB, lE, Instr.sliceAt, Instr.sureAddr, underlying, hu, Sem.run_bind, run_program, Result.andThen_ok, Sem.run_pure, Instr.sliceBounds, pure_bind, mB h3 h2, mB h0 h4, hJ hi', uC]
end
def Sl (w : RM) (v : RN) (l : List RN) : Prop :=
 ∃ a n c, v = .slice a n c /\ n = l.length /\ n <= c /\ (0 < n -> ∃ b off, a = some ⟨b, off, none⟩ /\ ∀ i, i < n -> w.cell? ⟨b, off + i, none⟩ = l[i]?)
def Gv (v : RN) (M : Nat -> Prop) : Prop := match v with | .slice (some a) (_ + 1) _ => M a.block | _ => False
theorem Sl.ext {w w' : RM} {v : RN} {l : List RN} {M : Nat -> Prop} (h : Sl w v l) (hx : fW w w' M) (hM : ¬ Gv v M) : Sl w' v l := by
 obtain ⟨a, n, c, rfl, hn, hc, h⟩ := h
 refine ⟨a, n, c, rfl, hn, hc, fun h0 => ?_⟩
 obtain ⟨b, off, rfl, h2⟩ := h h0
 refine ⟨b, off, rfl, fun i hi => ?_⟩
 have h1 := h2 i hi
 obtain ⟨v, hv⟩ : ∃ v, l[i]? = some v := ⟨l[i], by simp⟩
 rw [hv] at h1 ⊢
 refine Nf h1 hx ?_
 obtain ⟨m, rfl⟩ : ∃ m, n = m + 1 := ⟨n - 1, by omega⟩
 exact hM
theorem Sl.old {w : RM} {v : RN} {l : List RN} (h : Sl w v l) : ¬ Gv v (fun b => w.heap.size <= b) := by
 obtain ⟨a, n, c, rfl, hn, hc, h⟩ := h
 unfold Gv
 split
 .rename_i x m _ e
  obtain ⟨rfl, rfl, rfl⟩ : a = some x /\ n = m + 1 /\ c = _ := by simpa using e
  obtain ⟨b, off, e, h2⟩ := h (by omega)
  have e := Q1 e; subst e
  have h1 := h2 0 (by omega)
  obtain ⟨v, hv⟩ : ∃ v, l[0]? = some v := ⟨l[0], by simp⟩
  rw [hv] at h1
  have := World.block_lt_of_cell? _ _ h1
  simp at this ⊢; omega
 .simp
def lN (x : UInt8) : RN := .int .u8 x.toNat
abbrev Bs (w : RM) (v : RN) (l : List UInt8) : Prop := Sl w v (l.map lN)
theorem uB (b o n : Nat) : (⟨b, o, none⟩ : Addr).add n = ⟨b, o + n, none⟩ := by
 unfold Addr.add; split
 .rename_i h; subst h; rfl
 .rfl
section
variable {P : Program} {w : RM} {t e : TypeId} {k : IntKind} {a : Int}
theorem Dl {inf : TypeInfo} (hz : inf.size = 1) (hu : P.underlying t = some (.slice e)) (hi : P.info? e = some inf) (b o n c : Nat) (h0 : 0 <= a) (h1 : a < n) :
 (iP t (.slice (some ⟨b, o, none⟩) n c) (.int k a)).run P w = .ok (.value (.pointer (some ⟨b, o + a.toNat, none⟩))) w := by
 rw [Mj hu hi _ n c h0 h1, uB, hz, Ri]
theorem LQ {inf : TypeInfo} {len : Nat} (hz : inf.size = 1) (hu : P.underlying t = some (.array len e)) (hi : P.info? e = some inf) (b o : Nat) (h0 : 0 <= a) (h1 : a < (len : Int)) :
 (iP t (.pointer (some ⟨b, o, none⟩)) (.int k a)).run P w = .ok (.value (.pointer (some ⟨b, o + a.toNat, none⟩))) w := by
 rw [Nd hu hi _ h0 h1, uB, hz, Ri]
end
def Gm (x : ByteArray) : List UInt8 := x.data.toList
theorem qA (x : ByteArray) : (Gm x).length = x.size := by unfold Gm; rw [QZ] <;> rfl
theorem Lp (x : ByteArray) (i : Nat) (h : i < x.size) : x[i]'h = (Gm x)[i]'(by rw [qA]; exact h) := rfl
theorem De (x : ByteArray) (a b : Nat) : Gm (x.extract a b) = ((Gm x).drop a).take (b - a) := by
 unfold Gm; rw [ByteArray.data_extract, Array.toList_extract, List.extract_eq_take_drop]
theorem DT (x : ByteArray) (a b : Nat) (h : b <= x.size) : (x.extract a b).size = b - a := by
 rw [<- qA, De, Qz, Qy, qA]; omega
section
variable {P : Program} {w : RM} {s d e : TypeId}
theorem Ml (hs : P.underlying s = some (.slice e)) (hd : P.underlying d = some .string) (he : P.underlying e = some (.int .u8)) {l : List UInt8} {v : RN} (h : Bs w v l) :
 (jC s d v).run P w = .ok (.value (.string ⟨l.toArray⟩)) w := by
 obtain ⟨a, n, c, rfl, hn, hc, h⟩ := h
 simp only [Qw] at hn
 unfold jC
 rw [lE]
 have key : (convert s d (.slice a n c)).run P w = .ok (.string ⟨l.toArray⟩) w := by
  cases a with
  | none =>
    have hl : l = [] := by
     cases l with
     | nil => rfl
     | cons x l => obtain ⟨b, off, e, _⟩ := h (by rw [hn]; simp); cases e
    subst hl
    rw [run_convert_bytes_string w s d e none n c hs he hd]
    rfl
  | some x =>
    subst hn
    refine run_convert_bytes_back w s d e x c l hs he hd fun j hj => ?_
    obtain ⟨b, off, hx, h2⟩ := h (by omega)
    have hx := Q1 hx
    subst hx
    rw [uB, h2 j hj]
    simp [lN, hj]
 rw [key] <;> rfl
theorem Kq (hs : P.underlying s = some .string) (hd : P.underlying d = some (.slice e)) (he : P.underlying e = some (.int .u8)) {x : ByteArray} {K : RN -> RM -> Prop}
 (hk : ∀ w' c, Sl w' (.slice (some ⟨w.heap.size, 0, none⟩) x.size c) (x.data.toList.map lN) -> fW w w' kY -> w'.heap.size = w.heap.size + 1 →
  (∃ r, iL w' w.heap.size (x.data.toList.map lN ++ List.replicate r (Value.int .u8 0)) /\ c = x.size + r) -> K (.slice (some ⟨w.heap.size, 0, none⟩) x.size c) w') : dQ P (jC s d (.string x)) w K := by
 have run := run_bytes_of_string (P := P) w s d e x hs hd he
 have hcap : x.size <= grownCap w x.size 0 e := Nat.le_add_right _ _
 generalize grownCap w x.size 0 e = c at run hcap
 obtain ⟨r, rfl⟩ : ∃ r, c = x.size + r := ⟨c - x.size, by omega⟩
 have hrow : bytesRow x (x.size + r) = (x.data.toList.map lN ++ List.replicate r (Value.int .u8 0)).toArray := by
  unfold bytesRow
  have : x.size + r - x.size = r := by omega
  rw [this]
  apply Array.ext'
  simp only [Array.toList_append, Array.toList_map, Array.toList_replicate]
  rfl
 rw [hrow] at run
 have hlen : (x.data.toList.map lN).length = x.size := by rw [Qw, QZ] <;> rfl
 have hsz : (x.data.toList.map lN ++ List.replicate r (Value.int .u8 0)).toArray.size = x.size + r := by
  rw [List.size_toArray, Qt, QJ, hlen]
 rw [hsz] at run
 unfold dQ jC
 rw [lE, run]
 have ho : iL (w.drew.alloc (.cells (x.data.toList.map lN ++ List.replicate r (Value.int .u8 0)).toArray e (x.size + r, x.size + r + 1))) w.heap.size (x.data.toList.map lN ++ List.replicate r (Value.int .u8 0)) :=
  ⟨e, x.size + r, x.size + r + 1, Array.getElem?_push_size, .inl (by rw [Qt, QJ, hlen]; exact QD _)⟩
 have hx : fW w (w.drew.alloc (.cells (x.data.toList.map lN ++ List.replicate r (Value.int .u8 0)).toArray e (x.size + r, x.size + r + 1))) kY := (fW.dr w kY).trans (fW.alloc _ _ kY) (fun _ _ h => h)
 refine hk _ _ ⟨_, _, _, rfl, hlen.symm, by omega, fun _ => ⟨_, _, rfl, fun i hi => ?_⟩⟩ hx (by show (w.heap.push _).size = _; rw [Array.size_push]) ⟨r, ho, rfl⟩
 rw [ho.cell]
 simp only [Qs]
 rw [QO (by rw [hlen]; exact hi)]
end
theorem KU (l : List UInt8) : ∀ x ∈ l.map lN, one x = true := by
 intro x hx
 obtain ⟨c, _, rfl⟩ := RB.1 hx
 rfl
theorem LX {b o m l sz : Nat} (h : l ≠ m) : uC ⟨b, o, none⟩ m l sz = ⟨b, o + l * sz, none⟩ := by
 unfold uC; rw [if_neg (fun e => h e.symm), uB]
theorem ED {b o m l : Nat} (h : l ≠ m) : uC ⟨b, o, none⟩ m l 1 = ⟨b, o + l, none⟩ := by rw [LX h, Ri]
theorem Sl.drop {w : RM} {b o n c : Nat} {l : List RN} (h : Sl w (.slice (some ⟨b, o, none⟩) n c) l) {k : Nat} (hk : k <= n) :
 Sl w (.slice (iV (some ⟨b, o, none⟩) c k 1) (n - k) (c - k)) (l.drop k) := by
 obtain ⟨x, m, c', e, hm, hc, hh⟩ := h
 cases e
 refine ⟨_, _, _, rfl, by rw [Qy]; omega, by omega, fun h0 => ?_⟩
 obtain ⟨b', o', e, h2⟩ := hh (by omega)
 cases e
 have hne : ¬ c = k := by omega
 refine ⟨b, o + k, by unfold iV; rw [if_neg hne, QR, uB, Ri], fun i hi => ?_⟩
 rw [Rw, h2 (k + i) (by omega), List.getElem?_drop]
theorem Sl.take {w : RM} {b o n c : Nat} {l : List RN} (h : Sl w (.slice (some ⟨b, o, none⟩) n c) l) {k : Nat} (hk : k <= n) :
 Sl w (.slice (iV (some ⟨b, o, none⟩) c 0 1) (k - 0) (c - 0)) (l.take k) := by
 obtain ⟨x, m, c', e, hm, hc, hh⟩ := h
 cases e
 refine ⟨_, _, _, rfl, by rw [Qz]; omega, by omega, fun h0 => ?_⟩
 obtain ⟨b', o', e, h2⟩ := hh (by omega)
 cases e
 have hne : ¬ c = 0 := by omega
 refine ⟨b, o, by unfold iV; rw [if_neg hne, QR, uB] <;> rfl, fun i hi => ?_⟩
 rw [h2 i (by omega), Rc (by omega)]
theorem LC {b o n c k : Nat} {M : Nat -> Prop} (h : ¬ Gv (.slice (some ⟨b, o, none⟩) n c) M) (hn : 0 < n) (m : Nat) : ¬ Gv (.slice (iV (some ⟨b, o, none⟩) c k 1) m (c - k)) M := by
 have hb : ¬ M b := by
  obtain ⟨n', rfl⟩ : ∃ n', n = n' + 1 := ⟨n - 1, by omega⟩
  exact h
 unfold Gv iV
 split
 .rename_i x q _ e
  simp only [Value.slice.injEq] at e
  obtain ⟨e, _, _⟩ := e
  split at e
  .cases e; exact hb
  .rw [QR, uB] at e; cases e; exact hb
 .simp
theorem iL.bs {w : RM} {b off c : Nat} {cs : List RN} {l : List UInt8} (h : iL w b cs) (hc : l.length <= c) (hl : ∀ i (hi : i < l.length), cs[off + i]? = some (lN l[i])) : Bs w (.slice (some ⟨b, off, none⟩) l.length c) l :=
 ⟨_, _, _, rfl, by simp, hc, fun _ => ⟨b, off, rfl, fun i hi => by rw [h.cell, hl i hi]; simp [hi]⟩⟩
section
variable {P : Program} {w : RM} {t e : TypeId} {k : IntKind} {a : Int}
theorem OT {len : Nat} {d : TypeDesc} {i : TypeInfo} (hu : P.underlying t = some (.array len e)) (hd : P.underlying e = some d) (ha : Kr d = false) (hi : P.info? e = some i) (h1 : i.size = 1)
 (cs : Array RN) (h0 : 0 <= a) (hl : a < (len : Int)) {v : RN} (hv : cs[a.toNat]? = some v) : (Ek t (.agg cs) (.int k a)).run P w = .ok (.value v) w := by
 unfold Ek
 rw [lE]
 simp only [Instr.index, asIntOf, pure_bind, underlying, hu, Sem.run_bind, run_program, Result.andThen_ok, Sem.run_pure, h0, hl, and_self, if_true, hJ hi, h1, Ri, part, Dn hd, ha, Qm, if_false, hv]
def O2 (P : Program) (t : TypeId) (cs : Array RN) (k : IntKind) (a : Int) (w : RM) : Result Next := (Ek t (.agg cs) (.int k a)).run P w
theorem Nc {len : Nat} {d : TypeDesc} {i : TypeInfo} (hu : P.underlying t = some (.array len e)) (hd : P.underlying e = some d) (ha : Kr d = false) (hi : P.info? e = some i) (h1 : i.size = 1)
 (cs : Array RN) (h0 : 0 <= a) (hl : a < (len : Int)) : (Ek t (.agg cs) (.int k a)).run P w = KK cs[a.toNat]? w (O2 P t cs k a w) := by
 cases hv : cs[a.toNat]? with
 | none => rfl
 | some v => exact OT hu hd ha hi h1 cs h0 hl hv
theorem EP {b off : Nat} {l : List RN} (h : ∀ i, i < l.length -> w.cell? ⟨b, off + i, none⟩ = l[i]?) (n : Nat) (hn : n <= l.length) :
 (loadCells ⟨b, off, none⟩ n).run P w = .ok (l.take n).toArray w := by
 have key : ∀ (m i : Nat) (acc : Array RN), i + m <= l.length -> (loadCellsFrom ⟨b, off, none⟩ i m acc).run P w = .ok (acc ++ ((l.drop i).take m).toArray) w := by
  intro m
  induction m with
  | zero => intro i acc _; simp [loadCellsFrom]
  | succ m ih =>
    intro i acc hm
    have hc := h i (by omega)
    rw [Qv (by omega)] at hc
    simp only [loadCellsFrom, Sem.run_bind, run_load, uB, hc, Result.andThen_ok]
    rw [ih (i + 1) _ (by omega), Ry (by omega : i < l.length), QI]
    simp
 unfold loadCells
 rw [key n 0 #[] (by omega)]
 simp
theorem Is {sz n : Nat} {v : RN} {l : List RN} (h1 : sz = 1) (h : Sl w v l) (hn : n <= l.length) : (Builtin.firstCells sz n v).run P w = .ok (l.take n).toArray w := by
 subst h1
 obtain ⟨x, m, c, rfl, hm, hc, hh⟩ := h
 cases x with
 | none =>
   have : l = [] := by
    cases l with
    | nil => rfl
    | cons y l => obtain ⟨b, off, e, _⟩ := hh (by rw [hm]; simp); cases e
   subst this
   simp [Builtin.firstCells]
 | some x =>
   simp only [Builtin.firstCells, Ri]
   by_cases h0 : 0 < m
   .obtain ⟨b, off, e, h2⟩ := hh h0
    have e := Q1 e; subst e
    exact EP (fun i hi => h2 i (by omega)) n hn
   .have h00 : n = 0 := by omega
    subst h00
    simp [loadCells, loadCellsFrom]
theorem OK {v : RN} {l : List RN} (h : Sl w v l) : (Builtin.lenOf v).run P w = .ok l.length w := by
 obtain ⟨x, m, c, rfl, hm, hc, hh⟩ := h
 simp [Builtin.lenOf, hm]
theorem Nn {ty t2 : TypeId} {i : TypeInfo} (hu : P.underlying t = some (.slice e)) (hi : P.info? e = some i) (h1 : i.size = 1) {b off dl c : Nat} {cs : List RN} (ho : iL w b cs) (hl : off + dl <= cs.length)
 {v : RN} {l : List RN} (h : Sl w v l) (hv : ∀ x ∈ l, one x = true) {K : RN -> RM -> Prop}
 (hk : ∀ w', iL w' b (gO cs off (l.take (min l.length dl))) -> fW w w' (fun x => x = b) -> w'.heap.size = w.heap.size -> K (.int .i64 (min l.length dl : Nat)) w') :
 dQ P (lQ .copy #[t, t2] ty [.slice (some ⟨b, off, none⟩) dl c, v]) w K := by
 have hlen : (l.take (min l.length dl)).length = min l.length dl := by rw [Qz]; omega
 obtain ⟨w', s1, s2, s3, s4, _⟩ := sX (P := P) (M := fun x => x = b) rfl (l.take (min l.length dl)) w off 0 cs ho (by rw [hlen]; omega) (fun x hx => hv x (List.mem_of_mem_take hx))
 have : (lQ .copy #[t, t2] ty [.slice (some ⟨b, off, none⟩) dl c, v]).run P w = .ok (.value (.int .i64 (min l.length dl : Nat))) w' := by
  unfold lQ builtin
  simp only [Builtin.copy_, QW, Qk, Ql]
  simp only [underlying, Sem.run_bind, run_program, Result.andThen_ok, hu, Sem.run_pure, OK h, hJ hi, h1]
  have := Is (P := P) (n := min l.length dl) rfl h (Nat.min_le_left _ _)
  rw [show (Nat.min l.length dl) = min l.length dl from rfl, this]
  simp only [Result.andThen_ok, s1, goInt]
 unfold dQ
 rw [this]
 exact hk w' (by simpa using s2) s3 s4
theorem Ng {i : TypeInfo} {z : RN} (hu : P.underlying t = some (.slice e)) (hi : P.info? e = some i) (h1 : i.size = 1) (hz : i.zero = some z) (hz1 : one z = true) {n : Int} (h0 : 0 <= n) (hn : i.bytes * n <= 2 ^ 48) (hn2 : n <= 9223372036854775807)
 {K : RN -> RM -> Prop}
 (hk : ∀ w', iL w' w.heap.size (List.replicate n.toNat z) -> fW w w' kY -> w'.heap.size = w.heap.size + 1 -> K (.slice (some ⟨w.heap.size, 0, none⟩) n.toNat n.toNat) w') :
 dQ P (CN t (.int k n) (.int k n)) w K := by
 have hw : IntKind.i64.wrap n = n := dZ (by omega) hn2
 have hcells : z.cells = #[z] := IP hz1
 have harr : (Array.range n.toNat).map (fun j => (#[z] : Array RN)[j % (#[z] : Array RN).size]!) = (List.replicate n.toNat z).toArray := by
  apply Array.ext
  .simp
  .intro j h1 h2; simp [Nat.mod_one]
 have hz' : (zeroValue e).run P w = .ok z w := by simp [zeroValue, typeInfo, hi, hz]
 have : (CN t (.int k n) (.int k n)).run P w = .ok (.value (.slice (some ⟨w.heap.size, 0, none⟩) n.toNat n.toNat)) (w.alloc (.cells (List.replicate n.toNat z).toArray e)) := by
  unfold CN
  rw [lE]
  have t1 : (decide (n < 0) || decide ((i.bytes : Int) * n > 2 ^ 48) || decide (n < 0) || decide (n > n)) = false := by
   simp only [RI, decide_eq_false_iff_not]; omega
  by_cases hn0 : n.toNat = 0
  .simp only [Instr.makeSlice, underlying, typeInfo, asInt, asIntOf, pure_bind, Sem.run_bind, run_program, Result.andThen_ok, hu, hi, Sem.run_pure, hw, t1, Qm, if_false, run_askRoom, hJ hi, h1, Ri, hn0, if_true, newRow, run_newObj]
   have : (Array.range 0).map (fun x => (#[] : Array RN)[x % (#[] : Array RN).size]!) = (List.replicate 0 z).toArray := by simp
   rw [this]
   rfl
  .simp only [Instr.makeSlice, underlying, typeInfo, asInt, asIntOf, pure_bind, Sem.run_bind, run_program, Result.andThen_ok, hu, hi, Sem.run_pure, hw, t1, Qm, if_false, run_askRoom, hJ hi, h1, Ri, hn0, hz', hcells, newRow, run_newObj, harr]
   rfl
 unfold dQ
 rw [this]
 exact hk _ (iL.alloc _ _ _) (fW.alloc _ _ _) (by simp)
end
def Cl (w : RM) (sz : Nat) (v : RN) (n : Nat) (l : List RN) : Prop :=
 ∃ a c, v = .slice a n c /\ l.length = n * sz /\ (0 < n -> ∃ b off, a = some ⟨b, off, none⟩ /\ ∀ i, i < l.length -> w.cell? ⟨b, off + i, none⟩ = l[i]?)
def FD (w : RM) (base sz : Nat) (v : RN) (n : Nat) (l : List RN) : Prop :=
 l.length = n * sz /\ ((v = .slice none 0 0 /\ n = 0) ∨
   ∃ b c rest, v = .slice (some ⟨b, 0, none⟩) n c /\ base <= b /\ iL w b (l ++ rest) /\ (l ++ rest).length = c * sz /\ n <= c)
def sG (w : RM) (S : Nat -> Prop) (sz : Nat) (v : RN) (n : Nat) (l : List RN) : Prop :=
 l.length = n * sz /\ ((v = .slice none 0 0 /\ n = 0) ∨
   ∃ b c rest, v = .slice (some ⟨b, 0, none⟩) n c /\ S b /\ iL w b (l ++ rest) /\ (l ++ rest).length = c * sz /\ n <= c)
theorem Sl.cl {w : RM} {v : RN} {l : List RN} (h : Sl w v l) : Cl w 1 v l.length l := by
 obtain ⟨a, n, c, rfl, rfl, hc, h⟩ := h
 exact ⟨a, c, rfl, by omega, fun h0 => h h0⟩
theorem iL.cl {w : RM} {b sz n c off : Nat} {cs l : List RN} (h : iL w b cs) (hl : l.length = n * sz) (hcs : ∀ i, i < l.length -> cs[off + i]? = l[i]?) : Cl w sz (.slice (some ⟨b, off, none⟩) n c) n l :=
 ⟨_, _, rfl, hl, fun _ => ⟨b, off, rfl, fun i hi => by rw [h.cell, hcs i hi]⟩⟩
theorem FD.nil (w : RM) (base sz : Nat) : FD w base sz (.slice none 0 0) 0 [] := ⟨by simp, .inl ⟨rfl, rfl⟩⟩
theorem FD.ext {w w' : RM} {base sz n : Nat} {v : RN} {l : List RN} {M : Nat -> Prop} (h : FD w base sz v n l) (hx : fW w w' M) (hM : ∀ b, base <= b -> ¬ M b) : FD w' base sz v n l := by
 refine ⟨h.1, ?_⟩
 rcases h.2 with h2 | ⟨b, c, rest, h1, h2, h3, h4, h5⟩
 .exact .inl h2
 .exact .inr ⟨b, c, rest, h1, h2, h3.ext hx (hM b h2), h4, h5⟩
theorem FD.cl {w : RM} {base sz n : Nat} {v : RN} {l : List RN} (h : FD w base sz v n l) : Cl w sz v n l := by
 rcases h.2 with ⟨rfl, rfl⟩ | ⟨b, c, rest, rfl, h2, h3, h4, h5⟩
 .exact ⟨_, _, rfl, h.1, fun h => by omega⟩
 .refine ⟨_, _, rfl, h.1, fun _ => ⟨b, 0, rfl, fun i hi => ?_⟩⟩
  rw [h3.cell, Qs, QO hi]
theorem FD.sl {w : RM} {base n : Nat} {v : RN} {l : List RN} (h : FD w base 1 v n l) : Sl w v l := by
 have hl := h.1
 rcases h.2 with ⟨rfl, rfl⟩ | ⟨b, c, rest, rfl, h2, h3, h4, h5⟩
 .exact ⟨_, _, _, rfl, by omega, by omega, fun h => by omega⟩
 .refine ⟨_, _, _, rfl, by omega, h5, fun _ => ⟨b, 0, rfl, fun i hi => ?_⟩⟩
  rw [h3.cell, Qs, QO (by omega)]
section
variable {P : Program} {w : RM} {t e : TypeId}
theorem I9 {b off : Nat} {l : List RN} (h : ∀ i, i < l.length -> w.cell? ⟨b, off + i, none⟩ = l[i]?) : (loadCells ⟨b, off, none⟩ l.length).run P w = .ok l.toArray w := by
 have := EP (P := P) h l.length (QD _)
 rwa [List.take_length] at this
theorem qX {sz n : Nat} {v : RN} {l : List RN} (h : Cl w sz v n l) : (Builtin.firstCells sz n v).run P w = .ok l.toArray w := by
 obtain ⟨x, c, rfl, hl, hh⟩ := h
 cases x with
 | none =>
   have : n = 0 := by
    rcases Nat.eq_zero_or_pos n with h | h
    .exact h
    .obtain ⟨b, off, e, _⟩ := hh h; cases e
   subst this
   have : l = [] := QY.1 (by omega)
   subst this
   simp [Builtin.firstCells]
 | some x =>
   simp only [Builtin.firstCells]
   rw [<- hl]
   by_cases h0 : 0 < n
   .obtain ⟨b, off, e, h2⟩ := hh h0
    have e := Q1 e; subst e
    exact I9 h2
   .have : n = 0 := by omega
    subst this
    have : l = [] := QY.1 (by omega)
    subst this
    simp [loadCells, loadCellsFrom]
theorem lD (zs : Array RN) (n : Nat) : (Builtin.zeroCells zs n).size = n * zs.size := by simp [Builtin.zeroCells]
theorem DJ (vs : List RN) : ∀ (Qj rest : List RN), vs.length <= rest.length -> gO (Qj ++ rest) Qj.length vs = Qj ++ vs ++ rest.drop vs.length := by
 induction vs with
 | nil => intro Qj rest _; simp [gO]
 | cons v vs ih =>
   intro Qj rest h
   cases rest with
   | nil => simp at h
   | cons r rest =>
     have := ih (Qj ++ [v]) rest (by simpa using h)
     simp only [gO, Qt, QK, List.length_nil, QF, Q9, Rd] at this ⊢
     rw [List.drop_succ_cons, <- this, Q0 _ _ (QD _), Nat.sub_self, QB, Qs]
theorem Ke {S : Nat -> Prop} {sz n m : Nat} {i : TypeInfo} {z : RN} {ty t2 e2 : TypeId} (hu : P.underlying t = some (.slice e)) (hu2 : P.underlying t2 = some (.slice e2)) (hi : P.info? e = some i) (hsz : i.size = sz) (hz : i.zero = some z) (hzs : z.cells.size = sz)
 {v x : RN} {l news : List RN} (h : sG w S sz v n l) (hx : Cl w sz x m news) (hone : ∀ y ∈ news, one y = true) (hb : ∀ b, w.heap.size <= b -> S b)
 (hn : n + m <= 9223372036854775807) (hbytes : (n + m) * i.bytes <= 140737488355328) (_hpos : i.bytes ≠ 0)
 {K : RN -> RM -> Prop} (hk : ∀ v' w', sG w' S sz v' (n + m) (l ++ news) -> fW w w' S -> Cl w' sz v n l -> K v' w') : dQ P (lQ .append #[t, t2] ty [v, x]) w K := by
 have hlx : (Builtin.lenOf x).run P w = .ok m w := by
  obtain ⟨a, c, rfl, _⟩ := hx; simp [Builtin.lenOf]
 have hnl := hx.choose_spec.choose_spec.2.1
 have hfx := qX (P := P) hx
 have hmax : IntKind.i64.max = 9223372036854775807 := by decide
 have hnot : ¬ (((n + m : Nat) : Int) > IntKind.i64.max /\ (False ∨ i.bytes = 0)) := by rw [hmax]; omega
 have hz' : ∀ w, (zeroValue e).run P w = .ok z w := fun w => by simp [zeroValue, typeInfo, hi, hz]
 have hlen := h.1
 rcases h.2 with ⟨rfl, rfl⟩ | ⟨b, c, rest, rfl, h2, h3, h4, h5⟩
 .
  have hl0 : l = [] := QY.1 (by omega)
  subst hl0
  by_cases hm : m = 0
  .subst hm
   have hn0 : news = [] := QY.1 (by omega)
   subst hn0
   have : (lQ .append #[t, t2] ty [.slice none 0 0, x]).run P w = .ok (.value (.slice none 0 0)) w := by
    unfold lQ builtin
    simp only [Builtin.append_, QW, Qk, Ql]
    simp only [underlying, Sem.run_bind, run_program, Result.andThen_ok, hu, hu2, Sem.run_pure, hJ hi, hsz, Qm, if_false, hlx, QD, Nat.add_zero, if_true, Qq, hfx]
   unfold dQ
   rw [this]
   exact hk _ _ ⟨by simp, .inl ⟨rfl, by omega⟩⟩ (fW.refl _ _) ⟨none, 0, rfl, hlen, fun h => absurd h (by omega)⟩
  .have hfit := growslice_fits (need := 0 + m) (old := 0) (bytes := i.bytes) (by omega) (by omega)
   have hfit' : ¬ (Builtin.nextslicecap (0 + m) 0 * i.bytes > 2 ^ 48) := by omega
   have hle : ¬ (0 + m <= 0) := by omega
   have hq : (Question.appendCap (0 + m) 0 e).forced = false := rfl
   obtain ⟨r, hr⟩ : ∃ r, (Question.appendCap (0 + m) 0 e).cut (w.tape w.drawn (.appendCap (0 + m) 0 e)) = m + r :=
    ⟨(w.tape w.drawn (.appendCap (0 + m) 0 e)) % (2 ^ 63 - (0 + m)), by simp only [Question.cut]; omega⟩
   have : (lQ .append #[t, t2] ty [.slice none 0 0, x]).run P w = .ok (.value (.slice (some ⟨w.heap.size, 0, none⟩) (0 + m) (m + r))) ((dr w).alloc (.cells (news ++ (Builtin.zeroCells z.cells (m + r - (0 + m))).toList).toArray e)) := by
    have hfx' := qX (P := P) (w := dr w) hx
    unfold lQ builtin
    simp only [Builtin.append_, QW, Qk, Ql]
    simp only [underlying, typeInfo, Sem.run_bind, run_program, Result.andThen_ok, hu, hu2, hi, Sem.run_pure, hJ hi, hsz, Qm, if_false, hlx, hle, Qq, if_true, hnot, hfit', run_choose, hq, hr, run_askRoom]
    change ((Sem.run P _ (dr w)).andThen _).andThen _ = _
    simp only [Sem.run_bind, hfx', run_firstCells_none, Result.andThen_ok, hz', Sem.run_pure, newRow, run_newObj]
    have e1 : (#[] ++ news.toArray ++ Builtin.zeroCells z.cells (m + r - (0 + m)) : Array RN) = (news ++ (Builtin.zeroCells z.cells (m + r - (0 + m))).toList).toArray := by
     apply Array.ext'; simp
    rw [e1]
    rfl
   unfold dQ
   rw [this]
   refine hk _ _ ⟨by simp only [Rd]; rw [hnl, Qs], .inr ⟨w.heap.size, m + r, (Builtin.zeroCells z.cells (m + r - (0 + m))).toList, by rw [Qs], hb _ (QD _), iL.alloc (dr w) _ _, ?_, by omega⟩⟩ ((fW.dr w _).seq (fW.alloc _ _ _)) ⟨none, 0, rfl, hlen, fun h => absurd h (by omega)⟩
   simp only [Rd, Qt, QZ, lD, hzs, hnl]
   rw [show m + r - (0 + m) = r from by omega, Q6]
 .by_cases hc : n + m <= c
  .
   have hroom : news.length <= rest.length := by
    rw [Qt, hlen] at h4
    have : (n + m) * sz <= c * sz := RK _ hc
    rw [Q6] at this; omega
   obtain ⟨w', s1, s2, s3, s4, _⟩ := sX (P := P) (M := S) h2 news w (n * sz) 0 (l ++ rest) h3 (by rw [Qt, hlen]; omega) hone
   have : (lQ .append #[t, t2] ty [.slice (some ⟨b, 0, none⟩) n c, x]).run P w = .ok (.value (.slice (some ⟨b, 0, none⟩) (n + m) c)) w' := by
    unfold lQ builtin
    simp only [Builtin.append_, QW, Qk, Ql]
    simp only [underlying, Sem.run_bind, run_program, Result.andThen_ok, hu, hu2, Sem.run_pure, hJ hi, hsz, Qm, if_false, hlx, hc, if_true, Qq, hfx, uB, Qs, s1]
   unfold dQ
   rw [this]
   rw [Nat.add_zero, <- hlen, DJ _ _ _ hroom] at s2
   refine hk _ _ ⟨by rw [Qt, hlen, hnl, Q6], .inr ⟨b, c, rest.drop news.length, rfl, h2, s2, ?_, hc⟩⟩ s3 ⟨_, _, rfl, hlen, fun _ => ⟨b, 0, rfl, fun i hi => by
    rw [s2.cell, Qs, QF, QO hi]⟩⟩
   rw [<- h4]; simp; omega
  .
   have hfit := growslice_fits (need := n + m) (old := c) (bytes := i.bytes) (by omega) hbytes
   have hfit' : ¬ (Builtin.nextslicecap (n + m) c * i.bytes > 2 ^ 48) := by omega
   have hq : (Question.appendCap (n + m) c e).forced = false := rfl
   obtain ⟨r, hr⟩ : ∃ r, (Question.appendCap (n + m) c e).cut (w.tape w.drawn (.appendCap (n + m) c e)) = n + m + r :=
    ⟨(w.tape w.drawn (.appendCap (n + m) c e)) % (2 ^ 63 - (n + m)), by simp only [Question.cut]⟩
   have hold : Cl (dr w) sz (.slice (some ⟨b, 0, none⟩) n c) n l := ⟨_, _, rfl, hlen, fun _ => ⟨b, 0, rfl, fun i hi => by
    show w.cell? _ = _
    rw [h3.cell, Qs, QO hi]⟩⟩
   have : (lQ .append #[t, t2] ty [.slice (some ⟨b, 0, none⟩) n c, x]).run P w = .ok (.value (.slice (some ⟨w.heap.size, 0, none⟩) (n + m) (n + m + r))) ((dr w).alloc (.cells (l ++ news ++ (Builtin.zeroCells z.cells (n + m + r - (n + m))).toList).toArray e)) := by
    have hfx' := qX (P := P) (w := dr w) hx
    have hfo := qX (P := P) hold
    unfold lQ builtin
    simp only [Builtin.append_, QW, Qk, Ql]
    simp only [underlying, typeInfo, Sem.run_bind, run_program, Result.andThen_ok, hu, hu2, hi, Sem.run_pure, hJ hi, hsz, Qm, if_false, hlx, hc, Qq, if_true, hnot, hfit', run_choose, hq, hr, run_askRoom]
    change ((Sem.run P _ (dr w)).andThen _).andThen _ = _
    simp only [Sem.run_bind, hfx', hfo, Result.andThen_ok, hz', Sem.run_pure, newRow, run_newObj]
    have e1 : (l.toArray ++ news.toArray ++ Builtin.zeroCells z.cells (n + m + r - (n + m)) : Array RN) = (l ++ news ++ (Builtin.zeroCells z.cells (n + m + r - (n + m))).toList).toArray := by
     apply Array.ext'; simp
    rw [e1]
    rfl
   unfold dQ
   rw [this]
   refine hk _ _ ⟨by rw [Qt, hlen, hnl, Q6], .inr ⟨w.heap.size, n + m + r, _, rfl, hb _ (QD _), iL.alloc (dr w) _ _, ?_, by omega⟩⟩ ((fW.dr w _).seq (fW.alloc _ _ _)) ⟨_, _, rfl, hlen, fun _ => ⟨b, 0, rfl, fun i hi => by
    have o9 := h3.ext ((fW.dr w kY).seq (fW.alloc (dr w) (.cells (l ++ news ++ (Builtin.zeroCells z.cells (n + m + r - (n + m))).toList).toArray e) kY)) (fun h => h)
    rw [o9.cell, Qs, QO hi]⟩⟩
   simp only [Qt, QZ, lD, hzs, hnl, hlen]
   rw [show n + m + r - (n + m) = r from by omega, Q6, Q6]
theorem Gh {S : Nat -> Prop} {sz n m : Nat} {i : TypeInfo} {z : RN} {ty t2 e2 : TypeId} (hu : P.underlying t = some (.slice e)) (hu2 : P.underlying t2 = some (.slice e2)) (hi : P.info? e = some i) (hsz : i.size = sz) (hz : i.zero = some z) (hzs : z.cells.size = sz)
 {v x : RN} {l news : List RN} (h : sG w S sz v n l) (hx : Cl w sz x m news) (hone : ∀ y ∈ news, one y = true) (hb : ∀ b, w.heap.size <= b -> S b)
 (hn : n + m <= 9223372036854775807) (hbytes : (n + m) * i.bytes <= 140737488355328) (_hpos : i.bytes ≠ 0)
 {K : RN -> RM -> Prop} (hk : ∀ v' w', sG w' S sz v' (n + m) (l ++ news) -> fW w w' S -> K v' w') : dQ P (lQ .append #[t, t2] ty [v, x]) w K :=
 Ke hu hu2 hi hsz hz hzs h hx hone hb hn hbytes _hpos fun v' w' a b _ => hk v' w' a b
theorem KI {base sz n m : Nat} {i : TypeInfo} {z : RN} {ty t2 e2 : TypeId} (hu : P.underlying t = some (.slice e)) (hu2 : P.underlying t2 = some (.slice e2)) (hi : P.info? e = some i) (hsz : i.size = sz) (hz : i.zero = some z) (hzs : z.cells.size = sz)
 {v x : RN} {l news : List RN} (h : FD w base sz v n l) (hx : Cl w sz x m news) (hone : ∀ y ∈ news, one y = true) (hb : base <= w.heap.size)
 (hn : n + m <= 9223372036854775807) (hbytes : (n + m) * i.bytes <= 140737488355328) (_hpos : i.bytes ≠ 0)
 {K : RN -> RM -> Prop} (hk : ∀ v' w', FD w' base sz v' (n + m) (l ++ news) -> fW w w' (fun y => base <= y) -> K v' w') : dQ P (lQ .append #[t, t2] ty [v, x]) w K :=
 Gh (S := fun y => base <= y) hu hu2 hi hsz hz hzs h hx hone (fun _ h => Nat.le_trans hb h) hn hbytes _hpos hk
end
section
variable {P : Program} {w : RM} {t e : TypeId}
theorem Lf {i : TypeInfo} {z : RN} {n : Nat} {ps : List (Nat × RN)} {cells : Array RN} (hu : P.underlying t = some (.slice e)) (hi : P.info? e = some i) (hz : i.zero = some z)
 (h1 : ¬ n * i.size > 2 ^ 24) (h0 : ¬ n * i.size = 0) (hf : Instr.fill (fun j => some (j * i.size, i.size)) ((Array.range (n * i.size)).map (z.cells[· % z.cells.size]!)) ps = some cells)
 {K : RN -> RM -> Prop} (hk : ∀ w', iL w' w.heap.size cells.toList -> fW w w' kY -> w'.heap.size = w.heap.size + 1 -> K (.slice (some ⟨w.heap.size, 0, none⟩) n n) w') :
 dQ P (iM t n ps) w K := by
 have hz' : (zeroValue e).run P w = .ok z w := by simp [zeroValue, typeInfo, hi, hz]
 have : (iM t n ps).run P w = .ok (.value (.slice (some ⟨w.heap.size, 0, none⟩) n n)) (w.alloc (.cells cells.toList.toArray e)) := by
  unfold iM; rw [lE]
  simp only [Instr.buildSlice, underlying, pure_bind, Sem.run_bind, run_program, Result.andThen_ok, hu, Sem.run_pure, hJ hi, h1, h0, if_false, hz', hf, newRow, run_newObj]
  rfl
 unfold dQ
 rw [this]
 exact hk _ (iL.alloc _ _ _) (fW.alloc _ _ _) (by simp)
theorem iL.mark {b : Nat} {cs : List RN} (h : iL w b cs) : iL (w.freeze ⟨b, cs.length, none⟩ 1) b cs := by
 have hb := h.lt
 obtain ⟨T, lo, hi, h, k⟩ := h
 by_cases hlh : (lo == hi) = true
 .refine ⟨T, cs.length, cs.length + 1, ?_, .inl (QD _)⟩
  show (w.heap.modify b _)[b]? = _
  rw [Rt, if_pos rfl, h]
  have hlh : lo = hi := by simpa using hlh
  simp [hlh]
 .refine ⟨T, min lo cs.length, max hi (cs.length + 1), ?_, .inl ?_⟩
  .show (w.heap.modify b _)[b]? = _
   rw [Rt, if_pos rfl, h]
   have hlh : ¬ lo = hi := by simpa using hlh
   simp [hlh]
  .rcases k with k | k
   .omega
   .exfalso; apply hlh; rw [k]; simp
theorem fW.mark (w : RM) (a : Addr) : fW w (w.freeze a 1) (fun y => y = a.block) :=
 ⟨rfl, rfl, rfl, by show _ <= (w.heap.modify _ _).size; simp, fun b hb hn => by
  show (w.heap.modify a.block _)[b]? = _
  rw [Rt]
  rw [if_neg (fun h => hn h.symm)]⟩
theorem NH (hu : P.underlying t = some (.slice e)) (he : P.underlying e = some (.int .u8)) {b off n c : Nat} {cs : List RN} (ho : iL w b cs)
 {K : RN -> RM -> Prop} (hk : ∀ w', iL w' b cs -> fW w w' (fun y => y = b) -> w'.heap.size = w.heap.size -> K (.slice (some ⟨b, off, none⟩) n c) w') :
 dQ P (jC t t (.slice (some ⟨b, off, none⟩) n c)) w K := by
 obtain ⟨T, hs⟩ : ∃ T, w.shape? b = some (T, cs.length) := by
  obtain ⟨T, lo, hi, h, _⟩ := ho
  exact ⟨T, by unfold World.shape?; rw [h]; simp⟩
 have : (jC t t (.slice (some ⟨b, off, none⟩) n c)).run P w = .ok (.value (.slice (some ⟨b, off, none⟩) n c)) (w.freeze ⟨b, cs.length, none⟩ 1) := by
  unfold jC; rw [lE]
  simp [convert, underlying, hu, he, markStringish, shape, freeze, Sem.run, hs]
 unfold dQ
 rw [this]
 exact hk _ ho.mark (fW.mark w _) (by show (w.heap.modify _ _).size = _; simp)
end
section
variable {P : Program} {w : RM} {t e : TypeId}
def Grown (es : Array MapEntry) (clock : Nat) : Prop := (es.toList.map (·.born)).Pairwise (· < ·) /\ ∀ e ∈ es.toList, e.born < clock
def Mp {κ : Type} (w : RM) (m : Nat) (enc : κ -> RN) (l : List (κ × RN)) : Prop :=
 ∃ es clock, w.heap[m]? = some (.map es clock) /\ es.toList.map (fun e => (e.key, e.val)) = l.map (fun p => (enc p.1, p.2)) /\ Grown es clock /\ (l.map (·.1)).Nodup
theorem Mp.lt {κ : Type} {m : Nat} {enc : κ -> RN} {l : List (κ × RN)} (h : Mp w m enc l) : m < w.heap.size := by
 obtain ⟨es, c, h, _⟩ := h
 rcases Rp m w.heap.size with h' | h'
 .exact h'
 .rw [RD h'] at h; cases h
theorem Mp.ext {κ : Type} {w w' : RM} {m : Nat} {enc : κ -> RN} {l : List (κ × RN)} {M : Nat -> Prop} (h : Mp w m enc l) (hx : fW w w' M) (hM : ¬ M m) : Mp w' m enc l := by
 have := h.lt
 obtain ⟨es, c, h, k⟩ := h
 exact ⟨es, c, by rw [hx.keep m this hM]; exact h, k⟩
theorem Mp.dr {κ : Type} {w : RM} {m : Nat} {enc : κ -> RN} {l : List (κ × RN)} (h : Mp w m enc l) : Mp (dr w) m enc l := h
variable {κ : Type} [DecidableEq κ] {enc : κ -> RN}
end
theorem jJ {w : RM} {b : Nat} {cs : List RN} (h : iL w b cs) : iL (dr w) b cs := h.ext (fW.dr w kY) (fun h => h)
theorem Sl.dr {w : RM} {v : RN} {l : List RN} (h : Sl w v l) : Sl (dr w) v l := h
theorem Sl.open {w : RM} {v : RN} {l : List UInt8} (h : Bs w v l) (h0 : 0 < l.length) : ∃ b off c, v = .slice (some ⟨b, off, none⟩) l.length c /\ l.length <= c /\ ∀ i, (h : i < l.length) -> w.cell? ⟨b, off + i, none⟩ = some (lN l[i]) := by
 obtain ⟨a, n, c, rfl, hn, hc, h⟩ := h
 simp only [Qw] at hn
 subst hn
 obtain ⟨b, off, rfl, hh⟩ := h h0
 exact ⟨b, off, c, rfl, hc, fun i hi => by rw [hh i hi]; simp [hi]⟩
theorem Sl.len {w : RM} {v : RN} {l : List RN} (h : Sl w v l) : ∃ a c, v = .slice a l.length c /\ l.length <= c := by
 obtain ⟨a, n, c, rfl, rfl, hc, _⟩ := h
 exact ⟨a, c, rfl, hc⟩
theorem kQ (v : RN) : ¬ Gv v kY := by unfold Gv kY; split <;> simp
theorem HD {b o m l : Nat} (h : l ≠ m) : iV (some ⟨b, o, none⟩) m l 1 = some ⟨b, o + l, none⟩ := by
 unfold iV; rw [if_neg (fun e => h e.symm)]; simp [uB]
theorem FD.len {w : RM} {b sz n : Nat} {v : RN} {l : List RN} (h : FD w b sz v n l) : ∃ a c, v = .slice a n c := by
 rcases h.2 with ⟨rfl, rfl⟩ | ⟨x, c, r, rfl, _⟩
 .exact ⟨_, _, rfl⟩
 .exact ⟨_, _, rfl⟩
theorem Sl.nil (w : RM) : Sl w (.slice none 0 0) [] := ⟨none, 0, 0, rfl, rfl, QD _, fun h => absurd h (by simp)⟩
theorem Sl.drop' {w : RM} {a : Option Addr} {n c : Nat} {l : List RN} (h : Sl w (.slice a n c) l) {k : Nat} (hk : k <= n) : Sl w (.slice (iV a c k 1) (n - k) (c - k)) (l.drop k) := by
 have h' := h
 obtain ⟨a', n', c', e, hn, hc, hh⟩ := h'
 cases e
 by_cases h0 : n = 0
 .exact ⟨_, _, _, rfl, by rw [Qy]; omega, by omega, fun h => by omega⟩
 .obtain ⟨b, off, rfl, _⟩ := hh (by omega)
  exact h.drop hk
theorem Sl.openV {w : RM} {v : RN} {l : List RN} (h : Sl w v l) (h0 : 0 < l.length) : ∃ b off c, v = .slice (some ⟨b, off, none⟩) l.length c /\ l.length <= c /\ ∀ i, (h : i < l.length) -> w.cell? ⟨b, off + i, none⟩ = some l[i] := by
 obtain ⟨a, n, c, rfl, hn, hc, h⟩ := h
 subst hn
 obtain ⟨b, off, rfl, hh⟩ := h h0
 exact ⟨b, off, c, rfl, hc, fun i hi => by rw [hh i hi]; simp [hi]⟩
theorem Kv {P : Program} {w : RM} {t e : TypeId} {k k' : IntKind} {hi mx : Int} {i : TypeInfo} (hu : P.underlying t = some (.slice e)) (hi' : P.info? e = some i) (x : Option Addr) (n c : Nat) (h0 : 0 <= hi) (h1 : hi <= mx) (h2 : mx <= c) :
 (iB t (.slice x n c) none (some (.int k hi)) (some (.int k' mx))).run P w = .ok (.value (.slice (iV x mx.toNat 0 i.size) (hi.toNat - 0) (mx.toNat - 0))) w := by
 have h3 : (0 : Int) <= mx := by omega
 have h4 : hi <= (mx.toNat : Int) := by omega
 simp only [iB, lE, Instr.sliceAt, underlying, hu, Sem.run_bind, run_program, Result.andThen_ok, Sem.run_pure, Instr.slice, Instr.sliceBounds, pure_bind, mB h3 h2, mB h0 h4, hJ hi', iV]
end Go.En
namespace Go.Proofs.YthohephggmkeeaaDoor
open Go Go.En
set_option maxRecDepth 4000
theorem cR {ty : TypeId} (x : Option Addr) (n c : Nat) (w : RM) : (lQ .len #[22] ty [.slice x n c]).run pg w = .ok (.value (.int .i64 n)) w := Jf Tryd.underlying22 x n c
theorem cP {k : IntKind} (a : Int) (w : RM) : (jC 5 3 (.int k a)).run pg w = .ok (.value (.int .i64 (IntKind.i64.wrap a))) w := tX Tryd.underlying5 Tryd.underlying3
theorem cD {k : IntKind} (a : Int) (w : RM) : (jC 23 3 (.int k a)).run pg w = .ok (.value (.int .i64 (IntKind.i64.wrap a))) w := tX Tryd.underlying23 Tryd.underlying3
theorem D7 : (pg).info? 5 = some Tryd.t5 := by kernel_rfl
theorem bT {k : IntKind} {hi : Int} (a : Option Addr) (n c : Nat) (w : RM) (h0 : 0 <= hi) (h1 : hi <= c) : (iB 22 (.slice a n c) none (some (.int k hi)) none).run pg w = .ok (.value (.slice (iV a c (0) 1) (hi.toNat - 0) (c - 0))) w := KD Tryd.underlying22 D7 _ n c h0 h1
theorem lK {l : List UInt8} {v : RN} {w : RM} (h : Bs w v l) : (jC 22 9 v).run pg w = .ok (.value (.string ⟨l.toArray⟩)) w := Ml Tryd.underlying22 Tryd.underlying9 Tryd.underlying5 h
theorem cV {k : IntKind} {a : Int} (b o n c : Nat) (w : RM) (h0 : 0 <= a) (h1 : a < n) : (iP 22 (.slice (some ⟨b, o, none⟩) n c) (.int k a)).run pg w = .ok (.value (.pointer (some ⟨b, o + a.toNat, none⟩))) w := Dl rfl Tryd.underlying22 D7 b o n c h0 h1
theorem dJ (x : Addr) (w : RM) : (fM 5 (.pointer (some x))).run pg w = KK (w.cell? x) w (Ma pg 5 x w) := I8 Tryd.underlying5 rfl x w
theorem bX {ty : TypeId} (x : Option Addr) (n c : Nat) (w : RM) : (lQ .len #[30] ty [.slice x n c]).run pg w = .ok (.value (.int .i64 n)) w := Jf Tryd.underlying30 x n c
theorem Lq : (pg).info? 22 = some Tryd.t22 := by kernel_rfl
theorem bW {k : IntKind} {a : Int} (b o n c : Nat) (w : RM) (h0 : 0 <= a) (h1 : a < n) : (iP 30 (.slice (some ⟨b, o, none⟩) n c) (.int k a)).run pg w = .ok (.value (.pointer (some ⟨b, o + a.toNat, none⟩))) w := Dl rfl Tryd.underlying30 Lq b o n c h0 h1
theorem cS (x : Addr) (w : RM) : (fM 22 (.pointer (some x))).run pg w = KK (w.cell? x) w (Ma pg 22 x w) := I8 Tryd.underlying22 rfl x w
theorem pY {n : Nat} {ps : List (Nat × RN)} {cells : Array RN} {w : RM} (h1 : ¬ n * 1 > 2 ^ 24) (h0 : ¬ n * 1 = 0) (hf : Go.Instr.fill (fun j => some (j * 1, 1)) ((Array.range (n * 1)).map ((Tryd.t5.zero.get!).cells[· % (Tryd.t5.zero.get!).cells.size]!)) ps = some cells) {K : RN -> RM -> Prop} (hk : ∀ w', iL w' w.heap.size cells.toList -> fW w w' kY -> w'.heap.size = w.heap.size + 1 -> K (.slice (some ⟨w.heap.size, 0, none⟩) n n) w') : dQ pg (iM 22 n ps) w K := Lf (i := Tryd.t5) Tryd.underlying22 D7 rfl h1 h0 hf hk
theorem Dd {base n m : Nat} {ty : TypeId} {w : RM} {v x : RN} {l news : List RN} (h : FD w base 1 v n l) (hx : Cl w 1 x m news) (hone : ∀ y ∈ news, one y = true) (hb : base <= w.heap.size) (hbytes : (n + m) * 1 <= 140737488355328) {K : RN -> RM -> Prop} (hk : ∀ v' w', FD w' base 1 v' (n + m) (l ++ news) -> fW w w' (fun y => base <= y) -> K v' w') : dQ pg (lQ .append #[22, 22] ty [v, x]) w K := KI (i := Tryd.t5) Tryd.underlying22 Tryd.underlying22 D7 rfl rfl rfl h hx hone hb (by omega) hbytes (by decide) hk
theorem cM {ty : TypeId} (x : Option Addr) (n c : Nat) (w : RM) : (lQ .len #[34] ty [.slice x n c]).run pg w = .ok (.value (.int .i64 n)) w := Jf Tryd.underlying34 x n c
theorem PO : (pg).info? 23 = some Tryd.t23 := by kernel_rfl
theorem cK {k : IntKind} {a : Int} (b o n c : Nat) (w : RM) (h0 : 0 <= a) (h1 : a < n) : (iP 34 (.slice (some ⟨b, o, none⟩) n c) (.int k a)).run pg w = .ok (.value (.pointer (some ⟨b, o + a.toNat, none⟩))) w := Dl rfl Tryd.underlying34 PO b o n c h0 h1
theorem dD (x : Addr) (w : RM) : (fM 23 (.pointer (some x))).run pg w = KK (w.cell? x) w (Ma pg 23 x w) := I8 Tryd.underlying23 rfl x w
theorem Jv {k : IntKind} {n : Int} {w : RM} {K : RN -> RM -> Prop} (h0 : 0 <= n) (hn : 1 * n <= 2 ^ 48) (hk : ∀ w', iL w' w.heap.size (List.replicate n.toNat (.int .u8 0)) -> fW w w' kY -> w'.heap.size = w.heap.size + 1 -> K (.slice (some ⟨w.heap.size, 0, none⟩) n.toNat n.toNat) w') : dQ pg (CN 22 (.int k n) (.int k n)) w K := Ng (i := Tryd.t5) Tryd.underlying22 D7 rfl rfl rfl h0 hn (by omega) hk
theorem Fl {b off n c : Nat} {cs : List RN} {w : RM} (ho : iL w b cs) {K : RN -> RM -> Prop} (hk : ∀ w', iL w' b cs -> fW w w' (fun y => y = b) -> w'.heap.size = w.heap.size -> K (.slice (some ⟨b, off, none⟩) n c) w') : dQ pg (jC 22 22 (.slice (some ⟨b, off, none⟩) n c)) w K := NH Tryd.underlying22 Tryd.underlying5 ho hk
theorem cN {k : IntKind} (a : Int) (w : RM) : (jC 3 5 (.int k a)).run pg w = .ok (.value (.int .u8 (IntKind.u8.wrap a))) w := tX Tryd.underlying3 Tryd.underlying5
theorem Jd : (pg).info? 3 = some Tryd.t3 := by kernel_rfl
theorem dB {ty : TypeId} (x : Option Addr) (n c : Nat) (w : RM) : (lQ .len #[37] ty [.slice x n c]).run pg w = .ok (.value (.int .i64 n)) w := Jf Tryd.underlying37 x n c
theorem dC {k : IntKind} {a : Int} (b o n c : Nat) (w : RM) (h0 : 0 <= a) (h1 : a < n) : (iP 37 (.slice (some ⟨b, o, none⟩) n c) (.int k a)).run pg w = .ok (.value (.pointer (some ⟨b, o + a.toNat, none⟩))) w := Dl rfl Tryd.underlying37 Jd b o n c h0 h1
theorem dX (x : Addr) (w : RM) : (fM 3 (.pointer (some x))).run pg w = KK (w.cell? x) w (Ma pg 3 x w) := I8 Tryd.underlying3 rfl x w
theorem cZ {ox oy : Operand} (c d : Bool) (w : RM) : (fD .eql 4 ox oy (.bool c) (.bool d)).run pg w = .ok (.value (.bool (c == d))) w := OY c d Tryd.underlying4
theorem cC {k : IntKind} (a : Int) (w : RM) : (jC 3 40 (.int k a)).run pg w = .ok (.value (.int .u64 (IntKind.u64.wrap a))) w := tX Tryd.underlying3 Tryd.underlying40
theorem Ep {x : ByteArray} {w : RM} {K : RN -> RM -> Prop} (hk : ∀ w' c, Sl w' (.slice (some ⟨w.heap.size, 0, none⟩) x.size c) (x.data.toList.map lN) -> fW w w' kY -> w'.heap.size = w.heap.size + 1 -> (∃ r, iL w' w.heap.size (x.data.toList.map lN ++ List.replicate r (.int .u8 0)) /\ c = x.size + r) -> K (.slice (some ⟨w.heap.size, 0, none⟩) x.size c) w') : dQ pg (jC 9 22 (.string x)) w K := Kq Tryd.underlying9 Tryd.underlying22 Tryd.underlying5 hk
theorem bE {k k' : IntKind} {lo hi : Int} (a : Option Addr) (n c : Nat) (w : RM) (h0 : 0 <= lo) (h1 : lo <= hi) (h2 : hi <= c) : (iB 22 (.slice a n c) (some (.int k lo)) (some (.int k' hi)) none).run pg w = .ok (.value (.slice (iV a c (lo.toNat) 1) (hi.toNat - lo.toNat) (c - lo.toNat))) w := Jg Tryd.underlying22 D7 _ n c h0 h1 h2
theorem bQ {k : IntKind} (a : Int) (w : RM) : (jC 40 5 (.int k a)).run pg w = .ok (.value (.int .u8 (IntKind.u8.wrap a))) w := tX Tryd.underlying40 Tryd.underlying5
theorem aT (b o : Nat) (w : RM) : (fJ 47 (.pointer (some ⟨b, o, none⟩)) 3).run pg w = .ok (.value (.pointer (some ⟨b, o + 3, none⟩))) w := kH (i := 3) Tryd.underlying47 rfl Lq (by decide) _
theorem aA (b o : Nat) (w : RM) : (fJ 47 (.pointer (some ⟨b, o, none⟩)) 4).run pg w = .ok (.value (.pointer (some ⟨b, o + 4, none⟩))) w := kH (i := 4) Tryd.underlying47 rfl Jd (by decide) _
theorem aK (b o : Nat) (w : RM) : (fJ 47 (.pointer (some ⟨b, o, none⟩)) 5).run pg w = .ok (.value (.pointer (some ⟨b, o + 5, none⟩))) w := kH (i := 5) Tryd.underlying47 rfl Jd (by decide) _
theorem dE {ty : TypeId} (x : ByteArray) (w : RM) : (lQ .len #[9] ty [.string x]).run pg w = .ok (.value (.int .i64 x.size)) w := Pd Tryd.underlying9 x
theorem aJ (n0 : Int) (n1 : Int) (n2 : Int) (n3 : Int) (w : RM) : (iI 49 [(0, (.int .u64 n0)), (1, (.int .u64 n1)), (2, (.int .u64 n2)), (3, (.int .u64 n3))]).run pg w = .ok (.value (.agg #[(.int .u64 n0), (.int .u64 n1), (.int .u64 n2), (.int .u64 n3)])) w := by kernel_rfl
theorem Ll : (pg).info? 49 = some Tryd.t49 := by kernel_rfl
theorem Ij {w : RM} {K : RN -> RM -> Prop} (hk : ∀ w', iL w' w.heap.size [(.int .u64 0), (.int .u64 0), (.int .u64 0), (.int .u64 0)] -> fW w w' kY -> w'.heap.size = w.heap.size + 1 -> K (.pointer (some ⟨w.heap.size, 0, none⟩)) w') : dQ pg (lZ 49) w K := xO (i := Tryd.t49) Ll rfl hk
theorem HM {b off : Nat} {cs : List RN} {w : RM} {xs : Array RN} {K : RN -> RM -> Prop} (ho : iL w b cs) (hs : xs.size = 4) (hv : ∀ x ∈ xs.toList, one x = true) (h : off + 4 <= cs.length) (hk : ∀ w', iL w' b (gO cs off xs.toList) -> fW w w' (fun x => x = b) -> w'.heap.size = w.heap.size -> K undef w') : dQ pg (fR 49 (.pointer (some ⟨b, off, none⟩)) (.agg xs)) w K := uH (v := .agg xs) Ll ho hs hv h hk
theorem HQ : (pg).info? 40 = some Tryd.t40 := by kernel_rfl
theorem cF {k : IntKind} {a : Int} (b o : Nat) (w : RM) (h0 : 0 <= a) (h1 : a < 4) : (iP 49 (.pointer (some ⟨b, o, none⟩)) (.int k a)).run pg w = .ok (.value (.pointer (some ⟨b, o + a.toNat, none⟩))) w := LQ rfl Tryd.underlying49 HQ b o h0 (by simpa using h1)
theorem dF (x : Addr) (w : RM) : (fM 40 (.pointer (some x))).run pg w = KK (w.cell? x) w (Ma pg 40 x w) := I8 Tryd.underlying40 rfl x w
theorem uP {b off : Nat} {cs : List RN} {w : RM} {v : RN} {K : RN -> RM -> Prop} (ho : iL w b cs) (hv : one v = true) (h : off < cs.length) (hk : ∀ w', iL w' b (cs.set off v) -> fW w w' (fun x => x = b) -> w'.heap.size = w.heap.size -> K undef w') : dQ pg (fR 40 (.pointer (some ⟨b, off, none⟩)) v) w K := rU HQ rfl ho hv h hk
theorem dA {k : IntKind} {a : Int} (x : ByteArray) (w : RM) (h0 : 0 <= a) (h1 : a.toNat < x.size) : (Ek 9 (.string x) (.int k a)).run pg w = .ok (.value (.int .u8 (x[a.toNat]'h1).toNat)) w := O3 Tryd.underlying9 x h0 h1
theorem bN {k : IntKind} (a : Int) (w : RM) : (jC 5 40 (.int k a)).run pg w = .ok (.value (.int .u64 (IntKind.u64.wrap a))) w := tX Tryd.underlying5 Tryd.underlying40
theorem aH (p0 : Option Addr) (n1 : Int) (n2 : Int) (w : RM) : (iI 47 [(0, (.pointer p0)), (1, (.int .u64 n1)), (2, (.int .i64 n2))]).run pg w = .ok (.value (.agg #[(.pointer p0), (.int .u64 n1), (.int .i64 n2), (.slice none 0 0), (.int .i64 0), (.int .i64 0)])) w := by kernel_rfl
theorem OF : (pg).info? 45 = some Tryd.t45 := by kernel_rfl
theorem bB (b o : Nat) (w : RM) : (fJ 47 (.pointer (some ⟨b, o, none⟩)) 0).run pg w = .ok (.value (.pointer (some ⟨b, o, none⟩))) w := kH (i := 0) Tryd.underlying47 rfl OF (by decide) _
theorem aY (x : Addr) (w : RM) : (fM 45 (.pointer (some x))).run pg w = KK (w.cell? x) w (Ma pg 45 x w) := I8 Tryd.underlying45 rfl x w
theorem cL {k : IntKind} {lo : Int} (x : ByteArray) (w : RM) (h0 : 0 <= lo) (h1 : lo <= x.size) : (iB 9 (.string x) (some (.int k lo)) none none).run pg w = .ok (.value (.string (x.extract lo.toNat x.size))) w := JZ Tryd.underlying9  x h0 h1
theorem aD (s0 : ByteArray) (w : RM) : (iI 58 [(0, (.string s0))]).run pg w = .ok (.value (.agg #[(.string s0), (.int .i64 0)])) w := by kernel_rfl
theorem Ln : (pg).info? 58 = some Tryd.t58 := by kernel_rfl
theorem pL {w : RM} {K : RN -> RM -> Prop} (hk : ∀ w', iL w' w.heap.size [(.string ⟨#[]⟩), (.int .i64 0)] -> fW w w' kY -> w'.heap.size = w.heap.size + 1 -> K (.pointer (some ⟨w.heap.size, 0, none⟩)) w') : dQ pg (lZ 58) w K := xO (i := Tryd.t58) Ln rfl hk
theorem lU {b off : Nat} {cs : List RN} {w : RM} {xs : Array RN} {K : RN -> RM -> Prop} (ho : iL w b cs) (hs : xs.size = 2) (hv : ∀ x ∈ xs.toList, one x = true) (h : off + 2 <= cs.length) (hk : ∀ w', iL w' b (gO cs off xs.toList) -> fW w w' (fun x => x = b) -> w'.heap.size = w.heap.size -> K undef w') : dQ pg (fR 58 (.pointer (some ⟨b, off, none⟩)) (.agg xs)) w K := uH (v := .agg xs) Ln ho hs hv h hk
theorem aX (a0 : Option Addr) (l0 c0 : Nat) (w : RM) : (iI 63 [(0, (.slice a0 l0 c0))]).run pg w = .ok (.value (.agg #[(.slice a0 l0 c0), (.int .i64 0)])) w := by kernel_rfl
theorem aM {ox oy : Operand} (x : Option Addr) (w : RM) : (fD .eql 45 ox oy (.pointer x) (.pointer none)).run pg w = .ok (.value (.bool x.isNone)) w := Np Tryd.underlying45 x
theorem aV (b o : Nat) (w : RM) : (fJ 63 (.pointer (some ⟨b, o, none⟩)) 0).run pg w = .ok (.value (.pointer (some ⟨b, o, none⟩))) w := kH (i := 0) Tryd.underlying63 rfl Lq (by decide) _
theorem cU {k : IntKind} (a : Int) (w : RM) : (jC 3 35 (.int k a)).run pg w = .ok (.value (.int .u64 (IntKind.u64.wrap a))) w := tX Tryd.underlying3 Tryd.underlying35
theorem MM : (pg).info? 26 = some Tryd.t26 := by kernel_rfl
theorem aW (b o : Nat) (w : RM) : (fJ 63 (.pointer (some ⟨b, o, none⟩)) 1).run pg w = .ok (.value (.pointer (some ⟨b, o + 1, none⟩))) w := kH (i := 1) Tryd.underlying63 rfl MM (by decide) _
theorem cJ (x : Addr) (w : RM) : (fM 26 (.pointer (some x))).run pg w = KK (w.cell? x) w (Ma pg 26 x w) := I8 Tryd.underlying26 rfl x w
theorem Lv : (pg).info? 67 = some Tryd.t67 := by kernel_rfl
theorem rI {w : RM} {K : RN -> RM -> Prop} (hk : ∀ w', iL w' w.heap.size [(.int .u64 0), (.int .u64 0), (.bool false), (.bool false)] -> fW w w' kY -> w'.heap.size = w.heap.size + 1 -> K (.pointer (some ⟨w.heap.size, 0, none⟩)) w') : dQ pg (lZ 67) w K := xO (i := Tryd.t67) Lv rfl hk
theorem jL {b off : Nat} {cs : List RN} {w : RM} {xs : Array RN} {K : RN -> RM -> Prop} (ho : iL w b cs) (hs : xs.size = 4) (hv : ∀ x ∈ xs.toList, one x = true) (h : off + 4 <= cs.length) (hk : ∀ w', iL w' b (gO cs off xs.toList) -> fW w w' (fun x => x = b) -> w'.heap.size = w.heap.size -> K undef w') : dQ pg (fR 67 (.pointer (some ⟨b, off, none⟩)) (.agg xs)) w K := uH (v := .agg xs) Lv ho hs hv h hk
theorem bS {k : IntKind} {lo : Int} (a : Option Addr) (n c : Nat) (w : RM) (h0 : 0 <= lo) (h1 : lo <= n) : (iB 22 (.slice a n c) (some (.int k lo)) none none).run pg w = .ok (.value (.slice (iV a c (lo.toNat) 1) (n - lo.toNat) (c - lo.toNat))) w := Kn Tryd.underlying22 D7 _ n c h0 h1
theorem D1 {b off : Nat} {cs : List RN} {w : RM} {v : RN} {K : RN -> RM -> Prop} (ho : iL w b cs) (hv : one v = true) (h : off < cs.length) (hk : ∀ w', iL w' b (cs.set off v) -> fW w w' (fun x => x = b) -> w'.heap.size = w.heap.size -> K undef w') : dQ pg (fR 45 (.pointer (some ⟨b, off, none⟩)) v) w K := rU OF rfl ho hv h hk
theorem aC (b o : Nat) (w : RM) : (fJ 67 (.pointer (some ⟨b, o, none⟩)) 0).run pg w = .ok (.value (.pointer (some ⟨b, o, none⟩))) w := kH (i := 0) Tryd.underlying67 rfl HQ (by decide) _
theorem aE (b o : Nat) (w : RM) : (fJ 47 (.pointer (some ⟨b, o, none⟩)) 1).run pg w = .ok (.value (.pointer (some ⟨b, o + 1, none⟩))) w := kH (i := 1) Tryd.underlying47 rfl HQ (by decide) _
theorem ND : (pg).info? 4 = some Tryd.t4 := by kernel_rfl
theorem aL (b o : Nat) (w : RM) : (fJ 67 (.pointer (some ⟨b, o, none⟩)) 2).run pg w = .ok (.value (.pointer (some ⟨b, o + 2, none⟩))) w := kH (i := 2) Tryd.underlying67 rfl ND (by decide) _
theorem dP (x : Addr) (w : RM) : (fM 4 (.pointer (some x))).run pg w = KK (w.cell? x) w (Ma pg 4 x w) := I8 Tryd.underlying4 rfl x w
theorem aP (b o : Nat) (w : RM) : (fJ 67 (.pointer (some ⟨b, o, none⟩)) 1).run pg w = .ok (.value (.pointer (some ⟨b, o + 1, none⟩))) w := kH (i := 1) Tryd.underlying67 rfl HQ (by decide) _
theorem aN (b o : Nat) (w : RM) : (fJ 47 (.pointer (some ⟨b, o, none⟩)) 2).run pg w = .ok (.value (.pointer (some ⟨b, o + 2, none⟩))) w := kH (i := 2) Tryd.underlying47 rfl Jd (by decide) _
theorem bC (MN Mv ME : RN) (w : RM) : (iI 80 [(2, (.agg #[MN, Mv, ME]))]).run pg w = .ok (.value (.agg #[(.slice none 0 0), (.int .i64 0), (.slice none 0 0), (.int .i64 0), (.slice none 0 0), (.int .i64 0), (.slice none 0 0), MN, Mv, ME])) w := by kernel_rfl
theorem Li : (pg).info? 80 = some Tryd.t80 := by kernel_rfl
theorem Cg {w : RM} {K : RN -> RM -> Prop} (hk : ∀ w', iL w' w.heap.size [(.slice none 0 0), (.int .i64 0), (.slice none 0 0), (.int .i64 0), (.slice none 0 0), (.int .i64 0), (.slice none 0 0), (.int .u32 0), (.int .u32 0), (.int .u32 0)] -> fW w w' kY -> w'.heap.size = w.heap.size + 1 -> K (.pointer (some ⟨w.heap.size, 0, none⟩)) w') : dQ pg (lZ 80) w K := xO (i := Tryd.t80) Li rfl hk
theorem jE {b off : Nat} {cs : List RN} {w : RM} {xs : Array RN} {K : RN -> RM -> Prop} (ho : iL w b cs) (hs : xs.size = 10) (hv : ∀ x ∈ xs.toList, one x = true) (h : off + 10 <= cs.length) (hk : ∀ w', iL w' b (gO cs off xs.toList) -> fW w w' (fun x => x = b) -> w'.heap.size = w.heap.size -> K undef w') : dQ pg (fR 80 (.pointer (some ⟨b, off, none⟩)) (.agg xs)) w K := uH (v := .agg xs) Li ho hs hv h hk
theorem uI {b off : Nat} {cs : List RN} {w : RM} (ho : iL w b cs) (h : off + 10 <= cs.length) : (fM 80 (.pointer (some ⟨b, off, none⟩))).run pg w = .ok (.value (.agg ((cs.drop off).take 10).toArray)) w := Hq Tryd.underlying80 rfl Li ho h
theorem aR (b o : Nat) (w : RM) : (fJ 67 (.pointer (some ⟨b, o, none⟩)) 3).run pg w = .ok (.value (.pointer (some ⟨b, o + 3, none⟩))) w := kH (i := 3) Tryd.underlying67 rfl ND (by decide) _
theorem Gx {b off : Nat} {cs : List RN} {w : RM} {v : RN} {K : RN -> RM -> Prop} (ho : iL w b cs) (hv : one v = true) (h : off < cs.length) (hk : ∀ w', iL w' b (cs.set off v) -> fW w w' (fun x => x = b) -> w'.heap.size = w.heap.size -> K undef w') : dQ pg (fR 22 (.pointer (some ⟨b, off, none⟩)) v) w K := rU Lq rfl ho hv h hk
theorem Je {b off : Nat} {cs : List RN} {w : RM} {v : RN} {K : RN -> RM -> Prop} (ho : iL w b cs) (hv : one v = true) (h : off < cs.length) (hk : ∀ w', iL w' b (cs.set off v) -> fW w w' (fun x => x = b) -> w'.heap.size = w.heap.size -> K undef w') : dQ pg (fR 3 (.pointer (some ⟨b, off, none⟩)) v) w K := rU Jd rfl ho hv h hk
theorem cI {k : IntKind} (a : Int) (w : RM) : (jC 40 3 (.int k a)).run pg w = .ok (.value (.int .i64 (IntKind.i64.wrap a))) w := tX Tryd.underlying40 Tryd.underlying3
theorem tU {b off : Nat} {cs : List RN} {w : RM} (ho : iL w b cs) (h : off + 2 <= cs.length) {K : RN -> Prop} (hk : K (.agg ((cs.drop off).take 2).toArray)) : FT pg 58 (.pointer (some ⟨b, off, none⟩)) w K := Fx Tryd.underlying58 rfl Ln ho h hk
theorem aF (b o : Nat) (w : RM) : (fJ 58 (.pointer (some ⟨b, o, none⟩)) 1).run pg w = .ok (.value (.pointer (some ⟨b, o + 1, none⟩))) w := kH (i := 1) Tryd.underlying58 rfl MM (by decide) _
theorem Jc {b off : Nat} {cs : List RN} {w : RM} {v : RN} {K : RN -> RM -> Prop} (ho : iL w b cs) (hv : one v = true) (h : off < cs.length) (hk : ∀ w', iL w' b (cs.set off v) -> fW w w' (fun x => x = b) -> w'.heap.size = w.heap.size -> K undef w') : dQ pg (fR 26 (.pointer (some ⟨b, off, none⟩)) v) w K := rU MM rfl ho hv h hk
theorem oP {b off : Nat} {cs : List RN} {w : RM} (ho : iL w b cs) (h : off + 2 <= cs.length) : (fM 58 (.pointer (some ⟨b, off, none⟩))).run pg w = .ok (.value (.agg ((cs.drop off).take 2).toArray)) w := Hq Tryd.underlying58 rfl Ln ho h
theorem bZ {ox oy : Operand} (x : Option Addr) (n c : Nat) (w : RM) : (fD .eql 22 ox oy (.slice x n c) (.slice none 0 0)).run pg w = .ok (.value (.bool x.isNone)) w := Nx Tryd.underlying22 x n c
theorem bU {k k' : IntKind} {hi mx : Int} (a : Option Addr) (n c : Nat) (w : RM) (h0 : 0 <= hi) (h1 : hi <= mx) (h2 : mx <= c) : (iB 22 (.slice a n c) none (some (.int k hi)) (some (.int k' mx))).run pg w = .ok (.value (.slice (iV a mx.toNat 0 1) (hi.toNat - 0) (mx.toNat - 0))) w := Kv Tryd.underlying22 D7 a n c h0 h1 h2
theorem nC {b off : Nat} {cs : List RN} {w : RM} (ho : iL w b cs) (h : off + 4 <= cs.length) {K : RN -> Prop} (hk : K (.agg ((cs.drop off).take 4).toArray)) : FT pg 67 (.pointer (some ⟨b, off, none⟩)) w K := Fx Tryd.underlying67 rfl Lv ho h hk
theorem bL  (w : RM) : (iI 67 []).run pg w = .ok (.value (.agg #[(.int .u64 0), (.int .u64 0), (.bool false), (.bool false)])) w := by kernel_rfl
theorem bD (b0 : Bool) (w : RM) : (iI 67 [(3, (.bool b0))]).run pg w = .ok (.value (.agg #[(.int .u64 0), (.int .u64 0), (.bool false), (.bool b0)])) w := by kernel_rfl
theorem bA (n0 : Int) (n1 : Int) (n2 : Int) (n3 : Int) (w : RM) : (iI 87 [(0, (.int .i64 n0)), (1, (.int .i64 n1)), (2, (.int .i64 n2)), (3, (.int .i64 n3))]).run pg w = .ok (.value (.agg #[(.int .i64 n0), (.int .i64 n1), (.int .i64 n2), (.int .i64 n3)])) w := by kernel_rfl
theorem cX {k : IntKind} {a : Int} (cs : Array RN) (w : RM) (h0 : 0 <= a) (h1 : a < 4) : (Ek 87 (.agg cs) (.int k a)).run pg w = KK cs[a.toNat]? w (O2 pg 87 cs k a w) := Nc Tryd.underlying87 Tryd.underlying3 rfl Jd rfl cs h0 (by simpa using h1)
theorem NZ {b off : Nat} {cs : List RN} {w : RM} {v : RN} {K : RN -> RM -> Prop} (ho : iL w b cs) (hv : one v = true) (h : off < cs.length) (hk : ∀ w', iL w' b (cs.set off v) -> fW w w' (fun x => x = b) -> w'.heap.size = w.heap.size -> K undef w') : dQ pg (fR 4 (.pointer (some ⟨b, off, none⟩)) v) w K := rU ND rfl ho hv h hk
theorem Gb {b off : Nat} {cs : List RN} {w : RM} (ho : iL w b cs) (h : off + 4 <= cs.length) : (fM 67 (.pointer (some ⟨b, off, none⟩))).run pg w = .ok (.value (.agg ((cs.drop off).take 4).toArray)) w := Hq Tryd.underlying67 rfl Lv ho h
theorem Mf : (pg).info? 72 = some Tryd.t72 := by kernel_rfl
theorem FL {b off : Nat} {cs : List RN} {w : RM} (ho : iL w b cs) (h : off + 3 <= cs.length) {K : RN -> Prop} (hk : K (.agg ((cs.drop off).take 3).toArray)) : FT pg 72 (.pointer (some ⟨b, off, none⟩)) w K := Fx Tryd.underlying72 rfl Mf ho h hk
theorem G7 {w : RM} {K : RN -> RM -> Prop} (hk : ∀ w', iL w' w.heap.size [(.int .u32 0), (.int .u32 0), (.int .u32 0)] -> fW w w' kY -> w'.heap.size = w.heap.size + 1 -> K (.pointer (some ⟨w.heap.size, 0, none⟩)) w') : dQ pg (lZ 72) w K := xO (i := Tryd.t72) Mf rfl hk
theorem aI (n0 : Int) (n1 : Int) (n2 : Int) (w : RM) : (iI 72 [(0, (.int .u32 n0)), (1, (.int .u32 n1)), (2, (.int .u32 n2))]).run pg w = .ok (.value (.agg #[(.int .u32 n0), (.int .u32 n1), (.int .u32 n2)])) w := by kernel_rfl
theorem FF {b off : Nat} {cs : List RN} {w : RM} {xs : Array RN} {K : RN -> RM -> Prop} (ho : iL w b cs) (hs : xs.size = 3) (hv : ∀ x ∈ xs.toList, one x = true) (h : off + 3 <= cs.length) (hk : ∀ w', iL w' b (gO cs off xs.toList) -> fW w w' (fun x => x = b) -> w'.heap.size = w.heap.size -> K undef w') : dQ pg (fR 72 (.pointer (some ⟨b, off, none⟩)) (.agg xs)) w K := uH (v := .agg xs) Mf ho hs hv h hk
theorem lC {b off : Nat} {cs : List RN} {w : RM} (ho : iL w b cs) (h : off + 10 <= cs.length) {K : RN -> Prop} (hk : K (.agg ((cs.drop off).take 10).toArray)) : FT pg 80 (.pointer (some ⟨b, off, none⟩)) w K := Fx Tryd.underlying80 rfl Li ho h hk
theorem bM  (w : RM) : (iI 80 []).run pg w = .ok (.value (.agg #[(.slice none 0 0), (.int .i64 0), (.slice none 0 0), (.int .i64 0), (.slice none 0 0), (.int .i64 0), (.slice none 0 0), (.int .u32 0), (.int .u32 0), (.int .u32 0)])) w := by kernel_rfl
theorem Mh : (pg).info? 90 = some Tryd.t90 := by kernel_rfl
theorem yL {w : RM} {K : RN -> RM -> Prop} (hk : ∀ w', iL w' w.heap.size [(.bool false), (.int .i64 0), (.int .i64 0)] -> fW w w' kY -> w'.heap.size = w.heap.size + 1 -> K (.pointer (some ⟨w.heap.size, 0, none⟩)) w') : dQ pg (lZ 90) w K := xO (i := Tryd.t90) Mh rfl hk
theorem rJ {b off : Nat} {cs : List RN} {w : RM} {xs : Array RN} {K : RN -> RM -> Prop} (ho : iL w b cs) (hs : xs.size = 3) (hv : ∀ x ∈ xs.toList, one x = true) (h : off + 3 <= cs.length) (hk : ∀ w', iL w' b (gO cs off xs.toList) -> fW w w' (fun x => x = b) -> w'.heap.size = w.heap.size -> K undef w') : dQ pg (fR 90 (.pointer (some ⟨b, off, none⟩)) (.agg xs)) w K := uH (v := .agg xs) Mh ho hs hv h hk
theorem aS (b o : Nat) (w : RM) : (fJ 90 (.pointer (some ⟨b, o, none⟩)) 2).run pg w = .ok (.value (.pointer (some ⟨b, o + 2, none⟩))) w := kH (i := 2) Tryd.underlying90 rfl Jd (by decide) _
theorem aU (b o : Nat) (w : RM) : (fJ 90 (.pointer (some ⟨b, o, none⟩)) 1).run pg w = .ok (.value (.pointer (some ⟨b, o + 1, none⟩))) w := kH (i := 1) Tryd.underlying90 rfl Jd (by decide) _
theorem aQ (b o : Nat) (w : RM) : (fJ 90 (.pointer (some ⟨b, o, none⟩)) 0).run pg w = .ok (.value (.pointer (some ⟨b, o, none⟩))) w := kH (i := 0) Tryd.underlying90 rfl ND (by decide) _
theorem Pj : (pg).info? 9 = some Tryd.t9 := by kernel_rfl
theorem aG (b o : Nat) (w : RM) : (fJ 58 (.pointer (some ⟨b, o, none⟩)) 0).run pg w = .ok (.value (.pointer (some ⟨b, o, none⟩))) w := kH (i := 0) Tryd.underlying58 rfl Pj (by decide) _
theorem dG (x : Addr) (w : RM) : (fM 9 (.pointer (some x))).run pg w = KK (w.cell? x) w (Ma pg 9 x w) := I8 Tryd.underlying9 rfl x w
theorem cO {k : IntKind} {hi : Int} (x : ByteArray) (w : RM) (h0 : 0 <= hi) (h1 : hi <= x.size) : (iB 9 (.string x) none (some (.int k hi)) none).run pg w = .ok (.value (.string (x.extract 0 hi.toNat))) w := Jt Tryd.underlying9  x h0 h1
theorem LH {b off : Nat} {cs : List RN} {w : RM} {v : RN} {K : RN -> RM -> Prop} (ho : iL w b cs) (hv : one v = true) (h : off < cs.length) (hk : ∀ w', iL w' b (cs.set off v) -> fW w w' (fun x => x = b) -> w'.heap.size = w.heap.size -> K undef w') : dQ pg (fR 9 (.pointer (some ⟨b, off, none⟩)) v) w K := rU Pj rfl ho hv h hk
theorem Cd {b off : Nat} {cs : List RN} {w : RM} (ho : iL w b cs) (h : off + 3 <= cs.length) {K : RN -> Prop} (hk : K (.agg ((cs.drop off).take 3).toArray)) : FT pg 90 (.pointer (some ⟨b, off, none⟩)) w K := Fx Tryd.underlying90 rfl Mh ho h hk
theorem bO  (w : RM) : (iI 90 []).run pg w = .ok (.value (.agg #[(.bool false), (.int .i64 0), (.int .i64 0)])) w := by kernel_rfl
theorem aO (b0 : Bool) (n1 : Int) (n2 : Int) (w : RM) : (iI 90 [(0, (.bool b0)), (1, (.int .i64 n1)), (2, (.int .i64 n2))]).run pg w = .ok (.value (.agg #[(.bool b0), (.int .i64 n1), (.int .i64 n2)])) w := by kernel_rfl
theorem cW {k : IntKind} (a : Int) (w : RM) : (jC 35 3 (.int k a)).run pg w = .ok (.value (.int .i64 (IntKind.i64.wrap a))) w := tX Tryd.underlying35 Tryd.underlying3
theorem C9 {ty : TypeId} {w : RM} {b off dl c : Nat} {cs : List RN} (ho : iL w b cs) (hl : off + dl <= cs.length) {v : RN} {l : List RN} (h : Sl w v l) (hv : ∀ x ∈ l, one x = true) {K : RN -> RM -> Prop} (hk : ∀ w', iL w' b (gO cs off (l.take (min l.length dl))) -> fW w w' (fun x => x = b) -> w'.heap.size = w.heap.size -> K (.int .i64 (min l.length dl : Nat)) w') : dQ pg (lQ .copy #[22, 22] ty [.slice (some ⟨b, off, none⟩) dl c, v]) w K := Nn Tryd.underlying22 D7 rfl ho hl h hv hk
theorem bV {k : IntKind} (a : Int) (w : RM) : (jC 35 70 (.int k a)).run pg w = .ok (.value (.int .u32 (IntKind.u32.wrap a))) w := tX Tryd.underlying35 Tryd.underlying70
theorem bY {k : IntKind} (a : Int) (w : RM) : (jC 70 35 (.int k a)).run pg w = .ok (.value (.int .u64 (IntKind.u64.wrap a))) w := tX Tryd.underlying70 Tryd.underlying35
theorem cG (MN Mv ME PJ : RN) (w : RM) : (iI 138 [(0, (.agg #[MN, Mv, ME, PJ]))]).run pg w = .ok (.value (.agg #[MN, Mv, ME, PJ, (.int .u8 0), (.int .u8 0), (.int .u8 0), (.int .u8 0), (.int .u8 0), (.int .u8 0), (.int .u8 0), (.int .u8 0), (.int .u8 0), (.int .u8 0), (.int .u8 0), (.int .u8 0), (.int .u8 0), (.int .u8 0), (.int .u8 0), (.int .u8 0), (.int .u8 0), (.int .u8 0), (.int .u8 0), (.int .u8 0), (.int .u8 0), (.int .u8 0), (.int .u8 0), (.int .u8 0), (.int .u8 0), (.int .u8 0), (.int .u8 0), (.int .u8 0), (.int .u8 0), (.int .u8 0), (.int .u8 0), (.int .u8 0), (.int .i64 0), (.int .u64 0)])) w := by kernel_rfl
theorem bP {ox oy : Operand} (x : Option Addr) (w : RM) : (fD .eql 106 ox oy (.pointer x) (.pointer none)).run pg w = .ok (.value (.bool x.isNone)) w := Np Tryd.underlying106 x
theorem bR (b o : Nat) (w : RM) : (fJ 138 (.pointer (some ⟨b, o, none⟩)) 3).run pg w = .ok (.value (.pointer (some ⟨b, o + 37, none⟩))) w := kH (i := 3) Tryd.underlying138 rfl HQ (by decide) _
theorem O0 : (pg).info? 136 = some Tryd.t136 := by kernel_rfl
theorem bK (b o : Nat) (w : RM) : (fJ 138 (.pointer (some ⟨b, o, none⟩)) 1).run pg w = .ok (.value (.pointer (some ⟨b, o + 4, none⟩))) w := kH (i := 1) Tryd.underlying138 rfl O0 (by decide) _
theorem cH (b o : Nat) (w : RM) : (fJ 138 (.pointer (some ⟨b, o, none⟩)) 2).run pg w = .ok (.value (.pointer (some ⟨b, o + 36, none⟩))) w := kH (i := 2) Tryd.underlying138 rfl Jd (by decide) _
theorem bF {k : IntKind} {lo : Int} (b o : Nat) (w : RM) (h0 : 0 <= lo) (h1 : lo <= 32) : (iB 136 (.pointer (some ⟨b, o, none⟩)) (some (.int k lo)) none none).run pg w = .ok (.value (.slice (some (uC ⟨b, o, none⟩ 32 (lo.toNat) 1)) (32 - lo.toNat) (32 - lo.toNat))) w := Jq Tryd.underlying136 D7 _ h0 (by simpa using h1)
theorem cB (b o : Nat) (w : RM) : (fJ 138 (.pointer (some ⟨b, o, none⟩)) 0).run pg w = .ok (.value (.pointer (some ⟨b, o, none⟩))) w := kH (i := 0) Tryd.underlying138 rfl Ll (by decide) _
theorem aZ {k k' : IntKind} {lo hi : Int} (b o : Nat) (w : RM) (h0 : 0 <= lo) (h1 : lo <= hi) (h2 : hi <= 32) : (iB 136 (.pointer (some ⟨b, o, none⟩)) (some (.int k lo)) (some (.int k' hi)) none).run pg w = .ok (.value (.slice (some (uC ⟨b, o, none⟩ 32 (lo.toNat) 1)) (hi.toNat - lo.toNat) (32 - lo.toNat))) w := It Tryd.underlying136 D7 _ h0 h1 (by simpa using h2)
theorem bJ {k : IntKind} {hi : Int} (b o : Nat) (w : RM) (h0 : 0 <= hi) (h1 : hi <= 32) : (iB 136 (.pointer (some ⟨b, o, none⟩)) none (some (.int k hi)) none).run pg w = .ok (.value (.slice (some (uC ⟨b, o, none⟩ 32 (0) 1)) (hi.toNat - 0) (32 - 0))) w := Kc Tryd.underlying136 D7 _ h0 (by simpa using h1)
theorem bH {k : IntKind} (a : Int) (w : RM) : (jC 70 40 (.int k a)).run pg w = .ok (.value (.int .u64 (IntKind.u64.wrap a))) w := tX Tryd.underlying70 Tryd.underlying40
theorem bG {k : IntKind} (a : Int) (w : RM) : (jC 40 70 (.int k a)).run pg w = .ok (.value (.int .u32 (IntKind.u32.wrap a))) w := tX Tryd.underlying40 Tryd.underlying70
theorem H5 {b off : Nat} {cs : List RN} {w : RM} (ho : iL w b cs) (h : off + 4 <= cs.length) : (fM 49 (.pointer (some ⟨b, off, none⟩))).run pg w = .ok (.value (.agg ((cs.drop off).take 4).toArray)) w := Hq Tryd.underlying49 rfl Ll ho h
theorem cA {k : IntKind} {a : Int} (cs : Array RN) (w : RM) (h0 : 0 <= a) (h1 : a < 4) : (Ek 49 (.agg cs) (.int k a)).run pg w = KK cs[a.toNat]? w (O2 pg 49 cs k a w) := Nc Tryd.underlying49 Tryd.underlying40 rfl HQ rfl cs h0 (by simpa using h1)
end Go.Proofs.YthohephggmkeeaaDoor
namespace Go.Pu
def D3 (p : Int) : Int := if p < 0 then 1 else p
def fits : Int -> List Int -> Bool
 | left, [] => left == 0
 | left, p :: r => if p < -1 ∨ left < D3 p then false else fits (left - D3 p) r
def J5 (ps : List Int) : Int := (ps.map D3).sum
def On (log : Int) (ps : List Int) : Bool := decide (5 <= log /\ log <= 15 /\ 1 <= ps.length /\ ps.length <= 256 /\ ps.getLast? ≠ some 0)
def PC (log : Int) (ps : List Int) : Bool := On log ps && fits (2 ^ log.toNat) ps
theorem IM (p : Int) (ps : List Int) : J5 (p :: ps) = D3 p + J5 ps := by simp [J5]
theorem Iu {p : Int} (h : -1 <= p) : 0 <= D3 p := by unfold D3; split <;> omega
theorem JP {ps : List Int} (h : ∀ p ∈ ps, -1 <= p) : 0 <= J5 ps := by
 induction ps with
 | nil => simp [J5]
 | cons p r ih =>
   rw [IM]
   have := Iu (h p (by simp))
   have := ih fun q hq => h q (QE _ hq)
   omega
theorem Jw : ∀ {ps : List Int} {left : Int}, fits left ps = true ↔ (∀ p ∈ ps, -1 <= p) /\ J5 ps = left
 | [], left => by simp [fits, J5]; constructor <;> intro h <;> omega
 | p :: r, left => by
   rw [fits, IM]
   by_cases h : p < -1 ∨ left < D3 p
   .rw [if_pos h]
    constructor
    .intro h; cases h
    .rintro ⟨h1, h2⟩
     have hp := h1 p (by simp)
     have := JP (ps := r) fun q hq => h1 q (QE _ hq)
     omega
   .rw [if_neg h, Jw]
    constructor
    .rintro ⟨h1, h2⟩
     exact ⟨fun q hq => by rcases Rk.1 hq with rfl | hq; · omega
                           .exact h1 q hq, by omega⟩
    .rintro ⟨h1, h2⟩
     exact ⟨fun q hq => h1 q (QE _ hq), by omega⟩
structure Qa (log : Nat) (ps : List Int) : Prop where
 log5 : 5 <= log
 log15 : log <= 15
 len1 : 1 <= ps.length
 len256 : ps.length <= 256
 last : ps.getLast? ≠ some 0
 low : ∀ p ∈ ps, -1 <= p
 sum : J5 ps = 2 ^ log
theorem Qa.b {log : Nat} {ps : List Int} (h : Qa log ps) : PC log ps = true := by
 unfold PC On
 simp only [Qu, decide_eq_true_eq]
 have h1 := h.log5
 have h2 := h.log15
 refine ⟨⟨by omega, by omega, h.len1, h.len256, h.last⟩, ?_⟩
 rw [Jw, Qp]
 exact ⟨h.low, h.sum⟩
def pos (n j : Nat) : Nat := (j * (n / 2 + n / 8 + 3)) % n
end Go.Pu
namespace Go.En
open Go
section
variable {P : Program} {w : RM} {t e : TypeId}
theorem Kj {i : TypeInfo} (hu : P.underlying t = some (.slice e)) (hi : P.info? e = some i)
 {K : RN -> RM -> Prop} (hk : ∀ w', iL w' w.heap.size [] -> fW w w' kY -> w'.heap.size = w.heap.size + 1 -> K (.slice (some ⟨w.heap.size, 0, none⟩) 0 0) w') :
 dQ P (iM t 0 []) w K := by
 have : (iM t 0 []).run P w = .ok (.value (.slice (some ⟨w.heap.size, 0, none⟩) 0 0)) (w.alloc (.cells ([] : List RN).toArray e)) := by
  unfold iM; rw [lE]
  have h1 : ¬ (0 > 2 ^ 24) := by omega
  have e : ∀ f : Nat -> RN, Array.map f (Array.range 0) = #[] := fun f => by simp
  simp only [Instr.buildSlice, underlying, pure_bind, Sem.run_bind, run_program, Result.andThen_ok, hu, Sem.run_pure, hJ hi, Nat.zero_mul, h1, if_false, if_true, newRow, run_newObj, Instr.fill, e]
  rfl
 unfold dQ
 rw [this]
 exact hk _ (iL.alloc _ _ _) (fW.alloc _ _ _) (by simp)
def At (v : RN) (b : Nat) : Prop := ∀ M : Nat -> Prop, ¬ M b -> ¬ Gv v M
theorem At.nil (c b : Nat) (a : Option Addr) : At (.slice a 0 c) b := fun M h => by unfold Gv; split <;> simp_all
theorem At.at (b o n c : Nat) : At (.slice (some ⟨b, o, none⟩) n c) b := fun M h => by
 unfold Gv; split
 .rename_i x m _ e
  obtain ⟨rfl, _⟩ : (⟨b, o, none⟩ : Addr) = x /\ _ := by simpa using e
  exact h
 .simp
theorem FD.at' {w : RM} {base sz n : Nat} {v : RN} {l : List RN} (h : FD w base sz v n l) (hb : base < w.heap.size) : ∃ b, base <= b /\ b < w.heap.size /\ At v b := by
 rcases h.2 with ⟨rfl, rfl⟩ | ⟨b, c, rest, rfl, h2, h3, h4, h5⟩
 .exact ⟨base, QD _, hb, At.nil _ _ _⟩
 .exact ⟨b, h2, h3.lt, At.at _ _ _ _⟩
end
end Go.En
namespace Go.Proofs.YthohephggmkeeaaDoor
open Go Go.En Go.Pu
set_option maxRecDepth 4000
theorem OL {w : RM} {v : RN} {l : List UInt8} (h : Bs w v l) (h0 : 0 < l.length) : ∃ b off c, v = .slice (some ⟨b, off, none⟩) l.length c /\ l.length <= c /\ ∀ i, (h : i < l.length) -> w.cell? ⟨b, off + i, none⟩ = some (.int .u8 (l[i].toNat : Nat)) := by
 obtain ⟨b, off, c, rfl, hc, hcell⟩ := h.openV (by simpa using h0)
 refine ⟨b, off, c, by rw [Qw], by simpa using hc, fun i hi => ?_⟩
 have := hcell i (by simpa using hi)
 simpa [lN] using this
theorem Oc {v : RN} {l : List UInt8} {w : RM} (h : Bs w v l) (hl : l.length <= 1000000000) :
 fK pg mQ #[v] w (fun r w' => FD w' w.heap.size 1 r l.length (l.map lN) /\ fW w w' kY) := by
 refine BP ?_
 have h1 := h
 obtain ⟨a, n, c, rfl, hn, hc, hh⟩ := h
 rw [Qw] at hn
 unfold zR pN
 cases a with
 | none =>
   have h0 : l = [] := by
    cases l with
    | nil => rfl
    | cons x l => obtain ⟨b, off, h, _⟩ := hh (by simp at hn; omega); cases h
   subst h0
   simp (disch := omega) only [dQ, bZ, Qo, cQ, dI]
   exact ⟨FD.nil _ _ _, fW.refl _ _⟩
 | some x =>
   simp (disch := omega) only [dQ, bZ, Qn, cQ, cY]
   refine Kj Tryd.underlying22 D7 fun w1 o1 x1 s1 => ?_
   have hcl1 := (h1.ext x1 (kQ _)).cl
   rw [Qw] at hcl1
   have hos : FD w1 w.heap.size 1 (.slice (some ⟨w.heap.size, 0, none⟩) 0 0) 0 [] := ⟨rfl, .inr ⟨_, 0, [], rfl, QD _, o1, rfl, QD _⟩⟩
   refine Dd hos hcl1 (KU _) x1.size (by omega) fun v3 w3 o3 x3 => ?_
   rw [Qs, Rd] at o3
   exact ⟨o3, x1.trans x3 fun b hb h => Nat.not_le_of_lt hb h⟩
def Pe (v : RN) (lo hi : Nat) : Prop := ∀ M : Nat -> Prop, (∀ b, lo <= b -> b < hi -> ¬ M b) -> ¬ Gv v M
theorem FD.atI {w : RM} {base sz n : Nat} {v : RN} {l : List RN} (h : FD w base sz v n l) : Pe v base w.heap.size := by
 intro M hM
 rcases h.2 with ⟨rfl, rfl⟩ | ⟨b, c, rest, rfl, h2, h3, h4, h5⟩
 .exact fun h => h
 .exact At.at b 0 n c M (hM b h2 h3.lt)
end Go.Proofs.YthohephggmkeeaaDoor
namespace Go.Pu
open Go Go.En
def PN (c : UInt8) : List Bool := (List.range 8).map c.toNat.testBit
def Oo : List UInt8 -> List Bool
 | [] => []
 | c :: l => PN c ++ Oo l
theorem OI {x i : Nat} (h : x < 2 ^ i) (b : Nat) : x ||| (b * 2 ^ i) = x + 2 ^ i * b := by
 rw [Nat.or_comm, RC b, <- Nat.two_pow_add_eq_or_of_lt h b, Nat.add_comm]
theorem NN {a b : Nat} (ha : a < 2 ^ 64) (hb : b < 2 ^ 64) : Pg .u64 (a : Int) (b : Int) = ((a ||| b : Nat) : Int) := by
 have h := Nat.or_lt_two_pow ha hb
 unfold Pg
 have e : IntKind.u64.bits = 64 := rfl
 rw [e, BitVec.ofInt_natCast, BitVec.ofInt_natCast, BitVec.toNat_or, BitVec.toNat_ofNat, BitVec.toNat_ofNat, QV ha, QV hb]
 exact dY (by omega) (by have : ((a ||| b : Nat) : Int) < ((2 ^ 64 : Nat) : Int) := by exact_mod_cast h
                         omega)
end Go.Pu
namespace Go.Proofs.YthohephggmkeeaaDoor
open Go Go.En Go.Pu
set_option maxRecDepth 4000
def P4 (w : RM) (lo hi : Nat) (l : List UInt8) (st : Nat) : Prop := ∃ v, iL w hi [v, .int .i64 st] /\ Bs w v l /\ Pe v lo hi
theorem P4.ext {w w' : RM} {lo hi st : Nat} {l : List UInt8} {M : Nat -> Prop} (h : P4 w lo hi l st) (hx : fW w w' M) (hM : ∀ b, lo <= b -> b <= hi -> ¬ M b) (hlh : lo <= hi) : P4 w' lo hi l st := by
 obtain ⟨v, h1, h2, h3⟩ := h
 exact ⟨v, h1.ext hx (hM _ hlh (QD _)), h2.ext hx (h3 M fun b hb hh => hM b hb (by omega)), h3⟩
theorem Pe.sub {a : Option Addr} {n c m c' k sz lo hi : Nat} (h : Pe (.slice a n c) lo hi) (hm : m <= n) : Pe (.slice (iV a c k sz) m c') lo hi := by
 intro M hM hin
 cases m with
 | zero => unfold Gv at hin; split at hin <;> simp_all
 | succ m =>
   obtain ⟨n', rfl⟩ : ∃ n', n = n' + 1 := ⟨n - 1, by omega⟩
   have h1 := h M hM
   cases a with
   | none => unfold iV at hin; split at hin <;> exact hin
   | some x =>
     unfold iV at hin
     have h2 : M x.block := by
      split at hin
      .exact hin
      .rw [QR] at hin
       have e : (x.add (k * sz)).block = x.block := by unfold Addr.add; split <;> rfl
       have h3 : M (x.add (k * sz)).block := hin
       rwa [e] at h3
     exact h1 h2
end Go.Proofs.YthohephggmkeeaaDoor
namespace Go.Pu
def kB : List UInt8 -> Nat
 | [] => 0
 | c :: l => c.toNat + 256 * kB l
theorem zH : ∀ l : List UInt8, kB l < 256 ^ l.length
 | [] => by simp [kB]
 | c :: l => by
   have := zH l
   have hc := c.toNat_lt
   rw [kB, QK, RL]; omega
theorem IB (c : UInt8) : ∀ l : List UInt8, kB (l ++ [c]) = kB l + 256 ^ l.length * c.toNat
 | [] => by simp [kB]
 | d :: l => by
   rw [Q9, kB, IB c l, kB, QK, RL, Nat.mul_add, Rw, RC (256 ^ l.length) 256, Nat.mul_assoc]
theorem MR (i : Nat) : 256 ^ i = 2 ^ (8 * i) := by rw [Nat.pow_mul]
theorem NX (l : List UInt8) (c : UInt8) : kB l ||| (c.toNat * 2 ^ (8 * l.length)) = kB (l ++ [c]) := by
 have := zH l
 rw [MR] at this
 rw [OI this, IB, MR]
def kI (x : Nat) : Nat -> List UInt8
 | 0 => []
 | n + 1 => UInt8.ofNat (x % 256) :: kI (x / 256) n
theorem gV : ∀ (n x : Nat), (kI x n).length = n
 | 0, _ => rfl
 | n + 1, x => by rw [kI, QK, gV n]
theorem Bq : ∀ (n x : Nat), kB (kI x n) = x % 256 ^ n
 | 0, x => by simp [kI, kB, Nat.mod_one]
 | n + 1, x => by
   rw [kI, kB, Bq n, RL, RC (256 ^ n) 256, Nat.mod_mul]
   have : (UInt8.ofNat (x % 256)).toNat = x % 256 := by
    rw [Q5]; omega
   rw [this]
theorem IS : ∀ (n x : Nat), kI x (n + 1) = kI x n ++ [UInt8.ofNat (x / 256 ^ n % 256)]
 | 0, x => by simp [kI]
 | n + 1, x => by
   rw [kI, IS n (x / 256), kI, Q9, Ro, RL, RC (256 ^ n) 256]
end Go.Pu
namespace Go.Proofs.YthohephggmkeeaaDoor
open Go Go.En Go.Pu
set_option maxRecDepth 4000
def Kt (v : RN) (S : Nat -> Prop) : Prop := ∀ M : Nat -> Prop, (∀ b, S b -> ¬ M b) -> ¬ Gv v M
theorem Pe.toS {v : RN} {lo hi : Nat} {S : Nat -> Prop} (h : Pe v lo hi) (hS : ∀ b, lo <= b -> b < hi -> S b) : Kt v S := fun M hM => h M fun b h1 h2 => hM b (hS b h1 h2)
theorem Kt.mono {v : RN} {S T : Nat -> Prop} (h : Kt v S) (hT : ∀ b, S b -> T b) : Kt v T := fun M hM => h M fun b hb => hM b (hT b hb)
theorem Kt.nil (S : Nat -> Prop) : Kt (.slice none 0 0) S := fun M _ h => h
theorem Kt.sub {a : Option Addr} {n c m c' k mx sz : Nat} {S : Nat -> Prop} (h : Kt (.slice a n c) S) (hm : m <= n) : Kt (.slice (iV a mx k sz) m c') S := by
 intro M hM hin
 cases m with
 | zero => unfold Gv at hin; split at hin <;> simp_all
 | succ m =>
   obtain ⟨n', rfl⟩ : ∃ n', n = n' + 1 := ⟨n - 1, by omega⟩
   have h1 := h M hM
   cases a with
   | none => unfold iV at hin; split at hin <;> exact hin
   | some x =>
     unfold iV at hin
     have h2 : M x.block := by
      split at hin
      .exact hin
      .rw [QR] at hin
       have e : (x.add (k * sz)).block = x.block := by unfold Addr.add; split <;> rfl
       have h3 : M (x.add (k * sz)).block := hin
       rwa [e] at h3
     exact h1 h2
theorem PE {w : RM} {a : Option Addr} {n c : Nat} {l : List RN} (h : Sl w (.slice a n c) l) {k : Nat} (hk : k <= n) : Sl w (.slice (iV a k 0 1) (k - 0) (k - 0)) (l.take k) := by
 obtain ⟨a', n', c', e, hn, hc, h⟩ := h
 cases e
 refine ⟨_, _, _, rfl, by rw [Qz]; omega, QD _, fun h0 => ?_⟩
 obtain ⟨b, off, rfl, h2⟩ := h (by omega)
 have hs : iV (some ⟨b, off, none⟩) k 0 1 = some ⟨b, off + 0 * 1, none⟩ := by unfold iV; rw [if_neg (by omega)] <;> rfl
 refine ⟨b, off, by rw [hs]; simp, fun i hi => ?_⟩
 rw [Rc (by omega)]
 exact h2 i (by omega)
def B2 (w : RM) (lo hi p : Nat) (l : List UInt8) (e : Int) : Prop := lo <= p /\ p < hi /\ ∃ v, iL w p [v, .int .i64 e] /\ Bs w v l /\ Kt v (fun b => lo <= b /\ b < hi /\ b ≠ p)
theorem B2.ext {w w' : RM} {lo hi p : Nat} {l : List UInt8} {e : Int} {M : Nat -> Prop} (h : B2 w lo hi p l e) (x : fW w w' M) (hM : ∀ b, lo <= b -> b < hi -> ¬ M b) : B2 w' lo hi p l e := by
 obtain ⟨h0, h0', v, h1, h2, h3⟩ := h
 exact ⟨h0, h0', v, h1.ext x (hM _ h0 h0'), h2.ext x (h3 M fun b hb => hM b hb.1 hb.2.1), h3⟩
theorem B2.lt {w : RM} {lo hi p : Nat} {l : List UInt8} {e : Int} (h : B2 w lo hi p l e) : p < w.heap.size := by
 obtain ⟨_, _, v, h1, _⟩ := h; exact h1.lt
theorem vK {v : RN} {l : List UInt8} {w : RM} (h : Bs w v l) (hl : l.length <= 1000000000) :
 fK pg iW #[v] w (fun r w' => ∃ p, r = .pointer (some ⟨p, 0, none⟩) /\ B2 w' w.heap.size w'.heap.size p l 0 /\ fW w w' kY) := by
 refine Cu ?_
 unfold AU qO
 refine (Oc h hl).mono ?_
 rintro r w1 ⟨ho, x1⟩
 have hat := FD.atI ho
 have hs := ho.sl
 obtain ⟨va, vc, rfl⟩ := ho.len
 simp (disch := omega) only [dQ, aX, cQ]
 refine Dp fun w2 o2 x2 s2 => ?_
 have o2 : iL w2 w1.heap.size [.slice va l.length vc, .int .i64 0] := o2
 have hz := o2.lt
 exact ⟨w1.heap.size, rfl, ⟨x1.size, hz, _, o2, hs.ext x2 (kQ _), hat.toS fun b h1 h2 => ⟨h1, by omega, by omega⟩⟩, x1.seq x2⟩
def tZ (l : List UInt8) (e : Int) (n : Nat) : List UInt8 × List UInt8 × Int := if e ≠ 0 then ([], l, e) else if l.length < n then ([], l, 10) else (l.take n, l.drop n, 0)
theorem Js {lo hi p n : Nat} {l : List UInt8} {e : Int} {w : RM} (h : B2 w lo hi p l e) (hl : l.length <= 1000000000) (hn : n <= 1000000000) :
 fK pg kL #[.pointer (some ⟨p, 0, none⟩), .int .i64 n, .bool true] w (fun r w' => Bs w' r (tZ l e n).1 /\ Kt r (fun b => lo <= b /\ b < hi /\ b ≠ p) /\ B2 w' lo hi p (tZ l e n).2.1 (tZ l e n).2.2 /\ fW w w' (fun y => y = p)) := by
 refine AV ?_
 unfold xQ oR
 have h' := h
 obtain ⟨h0, h0', v, o, hb, hat⟩ := h'
 obtain ⟨va, vc, rfl, hvc⟩ := hb.len
 rw [Qw] at hb hat o hvc
 have c0 := o.cell (off := 0)
 have c1 := o.cell (off := 1)
 simp only [Qk, Ql] at c0 c1
 by_cases he : e = 0
 rotate_left
 .have n1 : (e != 0) = true := by simpa using he
  have ht : tZ l e n = ([], l, e) := by unfold tZ; rw [if_pos he]
  rw [ht]
  simp (disch := omega) only [dQ, eA, eF, Qr, cQ, aW, Qs, aV, cS, cY, cJ, c1, dH, eE, n1, dI]
  exact ⟨Sl.nil _, Kt.nil _, h, fW.refl _ _⟩
 subst he
 have n1 : ((0 : Int) != 0) = false := rfl
 by_cases hsh : l.length < n
 .have d1 : decide ((l.length : Int) < (n : Int)) = true := by simp; omega
  have ht : tZ l 0 n = ([], l, 10) := by unfold tZ; rw [if_neg (by decide), if_pos hsh]
  rw [ht]
  simp (disch := omega) only [dQ, eA, eF, Qr, cQ, aW, Qs, aV, cS, cY, cJ, c1, dH, eE, n1, c0, cR, eD, d1, dI]
  refine Jc o rfl (by simp) fun w1 o1 x1 s1 => ?_
  simp only [QB, QC] at o1
  exact ⟨Sl.nil _, Kt.nil _, ⟨h0, h0', _, o1, hb.ext x1 (hat _ fun b hb => hb.2.2), hat⟩, x1⟩
 .have d1 : decide ((l.length : Int) < (n : Int)) = false := by simp; omega
  have ht : tZ l 0 n = (l.take n, l.drop n, 0) := by unfold tZ; rw [if_neg (by decide), if_neg hsh]
  rw [ht]
  simp (disch := omega) only [dQ, eA, eF, Qr, cQ, aW, Qs, aV, cS, cY, cJ, c1, dH, eE, n1, c0, cR, eD, d1, bU, Qp, bS]
  refine Gx o rfl (by simp [one]) fun w1 o1 x1 s1 => ?_
  simp only [QB, QC] at o1
  have hbn : Bs w (.slice (iV va n 0 1) (n - 0) (n - 0)) (l.take n) := by
   have := PE hb (k := n) (by omega)
   rwa [<- RG] at this
  have hbd : Bs w (.slice (iV va vc n 1) (l.length - n) (vc - n)) (l.drop n) := by
   have := hb.drop' (k := n) (by omega)
   rwa [<- Rx] at this
  have hn1 := hat.sub (mx := n) (k := 0) (sz := 1) (m := n - 0) (c' := n - 0) (by omega)
  have hn2 := hat.sub (mx := vc) (k := n) (sz := 1) (m := l.length - n) (c' := vc - n) (by omega)
  exact ⟨hbn.ext x1 (hn1 _ fun b hb => hb.2.2), hn1, ⟨h0, h0', _, o1, hbd.ext x1 (hn2 _ fun b hb => hb.2.2), hn2⟩, x1⟩
theorem C6 {lo hi p : Nat} {l : List UInt8} {e : Int} {w : RM} (h : B2 w lo hi p l e) :
 fK pg iN #[.pointer (some ⟨p, 0, none⟩)] w (fun r w' => r = .int .i64 l.length /\ w' = w) := by
 refine Be ?_
 unfold yY oX
 obtain ⟨h0, h0', v, o, hb, hat⟩ := h
 obtain ⟨va, vc, rfl, hvc⟩ := hb.len
 rw [Qw] at hb hat o hvc
 have c0 := o.cell (off := 0)
 simp only [Qk, Ql] at c0
 simp (disch := omega) only [dQ, aM, Qn, eA, cQ, aV, cS, and_true, c0, dH, cR, cY]
theorem zV {lo hi p : Nat} {l : List UInt8} {e : Int} {w : RM} (h : B2 w lo hi p l e) :
 fK pg gU #[.pointer (some ⟨p, 0, none⟩)] w (fun r w' => r = .int .i64 e /\ w' = w) := by
 refine BO ?_
 unfold zX pQ
 obtain ⟨h0, h0', v, o, hb, hat⟩ := h
 have c1 := o.cell (off := 1)
 simp only [Qk, Ql] at c1
 simp (disch := omega) only [dQ, aM, Qn, eA, cQ, aW, Qs, cJ, and_true, c1, dH, cY]
theorem FX {lo hi p n : Nat} {l : List UInt8} {e : Int} {w : RM} (h : B2 w lo hi p l e) (hl : l.length <= 1000000000) (hn : n <= 1000000000) :
 fK pg jG #[.pointer (some ⟨p, 0, none⟩), .int .i64 n] w (fun r w' => Bs w' r (tZ l e n).1 /\ Kt r (fun b => lo <= b /\ b < hi /\ b ≠ p) /\ B2 w' lo hi p (tZ l e n).2.1 (tZ l e n).2.2 /\ fW w w' (fun y => y = p)) := by
 refine AF ?_
 unfold wT nO
 have d1 : decide ((0 : Int) <= (n : Int)) = true := by simp
 simp (disch := omega) only [dQ, aM, Qn, eI, d1, cQ, cY]
 refine (Js h hl hn).mono ?_
 rintro r w1 hr
 exact hr
theorem pP {lo hi p n : Nat} {l : List UInt8} {e : Int} {w : RM} (h : B2 w lo hi p l e) (hl : l.length <= 1000000000) (hn : 1 <= n /\ n <= 8) :
 fK pg fX #[.pointer (some ⟨p, 0, none⟩), .int .i64 n] w (fun r w' => r = .int .u64 (kB (tZ l e n).1 : Nat) /\ B2 w' lo hi p (tZ l e n).2.1 (tZ l e n).2.2 /\ fW w w' (fun y => y = p)) := by
 refine zE ?_
 unfold vB nE mX nD mV mW
 have d1 : decide ((1 : Int) <= (n : Int)) = true := by simp; omega
 have d2 : decide ((n : Int) <= 8) = true := by simp; omega
 simp (disch := omega) only [dQ, aM, Qn, eI, d1, cQ, dS, dR, if_true, dN, eK, d2, cY]
 refine (Js h hl (by omega)).mono ?_
 rintro r w1 ⟨hb, hat, hr, x1⟩
 obtain ⟨t, ht⟩ : ∃ t, t = (tZ l e n).1 := ⟨_, rfl⟩
 have htl : t.length <= 8 := by
  rw [ht]; unfold tZ
  split
  .simp
  .split
   .simp
   .simp; omega
 rw [<- ht] at hb ⊢
 obtain ⟨va, vc, rfl, hvc⟩ := hb.len
 rw [Qw] at hb hvc hat
 simp (disch := omega) only [Qw, cR, cQ]
 unfold nA mS
 refine iO.rule (fun m s w' => ∃ i : Nat, m = t.length - i /\ i <= t.length /\ s = (.int .u64 (kB (t.take i) : Nat), .int .i64 i) /\ w' = w1) t.length ⟨0, rfl, by omega, rfl, rfl⟩ ?_
 rintro m s w2 ⟨i, rfl, hi, rfl, hw⟩
 rw [hw]; clear hw w2
 unfold kU
 by_cases hlt : i < t.length
 .have d3 : decide ((i : Int) < (t.length : Int)) = true := by simp; omega
  obtain ⟨c, hc⟩ : ∃ c, c = t[i]'hlt := ⟨_, rfl⟩
  have htk : t.take (i + 1) = t.take i ++ [c] := by rw [List.take_add_one, Qv hlt, <- hc] <;> rfl
  have hor := NX (t.take i) c
  rw [<- htk, Qz, Rj (by omega)] at hor
  have hcl : c.toNat < 256 := Ru c
  obtain ⟨b, off, c', hv, hcc, hcell⟩ := hb.openV (by rw [Qw]; omega)
  have g1 := hcell i (by rw [Qw]; exact hlt)
  rw [Qw] at hv
  cases hv
  rw [List.getElem_map, <- hc] at g1
  simp only [lN] at g1
  generalize c.toNat = cx at *
  have hp : 2 ^ (8 * i) <= 2 ^ 56 := Re (by omega) (by omega)
  have hm : cx * 2 ^ (8 * i) <= 255 * 2 ^ 56 := Nat.mul_le_mul (by omega) hp
  have hb0 := zH (t.take i)
  have hb1 := zH (t.take (i + 1))
  rw [Qz, Rj (by omega)] at hb0 hb1
  have hq : 256 ^ i <= 256 ^ 7 := Re (by omega) (by omega)
  have e0 : ((8 : Int) * (i : Int)) = ((8 * i : Nat) : Int) := by omega
  have e5 : IntKind.u64.wrap ((cx : Int) * 2 ^ (min (8 * i) IntKind.u64.bits)) = ((cx * 2 ^ (8 * i) : Nat) : Int) := by
   rw [show min (8 * i) IntKind.u64.bits = 8 * i from Rj (by have : IntKind.u64.bits = 64 := rfl
                                                             omega)]
   have e : (cx : Int) * 2 ^ (8 * i) = ((cx * 2 ^ (8 * i) : Nat) : Int) := by simp
   rw [e]
   exact dY (by omega) (by omega)
  have e6 := NN (a := kB (t.take i)) (b := cx * 2 ^ (8 * i)) (by omega) (by omega)
  rw [hor] at e6
  have e7 : IntKind.u64.wrap (cx : Int) = (cx : Int) := dY (by omega) (by omega)
  simp (disch := omega) only [dQ, eB, d3, cV, Qp, eH, e0, dZ, eC, cQ, cU, dY, dJ, g1, dH, bN, e7, eN, e5, fH, e6, and_true, dI]
  exact ⟨t.length - (i + 1), by omega, i + 1, rfl, by omega, rfl⟩
 .have d3 : decide ((i : Int) < (t.length : Int)) = false := by simp; omega
  obtain rfl : i = t.length := by omega
  simp (disch := omega) only [dQ, eB, d3, eH, dZ, eC, cQ, cU, dY, cY]
  unfold kT
  rw [List.take_length]
  exact ⟨rfl, hr, x1⟩
def Ig (s : List UInt8 × Int) (n : Nat) : List UInt8 × Int := ((tZ s.1 s.2 n).2.1, (tZ s.1 s.2 n).2.2)
def JW (s : List UInt8 × Int) (n : Nat) : Nat := kB (tZ s.1 s.2 n).1
structure FH where
 window : Nat
 size : Nat
 known : Bool
 sum : Bool
def M7 (w : Nat) : Nat := 2 ^ (10 + w / 8) + 2 ^ (10 + w / 8) / 8 * (w % 8)
def Dy (d : Nat) : Bool := d / 32 % 2 == 1
def KF (d : Nat) : Nat := if d % 4 = 3 then 4 else d % 4
def EG (d : Nat) : Nat := if d / 64 = 0 then (if Dy d then 1 else 0) else 2 ^ (d / 64)
def Kl (s : List UInt8 × Int) (n : Nat) : List UInt8 × Int := if 0 < n then Ig s n else s
def H9 (s : List UInt8 × Int) (n : Nat) : Nat := if 0 < n then JW s n else 0
def O4 (s1 : List UInt8 × Int) (d : Nat) : List UInt8 × Int := if Dy d then s1 else Ig s1 1
def Hh (L : Nat) (s4 : List UInt8 × Int) (dict : Nat) (h : FH) : Except Int (FH × Nat) :=
 if s4.2 ≠ 0 then .error s4.2 else if dict ≠ 0 then .error 14 else .ok (h, L - s4.1.length)
def Mb (d x : Nat) : Nat := if EG d = 2 then x + 256 else x
def HS (L : Nat) (s1 : List UInt8 × Int) (d : Nat) : Except Int (FH × Nat) :=
 Hh L (Kl (Kl (O4 s1 d) (KF d)) (EG d)) (H9 (O4 s1 d) (KF d))
  ⟨if Dy d then Mb d (H9 (Kl (O4 s1 d) (KF d)) (EG d)) else M7 (JW s1 1), Mb d (H9 (Kl (O4 s1 d) (KF d)) (EG d)), decide (0 < EG d), d / 4 % 2 == 1⟩
def Cm (l : List UInt8) : Except Int (FH × Nat) :=
 if (Ig (l, 0) 1).2 ≠ 0 then .error (Ig (l, 0) 1).2 else if JW (l, 0) 1 / 8 % 2 = 1 then .error 11 else HS l.length (Ig (l, 0) 1) (JW (l, 0) 1)
def PS (h : FH) : RN := .agg #[.int .u64 (h.window : Nat), .int .u64 (h.size : Nat), .bool h.known, .bool h.sum]
def Nu : Except Int (FH × Nat) -> RN
 | .error e => .tuple #[PS ⟨0, 0, false, false⟩, .int .i64 0, .int .i64 e]
 | .ok (h, n) => .tuple #[PS h, .int .i64 (n : Nat), .int .i64 0]
def Bj (h : FH) : List RN := [.int .u64 (h.window : Nat), .int .u64 (h.size : Nat), .bool h.known, .bool h.sum]
theorem JF {RR : RN -> RM -> Prop} {v : RN} {L lo hi pr ph pt dict : Nat} {l : List UInt8} {e : Int} {h : FH} {z : FH} {w : RM} (hr : B2 w lo hi pr l e) (hl : l.length <= 1000000) (hv : ∃ a c, v = .slice a L c) (hL : l.length <= L) (hL2 : L <= 1000000) (oh : iL w ph (Bj h)) (ot : iL w pt (Bj z)) (hne : ph ≠ pt) (hpt : ¬ (lo <= pt /\ pt < hi))
 (hk : ∀ w', fW w w' (fun y => y = pt) -> RR (Nu (Hh L (l, e) dict h)) w') :
 qZ RR v (.pointer (some ⟨pt, 0, none⟩)) (.pointer (some ⟨pr, 0, none⟩)) (.pointer (some ⟨ph, 0, none⟩)) (.int .u64 (dict : Nat)) w := by
 unfold qZ
 obtain ⟨a, c, rfl⟩ := hv
 refine (zV hr).mono ?_
 rintro r w1 ⟨rfl, rfl⟩
 unfold Hh at hk
 by_cases he : e = 0
 .subst he
  have n0 : ((0 : Int) != 0) = false := rfl
  simp only [ne_eq, not_true, if_false] at hk
  by_cases hd : dict = 0
  .subst hd
   have n1 : (((0 : Nat) : Int) != 0) = false := rfl
   simp only [ne_eq, not_true, if_false] at hk
   have hq := Gb (off := 0) (jJ oh) (by simp [Bj])
   simp only [Bj, QN, QI, QP] at hq
   simp (disch := omega) only [dQ, fE, cQ, stepR_skip, eC, fB, eH, eT, eS, eM, fH, eP, dK, eN, eJ, eY, eE, eB, eK, eD, eI, eX, fC, eF, dR, eU, eZ, eA, gA, gB, gC, gG, gE, gF, gD, gH, gI, dH, Result.ok.injEq, Next.value.injEq, true_and, and_true, dZ, dY, fA, eL, eQ, fG, Qp, dS, dW, dV, dT, dN, dM, dO, dL, dI, cY, if_true, if_false, Qm, Qs, Qn, Qo, Qr, Qq, Ql, Qk, cR, cP, cD, bT, cV, dJ, bX, bW, cS, cM, cK, dD, cN, dB, dC, dX, cZ, cC, bE, bQ, aT, aA, aK, dE, aJ, cF, dF, dA, bN, aH, bB, aY, cL, aD, aX, aM, aV, cU, aW, cJ, bS, aC, aE, aL, dP, aP, aN, bC, aR, cI, aF, bZ, bU, bL, bD, bA, cX, aI, bM, aS, aU, aQ, aG, dG, cO, bO, aO, cW, bV, bY, cG, bP, bR, bK, cH, bF, cB, aZ, bJ, bH, bG, cA, n0, n1, hq]
   refine (C6 (hr.ext (fW.dr w1 kY) (fun _ _ _ h => h))).mono ?_
   rintro r w2 ⟨rfl, rfl⟩
   have e1 : (L : Int) - (l.length : Int) = ((L - l.length : Nat) : Int) := by omega
   simp (disch := omega) only [dQ, fE, cQ, stepR_skip, eC, fB, eH, eT, eS, eM, fH, eP, dK, eN, eJ, eY, eE, eB, eK, eD, eI, eX, fC, eF, dR, eU, eZ, eA, gA, gB, gC, gG, gE, gF, gD, gH, gI, dH, Result.ok.injEq, Next.value.injEq, true_and, and_true, dZ, dY, fA, eL, eQ, fG, Qp, dS, dW, dV, dT, dN, dM, dO, dL, dI, cY, if_true, if_false, Qm, Qs, Qn, Qo, Qr, Qq, Ql, Qk, cR, cP, cD, bT, cV, dJ, bX, bW, cS, cM, cK, dD, cN, dB, dC, dX, cZ, cC, bE, bQ, aT, aA, aK, dE, aJ, cF, dF, dA, bN, aH, bB, aY, cL, aD, aX, aM, aV, cU, aW, cJ, bS, aC, aE, aL, dP, aP, aN, bC, aR, cI, aF, bZ, bU, bL, bD, bA, cX, aI, bM, aS, aU, aQ, aG, dG, cO, bO, aO, cW, bV, bY, cG, bP, bR, bK, cH, bF, cB, aZ, bJ, bH, bG, cA, hq, e1]
   refine jL (jJ ot) rfl (by simp [one]) (by simp [Bj]) fun w3 o3 x3 s3 => ?_
   try simp (disch := omega) only [dQ, fE, cQ, stepR_skip, eC, fB, eH, eT, eS, eM, fH, eP, dK, eN, eJ, eY, eE, eB, eK, eD, eI, eX, fC, eF, dR, eU, eZ, eA, gA, gB, gC, gG, gE, gF, gD, gH, gI, dH, Result.ok.injEq, Next.value.injEq, true_and, and_true, dZ, dY, fA, eL, eQ, fG, Qp, dS, dW, dV, dT, dN, dM, dO, dL, dI, cY, if_true, if_false, Qm, Qs, Qn, Qo, Qr, Qq, Ql, Qk, cR, cP, cD, bT, cV, dJ, bX, bW, cS, cM, cK, dD, cN, dB, dC, dX, cZ, cC, bE, bQ, aT, aA, aK, dE, aJ, cF, dF, dA, bN, aH, bB, aY, cL, aD, aX, aM, aV, cU, aW, cJ, bS, aC, aE, aL, dP, aP, aN, bC, aR, cI, aF, bZ, bU, bL, bD, bA, cX, aI, bM, aS, aU, aQ, aG, dG, cO, bO, aO, cW, bV, bY, cG, bP, bR, bK, cH, bF, cB, aZ, bJ, bH, bG, cA, e1]
   refine nC o3 (by simp [gO, Bj]) ?_
   simp only [gO, Bj, QB, QC, QN, QI, QP]
   exact hk w3 ((fW.dr w1 _).seq x3)
  .have n1 : ((dict : Int) != 0) = true := by simp; omega
   rw [if_pos hd] at hk
   simp (disch := omega) only [dQ, fE, cQ, stepR_skip, eC, fB, eH, eT, eS, eM, fH, eP, dK, eN, eJ, eY, eE, eB, eK, eD, eI, eX, fC, eF, dR, eU, eZ, eA, gA, gB, gC, gG, gE, gF, gD, gH, gI, dH, Result.ok.injEq, Next.value.injEq, true_and, and_true, dZ, dY, fA, eL, eQ, fG, Qp, dS, dW, dV, dT, dN, dM, dO, dL, dI, cY, if_true, if_false, Qm, Qs, Qn, Qo, Qr, Qq, Ql, Qk, cR, cP, cD, bT, cV, dJ, bX, bW, cS, cM, cK, dD, cN, dB, dC, dX, cZ, cC, bE, bQ, aT, aA, aK, dE, aJ, cF, dF, dA, bN, aH, bB, aY, cL, aD, aX, aM, aV, cU, aW, cJ, bS, aC, aE, aL, dP, aP, aN, bC, aR, cI, aF, bZ, bU, bL, bD, bA, cX, aI, bM, aS, aU, aQ, aG, dG, cO, bO, aO, cW, bV, bY, cG, bP, bR, bK, cH, bF, cB, aZ, bJ, bH, bG, cA, n0, n1]
   refine jL ot rfl (by simp [one]) (by simp [Bj]) fun w3 o3 x3 s3 => ?_
   refine nC o3 (by simp [gO, Bj]) ?_
   simp only [gO, Bj, QB, QC, QN, QI, QP]
   exact hk w3 x3
 .have n0 : (e != 0) = true := by simp [he]
  rw [if_pos he] at hk
  simp (disch := omega) only [dQ, fE, cQ, stepR_skip, eC, fB, eH, eT, eS, eM, fH, eP, dK, eN, eJ, eY, eE, eB, eK, eD, eI, eX, fC, eF, dR, eU, eZ, eA, gA, gB, gC, gG, gE, gF, gD, gH, gI, dH, Result.ok.injEq, Next.value.injEq, true_and, and_true, dZ, dY, fA, eL, eQ, fG, Qp, dS, dW, dV, dT, dN, dM, dO, dL, dI, cY, if_true, if_false, Qm, Qs, Qn, Qo, Qr, Qq, Ql, Qk, cR, cP, cD, bT, cV, dJ, bX, bW, cS, cM, cK, dD, cN, dB, dC, dX, cZ, cC, bE, bQ, aT, aA, aK, dE, aJ, cF, dF, dA, bN, aH, bB, aY, cL, aD, aX, aM, aV, cU, aW, cJ, bS, aC, aE, aL, dP, aP, aN, bC, aR, cI, aF, bZ, bU, bL, bD, bA, cX, aI, bM, aS, aU, aQ, aG, dG, cO, bO, aO, cW, bV, bY, cG, bP, bR, bK, cH, bF, cB, aZ, bJ, bH, bG, cA, n0]
  refine (zV hr).mono ?_
  rintro r w2 ⟨rfl, rfl⟩
  refine jL ot rfl (by simp [one]) (by simp [Bj]) fun w3 o3 x3 s3 => ?_
  refine nC o3 (by simp [gO, Bj]) ?_
  simp only [gO, Bj, QB, QC, QN, QI, QP]
  exact hk w3 x3
theorem JR {RR : RN -> RM -> Prop} {v : RN} {L lo hi pr ph pt dict : Nat} {l : List UInt8} {e : Int} {h : FH} {z : FH} {o : Bool} {w : RM} (hr : B2 w lo hi pr l e) (hl : l.length <= 1000000) (hv : ∃ a c, v = .slice a L c) (hL : l.length <= L) (hL2 : L <= 1000000) (oh : iL w ph (Bj h)) (ot : iL w pt (Bj z)) (hne : ph ≠ pt) (hpt : ¬ (lo <= pt /\ pt < hi)) (hph : ¬ (lo <= ph /\ ph < hi))
 (hk : ∀ w', fW w w' (fun y => y = pt ∨ y = ph) -> RR (Nu (Hh L (l, e) dict ⟨if o then h.size else h.window, h.size, h.known, h.sum⟩)) w') :
 uU RR v (.pointer (some ⟨pt, 0, none⟩)) (.pointer (some ⟨pr, 0, none⟩)) (.pointer (some ⟨ph, 0, none⟩)) (.bool o) (.int .u64 (dict : Nat)) w := by
 unfold uU Ar
 cases o with
 | false =>
   simp (disch := omega) only [dQ, fE, cQ, stepR_skip, eC, fB, eH, eT, eS, eM, fH, eP, dK, eN, eJ, eY, eE, eB, eK, eD, eI, eX, fC, eF, dR, eU, eZ, eA, gA, gB, gC, gG, gE, gF, gD, gH, gI, dH, Result.ok.injEq, Next.value.injEq, true_and, and_true, dZ, dY, fA, eL, eQ, fG, Qp, dS, dW, dV, dT, dN, dM, dO, dL, dI, cY, if_true, if_false, Qm, Qs, Qn, Qo, Qr, Qq, Ql, Qk, cR, cP, cD, bT, cV, dJ, bX, bW, cS, cM, cK, dD, cN, dB, dC, dX, cZ, cC, bE, bQ, aT, aA, aK, dE, aJ, cF, dF, dA, bN, aH, bB, aY, cL, aD, aX, aM, aV, cU, aW, cJ, bS, aC, aE, aL, dP, aP, aN, bC, aR, cI, aF, bZ, bU, bL, bD, bA, cX, aI, bM, aS, aU, aQ, aG, dG, cO, bO, aO, cW, bV, bY, cG, bP, bR, bK, cH, bF, cB, aZ, bJ, bH, bG, cA]
   exact JF hr hl hv hL hL2 oh ot hne hpt fun w' x => hk w' (x.mono fun _ _ h => .inl h)
 | true =>
   have c1 := oh.cell (off := 1)
   simp only [Bj, Qk, Ql] at c1
   simp (disch := omega) only [dQ, fE, cQ, stepR_skip, eC, fB, eH, eT, eS, eM, fH, eP, dK, eN, eJ, eY, eE, eB, eK, eD, eI, eX, fC, eF, dR, eU, eZ, eA, gA, gB, gC, gG, gE, gF, gD, gH, gI, dH, Result.ok.injEq, Next.value.injEq, true_and, and_true, dZ, dY, fA, eL, eQ, fG, Qp, dS, dW, dV, dT, dN, dM, dO, dL, dI, cY, if_true, if_false, Qm, Qs, Qn, Qo, Qr, Qq, Ql, Qk, cR, cP, cD, bT, cV, dJ, bX, bW, cS, cM, cK, dD, cN, dB, dC, dX, cZ, cC, bE, bQ, aT, aA, aK, dE, aJ, cF, dF, dA, bN, aH, bB, aY, cL, aD, aX, aM, aV, cU, aW, cJ, bS, aC, aE, aL, dP, aP, aN, bC, aR, cI, aF, bZ, bU, bL, bD, bA, cX, aI, bM, aS, aU, aQ, aG, dG, cO, bO, aO, cW, bV, bY, cG, bP, bR, bK, cH, bF, cB, aZ, bJ, bH, bG, cA, c1]
   refine uP oh rfl (by simp [Bj]) fun w1 o1 x1 s1 => ?_
   refine JF (h := ⟨h.size, h.size, h.known, h.sum⟩) (hr.ext x1 fun y h1 h2 h3 => hph (h3 ▸ ⟨h1, h2⟩)) hl hv hL hL2 o1 (ot.ext x1 (fun e => hne e.symm)) hne hpt fun w' x => hk w' ((x1.mono fun _ _ h => .inr h).seq (x.mono fun _ _ h => .inl h))
theorem Kh {RR : RN -> RM -> Prop} {v : RN} {L lo hi pr ph pt dict n : Nat} {l : List UInt8} {e : Int} {h : FH} {z : FH} {o : Bool} {w : RM} (hn : n = 2 -> h.size < 65536) (hr : B2 w lo hi pr l e) (hl : l.length <= 1000000) (hv : ∃ a c, v = .slice a L c) (hL : l.length <= L) (hL2 : L <= 1000000) (oh : iL w ph (Bj h)) (ot : iL w pt (Bj z)) (hne : ph ≠ pt) (hpt : ¬ (lo <= pt /\ pt < hi)) (hph : ¬ (lo <= ph /\ ph < hi))
 (hk : ∀ w', fW w w' (fun y => y = pt ∨ y = ph) -> RR (Nu (Hh L (l, e) dict ⟨if o then (if n = 2 then h.size + 256 else h.size) else h.window, if n = 2 then h.size + 256 else h.size, h.known, h.sum⟩)) w') :
 uZ RR v (.pointer (some ⟨pt, 0, none⟩)) (.pointer (some ⟨pr, 0, none⟩)) (.pointer (some ⟨ph, 0, none⟩)) (.bool o) (.int .u64 (dict : Nat)) (.int .i64 (n : Nat)) w := by
 unfold uZ As
 by_cases h2 : n = 2
 .have n1 : ((n : Int) == 2) = true := by rw [h2] <;> rfl
  simp only [h2, if_true] at hk
  have hs := hn h2
  have c1 := oh.cell (off := 1)
  simp only [Bj, Qk, Ql] at c1
  have e1 : (h.size : Int) + 256 = ((h.size + 256 : Nat) : Int) := by omega
  simp (disch := omega) only [dQ, fE, cQ, stepR_skip, eC, fB, eH, eT, eS, eM, fH, eP, dK, eN, eJ, eY, eE, eB, eK, eD, eI, eX, fC, eF, dR, eU, eZ, eA, gA, gB, gC, gG, gE, gF, gD, gH, gI, dH, Result.ok.injEq, Next.value.injEq, true_and, and_true, dZ, dY, fA, eL, eQ, fG, Qp, dS, dW, dV, dT, dN, dM, dO, dL, dI, cY, if_true, if_false, Qm, Qs, Qn, Qo, Qr, Qq, Ql, Qk, cR, cP, cD, bT, cV, dJ, bX, bW, cS, cM, cK, dD, cN, dB, dC, dX, cZ, cC, bE, bQ, aT, aA, aK, dE, aJ, cF, dF, dA, bN, aH, bB, aY, cL, aD, aX, aM, aV, cU, aW, cJ, bS, aC, aE, aL, dP, aP, aN, bC, aR, cI, aF, bZ, bU, bL, bD, bA, cX, aI, bM, aS, aU, aQ, aG, dG, cO, bO, aO, cW, bV, bY, cG, bP, bR, bK, cH, bF, cB, aZ, bJ, bH, bG, cA, n1, c1, e1]
  refine uP oh rfl (by simp [Bj]) fun w1 o1 x1 s1 => ?_
  refine JR (h := ⟨h.window, h.size + 256, h.known, h.sum⟩) (hr.ext x1 fun y h1 h2 h3 => hph (h3 ▸ ⟨h1, h2⟩)) hl hv hL hL2 o1 (ot.ext x1 (fun e => hne e.symm)) hne hpt hph fun w' x => hk w' ((x1.mono fun _ _ h => .inr h).seq x)
 .have n1 : ((n : Int) == 2) = false := by simp; omega
  simp only [if_neg h2] at hk
  simp (disch := omega) only [dQ, fE, cQ, stepR_skip, eC, fB, eH, eT, eS, eM, fH, eP, dK, eN, eJ, eY, eE, eB, eK, eD, eI, eX, fC, eF, dR, eU, eZ, eA, gA, gB, gC, gG, gE, gF, gD, gH, gI, dH, Result.ok.injEq, Next.value.injEq, true_and, and_true, dZ, dY, fA, eL, eQ, fG, Qp, dS, dW, dV, dT, dN, dM, dO, dL, dI, cY, if_true, if_false, Qm, Qs, Qn, Qo, Qr, Qq, Ql, Qk, cR, cP, cD, bT, cV, dJ, bX, bW, cS, cM, cK, dD, cN, dB, dC, dX, cZ, cC, bE, bQ, aT, aA, aK, dE, aJ, cF, dF, dA, bN, aH, bB, aY, cL, aD, aX, aM, aV, cU, aW, cJ, bS, aC, aE, aL, dP, aP, aN, bC, aR, cI, aF, bZ, bU, bL, bD, bA, cX, aI, bM, aS, aU, aQ, aG, dG, cO, bO, aO, cW, bV, bY, cG, bP, bR, bK, cH, bF, cB, aZ, bJ, bH, bG, cA, n1]
  exact JR hr hl hv hL hL2 oh ot hne hpt hph hk
theorem Ni {RR : RN -> RM -> Prop} {v : RN} {L lo hi pr ph pt dict n : Nat} {s : List UInt8 × Int} {h : FH} {z : FH} {o : Bool} {w : RM} (hn8 : n <= 8) (hn : n = 2 -> h.size < 65536) (hk0 : h.known = false) (hs0 : h.size = 0) (hr : B2 w lo hi pr s.1 s.2) (hl : s.1.length <= 1000000) (hv : ∃ a c, v = .slice a L c) (hL : s.1.length <= L) (hL2 : L <= 1000000) (oh : iL w ph (Bj h)) (ot : iL w pt (Bj z)) (hne : ph ≠ pt) (hpt : ¬ (lo <= pt /\ pt < hi)) (hph : ¬ (lo <= ph /\ ph < hi)) (hpr : lo <= pr /\ pr < hi)
 (hk : ∀ w', fW w w' (fun y => y = pt ∨ y = ph ∨ y = pr) -> RR (Nu (Hh L (Kl s n) dict ⟨if o then (if n = 2 then H9 s n + 256 else H9 s n) else h.window, if n = 2 then H9 s n + 256 else H9 s n, decide (0 < n), h.sum⟩)) w') :
 qW RR v (.pointer (some ⟨pt, 0, none⟩)) (.pointer (some ⟨pr, 0, none⟩)) (.pointer (some ⟨ph, 0, none⟩)) (.bool o) (.int .u64 (dict : Nat)) (.int .i64 (n : Nat)) w := by
 unfold qW Ab
 by_cases h0 : 0 < n
 .have d1 : decide ((n : Int) > 0) = true := decide_eq_true (by omega)
  have d2 : decide ((0 : Int) < (n : Int)) = true := decide_eq_true (by omega)
  unfold Kl H9 at hk
  simp only [if_pos h0, decide_eq_true h0] at hk
  have hlt : JW s n < 256 ^ n := by
   unfold JW tZ
   split
   .simp [kB]; exact Nat.pow_pos (by omega)
   .split
    .simp [kB]; exact Nat.pow_pos (by omega)
    .have := zH (s.1.take n)
     rw [Qz, Rj (by omega)] at this
     exact this
  have hle : (Ig s n).1.length <= s.1.length := by
   unfold Ig tZ
   split
   .exact QD _
   .split
    .exact QD _
    .simp only [Qy]; omega
  simp (disch := omega) only [dQ, fE, cQ, stepR_skip, eC, fB, eH, eT, eS, eM, fH, eP, dK, eN, eJ, eY, eE, eB, eK, eD, eI, eX, fC, eF, dR, eU, eZ, eA, gA, gB, gC, gG, gE, gF, gD, gH, gI, dH, Result.ok.injEq, Next.value.injEq, true_and, and_true, dZ, dY, fA, eL, eQ, fG, Qp, dS, dW, dV, dT, dN, dM, dO, dL, dI, cY, if_true, if_false, Qm, Qs, Qn, Qo, Qr, Qq, Ql, Qk, cR, cP, cD, bT, cV, dJ, bX, bW, cS, cM, cK, dD, cN, dB, dC, dX, cZ, cC, bE, bQ, aT, aA, aK, dE, aJ, cF, dF, dA, bN, aH, bB, aY, cL, aD, aX, aM, aV, cU, aW, cJ, bS, aC, aE, aL, dP, aP, aN, bC, aR, cI, aF, bZ, bU, bL, bD, bA, cX, aI, bM, aS, aU, aQ, aG, dG, cO, bO, aO, cW, bV, bY, cG, bP, bR, bK, cH, bF, cB, aZ, bJ, bH, bG, cA, d1, d2]
  refine (pP hr (by omega) ⟨h0, hn8⟩).mono ?_
  rintro r w1 ⟨rfl, hr1, x1⟩
  have oh1 := oh.ext x1 (fun e => hph (e ▸ hpr))
  have ot1 := ot.ext x1 (fun e => hpt (e ▸ hpr))
  refine uP oh1 rfl (by simp [Bj]) fun w2 o2 x2 s2 => ?_
  refine NZ (off := 2) o2 rfl (by simp [Bj]) fun w3 o3 x3 s3 => ?_
  have x23 := x2.seq x3
  refine Kh (h := ⟨h.window, JW s n, true, h.sum⟩) (l := (Ig s n).1) (e := (Ig s n).2) (fun h2 => by rw [h2] at hlt; rw [h2]; simpa using hlt) (hr1.ext x23 fun y h1 h2 h3 => hph (h3 ▸ ⟨h1, h2⟩)) (by omega) hv (by omega) hL2 o3 (ot1.ext x23 (fun e => hne e.symm)) hne hpt hph fun w' x => hk w' (((x1.mono fun _ _ h => .inr (.inr h)).seq (x23.mono fun _ _ h => .inr (.inl h))).seq (x.mono fun _ _ h => h.elim .inl fun h => .inr (.inl h)))
 .have d1 : decide ((n : Int) > 0) = false := decide_eq_false (by omega)
  have d2 : decide ((0 : Int) < (n : Int)) = false := decide_eq_false (by omega)
  unfold Kl H9 at hk
  simp only [if_neg h0, decide_eq_false h0] at hk
  simp (disch := omega) only [dQ, fE, cQ, stepR_skip, eC, fB, eH, eT, eS, eM, fH, eP, dK, eN, eJ, eY, eE, eB, eK, eD, eI, eX, fC, eF, dR, eU, eZ, eA, gA, gB, gC, gG, gE, gF, gD, gH, gI, dH, Result.ok.injEq, Next.value.injEq, true_and, and_true, dZ, dY, fA, eL, eQ, fG, Qp, dS, dW, dV, dT, dN, dM, dO, dL, dI, cY, if_true, if_false, Qm, Qs, Qn, Qo, Qr, Qq, Ql, Qk, cR, cP, cD, bT, cV, dJ, bX, bW, cS, cM, cK, dD, cN, dB, dC, dX, cZ, cC, bE, bQ, aT, aA, aK, dE, aJ, cF, dF, dA, bN, aH, bB, aY, cL, aD, aX, aM, aV, cU, aW, cJ, bS, aC, aE, aL, dP, aP, aN, bC, aR, cI, aF, bZ, bU, bL, bD, bA, cX, aI, bM, aS, aU, aQ, aG, dG, cO, bO, aO, cW, bV, bY, cG, bP, bR, bK, cH, bF, cB, aZ, bJ, bH, bG, cA, d1, d2]
  refine Kh (h := h) (l := s.1) (e := s.2) hn hr hl hv hL hL2 oh ot hne hpt hph fun w' x => ?_
  have := hk w' (x.mono fun _ _ h => h.elim .inl fun h => .inr (.inl h))
  rw [hs0, hk0]
  exact this
theorem Kd {RR : RN -> RM -> Prop} {v : RN} {L lo hi pr ph pt dict d : Nat} {s : List UInt8 × Int} {h : FH} {z : FH} {w : RM} (hd : d < 256) (hk0 : h.known = false) (hs0 : h.size = 0) (hr : B2 w lo hi pr s.1 s.2) (hl : s.1.length <= 1000000) (hv : ∃ a c, v = .slice a L c) (hL : s.1.length <= L) (hL2 : L <= 1000000) (oh : iL w ph (Bj h)) (ot : iL w pt (Bj z)) (hne : ph ≠ pt) (hpt : ¬ (lo <= pt /\ pt < hi)) (hph : ¬ (lo <= ph /\ ph < hi)) (hpr : lo <= pr /\ pr < hi)
 (hk : ∀ w', fW w w' (fun y => y = pt ∨ y = ph ∨ y = pr) -> RR (Nu (Hh L (Kl s (EG d)) dict ⟨if Dy d then Mb d (H9 s (EG d)) else h.window, Mb d (H9 s (EG d)), decide (0 < EG d), h.sum⟩)) w') :
 rD RR v (.pointer (some ⟨pt, 0, none⟩)) (.pointer (some ⟨pr, 0, none⟩)) (.int .i64 (d : Nat)) (.pointer (some ⟨ph, 0, none⟩)) (.bool (Dy d)) (.int .u64 (dict : Nat)) w := by
 unfold rD AP
 have main : ∀ n : Nat, n = EG d -> qW RR v (.pointer (some ⟨pt, 0, none⟩)) (.pointer (some ⟨pr, 0, none⟩)) (.pointer (some ⟨ph, 0, none⟩)) (.bool (Dy d)) (.int .u64 (dict : Nat)) (.int .i64 (n : Nat)) w := by
  rintro n rfl
  refine Ni (h := h) (s := s) ?_ (fun _ => by omega) hk0 hs0 hr hl hv hL hL2 oh ot hne hpt hph hpr fun w' x => ?_
  .unfold EG
   have : d / 64 = 0 ∨ d / 64 = 1 ∨ d / 64 = 2 ∨ d / 64 = 3 := by omega
   rcases this with h | h | h | h <;> rw [h] <;> simp
   split <;> omega
  .have := hk w' x
   unfold Mb at this
   exact this
 have h4 : d / 64 = 0 ∨ d / 64 = 1 ∨ d / 64 = 2 ∨ d / 64 = 3 := by omega
 have e6 : (d : Int).fdiv (2 ^ min (Int.toNat 6) IntKind.i64.bits) = ((d / 64 : Nat) : Int) := by
  have : (2 : Int) ^ min (Int.toNat 6) IntKind.i64.bits = 64 := by decide
  rw [this, QT _ (by omega)]; omega
 rcases h4 with h4 | h4 | h4 | h4 <;> rw [h4] at e6
 .cases ho : Dy d with
  | true =>
    have e : 1 = EG d := by unfold EG; rw [h4, ho] <;> rfl
    have := main 1 e
    rw [ho] at this
    simp (disch := omega) only [dQ, fE, cQ, stepR_skip, eC, fB, eH, eT, eS, eM, fH, eP, dK, eN, eJ, eY, eE, eB, eK, eD, eI, eX, fC, eF, dR, eU, eZ, eA, gA, gB, gC, gG, gE, gF, gD, gH, gI, dH, Result.ok.injEq, Next.value.injEq, true_and, and_true, dZ, dY, fA, eL, eQ, fG, Qp, dS, dW, dV, dT, dN, dM, dO, dL, dI, cY, if_true, if_false, Qm, Qs, Qn, Qo, Qr, Qq, Ql, Qk, cR, cP, cD, bT, cV, dJ, bX, bW, cS, cM, cK, dD, cN, dB, dC, dX, cZ, cC, bE, bQ, aT, aA, aK, dE, aJ, cF, dF, dA, bN, aH, bB, aY, cL, aD, aX, aM, aV, cU, aW, cJ, bS, aC, aE, aL, dP, aP, aN, bC, aR, cI, aF, bZ, bU, bL, bD, bA, cX, aI, bM, aS, aU, aQ, aG, dG, cO, bO, aO, cW, bV, bY, cG, bP, bR, bK, cH, bF, cB, aZ, bJ, bH, bG, cA, e6, h4]
    exact this
  | false =>
    have e : 0 = EG d := by unfold EG; rw [h4, ho] <;> rfl
    have := main 0 e
    rw [ho] at this
    simp (disch := omega) only [dQ, fE, cQ, stepR_skip, eC, fB, eH, eT, eS, eM, fH, eP, dK, eN, eJ, eY, eE, eB, eK, eD, eI, eX, fC, eF, dR, eU, eZ, eA, gA, gB, gC, gG, gE, gF, gD, gH, gI, dH, Result.ok.injEq, Next.value.injEq, true_and, and_true, dZ, dY, fA, eL, eQ, fG, Qp, dS, dW, dV, dT, dN, dM, dO, dL, dI, cY, if_true, if_false, Qm, Qs, Qn, Qo, Qr, Qq, Ql, Qk, cR, cP, cD, bT, cV, dJ, bX, bW, cS, cM, cK, dD, cN, dB, dC, dX, cZ, cC, bE, bQ, aT, aA, aK, dE, aJ, cF, dF, dA, bN, aH, bB, aY, cL, aD, aX, aM, aV, cU, aW, cJ, bS, aC, aE, aL, dP, aP, aN, bC, aR, cI, aF, bZ, bU, bL, bD, bA, cX, aI, bM, aS, aU, aQ, aG, dG, cO, bO, aO, cW, bV, bY, cG, bP, bR, bK, cH, bF, cB, aZ, bJ, bH, bG, cA, e6, h4]
    exact this
 .have e : 2 = EG d := by unfold EG; rw [h4] <;> rfl
  simp (disch := omega) only [dQ, fE, cQ, stepR_skip, eC, fB, eH, eT, eS, eM, fH, eP, dK, eN, eJ, eY, eE, eB, eK, eD, eI, eX, fC, eF, dR, eU, eZ, eA, gA, gB, gC, gG, gE, gF, gD, gH, gI, dH, Result.ok.injEq, Next.value.injEq, true_and, and_true, dZ, dY, fA, eL, eQ, fG, Qp, dS, dW, dV, dT, dN, dM, dO, dL, dI, cY, if_true, if_false, Qm, Qs, Qn, Qo, Qr, Qq, Ql, Qk, cR, cP, cD, bT, cV, dJ, bX, bW, cS, cM, cK, dD, cN, dB, dC, dX, cZ, cC, bE, bQ, aT, aA, aK, dE, aJ, cF, dF, dA, bN, aH, bB, aY, cL, aD, aX, aM, aV, cU, aW, cJ, bS, aC, aE, aL, dP, aP, aN, bC, aR, cI, aF, bZ, bU, bL, bD, bA, cX, aI, bM, aS, aU, aQ, aG, dG, cO, bO, aO, cW, bV, bY, cG, bP, bR, bK, cH, bF, cB, aZ, bJ, bH, bG, cA, e6, h4]
  cases ho : Dy d <;> (simp (disch := omega) only [dQ, fE, cQ, stepR_skip, eC, fB, eH, eT, eS, eM, fH, eP, dK, eN, eJ, eY, eE, eB, eK, eD, eI, eX, fC, eF, dR, eU, eZ, eA, gA, gB, gC, gG, gE, gF, gD, gH, gI, dH, Result.ok.injEq, Next.value.injEq, true_and, and_true, dZ, dY, fA, eL, eQ, fG, Qp, dS, dW, dV, dT, dN, dM, dO, dL, dI, cY, if_true, if_false, Qm, Qs, Qn, Qo, Qr, Qq, Ql, Qk, cR, cP, cD, bT, cV, dJ, bX, bW, cS, cM, cK, dD, cN, dB, dC, dX, cZ, cC, bE, bQ, aT, aA, aK, dE, aJ, cF, dF, dA, bN, aH, bB, aY, cL, aD, aX, aM, aV, cU, aW, cJ, bS, aC, aE, aL, dP, aP, aN, bC, aR, cI, aF, bZ, bU, bL, bD, bA, cX, aI, bM, aS, aU, aQ, aG, dG, cO, bO, aO, cW, bV, bY, cG, bP, bR, bK, cH, bF, cB, aZ, bJ, bH, bG, cA]; rw [<- ho]; exact main 2 e)
 .have e : 4 = EG d := by unfold EG; rw [h4] <;> rfl
  simp (disch := omega) only [dQ, fE, cQ, stepR_skip, eC, fB, eH, eT, eS, eM, fH, eP, dK, eN, eJ, eY, eE, eB, eK, eD, eI, eX, fC, eF, dR, eU, eZ, eA, gA, gB, gC, gG, gE, gF, gD, gH, gI, dH, Result.ok.injEq, Next.value.injEq, true_and, and_true, dZ, dY, fA, eL, eQ, fG, Qp, dS, dW, dV, dT, dN, dM, dO, dL, dI, cY, if_true, if_false, Qm, Qs, Qn, Qo, Qr, Qq, Ql, Qk, cR, cP, cD, bT, cV, dJ, bX, bW, cS, cM, cK, dD, cN, dB, dC, dX, cZ, cC, bE, bQ, aT, aA, aK, dE, aJ, cF, dF, dA, bN, aH, bB, aY, cL, aD, aX, aM, aV, cU, aW, cJ, bS, aC, aE, aL, dP, aP, aN, bC, aR, cI, aF, bZ, bU, bL, bD, bA, cX, aI, bM, aS, aU, aQ, aG, dG, cO, bO, aO, cW, bV, bY, cG, bP, bR, bK, cH, bF, cB, aZ, bJ, bH, bG, cA, e6, h4]
  cases ho : Dy d <;> (simp (disch := omega) only [dQ, fE, cQ, stepR_skip, eC, fB, eH, eT, eS, eM, fH, eP, dK, eN, eJ, eY, eE, eB, eK, eD, eI, eX, fC, eF, dR, eU, eZ, eA, gA, gB, gC, gG, gE, gF, gD, gH, gI, dH, Result.ok.injEq, Next.value.injEq, true_and, and_true, dZ, dY, fA, eL, eQ, fG, Qp, dS, dW, dV, dT, dN, dM, dO, dL, dI, cY, if_true, if_false, Qm, Qs, Qn, Qo, Qr, Qq, Ql, Qk, cR, cP, cD, bT, cV, dJ, bX, bW, cS, cM, cK, dD, cN, dB, dC, dX, cZ, cC, bE, bQ, aT, aA, aK, dE, aJ, cF, dF, dA, bN, aH, bB, aY, cL, aD, aX, aM, aV, cU, aW, cJ, bS, aC, aE, aL, dP, aP, aN, bC, aR, cI, aF, bZ, bU, bL, bD, bA, cX, aI, bM, aS, aU, aQ, aG, dG, cO, bO, aO, cW, bV, bY, cG, bP, bR, bK, cH, bF, cB, aZ, bJ, bH, bG, cA]; rw [<- ho]; exact main 4 e)
 .have e : 8 = EG d := by unfold EG; rw [h4] <;> rfl
  simp (disch := omega) only [dQ, fE, cQ, stepR_skip, eC, fB, eH, eT, eS, eM, fH, eP, dK, eN, eJ, eY, eE, eB, eK, eD, eI, eX, fC, eF, dR, eU, eZ, eA, gA, gB, gC, gG, gE, gF, gD, gH, gI, dH, Result.ok.injEq, Next.value.injEq, true_and, and_true, dZ, dY, fA, eL, eQ, fG, Qp, dS, dW, dV, dT, dN, dM, dO, dL, dI, cY, if_true, if_false, Qm, Qs, Qn, Qo, Qr, Qq, Ql, Qk, cR, cP, cD, bT, cV, dJ, bX, bW, cS, cM, cK, dD, cN, dB, dC, dX, cZ, cC, bE, bQ, aT, aA, aK, dE, aJ, cF, dF, dA, bN, aH, bB, aY, cL, aD, aX, aM, aV, cU, aW, cJ, bS, aC, aE, aL, dP, aP, aN, bC, aR, cI, aF, bZ, bU, bL, bD, bA, cX, aI, bM, aS, aU, aQ, aG, dG, cO, bO, aO, cW, bV, bY, cG, bP, bR, bK, cH, bF, cB, aZ, bJ, bH, bG, cA, e6, h4]
  cases ho : Dy d <;> (simp (disch := omega) only [dQ, fE, cQ, stepR_skip, eC, fB, eH, eT, eS, eM, fH, eP, dK, eN, eJ, eY, eE, eB, eK, eD, eI, eX, fC, eF, dR, eU, eZ, eA, gA, gB, gC, gG, gE, gF, gD, gH, gI, dH, Result.ok.injEq, Next.value.injEq, true_and, and_true, dZ, dY, fA, eL, eQ, fG, Qp, dS, dW, dV, dT, dN, dM, dO, dL, dI, cY, if_true, if_false, Qm, Qs, Qn, Qo, Qr, Qq, Ql, Qk, cR, cP, cD, bT, cV, dJ, bX, bW, cS, cM, cK, dD, cN, dB, dC, dX, cZ, cC, bE, bQ, aT, aA, aK, dE, aJ, cF, dF, dA, bN, aH, bB, aY, cL, aD, aX, aM, aV, cU, aW, cJ, bS, aC, aE, aL, dP, aP, aN, bC, aR, cI, aF, bZ, bU, bL, bD, bA, cX, aI, bM, aS, aU, aQ, aG, dG, cO, bO, aO, cW, bV, bY, cG, bP, bR, bK, cH, bF, cB, aZ, bJ, bH, bG, cA]; rw [<- ho]; exact main 8 e)
theorem Oq {d : Nat} (h : d < 256) : vM .i64 (d : Int) 3 = ((d % 4 : Nat) : Int) /\ (vM .i64 (d : Int) 4 != 0) = (d / 4 % 2 == 1) /\ (vM .i64 (d : Int) 8 != 0) = (d / 8 % 2 == 1) /\ (vM .i64 (d : Int) 32 != 0) = (d / 32 % 2 == 1) := by
 have : ∀ k : Fin 256, vM .i64 (k.val : Int) 3 = ((k.val % 4 : Nat) : Int) /\ (vM .i64 (k.val : Int) 4 != 0) = (k.val / 4 % 2 == 1) /\ (vM .i64 (k.val : Int) 8 != 0) = (k.val / 8 % 2 == 1) /\ (vM .i64 (k.val : Int) 32 != 0) = (k.val / 32 % 2 == 1) := by decide +kernel
 exact this ⟨d, h⟩
theorem PZ (x : Nat) (h : x < 256) : IntKind.u64.wrap (IntKind.u64.wrap (1 * 2 ^ min (10 + ((x / 8 : Nat) : Int)).toNat IntKind.u64.bits) + IntKind.u64.wrap (IntKind.u64.wrap ((IntKind.u64.wrap (1 * 2 ^ min (10 + ((x / 8 : Nat) : Int)).toNat IntKind.u64.bits)).tdiv 8) * vM IntKind.u64 (x : Int) 7)) = ((M7 x : Nat) : Int) := by
 have : ∀ k : Fin 256, IntKind.u64.wrap (IntKind.u64.wrap (1 * 2 ^ min (10 + ((k.val / 8 : Nat) : Int)).toNat IntKind.u64.bits) + IntKind.u64.wrap (IntKind.u64.wrap ((IntKind.u64.wrap (1 * 2 ^ min (10 + ((k.val / 8 : Nat) : Int)).toNat IntKind.u64.bits)).tdiv 8) * vM IntKind.u64 (k.val : Int) 7)) = ((M7 k.val : Nat) : Int) := by decide +kernel
 exact this ⟨x, h⟩
theorem MA {x : Nat} {w : RM} (h : x < 256) : fK pg sQ #[.int .u64 (x : Nat)] w (fun r w' => r = .int .u64 (M7 x : Nat) /\ w' = w) := by
 refine Fh ?_
 unfold Fu wM
 have e0 : (x : Int).fdiv (2 ^ min (Int.toNat 3) IntKind.u64.bits) = ((x / 8 : Nat) : Int) := by
  have : (2 : Int) ^ min (Int.toNat 3) IntKind.u64.bits = 8 := by decide
  rw [this, QT _ (by omega)]; omega
 simp (disch := omega) only [dQ, fE, cQ, stepR_skip, eC, fB, eH, eT, eS, eM, fH, eP, dK, eN, eJ, eY, eE, eB, eK, eD, eI, eX, fC, eF, dR, eU, eZ, eA, gA, gB, gC, gG, gE, gF, gD, gH, gI, dH, Result.ok.injEq, Next.value.injEq, true_and, and_true, dZ, dY, fA, eL, eQ, fG, Qp, dS, dW, dV, dT, dN, dM, dO, dL, dI, cY, if_true, if_false, Qm, Qs, Qn, Qo, Qr, Qq, Ql, Qk, cR, cP, cD, bT, cV, dJ, bX, bW, cS, cM, cK, dD, cN, dB, dC, dX, cZ, cC, bE, bQ, aT, aA, aK, dE, aJ, cF, dF, dA, bN, aH, bB, aY, cL, aD, aX, aM, aV, cU, aW, cJ, bS, aC, aE, aL, dP, aP, aN, bC, aR, cI, aF, bZ, bU, bL, bD, bA, cX, aI, bM, aS, aU, aQ, aG, dG, cO, bO, aO, cW, bV, bY, cG, bP, bR, bK, cH, bF, cB, aZ, bJ, bH, bG, cA, e0]
 rw [PZ x h]
theorem IQ {RR : RN -> RM -> Prop} {v : RN} {L lo hi pr ph pt d : Nat} {s : List UInt8 × Int} {h : FH} {z : FH} {w : RM} (hd : d < 256) (hk0 : h.known = false) (hs0 : h.size = 0) (hr : B2 w lo hi pr s.1 s.2) (hl : s.1.length <= 1000000) (hv : ∃ a c, v = .slice a L c) (hL : s.1.length <= L) (hL2 : L <= 1000000) (oh : iL w ph (Bj h)) (ot : iL w pt (Bj z)) (hne : ph ≠ pt) (hpt : ¬ (lo <= pt /\ pt < hi)) (hph : ¬ (lo <= ph /\ ph < hi)) (hpr : lo <= pr /\ pr < hi)
 (hk : ∀ w', fW w w' (fun y => y = pt ∨ y = ph ∨ y = pr) -> RR (Nu (Hh L (Kl (Kl s (KF d)) (EG d)) (H9 s (KF d)) ⟨if Dy d then Mb d (H9 (Kl s (KF d)) (EG d)) else h.window, Mb d (H9 (Kl s (KF d)) (EG d)), decide (0 < EG d), h.sum⟩)) w') :
 tF RR v (.pointer (some ⟨pt, 0, none⟩)) (.pointer (some ⟨pr, 0, none⟩)) (.int .i64 (d : Nat)) (.pointer (some ⟨ph, 0, none⟩)) (.bool (Dy d)) w := by
 unfold tF yA
 obtain ⟨b3, _⟩ := Oq hd
 have main : ∀ n : Nat, n <= 8 -> 0 < n -> KF d = n -> fK pg fX #[.pointer (some ⟨pr, 0, none⟩), .int .i64 n] w (fun t50 w1 => rD RR v (.pointer (some ⟨pt, 0, none⟩)) (.pointer (some ⟨pr, 0, none⟩)) (.int .i64 (d : Nat)) (.pointer (some ⟨ph, 0, none⟩)) (.bool (Dy d)) t50 w1) := by
  intro n hn h0 e
  rw [e] at hk
  unfold Kl at hk
  unfold H9 at hk
  rw [if_pos h0, if_pos h0] at hk
  have hle : (Ig s n).1.length <= s.1.length := by
   unfold Ig tZ
   split
   .exact QD _
   .split
    .exact QD _
    .simp only [Qy]; omega
  refine (pP hr (by omega) ⟨h0, hn⟩).mono ?_
  rintro r w1 ⟨rfl, hr1, x1⟩
  exact Kd (s := Ig s n) (dict := JW s n) hd hk0 hs0 hr1 (by omega) hv (by omega) hL2 (oh.ext x1 (fun e => hph (e ▸ hpr))) (ot.ext x1 (fun e => hpt (e ▸ hpr))) hne hpt hph hpr fun w' x => hk w' ((x1.mono fun _ _ h => .inr (.inr h)).seq x)
 have h4 : d % 4 = 0 ∨ d % 4 = 1 ∨ d % 4 = 2 ∨ d % 4 = 3 := by omega
 rcases h4 with h4 | h4 | h4 | h4 <;> rw [h4] at b3
 .have e : KF d = 0 := by unfold KF; rw [h4] <;> rfl
  have n1 : decide ((0 : Int) > 0) = false := rfl
  simp (disch := omega) only [dQ, fE, cQ, stepR_skip, eC, fB, eH, eT, eS, eM, fH, eP, dK, eN, eJ, eY, eE, eB, eK, eD, eI, eX, fC, eF, dR, eU, eZ, eA, gA, gB, gC, gG, gE, gF, gD, gH, gI, dH, Result.ok.injEq, Next.value.injEq, true_and, and_true, dZ, dY, fA, eL, eQ, fG, Qp, dS, dW, dV, dT, dN, dM, dO, dL, dI, cY, if_true, if_false, Qm, Qs, Qn, Qo, Qr, Qq, Ql, Qk, cR, cP, cD, bT, cV, dJ, bX, bW, cS, cM, cK, dD, cN, dB, dC, dX, cZ, cC, bE, bQ, aT, aA, aK, dE, aJ, cF, dF, dA, bN, aH, bB, aY, cL, aD, aX, aM, aV, cU, aW, cJ, bS, aC, aE, aL, dP, aP, aN, bC, aR, cI, aF, bZ, bU, bL, bD, bA, cX, aI, bM, aS, aU, aQ, aG, dG, cO, bO, aO, cW, bV, bY, cG, bP, bR, bK, cH, bF, cB, aZ, bJ, bH, bG, cA, b3, n1]
  refine Kd (s := s) (dict := 0) hd hk0 hs0 hr hl hv hL hL2 oh ot hne hpt hph hpr fun w' x => ?_
  have := hk w' x
  rw [e] at this
  exact this
 .have n1 : decide ((1 : Int) > 0) = true := rfl
  have n2 : decide ((0 : Int) < 1) = true := rfl
  simp (disch := omega) only [dQ, fE, cQ, stepR_skip, eC, fB, eH, eT, eS, eM, fH, eP, dK, eN, eJ, eY, eE, eB, eK, eD, eI, eX, fC, eF, dR, eU, eZ, eA, gA, gB, gC, gG, gE, gF, gD, gH, gI, dH, Result.ok.injEq, Next.value.injEq, true_and, and_true, dZ, dY, fA, eL, eQ, fG, Qp, dS, dW, dV, dT, dN, dM, dO, dL, dI, cY, if_true, if_false, Qm, Qs, Qn, Qo, Qr, Qq, Ql, Qk, cR, cP, cD, bT, cV, dJ, bX, bW, cS, cM, cK, dD, cN, dB, dC, dX, cZ, cC, bE, bQ, aT, aA, aK, dE, aJ, cF, dF, dA, bN, aH, bB, aY, cL, aD, aX, aM, aV, cU, aW, cJ, bS, aC, aE, aL, dP, aP, aN, bC, aR, cI, aF, bZ, bU, bL, bD, bA, cX, aI, bM, aS, aU, aQ, aG, dG, cO, bO, aO, cW, bV, bY, cG, bP, bR, bK, cH, bF, cB, aZ, bJ, bH, bG, cA, b3, n1, n2]
  exact main 1 (by omega) (by omega) (by unfold KF; rw [h4] <;> rfl)
 .have n1 : decide ((2 : Int) > 0) = true := rfl
  have n2 : decide ((0 : Int) < 2) = true := rfl
  simp (disch := omega) only [dQ, fE, cQ, stepR_skip, eC, fB, eH, eT, eS, eM, fH, eP, dK, eN, eJ, eY, eE, eB, eK, eD, eI, eX, fC, eF, dR, eU, eZ, eA, gA, gB, gC, gG, gE, gF, gD, gH, gI, dH, Result.ok.injEq, Next.value.injEq, true_and, and_true, dZ, dY, fA, eL, eQ, fG, Qp, dS, dW, dV, dT, dN, dM, dO, dL, dI, cY, if_true, if_false, Qm, Qs, Qn, Qo, Qr, Qq, Ql, Qk, cR, cP, cD, bT, cV, dJ, bX, bW, cS, cM, cK, dD, cN, dB, dC, dX, cZ, cC, bE, bQ, aT, aA, aK, dE, aJ, cF, dF, dA, bN, aH, bB, aY, cL, aD, aX, aM, aV, cU, aW, cJ, bS, aC, aE, aL, dP, aP, aN, bC, aR, cI, aF, bZ, bU, bL, bD, bA, cX, aI, bM, aS, aU, aQ, aG, dG, cO, bO, aO, cW, bV, bY, cG, bP, bR, bK, cH, bF, cB, aZ, bJ, bH, bG, cA, b3, n1, n2]
  exact main 2 (by omega) (by omega) (by unfold KF; rw [h4] <;> rfl)
 .have n1 : decide ((4 : Int) > 0) = true := rfl
  have n2 : decide ((0 : Int) < 4) = true := rfl
  simp (disch := omega) only [dQ, fE, cQ, stepR_skip, eC, fB, eH, eT, eS, eM, fH, eP, dK, eN, eJ, eY, eE, eB, eK, eD, eI, eX, fC, eF, dR, eU, eZ, eA, gA, gB, gC, gG, gE, gF, gD, gH, gI, dH, Result.ok.injEq, Next.value.injEq, true_and, and_true, dZ, dY, fA, eL, eQ, fG, Qp, dS, dW, dV, dT, dN, dM, dO, dL, dI, cY, if_true, if_false, Qm, Qs, Qn, Qo, Qr, Qq, Ql, Qk, cR, cP, cD, bT, cV, dJ, bX, bW, cS, cM, cK, dD, cN, dB, dC, dX, cZ, cC, bE, bQ, aT, aA, aK, dE, aJ, cF, dF, dA, bN, aH, bB, aY, cL, aD, aX, aM, aV, cU, aW, cJ, bS, aC, aE, aL, dP, aP, aN, bC, aR, cI, aF, bZ, bU, bL, bD, bA, cX, aI, bM, aS, aU, aQ, aG, dG, cO, bO, aO, cW, bV, bY, cG, bP, bR, bK, cH, bF, cB, aZ, bJ, bH, bG, cA, b3, n1, n2]
  exact main 4 (by omega) (by omega) (by unfold KF; rw [h4] <;> rfl)
theorem M4 (s : List UInt8 × Int) (n : Nat) : (Ig s n).1.length <= s.1.length := by
 unfold Ig tZ
 split
 .exact QD _
 .split
  .exact QD _
  .simp only [Qy]; omega
theorem H3 (s : List UInt8 × Int) (n : Nat) : JW s n < 256 ^ n := by
 unfold JW tZ
 split
 .simp [kB]; exact Nat.pow_pos (by omega)
 .split
  .simp [kB]; exact Nat.pow_pos (by omega)
  .have := zH (s.1.take n)
   rw [Qz, Rj (by omega)] at this
   exact this
theorem JO {v : RN} {l : List UInt8} {w : RM} (hb : Bs w v l) (hl : l.length <= 1000000) : fK pg wX #[v] w (fun r w' => r = Nu (Cm l) /\ fW w w' kY) := by
 refine Hg ?_
 unfold HF yV yN
 refine rI fun w1 o1 x1 s1 => ?_
 obtain ⟨pt, hpt⟩ : ∃ p, p = w.heap.size := ⟨_, rfl⟩
 rw [<- hpt] at o1 ⊢
 have hz1 := o1.lt
 have hb1 := hb.ext x1 (kQ _)
 obtain ⟨va, vc, hv, _⟩ := hb.len
 rw [Qw] at hv
 refine (vK hb1 (by omega)).mono ?_
 rintro r w2 ⟨pr, rfl, hr, x2⟩
 have o2 := o1.ext x2 (fun h => h)
 have hpr : w1.heap.size <= pr /\ pr < w2.heap.size := ⟨hr.1, hr.2.1⟩
 refine (pP (n := 1) hr (by omega) ⟨by omega, by omega⟩).mono ?_
 rintro r w3 ⟨rfl, hr3, x3⟩
 have e1 : (kB (tZ l 0 1).1) = JW (l, 0) 1 := rfl
 have e2 : (tZ l 0 1).2.1 = (Ig (l, 0) 1).1 := rfl
 have e3 : (tZ l 0 1).2.2 = (Ig (l, 0) 1).2 := rfl
 rw [e2, e3] at hr3
 rw [e1]
 have o3 := o2.ext x3 (by intro h; omega)
 obtain ⟨d, hd⟩ : ∃ d, d = JW (l, 0) 1 := ⟨_, rfl⟩
 obtain ⟨s, hs⟩ : ∃ s, s = Ig (l, 0) 1 := ⟨_, rfl⟩
 have hdl : d < 256 := by have := H3 (l, 0) 1; omega
 have hsl : s.1.length <= l.length := by have := M4 (l, 0) 1; rw [hs]; exact this
 rw [<- hd]
 rw [<- hs] at hr3
 have hfr : Cm l = if s.2 ≠ 0 then .error s.2 else if d / 8 % 2 = 1 then .error 11 else HS l.length s d := by unfold Cm; rw [<- hd, <- hs]
 rw [hfr]
 obtain ⟨b3, b4, b8, b32⟩ := Oq hdl
 have wd : IntKind.i64.wrap (d : Int) = d := dZ (by omega) (by omega)
 simp (disch := omega) only [dQ, fE, cQ, stepR_skip, eC, fB, eH, eT, eS, eM, fH, eP, dK, eN, eJ, eY, eE, eB, eK, eD, eI, eX, fC, eF, dR, eU, eZ, eA, gA, gB, gC, gG, gE, gF, gD, gH, gI, dH, Result.ok.injEq, Next.value.injEq, true_and, and_true, dZ, dY, fA, eL, eQ, fG, Qp, dS, dW, dV, dT, dN, dM, dO, dL, dI, cY, if_true, if_false, Qm, Qs, Qn, Qo, Qr, Qq, Ql, Qk, cR, cP, cD, bT, cV, dJ, bX, bW, cS, cM, cK, dD, cN, dB, dC, dX, cZ, cC, bE, bQ, aT, aA, aK, dE, aJ, cF, dF, dA, bN, aH, bB, aY, cL, aD, aX, aM, aV, cU, aW, cJ, bS, aC, aE, aL, dP, aP, aN, bC, aR, cI, aF, bZ, bU, bL, bD, bA, cX, aI, bM, aS, aU, aQ, aG, dG, cO, bO, aO, cW, bV, bY, cG, bP, bR, bK, cH, bF, cB, aZ, bJ, bH, bG, cA, wd]
 refine (zV hr3).mono ?_
 rintro r w4 ⟨rfl, h4⟩
 rw [h4]; clear h4 w4
 have x03 : fW w w3 kY := x1.trans (x2.trans x3 fun y hy h => by have := x2.size; omega) fun y hy h => h
 by_cases he : s.2 = 0
 rotate_left
 .have n0 : (s.2 != 0) = true := by simp [he]
  rw [if_pos he]
  simp (disch := omega) only [dQ, fE, cQ, stepR_skip, eC, fB, eH, eT, eS, eM, fH, eP, dK, eN, eJ, eY, eE, eB, eK, eD, eI, eX, fC, eF, dR, eU, eZ, eA, gA, gB, gC, gG, gE, gF, gD, gH, gI, dH, Result.ok.injEq, Next.value.injEq, true_and, and_true, dZ, dY, fA, eL, eQ, fG, Qp, dS, dW, dV, dT, dN, dM, dO, dL, dI, cY, if_true, if_false, Qm, Qs, Qn, Qo, Qr, Qq, Ql, Qk, cR, cP, cD, bT, cV, dJ, bX, bW, cS, cM, cK, dD, cN, dB, dC, dX, cZ, cC, bE, bQ, aT, aA, aK, dE, aJ, cF, dF, dA, bN, aH, bB, aY, cL, aD, aX, aM, aV, cU, aW, cJ, bS, aC, aE, aL, dP, aP, aN, bC, aR, cI, aF, bZ, bU, bL, bD, bA, cX, aI, bM, aS, aU, aQ, aG, dG, cO, bO, aO, cW, bV, bY, cG, bP, bR, bK, cH, bF, cB, aZ, bJ, bH, bG, cA, n0]
  refine (zV hr3).mono ?_
  rintro r w4 ⟨rfl, h4⟩
  rw [h4]; clear h4 w4
  refine jL o3 rfl (by simp [one]) (by simp) fun w5 o5 x5 s5 => ?_
  refine nC o5 (by simp [gO]) ?_
  simp only [gO, QB, QC, QN, QI, QP]
  exact ⟨rfl, x03.trans x5 fun y hy h => by omega⟩
 have n0 : (s.2 != 0) = false := by simp [he]
 rw [if_neg (by simpa using he)]
 by_cases h8 : d / 8 % 2 = 1
 .have n8 : (d / 8 % 2 == 1) = true := by simp [h8]
  rw [if_pos h8]
  rw [n8] at b8
  simp (disch := omega) only [dQ, fE, cQ, stepR_skip, eC, fB, eH, eT, eS, eM, fH, eP, dK, eN, eJ, eY, eE, eB, eK, eD, eI, eX, fC, eF, dR, eU, eZ, eA, gA, gB, gC, gG, gE, gF, gD, gH, gI, dH, Result.ok.injEq, Next.value.injEq, true_and, and_true, dZ, dY, fA, eL, eQ, fG, Qp, dS, dW, dV, dT, dN, dM, dO, dL, dI, cY, if_true, if_false, Qm, Qs, Qn, Qo, Qr, Qq, Ql, Qk, cR, cP, cD, bT, cV, dJ, bX, bW, cS, cM, cK, dD, cN, dB, dC, dX, cZ, cC, bE, bQ, aT, aA, aK, dE, aJ, cF, dF, dA, bN, aH, bB, aY, cL, aD, aX, aM, aV, cU, aW, cJ, bS, aC, aE, aL, dP, aP, aN, bC, aR, cI, aF, bZ, bU, bL, bD, bA, cX, aI, bM, aS, aU, aQ, aG, dG, cO, bO, aO, cW, bV, bY, cG, bP, bR, bK, cH, bF, cB, aZ, bJ, bH, bG, cA, n0, b8]
  refine jL o3 rfl (by simp [one]) (by simp) fun w5 o5 x5 s5 => ?_
  refine nC o5 (by simp [gO]) ?_
  simp only [gO, QB, QC, QN, QI, QP]
  exact ⟨rfl, x03.trans x5 fun y hy h => by omega⟩
 have n8 : (d / 8 % 2 == 1) = false := by simp [h8]
 rw [if_neg h8]
 rw [n8] at b8
 obtain ⟨RR, hRR⟩ : ∃ RR : RN -> RM -> Prop, RR = fun r w' => r = Nu (HS l.length s d) /\ fW w w' kY := ⟨_, rfl⟩
 rw [<- hRR]
 have e32 : (d / 32 % 2 == 1) = Dy d := rfl
 rw [e32] at b32
 simp (disch := omega) only [dQ, fE, cQ, stepR_skip, eC, fB, eH, eT, eS, eM, fH, eP, dK, eN, eJ, eY, eE, eB, eK, eD, eI, eX, fC, eF, dR, eU, eZ, eA, gA, gB, gC, gG, gE, gF, gD, gH, gI, dH, Result.ok.injEq, Next.value.injEq, true_and, and_true, dZ, dY, fA, eL, eQ, fG, Qp, dS, dW, dV, dT, dN, dM, dO, dL, dI, cY, if_true, if_false, Qm, Qs, Qn, Qo, Qr, Qq, Ql, Qk, cR, cP, cD, bT, cV, dJ, bX, bW, cS, cM, cK, dD, cN, dB, dC, dX, cZ, cC, bE, bQ, aT, aA, aK, dE, aJ, cF, dF, dA, bN, aH, bB, aY, cL, aD, aX, aM, aV, cU, aW, cJ, bS, aC, aE, aL, dP, aP, aN, bC, aR, cI, aF, bZ, bU, bL, bD, bA, cX, aI, bM, aS, aU, aQ, aG, dG, cO, bO, aO, cW, bV, bY, cG, bP, bR, bK, cH, bF, cB, aZ, bJ, bH, bG, cA, n0, b8, b4]
 refine rI fun w5 o5 x5 s5 => ?_
 obtain ⟨ph, hph⟩ : ∃ p, p = w3.heap.size := ⟨_, rfl⟩
 rw [<- hph] at o5 ⊢
 have hz3 := x2.size
 have hz4 := x3.size
 refine jL o5 rfl (by simp [one]) (by simp) fun w6 o6 x6 s6 => ?_
 simp only [gO, QB, QC] at o6
 have x36 : fW w3 w6 kY := x5.new x6 (by omega)
 have x06 : fW w w6 kY := x03.trans x36 fun y hy h => h
 have hr6 := hr3.ext x36 (fun _ _ _ h => h)
 have o36 := o3.ext x36 (fun h => h)
 have oh6 : iL w6 ph (Bj ⟨0, 0, false, d / 4 % 2 == 1⟩) := o6
 have ot6 : iL w6 pt (Bj ⟨0, 0, false, false⟩) := o36
 rw [b32]
 cases ho : Dy d with
 | true =>
   simp (disch := omega) only [dQ, fE, cQ, stepR_skip, eC, fB, eH, eT, eS, eM, fH, eP, dK, eN, eJ, eY, eE, eB, eK, eD, eI, eX, fC, eF, dR, eU, eZ, eA, gA, gB, gC, gG, gE, gF, gD, gH, gI, dH, Result.ok.injEq, Next.value.injEq, true_and, and_true, dZ, dY, fA, eL, eQ, fG, Qp, dS, dW, dV, dT, dN, dM, dO, dL, dI, cY, if_true, if_false, Qm, Qs, Qn, Qo, Qr, Qq, Ql, Qk, cR, cP, cD, bT, cV, dJ, bX, bW, cS, cM, cK, dD, cN, dB, dC, dX, cZ, cC, bE, bQ, aT, aA, aK, dE, aJ, cF, dF, dA, bN, aH, bB, aY, cL, aD, aX, aM, aV, cU, aW, cJ, bS, aC, aE, aL, dP, aP, aN, bC, aR, cI, aF, bZ, bU, bL, bD, bA, cX, aI, bM, aS, aU, aQ, aG, dG, cO, bO, aO, cW, bV, bY, cG, bP, bR, bK, cH, bF, cB, aZ, bJ, bH, bG, cA]
   rw [<- ho]
   refine IQ (L := l.length) (s := s) hdl rfl rfl hr6 (by omega) ⟨_, _, hv⟩ hsl (by omega) oh6 ot6 (by omega) (by omega) (by omega) hpr fun w' x => ?_
   rw [hRR]
   refine ⟨?_, x06.trans x fun y hy h => by omega⟩
   unfold HS O4
   rw [ho]
   rfl
 | false =>
   simp (disch := omega) only [dQ, fE, cQ, stepR_skip, eC, fB, eH, eT, eS, eM, fH, eP, dK, eN, eJ, eY, eE, eB, eK, eD, eI, eX, fC, eF, dR, eU, eZ, eA, gA, gB, gC, gG, gE, gF, gD, gH, gI, dH, Result.ok.injEq, Next.value.injEq, true_and, and_true, dZ, dY, fA, eL, eQ, fG, Qp, dS, dW, dV, dT, dN, dM, dO, dL, dI, cY, if_true, if_false, Qm, Qs, Qn, Qo, Qr, Qq, Ql, Qk, cR, cP, cD, bT, cV, dJ, bX, bW, cS, cM, cK, dD, cN, dB, dC, dX, cZ, cC, bE, bQ, aT, aA, aK, dE, aJ, cF, dF, dA, bN, aH, bB, aY, cL, aD, aX, aM, aV, cU, aW, cJ, bS, aC, aE, aL, dP, aP, aN, bC, aR, cI, aF, bZ, bU, bL, bD, bA, cX, aI, bM, aS, aU, aQ, aG, dG, cO, bO, aO, cW, bV, bY, cG, bP, bR, bK, cH, bF, cB, aZ, bJ, bH, bG, cA]
   refine (pP (n := 1) hr6 (by omega) ⟨by omega, by omega⟩).mono ?_
   rintro r w7 ⟨rfl, hr7, x7⟩
   have e1 : (kB (tZ s.1 s.2 1).1) = JW s 1 := rfl
   have e2 : (tZ s.1 s.2 1).2.1 = (Ig s 1).1 := rfl
   have e3 : (tZ s.1 s.2 1).2.2 = (Ig s 1).2 := rfl
   rw [e2, e3] at hr7
   rw [e1]
   refine (MA (by have := H3 s 1; omega)).mono ?_
   rintro r w8 ⟨rfl, h4⟩
   rw [h4]; clear h4 w8
   have oh7 := oh6.ext x7 (by intro h; omega)
   have ot7 := ot6.ext x7 (by intro h; omega)
   refine uP (off := 0) oh7 rfl (by simp [Bj]) fun w9 o9 x9 s9 => ?_
   simp only [Bj, QB, QC] at o9
   have oh9 : iL w9 ph (Bj ⟨M7 (JW s 1), 0, false, d / 4 % 2 == 1⟩) := o9
   have x69 : fW w6 w9 (fun y => y = pr ∨ y = ph) := (x7.mono fun _ _ h => .inl h).seq (x9.mono fun _ _ h => .inr h)
   have hle := M4 s 1
   rw [<- ho]
   refine IQ (L := l.length) (s := Ig s 1) hdl rfl rfl (hr7.ext x9 fun y h1 h2 h => by omega) (by omega) ⟨_, _, hv⟩ (by omega) (by omega) oh9 (ot7.ext x9 (by omega)) (by omega) (by omega) (by omega) hpr fun w' x => ?_
   rw [hRR]
   refine ⟨?_, (x06.trans x69 fun y hy h => by omega).trans x fun y hy h => by omega⟩
   unfold HS O4
   rw [ho]
   rfl
theorem PD (n : Nat) : n &&& 3 = n % 4 := Rf n 2
theorem PB (n : Nat) : n &&& 1 = n % 2 := Rf n 1
theorem OG {x : Nat} (h : x < 2 ^ 62) : vM .i64 (x : Int) 3 = ((x % 4 : Nat) : Int) := by
 unfold vM
 have e1 : (BitVec.ofInt IntKind.i64.bits (x : Int) &&& BitVec.ofInt IntKind.i64.bits 3).toNat = x % 4 := by
  rw [BitVec.toNat_and]
  simp only [IntKind.bits, BitVec.toNat_ofInt]
  have h1 : ((x : Int) % ((2 ^ 64 : Nat) : Int)).toNat = x := by omega
  have h2 : ((3 : Int) % ((2 ^ 64 : Nat) : Int)).toNat = 3 := by decide
  rw [h1, h2, PD]
 rw [e1]
 exact dZ (by omega) (by omega)
theorem OZ {x : Nat} (h : x < 2 ^ 62) : vM .i64 (x : Int) 1 = ((x % 2 : Nat) : Int) := by
 unfold vM
 have e1 : (BitVec.ofInt IntKind.i64.bits (x : Int) &&& BitVec.ofInt IntKind.i64.bits 1).toNat = x % 2 := by
  rw [BitVec.toNat_and]
  simp only [IntKind.bits, BitVec.toNat_ofInt]
  have h1 : ((x : Int) % ((2 ^ 64 : Nat) : Int)).toNat = x := by omega
  have h2 : ((1 : Int) % ((2 ^ 64 : Nat) : Int)).toNat = 1 := by decide
  rw [h1, h2, PB]
 rw [e1]
 exact dZ (by omega) (by omega)
def P5 (x : Nat) : RN := .agg #[.bool (x % 2 == 1), .int .i64 (x / 2 % 4 : Nat), .int .i64 (x / 8 : Nat)]
def PX (l : List UInt8) : RN := if kB l / 2 % 4 = 3 then .tuple #[.agg #[.bool false, .int .i64 0, .int .i64 0], .int .i64 11] else .tuple #[P5 (kB l), .int .i64 0]
theorem Kg {v : RN} {l : List UInt8} {w : RM} (hb : Bs w v l) (hl : l.length = 3) : fK pg pD #[v] w (fun r w' => r = PX l /\ fW w w' kY) := by
 refine C3 ?_
 unfold Ck rS
 refine yL fun w1 o1 x1 s1 => ?_
 obtain ⟨pt, hpt⟩ : ∃ p, p = w.heap.size := ⟨_, rfl⟩
 rw [<- hpt] at o1 ⊢
 have hz1 := o1.lt
 have hb1 := hb.ext x1 (kQ _)
 refine (vK hb1 (by omega)).mono ?_
 rintro r w2 ⟨pr, rfl, hr, x2⟩
 have o2 := o1.ext x2 (fun h => h)
 have hpr : w1.heap.size <= pr /\ pr < w2.heap.size := ⟨hr.1, hr.2.1⟩
 refine (pP (n := 3) hr (by omega) ⟨by omega, by omega⟩).mono ?_
 rintro r w3 ⟨rfl, hr3, x3⟩
 have o3 := o2.ext x3 (by intro h; omega)
 have e1 : tZ l 0 3 = (l, [], 0) := by
  unfold tZ
  rw [if_neg (by decide), if_neg (by omega), QL (by omega), RE (by omega)]
 rw [e1] at hr3 ⊢
 have hlt : kB l < 2 ^ 24 := by have := zH l; rw [hl] at this; omega
 unfold PX
 obtain ⟨x, hx⟩ : ∃ x, x = kB l := ⟨_, rfl⟩
 rw [<- hx] at hlt ⊢
 have wd : IntKind.i64.wrap (x : Int) = x := dZ (by omega) (by omega)
 have s1 : (x : Int).fdiv (2 ^ min (Int.toNat 1) IntKind.i64.bits) = ((x / 2 : Nat) : Int) := by
  have : (2 : Int) ^ min (Int.toNat 1) IntKind.i64.bits = 2 := by decide
  rw [this, QT _ (by omega)]; omega
 have s3 : (x : Int).fdiv (2 ^ min (Int.toNat 3) IntKind.i64.bits) = ((x / 8 : Nat) : Int) := by
  have : (2 : Int) ^ min (Int.toNat 3) IntKind.i64.bits = 8 := by decide
  rw [this, QT _ (by omega)]; omega
 have a3 := OG (x := x / 2) (by omega)
 have a1 := OZ (x := x) (by omega)
 have n0 : ((0 : Int) != 0) = false := rfl
 have x03 : fW w w3 kY := x1.trans (x2.trans x3 fun y hy h => by have := x2.size; omega) fun y hy h => h
 simp (disch := omega) only [dQ, fE, cQ, stepR_skip, eC, fB, eH, eT, eS, eM, fH, eP, dK, eN, eJ, eY, eE, eB, eK, eD, eI, eX, fC, eF, dR, eU, eZ, eA, gA, gB, gC, gG, gE, gF, gD, gH, gI, dH, Result.ok.injEq, Next.value.injEq, true_and, and_true, dZ, dY, fA, eL, eQ, fG, Qp, dS, dW, dV, dT, dN, dM, dO, dL, dI, cY, if_true, if_false, Qm, Qs, Qn, Qo, Qr, Qq, Ql, Qk, cR, cP, cD, bT, cV, dJ, bX, bW, cS, cM, cK, dD, cN, dB, dC, dX, cZ, cC, bE, bQ, aT, aA, aK, dE, aJ, cF, dF, dA, bN, aH, bB, aY, cL, aD, aX, aM, aV, cU, aW, cJ, bS, aC, aE, aL, dP, aP, aN, bC, aR, cI, aF, bZ, bU, bL, bD, bA, cX, aI, bM, aS, aU, aQ, aG, dG, cO, bO, aO, cW, bV, bY, cG, bP, bR, bK, cH, bF, cB, aZ, bJ, bH, bG, cA, wd]
 refine (zV hr3).mono ?_
 rintro r w4 ⟨rfl, h4⟩
 rw [h4]; clear h4 w4
 by_cases h3 : x / 2 % 4 = 3
 .have d1 : decide (((x / 2 % 4 : Nat) : Int) > 2) = true := decide_eq_true (by omega)
  have d2 : decide ((2 : Int) < ((x / 2 % 4 : Nat) : Int)) = true := decide_eq_true (by omega)
  rw [if_pos h3]
  simp (disch := omega) only [dQ, fE, cQ, stepR_skip, eC, fB, eH, eT, eS, eM, fH, eP, dK, eN, eJ, eY, eE, eB, eK, eD, eI, eX, fC, eF, dR, eU, eZ, eA, gA, gB, gC, gG, gE, gF, gD, gH, gI, dH, Result.ok.injEq, Next.value.injEq, true_and, and_true, dZ, dY, fA, eL, eQ, fG, Qp, dS, dW, dV, dT, dN, dM, dO, dL, dI, cY, if_true, if_false, Qm, Qs, Qn, Qo, Qr, Qq, Ql, Qk, cR, cP, cD, bT, cV, dJ, bX, bW, cS, cM, cK, dD, cN, dB, dC, dX, cZ, cC, bE, bQ, aT, aA, aK, dE, aJ, cF, dF, dA, bN, aH, bB, aY, cL, aD, aX, aM, aV, cU, aW, cJ, bS, aC, aE, aL, dP, aP, aN, bC, aR, cI, aF, bZ, bU, bL, bD, bA, cX, aI, bM, aS, aU, aQ, aG, dG, cO, bO, aO, cW, bV, bY, cG, bP, bR, bK, cH, bF, cB, aZ, bJ, bH, bG, cA, n0, s1, a3, d1, d2]
  refine rJ o3 rfl (by simp [one]) (by simp) fun w5 o5 x5 s5 => ?_
  refine Cd o5 (by simp [gO]) ?_
  simp only [gO, QB, QC, QN, QI, QP]
  exact ⟨trivial, x03.trans x5 fun y hy h => by omega⟩
 .have d1 : decide (((x / 2 % 4 : Nat) : Int) > 2) = false := decide_eq_false (by omega)
  have d2 : decide ((2 : Int) < ((x / 2 % 4 : Nat) : Int)) = false := decide_eq_false (by omega)
  have e5 : (((x % 2 : Nat) : Int) == 1) = (x % 2 == 1) := by
   have : x % 2 = 0 ∨ x % 2 = 1 := by omega
   rcases this with h | h <;> rw [h] <;> rfl
  rw [if_neg h3]
  simp (disch := omega) only [dQ, fE, cQ, stepR_skip, eC, fB, eH, eT, eS, eM, fH, eP, dK, eN, eJ, eY, eE, eB, eK, eD, eI, eX, fC, eF, dR, eU, eZ, eA, gA, gB, gC, gG, gE, gF, gD, gH, gI, dH, Result.ok.injEq, Next.value.injEq, true_and, and_true, dZ, dY, fA, eL, eQ, fG, Qp, dS, dW, dV, dT, dN, dM, dO, dL, dI, cY, if_true, if_false, Qm, Qs, Qn, Qo, Qr, Qq, Ql, Qk, cR, cP, cD, bT, cV, dJ, bX, bW, cS, cM, cK, dD, cN, dB, dC, dX, cZ, cC, bE, bQ, aT, aA, aK, dE, aJ, cF, dF, dA, bN, aH, bB, aY, cL, aD, aX, aM, aV, cU, aW, cJ, bS, aC, aE, aL, dP, aP, aN, bC, aR, cI, aF, bZ, bU, bL, bD, bA, cX, aI, bM, aS, aU, aQ, aG, dG, cO, bO, aO, cW, bV, bY, cG, bP, bR, bK, cH, bF, cB, aZ, bJ, bH, bG, cA, n0, s1, a3, d1, d2, a1, s3, e5]
  refine rJ o3 rfl (by simp [one]) (by simp) fun w5 o5 x5 s5 => ?_
  refine Cd o5 (by simp [gO]) ?_
  simp only [gO, QB, QC, QN, QI, QP]
  exact ⟨rfl, x03.trans x5 fun y hy h => by omega⟩
end Go.Proofs.YthohephggmkeeaaDoor
namespace Go.Proofs.YthohephggmkeeaaDoor
open Go Go.En Go.Pu
theorem Mm {x n m : Nat} (h : m = n) : (x : Int).fdiv (2 ^ m) = ((x / 2 ^ n : Nat) : Int) := by
 subst h
 rw [QT _ (by exact_mod_cast Nat.zero_le _)]
 push_cast
 rfl
theorem Pb {x n : Nat} (h : n <= 64) : (x : Int).fdiv (2 ^ min n IntKind.u64.bits) = ((x / 2 ^ n : Nat) : Int) := Mm (by have : IntKind.u64.bits = 64 := rfl; omega)
theorem Ks {x n : Nat} (hx : x < 2 ^ 63) (hn : n <= 62) : vM .u64 (x : Int) ((2 ^ n - 1 : Nat) : Int) = ((x % 2 ^ n : Nat) : Int) := by
 have hp : 2 ^ n <= 2 ^ 62 := Re (by omega) hn
 unfold vM
 have e : IntKind.u64.bits = 64 := rfl
 rw [e, BitVec.ofInt_natCast, BitVec.ofInt_natCast, BitVec.toNat_and, BitVec.toNat_ofNat, BitVec.toNat_ofNat, QV (by omega), QV (by omega), Rf]
 have := Nat.mod_le x (2 ^ n)
 exact dY (by omega) (by omega)
end Go.Proofs.YthohephggmkeeaaDoor
namespace Go.Proofs.YthohephggmkeeaaDoor
open Go Go.En Go.Pu
set_option maxRecDepth 4000
theorem Oj {n : Nat} {w : RM} (hn : n <= 131072) :
 fK pg oZ #[.int .u64 1, .int .u64 n] w (fun r w' => r = .tuple #[.int .u64 0, .int .u64 n] /\ fW w w' kY) := by
 refine CP ?_
 unfold Cn rW
 have a1 : vM .u64 1 4294967295 = 1 := by decide
 have a2 : vM .u64 (n : Int) 4294967295 = n := by
  have := Ks (x := n) (n := 32) (by omega) (by omega)
  rw [QV (by omega)] at this
  exact this
 have a0 : vM .u64 0 4294967295 = 0 := by decide
 have s1 : (1 : Int).fdiv (2 ^ min 32 IntKind.u64.bits) = 0 := by decide
 have s0 : (0 : Int).fdiv (2 ^ min 32 IntKind.u64.bits) = 0 := by decide
 have s2 : (n : Int).fdiv (2 ^ min 32 IntKind.u64.bits) = 0 := by
  rw [Pb (by omega), Nat.div_eq_of_lt (by omega)] <;> rfl
 have t32 : (32 : Int).toNat = 32 := rfl
 have w0 : IntKind.u64.wrap 0 = 0 := rfl
 have w1 : IntKind.u64.wrap (n : Int) = n := dY (by omega) (by omega)
 simp (disch := omega) only [dQ, eM, a1, eJ, t32, s1, a2, s2, eH, Int.one_mul, w1, cQ, Int.zero_mul, w0, Int.mul_zero, eC, Int.add_zero, a0, s0, true_and]
 exact fW.refl _ _
theorem Pm {n : Nat} {w : RM} (hn : n <= 131072) :
 fK pg rE #[.int .u64 1, .int .u64 n] w (fun r w' => r = .tuple #[.int .u64 0, .int .u64 n] /\ fW w w' kY) := by
 refine EB ?_
 unfold DP uO
 simp (disch := omega) only [dQ, bV, eL, cQ, cY]
 refine (Oj hn).mono ?_
 rintro r w1 ⟨rfl, x1⟩
 simp (disch := omega) only [gA, gB, cQ, true_and]
 exact x1
theorem O5 {z v : RN} {i n : Nat} (hi : i <= n) : gO (List.replicate i v ++ List.replicate (n - i) z) i ((List.replicate i v).take (min i (n - i))) = List.replicate (i + min i (n - i)) v ++ List.replicate (n - (i + min i (n - i))) z := by
 have e : (List.replicate i v).take (min i (n - i)) = List.replicate (min i (n - i)) v := by
  rw [List.take_replicate]; congr 1; omega
 rw [e]
 generalize hm : min i (n - i) = m
 have hm2 : i + m <= n := by omega
 clear hm e
 induction m generalizing i with
 | zero => simp [gO]
 | succ m ih =>
   rw [List.replicate_succ]
   simp only [gO]
   rw [show (List.replicate i v ++ List.replicate (n - i) z).set i v = List.replicate (i + 1) v ++ List.replicate (n - (i + 1)) z from ?_]
   .rw [ih (i := i + 1) (by omega) (by omega), show i + 1 + m = i + (m + 1) from by omega]
   .rw [Q0 _ _ (by simp), QJ, Nat.sub_self, show n - i = (n - (i + 1)) + 1 from by omega, List.replicate_succ, QB, List.replicate_succ', QF]
    rfl
theorem LY {c : UInt8} {n p : Nat} {w3 : RM} {RR : RN -> RM -> Prop} (hn : n <= 131072) (o3 : iL w3 p (List.replicate (min 1 n) (lN c) ++ List.replicate (n - min 1 n) (.int .u8 0)))
 (hk : ∀ w4, iL w4 p (List.replicate n (lN c)) -> fW w3 w4 (fun y => y = p) -> RR (.slice (some ⟨p, 0, none⟩) n n) w4) :
 lV RR (.slice (some ⟨p, 0, none⟩) n n) (.int .i64 (min 1 n : Nat)) w3 := by
 unfold lV oD oS
 refine iO.rule (fun m (t : RN) w' => ∃ i : Nat, m = n - i /\ t = .int .i64 i /\ i <= n /\ (1 <= i ∨ n = 0) /\ iL w' p (List.replicate i (lN c) ++ List.replicate (n - i) (.int .u8 0)) /\ fW w3 w' (fun y => y = p)) (n - min 1 n)
  ⟨min 1 n, rfl, rfl, by omega, by omega, o3, fW.refl _ _⟩ ?_
 rintro m t w4 ⟨i, rfl, rfl, hi, h0, o4, x4⟩
 unfold lR
 by_cases hlt : i < n
 .have d5 : decide ((i : Int) < (n : Int)) = true := by simp; omega
  have q1 : (i : Int).toNat = i := Qp _
  have s1 : iV (some (⟨p, 0, none⟩ : Addr)) n i 1 = some ⟨p, 0 + i, none⟩ := HD (by omega)
  have s2 : iV (some (⟨p, 0, none⟩ : Addr)) n 0 1 = some ⟨p, 0 + 0, none⟩ := HD (by omega)
  simp (disch := omega) only [dQ, cR, bS, q1, s1, Qs, bT, s2, Nat.sub_zero, true_and, cQ, eB, d5, dI]
  have hs : Bs (dr w4) (.slice (some ⟨p, 0, none⟩) i n) (List.replicate i c) := by
   have := (jJ o4).bs (off := 0) (c := n) (l := List.replicate i c) (by simp; omega) (fun j hj => by
    rw [QJ] at hj
    rw [Qs, QO (by simp; omega)]
    simp [List.getElem?_replicate, hj])
   rw [QJ] at this
   exact this
  refine C9 (off := i) (dl := n - i) (jJ o4) (by simp) hs (by simp [one, lN]) fun w5 o5 x5 s5 => ?_
  have hm5 : (List.map lN (List.replicate i c)).length = i := by simp
  rw [hm5, List.map_replicate, O5 hi] at o5
  rw [hm5]
  have e5 : (i : Int) + ((min i (n - i) : Nat) : Int) = ((i + min i (n - i) : Nat) : Int) := by omega
  have wi5 : IntKind.i64.wrap ((i + min i (n - i) : Nat) : Int) = ((i + min i (n - i) : Nat) : Int) := dZ (by omega) (by omega)
  simp (disch := omega) only [eC, e5, wi5, cQ, true_and]
  exact ⟨n - (i + min i (n - i)), by omega, i + min i (n - i), rfl, rfl, by omega, by omega, o5, x4.seq ((fW.dr w4 _).seq x5)⟩
 .have d5 : decide ((i : Int) < (n : Int)) = false := by simp; omega
  have hin : i = n := by omega
  rw [hin, Nat.sub_self, List.replicate_zero, Rn] at o4
  simp (disch := omega) only [dQ, cR, bS, Qp, bT, true_and, cQ, eB, d5, cY]
  unfold lT
  exact hk w4 o4 x4
theorem MV {v : RN} {c : UInt8} {n : Nat} {w : RM} (h : Bs w v [c]) (hn : n <= 131072) :
 fK pg mG #[v, .int .i64 n] w (fun r w' => FD w' w.heap.size 1 r n (List.replicate n (lN c)) /\ fW w w' kY) := by
 refine Bn ?_
 obtain ⟨RR, hRR⟩ : ∃ RR : RN -> RM -> Prop, RR = fun r w' => FD w' w.heap.size 1 r n (List.replicate n (lN c)) /\ fW w w' kY := ⟨_, rfl⟩
 rw [<- hRR]
 obtain ⟨b, off, cap, rfl, hc, hcell⟩ := OL h (by simp)
 have hl1 : ([c] : List UInt8).length = 1 := rfl
 rw [hl1] at *
 have d0 : decide ((n : Int) < 0) = false := decide_eq_false (by omega)
 have e1 : ((1 : Nat) : Int) = 1 := rfl
 have wn : IntKind.u64.wrap (n : Int) = n := dY (by omega) (by omega)
 have w1 : IntKind.u64.wrap 1 = 1 := rfl
 unfold yO nL nK
 simp (disch := omega) only [dQ, eB, d0, cQ, cY]
 unfold oN oT
 simp (disch := omega) only [dQ, cR, e1, cU, wn, cQ, w1]
 refine (Pm hn).mono ?_
 rintro r w1 ⟨rfl, x1⟩
 have d1 : decide ((0 : Int) > 0) = false := rfl
 have d2 : decide ((n : Int) > 9223372036854775807) = false := decide_eq_false (by omega)
 have d3 : decide ((9223372036854775807 : Int) < (n : Int)) = false := decide_eq_false (by omega)
 have d4 : decide ((0 : Int) < 0) = false := rfl
 simp (disch := omega) only [gA, gB, cQ, eD, d1, dT, dR, Qm, if_false, dN, d2, cY]
 unfold oJ oH
 have wi : IntKind.i64.wrap (n : Int) = n := dZ (by omega) (by omega)
 simp (disch := omega) only [dQ, cW, wi, cQ]
 refine Jv (by omega) (by omega) fun w2 o2 x2 s2 => ?_
 simp only [Qp] at o2 ⊢
 have z1 := x1.size
 have z2 := x2.size
 have x02 := x1.seq x2
 have h2 := h.ext x02 (kQ _)
 obtain ⟨p, hp⟩ : ∃ p, p = w1.heap.size := ⟨_, rfl⟩
 rw [<- hp] at o2 ⊢
 refine C9 (off := 0) o2 (by simp) h2 (by simp [one, lN]) fun w3 o3 x3 s3 => ?_
 have hmn : min (List.map lN [c]).length n = min 1 n := rfl
 rw [hmn] at o3 ⊢
 have hs3 : gO (List.replicate n (Value.int .u8 0)) 0 ((List.map lN [c]).take (min 1 n)) = List.replicate (min 1 n) (lN c) ++ List.replicate (n - min 1 n) (.int .u8 0) := by
  rcases Nat.eq_zero_or_pos n with rfl | hp
  .rfl
  .rw [show min 1 n = 1 from by omega]
   obtain ⟨m, rfl⟩ : ∃ m, n = m + 1 := ⟨n - 1, by omega⟩
   rfl
 rw [hs3] at o3
 have x13 : fW w1 w3 kY := x2.new x3 (by omega)
 have x03 := x1.seq x13
 refine LY hn o3 fun w4 o4 x4 => ?_
 have z4 := x4.size
 have x04 : fW w w4 kY := x03.trans x4 fun y hy h => by omega
 rw [hRR]
 exact ⟨⟨by rw [QJ, Ri], .inr ⟨p, n, [], rfl, by omega, by rw [Rn]; exact o4, by rw [Rn, QJ, Ri], QD _⟩⟩, x04⟩
end Go.Proofs.YthohephggmkeeaaDoor
namespace Go.Pu
open Go Go.En
structure PU (B : List Bool) (l : List UInt8) : Prop where
 len : l.length = (B.length + 7) / 8
 bits : Oo l = B ++ List.replicate (8 * l.length - B.length) false
end Go.Pu
namespace Go.Proofs.YthohephggmkeeaaDoor
open Go Go.En Go.Pu
set_option maxRecDepth 4000
theorem MT {w w' : RM} {S M : Nat -> Prop} {sz n : Nat} {v : RN} {l : List RN} (h : sG w S sz v n l) (hx : fW w w' M) (hM : ∀ b, S b -> ¬ M b) : sG w' S sz v n l := by
 refine ⟨h.1, ?_⟩
 rcases h.2 with h2 | ⟨b, c, rest, h1, h2, h3, h4, h5⟩
 .exact .inl h2
 .exact .inr ⟨b, c, rest, h1, h2, h3.ext hx (hM b h2), h4, h5⟩
def Wr (w : RM) (lo p : Nat) (B : List Bool) : Prop := lo <= p /\ ∃ v bytes, iL w p [v, .int .i64 B.length] /\ sG w (fun b => lo <= b /\ b ≠ p) 1 v bytes.length (bytes.map lN) /\ PU B bytes
theorem Wr.ext {w w' : RM} {lo p : Nat} {B : List Bool} {M : Nat -> Prop} (h : Wr w lo p B) (hx : fW w w' M) (hM : ∀ b, lo <= b -> ¬ M b) : Wr w' lo p B := by
 obtain ⟨h0, v, bytes, h1, h2, h3⟩ := h
 exact ⟨h0, v, bytes, h1.ext hx (hM _ h0), MT h2 hx fun b hb => hM b hb.1, h3⟩
def Cw (w : RM) (p : Nat) (S : Nat -> Prop) (l : List UInt8) : Prop := ¬ S p /\ ∃ v, iL w p [v] /\ sG w S 1 v l.length (l.map lN)
theorem Cw.ext {w w' : RM} {p : Nat} {S M : Nat -> Prop} {l : List UInt8} (h : Cw w p S l) (x : fW w w' M) (hp : ¬ M p) (hM : ∀ b, S b -> ¬ M b) : Cw w' p S l := by
 obtain ⟨h0, v, h1, h2⟩ := h
 exact ⟨h0, v, h1.ext x hp, MT h2 x hM⟩
theorem Cw.lt {w : RM} {p : Nat} {S : Nat -> Prop} {l : List UInt8} (h : Cw w p S l) : p < w.heap.size := by
 obtain ⟨_, v, h1, _⟩ := h; exact h1.lt
theorem H8 {w : RM} {S : Nat -> Prop} {n : Nat} {v : RN} {l : List RN} (o3 : sG w S 1 v n l) : Sl w v l := by
 have : FD w 0 1 v n l := ⟨o3.1, by
  rcases o3.2 with h | ⟨b, c, rest, g1, g2, g3⟩
  .exact .inl h
  .exact .inr ⟨b, c, rest, g1, by omega, g3⟩⟩
 exact this.sl
end Go.Proofs.YthohephggmkeeaaDoor
namespace Go.En
open Go
theorem sG.ext {w w' : RM} {S M : Nat -> Prop} {sz n : Nat} {v : RN} {l : List RN} (h : sG w S sz v n l) (hx : fW w w' M) (hM : ∀ b, S b -> ¬ M b) : sG w' S sz v n l := by
 refine ⟨h.1, ?_⟩
 rcases h.2 with h2 | ⟨b, c, rest, h1, h2, h3, h4, h5⟩
 .exact .inl h2
 .exact .inr ⟨b, c, rest, h1, h2, h3.ext hx (hM b h2), h4, h5⟩
theorem FD.ne {w : RM} {base p sz n : Nat} {v : RN} {l : List RN} (h : FD w base sz v n l) (hp : w.heap.size <= p) : sG w (fun b => base <= b /\ b ≠ p) sz v n l := by
 refine ⟨h.1, ?_⟩
 rcases h.2 with h2 | ⟨b, c, rest, h1, h2, h3, h4, h5⟩
 .exact .inl h2
 .have := h3.lt
  exact .inr ⟨b, c, rest, h1, ⟨h2, by omega⟩, h3, h4, h5⟩
theorem sG.len {w : RM} {S : Nat -> Prop} {sz n : Nat} {v : RN} {l : List RN} (h : sG w S sz v n l) : ∃ a c, v = .slice a n c := by
 rcases h.2 with ⟨h1, rfl⟩ | ⟨b, c, rest, h1, _⟩
 .exact ⟨_, _, h1⟩
 .exact ⟨_, _, h1⟩
end Go.En
namespace Go.Proofs.YthohephggmkeeaaDoor
open Go Go.En Go.Pu
set_option maxRecDepth 4000
theorem mH {w : RM} {S T : Nat -> Prop} {sz n : Nat} {v : RN} {l : List RN} (h : sG w S sz v n l) (hT : ∀ b, S b -> b < w.heap.size -> T b) : sG w T sz v n l := by
 refine ⟨h.1, ?_⟩
 rcases h.2 with h2 | ⟨b, c, rest, h1, h2, h3, h4, h5⟩
 .exact .inl h2
 .exact .inr ⟨b, c, rest, h1, hT b h2 h3.lt, h3, h4, h5⟩
def wV : RN := .slice none 0 0
theorem HI {p pr lo hi n : Nat} {cs : List RN} {l : List UInt8} {w : RM} (o : iL w p cs) (c0 : cs[0]? = some (.pointer (some ⟨pr, 0, none⟩))) (hr : B2 w lo hi pr l 0) (hl : l.length <= 1000000) (hn : n <= 1000000) :
 fK pg jK #[.pointer (some ⟨p, 0, none⟩), .int .i64 (n : Nat)] w (fun r w' => (l.length < n /\ r = .tuple #[wV, .int .i64 10] /\ w' = w) ∨ (n <= l.length /\ ∃ v, r = .tuple #[v, .int .i64 0] /\ Bs w' v (l.take n) /\ Kt v (fun b => lo <= b /\ b < hi /\ b ≠ pr) /\ B2 w' lo hi pr (l.drop n) 0 /\ fW w w' (fun y => y = pr))) := by
 refine Bm ?_
 unfold yQ oK
 have c := o.cell (off := 0)
 rw [c0] at c
 simp (disch := omega) only [dQ, fE, cQ, stepR_skip, eC, fB, eH, eT, eS, eM, fH, eP, dK, eN, eJ, eY, eE, eB, eK, eD, eI, eX, fC, eF, dR, eU, eZ, eA, gA, gB, gC, gG, gE, gF, gD, gH, gI, dH, Result.ok.injEq, Next.value.injEq, true_and, and_true, dZ, dY, fA, eL, eQ, fG, Qp, dS, dW, dV, dT, dN, dM, dO, dL, dI, cY, if_true, if_false, Qm, Qs, Qn, Qo, Qr, Qq, Ql, Qk, cR, cP, cD, bT, cV, dJ, bX, bW, cS, cM, cK, dD, cN, dB, dC, dX, cZ, cC, bE, bQ, aT, aA, aK, dE, aJ, cF, dF, dA, bN, aH, bB, aY, cL, aD, aX, aM, aV, cU, aW, cJ, bS, aC, aE, aL, dP, aP, aN, bC, aR, cI, aF, bZ, bU, bL, bD, bA, cX, aI, bM, aS, aU, aQ, aG, dG, cO, bO, aO, cW, bV, bY, cG, bP, bR, bK, cH, bF, cB, aZ, bJ, bH, bG, cA, c]
 refine (C6 hr).mono ?_
 rintro r w1 ⟨rfl, h1⟩
 rw [h1]; clear h1 w1
 by_cases h : l.length < n
 .have d1 : decide ((n : Int) > (l.length : Int)) = true := decide_eq_true (by omega)
  have d2 : decide ((l.length : Int) < (n : Int)) = true := decide_eq_true (by omega)
  simp (disch := omega) only [dQ, fE, cQ, stepR_skip, eC, fB, eH, eT, eS, eM, fH, eP, dK, eN, eJ, eY, eE, eB, eK, eD, eI, eX, fC, eF, dR, eU, eZ, eA, gA, gB, gC, gG, gE, gF, gD, gH, gI, dH, Result.ok.injEq, Next.value.injEq, true_and, and_true, dZ, dY, fA, eL, eQ, fG, Qp, dS, dW, dV, dT, dN, dM, dO, dL, dI, cY, if_true, if_false, Qm, Qs, Qn, Qo, Qr, Qq, Ql, Qk, cR, cP, cD, bT, cV, dJ, bX, bW, cS, cM, cK, dD, cN, dB, dC, dX, cZ, cC, bE, bQ, aT, aA, aK, dE, aJ, cF, dF, dA, bN, aH, bB, aY, cL, aD, aX, aM, aV, cU, aW, cJ, bS, aC, aE, aL, dP, aP, aN, bC, aR, cI, aF, bZ, bU, bL, bD, bA, cX, aI, bM, aS, aU, aQ, aG, dG, cO, bO, aO, cW, bV, bY, cG, bP, bR, bK, cH, bF, cB, aZ, bJ, bH, bG, cA, d1, d2]
  exact .inl ⟨h, rfl⟩
 .have d1 : decide ((n : Int) > (l.length : Int)) = false := decide_eq_false (by omega)
  have d2 : decide ((l.length : Int) < (n : Int)) = false := decide_eq_false (by omega)
  simp (disch := omega) only [dQ, fE, cQ, stepR_skip, eC, fB, eH, eT, eS, eM, fH, eP, dK, eN, eJ, eY, eE, eB, eK, eD, eI, eX, fC, eF, dR, eU, eZ, eA, gA, gB, gC, gG, gE, gF, gD, gH, gI, dH, Result.ok.injEq, Next.value.injEq, true_and, and_true, dZ, dY, fA, eL, eQ, fG, Qp, dS, dW, dV, dT, dN, dM, dO, dL, dI, cY, if_true, if_false, Qm, Qs, Qn, Qo, Qr, Qq, Ql, Qk, cR, cP, cD, bT, cV, dJ, bX, bW, cS, cM, cK, dD, cN, dB, dC, dX, cZ, cC, bE, bQ, aT, aA, aK, dE, aJ, cF, dF, dA, bN, aH, bB, aY, cL, aD, aX, aM, aV, cU, aW, cJ, bS, aC, aE, aL, dP, aP, aN, bC, aR, cI, aF, bZ, bU, bL, bD, bA, cX, aI, bM, aS, aU, aQ, aG, dG, cO, bO, aO, cW, bV, bY, cG, bP, bR, bK, cH, bF, cB, aZ, bJ, bH, bG, cA, d1, d2, c]
  refine (FX hr (by omega) (by omega)).mono ?_
  have ht : tZ l 0 n = (l.take n, l.drop n, 0) := by unfold tZ; rw [if_neg (by decide), if_neg h]
  rw [ht]
  rintro r w1 ⟨h1, h2, h3, h4⟩
  exact .inr ⟨by omega, r, rfl, h1, h2, h3, h4⟩
def gZ : List RN := [wV, .int .i64 0, wV, .int .i64 0, wV, .int .i64 0, wV, .int .u32 0, .int .u32 0, .int .u32 0]
def gL : List RN := [wV, .int .i64 0, wV, .int .i64 0, wV, .int .i64 0, wV, .int .u32 1, .int .u32 4, .int .u32 8]
def Pw : RN := .agg #[.slice none 0 0, .int .i64 0, .slice none 0 0, .int .i64 0, .slice none 0 0, .int .i64 0, .slice none 0 0, .int .u32 0, .int .u32 0, .int .u32 0]
def Pq : RN := .agg #[.slice none 0 0, .int .i64 0, .slice none 0 0, .int .i64 0, .slice none 0 0, .int .i64 0, .slice none 0 0, .int .u32 1, .int .u32 4, .int .u32 8]
def bx (l : List UInt8) : Nat := kB (l.take 3)
def zN (l : List UInt8) : Nat := bx l / 2 % 4
def Bp (l : List UInt8) : Nat := bx l / 8
def Fi (l : List UInt8) : Nat := if zN l = 1 then 1 else Bp l
def J1 (l : List UInt8) : List UInt8 := if zN l = 1 then List.replicate (Bp l) ((l.drop 3).headD 0) else (l.drop 3).take (Bp l)
def He (l all : List UInt8) (win room : Nat) : Option (Except Int (List UInt8 × List UInt8 × Bool)) :=
 if l.length < 3 then some (.error 10) else if zN l = 3 then some (.error 11) else if min win 131072 < Bp l then some (.error 12)
 else if zN l = 2 then none else if l.length - 3 < Fi l then some (.error 10)
 else if room < all.length + (J1 l).length then some (.error 12) else some (.ok (all ++ J1 l, l.drop (3 + Fi l), bx l % 2 == 1))
theorem LP {RR : RN -> RM -> Prop} {p pg6 pt9 px most n : Nat} {L : Bool} {vo va x1 x2 : RN} {N : Nat} {cs : List RN} {w : RM}
 (o : iL w p cs) (k2 : cs[2]? = some (.int .i64 (most : Nat))) (k3 : cs[3]? = some vo) (hvo : ∃ a c, vo = .slice a n c) (hva : ∃ a c, va = .slice a N c) (og : iL w pg6 gL) (ot : iL w pt9 gZ) (hne : pg6 ≠ pt9) (hpx : px ≠ pt9)
 (ox : iL w px [.bool L, x1, x2]) (hn : n <= 2000000) (hN : N <= 4000000) (hmost : most <= 2000000)
 (hk : ∀ w', fW w w' (fun y => y = pt9) -> RR (if most < n + N then .tuple #[wV, Pw, .bool false, .int .i64 12] else .tuple #[va, Pq, .bool L, .int .i64 0]) w') :
 jF RR (.pointer (some ⟨p, 0, none⟩)) va (.pointer (some ⟨pg6, 0, none⟩)) (.pointer (some ⟨pt9, 0, none⟩)) (.pointer (some ⟨px, 0, none⟩)) w := by
 unfold jF
 obtain ⟨a, c, rfl⟩ := hvo
 obtain ⟨a', c', rfl⟩ := hva
 have e2 := (jJ o).cell (off := 2)
 have e3 := (jJ o).cell (off := 3)
 have f2 := o.cell (off := 2)
 have f3 := o.cell (off := 3)
 have g2 := (jJ (jJ o)).cell (off := 2)
 have g3 := (jJ (jJ o)).cell (off := 3)
 rw [k2] at e2 f2 g2
 rw [k3] at e3 f3 g3
 by_cases h : most < n + N
 .have d1 : decide ((n : Int) + (N : Int) > (most : Int)) = true := decide_eq_true (by omega)
  have d2 : decide ((most : Int) < (n : Int) + (N : Int)) = true := decide_eq_true (by omega)
  rw [if_pos h] at hk
  simp (disch := omega) only [dQ, fE, cQ, stepR_skip, eC, fB, eH, eT, eS, eM, fH, eP, dK, eN, eJ, eY, eE, eB, eK, eD, eI, eX, fC, eF, dR, eU, eZ, eA, gA, gB, gC, gG, gE, gF, gD, gH, gI, dH, Result.ok.injEq, Next.value.injEq, true_and, and_true, dZ, dY, fA, eL, eQ, fG, Qp, dS, dW, dV, dT, dN, dM, dO, dL, dI, cY, if_true, if_false, Qm, Qs, Qn, Qo, Qr, Qq, Ql, Qk, cR, cP, cD, bT, cV, dJ, bX, bW, cS, cM, cK, dD, cN, dB, dC, dX, cZ, cC, bE, bQ, aT, aA, aK, dE, aJ, cF, dF, dA, bN, aH, bB, aY, cL, aD, aX, aM, aV, cU, aW, cJ, bS, aC, aE, aL, dP, aP, aN, bC, aR, cI, aF, bZ, bU, bL, bD, bA, cX, aI, bM, aS, aU, aQ, aG, dG, cO, bO, aO, cW, bV, bY, cG, bP, bR, bK, cH, bF, cB, aZ, bJ, bH, bG, cA, e2, e3, f2, f3, g2, g3, d1, d2]
  refine jE (jJ ot) rfl (by simp [one]) (by simp [gZ]) fun w1 o1 x1 s1 => ?_
  refine lC o1 (by simp [gO, gZ]) ?_
  simp only [gO, gZ, QB, QC, QN, QI, QP]
  exact hk w1 ((fW.dr w _).seq x1)
 .have d1 : decide ((n : Int) + (N : Int) > (most : Int)) = false := decide_eq_false (by omega)
  have d2 : decide ((most : Int) < (n : Int) + (N : Int)) = false := decide_eq_false (by omega)
  rw [if_neg h] at hk
  have hg := uI (off := 0) (jJ og) (by simp [gL])
  have hg2 := uI (off := 0) (jJ (jJ og)) (by simp [gL])
  simp only [gL, QN, QI, QP] at hg hg2
  have b0 := (jJ ox).cell (off := 0)
  have b1 := (jJ (jJ ox)).cell (off := 0)
  simp only [Qk] at b0 b1
  simp (disch := omega) only [dQ, fE, cQ, stepR_skip, eC, fB, eH, eT, eS, eM, fH, eP, dK, eN, eJ, eY, eE, eB, eK, eD, eI, eX, fC, eF, dR, eU, eZ, eA, gA, gB, gC, gG, gE, gF, gD, gH, gI, dH, Result.ok.injEq, Next.value.injEq, true_and, and_true, dZ, dY, fA, eL, eQ, fG, Qp, dS, dW, dV, dT, dN, dM, dO, dL, dI, cY, if_true, if_false, Qm, Qs, Qn, Qo, Qr, Qq, Ql, Qk, cR, cP, cD, bT, cV, dJ, bX, bW, cS, cM, cK, dD, cN, dB, dC, dX, cZ, cC, bE, bQ, aT, aA, aK, dE, aJ, cF, dF, dA, bN, aH, bB, aY, cL, aD, aX, aM, aV, cU, aW, cJ, bS, aC, aE, aL, dP, aP, aN, bC, aR, cI, aF, bZ, bU, bL, bD, bA, cX, aI, bM, aS, aU, aQ, aG, dG, cO, bO, aO, cW, bV, bY, cG, bP, bR, bK, cH, bF, cB, aZ, bJ, bH, bG, cA, e2, e3, f2, f3, g2, g3, d1, d2, hg, hg2, b0, b1]
  refine jE (jJ (jJ ot)) rfl (by simp [one, wV]) (by simp [gZ]) fun w1 o1 x1 s1 => ?_
  have ox1 := (jJ (jJ ox)).ext x1 hpx
  have b2 := ox1.cell (off := 0)
  simp only [Qk] at b2
  try simp (disch := omega) only [dQ, fE, cQ, stepR_skip, eC, fB, eH, eT, eS, eM, fH, eP, dK, eN, eJ, eY, eE, eB, eK, eD, eI, eX, fC, eF, dR, eU, eZ, eA, gA, gB, gC, gG, gE, gF, gD, gH, gI, dH, Result.ok.injEq, Next.value.injEq, true_and, and_true, dZ, dY, fA, eL, eQ, fG, Qp, dS, dW, dV, dT, dN, dM, dO, dL, dI, cY, if_true, if_false, Qm, Qs, Qn, Qo, Qr, Qq, Ql, Qk, cR, cP, cD, bT, cV, dJ, bX, bW, cS, cM, cK, dD, cN, dB, dC, dX, cZ, cC, bE, bQ, aT, aA, aK, dE, aJ, cF, dF, dA, bN, aH, bB, aY, cL, aD, aX, aM, aV, cU, aW, cJ, bS, aC, aE, aL, dP, aP, aN, bC, aR, cI, aF, bZ, bU, bL, bD, bA, cX, aI, bM, aS, aU, aQ, aG, dG, cO, bO, aO, cW, bV, bY, cG, bP, bR, bK, cH, bF, cB, aZ, bJ, bH, bG, cA, b2]
  refine lC o1 (by simp [gO, gZ]) ?_
  simp only [gO, gZ, QB, QC, QN, QI, QP]
  exact hk w1 (((fW.dr w _).seq (fW.dr _ _)).seq x1)
theorem NS {S : Nat -> Prop} {v x : RN} {l m : List UInt8} {w : RM} (h : sG w S 1 v l.length (l.map lN)) (hx : Bs w x m) (hb : ∀ b, w.heap.size <= b -> S b) (hn : l.length + m.length <= 100000000) {K : RN -> RM -> Prop}
 (hk : ∀ v' w', sG w' S 1 v' (l ++ m).length ((l ++ m).map lN) -> fW w w' S -> K v' w') : dQ pg (lQ .append #[22, 22] 22 [v, x]) w K := by
 have hcl : Cl w 1 x m.length (m.map lN) := by have := hx.cl; rwa [Qw] at this
 refine Gh (m := m.length) (news := m.map lN) (i := Tryd.t5) Tryd.underlying22 Tryd.underlying22 D7 rfl rfl rfl h hcl (KU _) hb (by omega) (by rw [show Tryd.t5.bytes = 1 from rfl]; omega) (by decide) fun v3 w3 o3 x3 => ?_
 refine hk v3 w3 ?_ x3
 rw [Qt, List.map_append]
 exact o3
theorem LM {RR : RN -> RM -> Prop} {p pr pg6 pt9 px lo hi most n k sz need wv bv : Nat} {L : Bool} {A : Nat -> Prop} {vo va : RN} {all l made : List UInt8} {cs : List RN} {w : RM}
 (o : iL w p cs) (k0 : cs[0]? = some (.pointer (some ⟨pr, 0, none⟩))) (k2 : cs[2]? = some (.int .i64 (most : Nat))) (k3 : cs[3]? = some vo) (hvo : ∃ a c, vo = .slice a n c) (og : iL w pg6 gL) (ot : iL w pt9 gZ) (ox : iL w px [.bool L, .int .i64 (k : Nat), .int .i64 (sz : Nat)])
 (hr : B2 w lo hi pr l 0) (ha : sG w A 1 va all.length (all.map lN)) (hA : ∀ b, A b -> b ≠ p /\ ¬ (lo <= b /\ b < hi) /\ b ≠ pg6 /\ b ≠ pt9 /\ b ≠ px) (hAn : ∀ b, w.heap.size <= b -> A b)
 (hne : pg6 ≠ pt9) (hpx : px ≠ pt9) (q1 : ¬ (lo <= p /\ p < hi)) (q2 : ¬ (lo <= pg6 /\ pg6 < hi)) (q3 : ¬ (lo <= pt9 /\ pt9 < hi)) (q4 : ¬ (lo <= px /\ px < hi)) (hk01 : k = 0 ∨ k = 1) (hsz : sz <= 131072) (hn : n <= 2000000) (hl : l.length <= 1000000) (hall : all.length <= 2000000) (hmost : most <= 2000000)
 (hneed : need = if k = 1 then 1 else sz) (hmade : made = if k = 1 then List.replicate sz (l.headD 0) else l.take sz)
 (hk1 : l.length < need -> ∀ w', fW w w' (fun y => y = pt9) -> RR (.tuple #[wV, Pw, .bool false, .int .i64 10]) w')
 (hk2 : need <= l.length -> most < n + (all.length + made.length) -> ∀ w', fW w w' (fun y => A y ∨ y = pr ∨ y = pt9) -> RR (.tuple #[wV, Pw, .bool false, .int .i64 12]) w')
 (hk3 : need <= l.length -> ¬ most < n + (all.length + made.length) -> ∀ w' va', sG w' A 1 va' (all ++ made).length ((all ++ made).map lN) -> B2 w' lo hi pr (l.drop need) 0 -> fW w w' (fun y => A y ∨ y = pr ∨ y = pt9) -> RR (.tuple #[va', Pq, .bool L, .int .i64 0]) w') :
 kE RR (.pointer (some ⟨p, 0, none⟩)) va (.int .u64 (wv : Nat)) (.pointer (some ⟨pg6, 0, none⟩)) (.pointer (some ⟨pt9, 0, none⟩)) (.int .i64 (bv : Nat)) (.pointer (some ⟨px, 0, none⟩)) (.int .i64 (need : Nat)) w := by
 have hneed2 : need <= 131072 := by rw [hneed]; split <;> omega
 unfold kE oE
 refine (HI o k0 hr hl (by omega)).mono ?_
 rintro r w1 (⟨h1, rfl, h2⟩ | ⟨h1, v, rfl, hb1, hat, hr1, x1⟩)
 .rw [h2]; clear h2 w1
  have n1 : ((10 : Int) != 0) = true := rfl
  unfold wV
  simp (disch := omega) only [dQ, fE, cQ, stepR_skip, eC, fB, eH, eT, eS, eM, fH, eP, dK, eN, eJ, eY, eE, eB, eK, eD, eI, eX, fC, eF, dR, eU, eZ, eA, gA, gB, gC, gG, gE, gF, gD, gH, gI, dH, Result.ok.injEq, Next.value.injEq, true_and, and_true, dZ, dY, fA, eL, eQ, fG, Qp, dS, dW, dV, dT, dN, dM, dO, dL, dI, cY, if_true, if_false, Qm, Qs, Qn, Qo, Qr, Qq, Ql, Qk, cR, cP, cD, bT, cV, dJ, bX, bW, cS, cM, cK, dD, cN, dB, dC, dX, cZ, cC, bE, bQ, aT, aA, aK, dE, aJ, cF, dF, dA, bN, aH, bB, aY, cL, aD, aX, aM, aV, cU, aW, cJ, bS, aC, aE, aL, dP, aP, aN, bC, aR, cI, aF, bZ, bU, bL, bD, bA, cX, aI, bM, aS, aU, aQ, aG, dG, cO, bO, aO, cW, bV, bY, cG, bP, bR, bK, cH, bF, cB, aZ, bJ, bH, bG, cA, n1]
  refine jE ot rfl (by simp [one]) (by simp [gZ]) fun w1 o1 x1 s1 => ?_
  refine lC o1 (by simp [gO, gZ]) ?_
  simp only [gO, gZ, QB, QC, QN, QI, QP]
  exact hk1 h1 w1 x1
 have n1 : ((0 : Int) != 0) = false := rfl
 have hpr : lo <= pr /\ pr < hi := ⟨hr.1, hr.2.1⟩
 have ox1 := ox.ext x1 (fun e => q4 (e ▸ hpr))
 have og1 := og.ext x1 (fun e => q2 (e ▸ hpr))
 have ot1 := ot.ext x1 (fun e => q3 (e ▸ hpr))
 have o1 := o.ext x1 (fun e => q1 (e ▸ hpr))
 have ha1 := ha.ext x1 (fun b hb e => (hA b hb).2.1 (e ▸ hpr))
 have z1 := x1.size
 have c1 := ox1.cell (off := 1)
 have c2 := ox1.cell (off := 2)
 simp only [Qk, Ql] at c1 c2
 have fin : ∀ (m' : List UInt8) (v' : RN) (w2 : RM), m' = made -> sG w2 A 1 v' (all ++ m').length ((all ++ m').map lN) -> fW w1 w2 A -> jF RR (.pointer (some ⟨p, 0, none⟩)) v' (.pointer (some ⟨pg6, 0, none⟩)) (.pointer (some ⟨pt9, 0, none⟩)) (.pointer (some ⟨px, 0, none⟩)) w2 := by
  rintro m' v' w2 rfl o2 x2
  have hlen := o2.len
  refine LP (n := n) (N := (all ++ m').length) (L := L) (o1.ext x2 fun h => (hA p h).1 rfl) k2 k3 hvo hlen (og1.ext x2 fun h => (hA _ h).2.2.1 rfl) (ot1.ext x2 fun h => (hA _ h).2.2.2.1 rfl) hne hpx (ox1.ext x2 fun h => (hA _ h).2.2.2.2 rfl) (by omega) ?_ hmost fun w' x => ?_
  .have : m'.length <= 131072 := by
    rw [hmade]; split
    .rw [QJ]; exact hsz
    .rw [Qz]; omega
   rw [Qt]; omega
  .rw [Qt]
   have xx : fW w w' (fun y => A y ∨ y = pr ∨ y = pt9) := (((x1.mono fun _ _ h => .inr (.inl h)).seq (x2.mono fun _ _ h => .inl h))).seq (x.mono fun _ _ h => .inr (.inr h))
   by_cases hm : most < n + (all.length + m'.length)
   .rw [if_pos hm]; exact hk2 h1 hm w' xx
   .rw [if_neg hm]
    refine hk3 h1 hm w' v' (o2.ext x fun b hb e => (hA b hb).2.2.2.1 e) ((hr1.ext x2 fun b h1 h2 h3 => (hA b h3).2.1 ⟨h1, h2⟩).ext x fun b h1 h2 h3 => q3 (h3 ▸ ⟨h1, h2⟩)) xx
 rcases hk01 with rfl | rfl
 .have e0 : (((0 : Nat) : Int) == 0) = true := rfl
  simp only [show ¬ ((0 : Nat) = 1) from by decide, if_false] at hneed hmade
  simp (disch := omega) only [dQ, fE, cQ, stepR_skip, eC, fB, eH, eT, eS, eM, fH, eP, dK, eN, eJ, eY, eE, eB, eK, eD, eI, eX, fC, eF, dR, eU, eZ, eA, gA, gB, gC, gG, gE, gF, gD, gH, gI, dH, Result.ok.injEq, Next.value.injEq, true_and, and_true, dZ, dY, fA, eL, eQ, fG, Qp, dS, dW, dV, dT, dN, dM, dO, dL, dI, cY, if_true, if_false, Qm, Qs, Qn, Qo, Qr, Qq, Ql, Qk, cR, cP, cD, bT, cV, dJ, bX, bW, cS, cM, cK, dD, cN, dB, dC, dX, cZ, cC, bE, bQ, aT, aA, aK, dE, aJ, cF, dF, dA, bN, aH, bB, aY, cL, aD, aX, aM, aV, cU, aW, cJ, bS, aC, aE, aL, dP, aP, aN, bC, aR, cI, aF, bZ, bU, bL, bD, bA, cX, aI, bM, aS, aU, aQ, aG, dG, cO, bO, aO, cW, bV, bY, cG, bP, bR, bK, cH, bF, cB, aZ, bJ, bH, bG, cA, n1, c1, e0]
  refine NS ha1 hb1 (fun b hb => hAn b (by omega)) (by rw [Qz]; omega) fun v' w2 o2 x2 => ?_
  exact fin _ v' w2 (by rw [hmade, hneed]) o2 x2
 .have e0 : (((1 : Nat) : Int) == 0) = false := rfl
  have e1 : (((1 : Nat) : Int) == 1) = true := rfl
  simp only [if_true] at hneed hmade
  subst hneed
  simp (disch := omega) only [dQ, fE, cQ, stepR_skip, eC, fB, eH, eT, eS, eM, fH, eP, dK, eN, eJ, eY, eE, eB, eK, eD, eI, eX, fC, eF, dR, eU, eZ, eA, gA, gB, gC, gG, gE, gF, gD, gH, gI, dH, Result.ok.injEq, Next.value.injEq, true_and, and_true, dZ, dY, fA, eL, eQ, fG, Qp, dS, dW, dV, dT, dN, dM, dO, dL, dI, cY, if_true, if_false, Qm, Qs, Qn, Qo, Qr, Qq, Ql, Qk, cR, cP, cD, bT, cV, dJ, bX, bW, cS, cM, cK, dD, cN, dB, dC, dX, cZ, cC, bE, bQ, aT, aA, aK, dE, aJ, cF, dF, dA, bN, aH, bB, aY, cL, aD, aX, aM, aV, cU, aW, cJ, bS, aC, aE, aL, dP, aP, aN, bC, aR, cI, aF, bZ, bU, bL, bD, bA, cX, aI, bM, aS, aU, aQ, aG, dG, cO, bO, aO, cW, bV, bY, cG, bP, bR, bK, cH, bF, cB, aZ, bJ, bH, bG, cA, n1, c1, e0, e1, c2]
  obtain ⟨c, t, hct⟩ : ∃ c t, l = c :: t := by
   cases l with
   | nil => simp at h1
   | cons c t => exact ⟨c, t, rfl⟩
  have e4 : l.take 1 = [c] := by rw [hct] <;> rfl
  rw [e4] at hb1
  refine (MV hb1 hsz).mono ?_
  rintro r w2 ⟨o2, x2⟩
  have z2 := x2.size
  have hbr : Bs w2 r (List.replicate sz c) := by
   unfold Bs
   rw [List.map_replicate]
   exact o2.sl
  refine NS (ha1.ext x2 fun _ _ h => h) hbr (fun b hb => hAn b (by omega)) (by rw [QJ]; omega) fun v' w3 o3 x3 => ?_
  exact fin _ v' w3 (by rw [hmade, hct] <;> rfl) o3 ((x2.mono fun _ _ h => h.elim).seq x3)
def Oz (lo hi pr : Nat) (A : Nat -> Prop) (w : RM) (r : RN) (w' : RM) : Except Int (List UInt8 × List UInt8 × Bool) -> Prop
 | .error e => r = .tuple #[wV, Pw, .bool false, .int .i64 e] /\ fW w w' (fun y => A y ∨ y = pr)
 | .ok (a, l, b) => ∃ v, r = .tuple #[v, Pq, .bool b, .int .i64 0] /\ sG w' A 1 v a.length (a.map lN) /\ B2 w' lo hi pr l 0 /\ fW w w' (fun y => A y ∨ y = pr)
theorem M0 {p pr lo hi most n win : Nat} {A : Nat -> Prop} {vo va : RN} {all l : List UInt8} {cs : List RN} {w : RM} {m : Except Int (List UInt8 × List UInt8 × Bool)}
 (o : iL w p cs) (k0 : cs[0]? = some (.pointer (some ⟨pr, 0, none⟩))) (k2 : cs[2]? = some (.int .i64 (most : Nat))) (k3 : cs[3]? = some vo) (hvo : ∃ a c, vo = .slice a n c)
 (hr : B2 w lo hi pr l 0) (ha : sG w A 1 va all.length (all.map lN)) (hA : ∀ b, A b -> b ≠ p /\ ¬ (lo <= b /\ b < hi)) (hAn : ∀ b, w.heap.size <= b -> A b) (hhi : hi <= w.heap.size)
 (q1 : ¬ (lo <= p /\ p < hi)) (hn : n <= most) (hl : l.length <= 1000000) (hall : all.length <= 2000000) (hmost : most <= 2000000)
 (hm : He l all win (most - n) = some m) :
 fK pg mJ #[.pointer (some ⟨p, 0, none⟩), va, Pq, .int .u64 (win : Nat)] w (fun r w' => Oz lo hi pr A w r w' m) := by
 refine AY ?_
 obtain ⟨RR, hRR⟩ : ∃ RR : RN -> RM -> Prop, RR = fun r w' => Oz lo hi pr A w r w' m := ⟨_, rfl⟩
 rw [<- hRR]
 unfold yE oQ oM
 refine Dp fun w1 o1 x1 s1 => ?_
 have o1 : iL w1 w.heap.size gL := o1
 obtain ⟨p6, hp6⟩ : ∃ p, p = w.heap.size := ⟨_, rfl⟩
 rw [<- hp6] at o1 ⊢
 refine Cg fun w2 o2 x2 s2 => ?_
 have o2 : iL w2 w1.heap.size gZ := o2
 obtain ⟨p9, hp9⟩ : ∃ p, p = w1.heap.size := ⟨_, rfl⟩
 rw [<- hp9] at o2 ⊢
 have z1 := o1.lt
 have z2 := o2.lt
 have x12 := x1.seq x2
 have og2 := o1.ext x2 (fun h => h)
 have hmn : (if (131072 : Int) < (win : Int) then (131072 : Int) else (win : Int)) = ((min win 131072 : Nat) : Int) := by
  split <;> omega
 have hw : IntKind.i64.wrap ((min win 131072 : Nat) : Int) = ((min win 131072 : Nat) : Int) := dZ (by omega) (by omega)
 simp (disch := omega) only [dQ, fE, cQ, stepR_skip, eC, fB, eH, eT, eS, eM, fH, eP, dK, eN, eJ, eY, eE, eB, eK, eD, eI, eX, fC, eF, dR, eU, eZ, eA, gA, gB, gC, gG, gE, gF, gD, gH, gI, dH, Result.ok.injEq, Next.value.injEq, true_and, and_true, dZ, dY, fA, eL, eQ, fG, Qp, dS, dW, dV, dT, dN, dM, dO, dL, dI, cY, if_true, if_false, Qm, Qs, Qn, Qo, Qr, Qq, Ql, Qk, cR, cP, cD, bT, cV, dJ, bX, bW, cS, cM, cK, dD, cN, dB, dC, dX, cZ, cC, bE, bQ, aT, aA, aK, dE, aJ, cF, dF, dA, bN, aH, bB, aY, cL, aD, aX, aM, aV, cU, aW, cJ, bS, aC, aE, aL, dP, aP, aN, bC, aR, cI, aF, bZ, bU, bL, bD, bA, cX, aI, bM, aS, aU, aQ, aG, dG, cO, bO, aO, cW, bV, bY, cG, bP, bR, bK, cH, bF, cB, aZ, bJ, bH, bG, cA, hmn, hw]
 refine (HI (n := 3) (o.ext x12 (fun h => h)) k0 (hr.ext x12 (fun _ _ _ h => h)) hl (by omega)).mono ?_
 unfold He at hm
 rintro r w3 (⟨h1, rfl, h2⟩ | ⟨h1, v, rfl, hb1, hat, hr1, x3⟩)
 .rw [h2]; clear h2 w3
  rw [if_pos h1] at hm
  cases hm
  have n1 : ((10 : Int) != 0) = true := rfl
  unfold wV
  simp (disch := omega) only [dQ, fE, cQ, stepR_skip, eC, fB, eH, eT, eS, eM, fH, eP, dK, eN, eJ, eY, eE, eB, eK, eD, eI, eX, fC, eF, dR, eU, eZ, eA, gA, gB, gC, gG, gE, gF, gD, gH, gI, dH, Result.ok.injEq, Next.value.injEq, true_and, and_true, dZ, dY, fA, eL, eQ, fG, Qp, dS, dW, dV, dT, dN, dM, dO, dL, dI, cY, if_true, if_false, Qm, Qs, Qn, Qo, Qr, Qq, Ql, Qk, cR, cP, cD, bT, cV, dJ, bX, bW, cS, cM, cK, dD, cN, dB, dC, dX, cZ, cC, bE, bQ, aT, aA, aK, dE, aJ, cF, dF, dA, bN, aH, bB, aY, cL, aD, aX, aM, aV, cU, aW, cJ, bS, aC, aE, aL, dP, aP, aN, bC, aR, cI, aF, bZ, bU, bL, bD, bA, cX, aI, bM, aS, aU, aQ, aG, dG, cO, bO, aO, cW, bV, bY, cG, bP, bR, bK, cH, bF, cB, aZ, bJ, bH, bG, cA, n1]
  refine jE o2 rfl (by simp [one]) (by simp [gZ]) fun w3 o3 x3 s3 => ?_
  refine lC o3 (by simp [gO, gZ]) ?_
  simp only [gO, gZ, QB, QC, QN, QI, QP]
  rw [hRR]
  exact ⟨rfl, (x12.mono fun _ _ h => h.elim).trans x3 fun y hy h => by omega⟩
 rw [if_neg (by omega)] at hm
 have n0 : ((0 : Int) != 0) = false := rfl
 have hpr : lo <= pr /\ pr < hi := ⟨hr.1, hr.2.1⟩
 have og3 := og2.ext x3 (by intro h; omega)
 have ot3 := o2.ext x3 (by intro h; omega)
 have o3 := (o.ext x12 (fun h => h)).ext x3 (fun e => q1 (e ▸ hpr))
 have ha3 := (ha.ext x12 (fun _ _ h => h)).ext x3 (fun b hb e => (hA b hb).2 (e ▸ hpr))
 simp (disch := omega) only [dQ, fE, cQ, stepR_skip, eC, fB, eH, eT, eS, eM, fH, eP, dK, eN, eJ, eY, eE, eB, eK, eD, eI, eX, fC, eF, dR, eU, eZ, eA, gA, gB, gC, gG, gE, gF, gD, gH, gI, dH, Result.ok.injEq, Next.value.injEq, true_and, and_true, dZ, dY, fA, eL, eQ, fG, Qp, dS, dW, dV, dT, dN, dM, dO, dL, dI, cY, if_true, if_false, Qm, Qs, Qn, Qo, Qr, Qq, Ql, Qk, cR, cP, cD, bT, cV, dJ, bX, bW, cS, cM, cK, dD, cN, dB, dC, dX, cZ, cC, bE, bQ, aT, aA, aK, dE, aJ, cF, dF, dA, bN, aH, bB, aY, cL, aD, aX, aM, aV, cU, aW, cJ, bS, aC, aE, aL, dP, aP, aN, bC, aR, cI, aF, bZ, bU, bL, bD, bA, cX, aI, bM, aS, aU, aQ, aG, dG, cO, bO, aO, cW, bV, bY, cG, bP, bR, bK, cH, bF, cB, aZ, bJ, bH, bG, cA, n0]
 refine (Kg hb1 (by rw [Qz]; omega)).mono ?_
 rintro r w4 ⟨rfl, x4⟩
 have e0 : kB (l.take 3) = bx l := rfl
 unfold PX
 rw [e0]
 have ek : bx l / 2 % 4 = zN l := rfl
 rw [ek]
 have og4 := og3.ext x4 (fun h => h)
 have ot4 := ot3.ext x4 (fun h => h)
 have zz3 := x3.size
 have zz4 := x4.size
 by_cases h3 : zN l = 3
 .rw [if_pos h3]
  rw [if_pos h3] at hm
  cases hm
  have n1 : ((11 : Int) != 0) = true := rfl
  simp (disch := omega) only [dQ, fE, cQ, stepR_skip, eC, fB, eH, eT, eS, eM, fH, eP, dK, eN, eJ, eY, eE, eB, eK, eD, eI, eX, fC, eF, dR, eU, eZ, eA, gA, gB, gC, gG, gE, gF, gD, gH, gI, dH, Result.ok.injEq, Next.value.injEq, true_and, and_true, dZ, dY, fA, eL, eQ, fG, Qp, dS, dW, dV, dT, dN, dM, dO, dL, dI, cY, if_true, if_false, Qm, Qs, Qn, Qo, Qr, Qq, Ql, Qk, cR, cP, cD, bT, cV, dJ, bX, bW, cS, cM, cK, dD, cN, dB, dC, dX, cZ, cC, bE, bQ, aT, aA, aK, dE, aJ, cF, dF, dA, bN, aH, bB, aY, cL, aD, aX, aM, aV, cU, aW, cJ, bS, aC, aE, aL, dP, aP, aN, bC, aR, cI, aF, bZ, bU, bL, bD, bA, cX, aI, bM, aS, aU, aQ, aG, dG, cO, bO, aO, cW, bV, bY, cG, bP, bR, bK, cH, bF, cB, aZ, bJ, bH, bG, cA, n1]
  refine yL fun w5 o5 x5 s5 => ?_
  refine rJ o5 rfl (by simp [one]) (by simp) fun w6 o6 x6 s6 => ?_
  have x46 : fW w4 w6 kY := x5.new x6 (by omega)
  have ot6 := ot4.ext x46 (fun h => h)
  try simp (disch := omega) only [dQ, fE, cQ, stepR_skip, eC, fB, eH, eT, eS, eM, fH, eP, dK, eN, eJ, eY, eE, eB, eK, eD, eI, eX, fC, eF, dR, eU, eZ, eA, gA, gB, gC, gG, gE, gF, gD, gH, gI, dH, Result.ok.injEq, Next.value.injEq, true_and, and_true, dZ, dY, fA, eL, eQ, fG, Qp, dS, dW, dV, dT, dN, dM, dO, dL, dI, cY, if_true, if_false, Qm, Qs, Qn, Qo, Qr, Qq, Ql, Qk, cR, cP, cD, bT, cV, dJ, bX, bW, cS, cM, cK, dD, cN, dB, dC, dX, cZ, cC, bE, bQ, aT, aA, aK, dE, aJ, cF, dF, dA, bN, aH, bB, aY, cL, aD, aX, aM, aV, cU, aW, cJ, bS, aC, aE, aL, dP, aP, aN, bC, aR, cI, aF, bZ, bU, bL, bD, bA, cX, aI, bM, aS, aU, aQ, aG, dG, cO, bO, aO, cW, bV, bY, cG, bP, bR, bK, cH, bF, cB, aZ, bJ, bH, bG, cA, n1]
  refine jE ot6 rfl (by simp [one]) (by simp [gZ]) fun w7 o7 x7 s7 => ?_
  refine lC o7 (by simp [gO, gZ]) ?_
  simp only [gO, gZ, QB, QC, QN, QI, QP]
  rw [hRR]
  exact ⟨rfl, ((x12.mono fun _ _ h => h.elim).seq ((x3.mono fun _ _ h => .inr h).seq ((x4.seq x46).mono fun _ _ h => h.elim))).trans x7 fun y hy h => by omega⟩
 rw [if_neg h3]
 rw [if_neg h3] at hm
 unfold P5
 rw [ek]
 have es : bx l / 8 = Bp l := rfl
 rw [es]
 simp (disch := omega) only [dQ, fE, cQ, stepR_skip, eC, fB, eH, eT, eS, eM, fH, eP, dK, eN, eJ, eY, eE, eB, eK, eD, eI, eX, fC, eF, dR, eU, eZ, eA, gA, gB, gC, gG, gE, gF, gD, gH, gI, dH, Result.ok.injEq, Next.value.injEq, true_and, and_true, dZ, dY, fA, eL, eQ, fG, Qp, dS, dW, dV, dT, dN, dM, dO, dL, dI, cY, if_true, if_false, Qm, Qs, Qn, Qo, Qr, Qq, Ql, Qk, cR, cP, cD, bT, cV, dJ, bX, bW, cS, cM, cK, dD, cN, dB, dC, dX, cZ, cC, bE, bQ, aT, aA, aK, dE, aJ, cF, dF, dA, bN, aH, bB, aY, cL, aD, aX, aM, aV, cU, aW, cJ, bS, aC, aE, aL, dP, aP, aN, bC, aR, cI, aF, bZ, bU, bL, bD, bA, cX, aI, bM, aS, aU, aQ, aG, dG, cO, bO, aO, cW, bV, bY, cG, bP, bR, bK, cH, bF, cB, aZ, bJ, bH, bG, cA, n0]
 refine yL fun w5 o5 x5 s5 => ?_
 obtain ⟨px, hpx⟩ : ∃ p, p = w4.heap.size := ⟨_, rfl⟩
 rw [<- hpx] at o5 ⊢
 refine rJ o5 rfl (by simp [one]) (by simp) fun w6 o6 x6 s6 => ?_
 simp only [gO, QB, QC] at o6
 have x46 : fW w4 w6 kY := x5.new x6 (by omega)
 have c1 := o6.cell (off := 1)
 have c2 := o6.cell (off := 2)
 simp only [Qk, Ql] at c1 c2
 have og6 := og4.ext x46 (fun h => h)
 have ot6 := ot4.ext x46 (fun h => h)
 have z5 := o5.lt
 by_cases hb : min win 131072 < Bp l
 .rw [if_pos hb] at hm
  cases hm
  have d1 : decide (((Bp l : Nat) : Int) > ((min win 131072 : Nat) : Int)) = true := decide_eq_true (by omega)
  have d2 : decide (((min win 131072 : Nat) : Int) < ((Bp l : Nat) : Int)) = true := decide_eq_true (by omega)
  simp (disch := omega) only [dQ, fE, cQ, stepR_skip, eC, fB, eH, eT, eS, eM, fH, eP, dK, eN, eJ, eY, eE, eB, eK, eD, eI, eX, fC, eF, dR, eU, eZ, eA, gA, gB, gC, gG, gE, gF, gD, gH, gI, dH, Result.ok.injEq, Next.value.injEq, true_and, and_true, dZ, dY, fA, eL, eQ, fG, Qp, dS, dW, dV, dT, dN, dM, dO, dL, dI, cY, if_true, if_false, Qm, Qs, Qn, Qo, Qr, Qq, Ql, Qk, cR, cP, cD, bT, cV, dJ, bX, bW, cS, cM, cK, dD, cN, dB, dC, dX, cZ, cC, bE, bQ, aT, aA, aK, dE, aJ, cF, dF, dA, bN, aH, bB, aY, cL, aD, aX, aM, aV, cU, aW, cJ, bS, aC, aE, aL, dP, aP, aN, bC, aR, cI, aF, bZ, bU, bL, bD, bA, cX, aI, bM, aS, aU, aQ, aG, dG, cO, bO, aO, cW, bV, bY, cG, bP, bR, bK, cH, bF, cB, aZ, bJ, bH, bG, cA, n0, c1, c2, d1, d2]
  refine jE ot6 rfl (by simp [one]) (by simp [gZ]) fun w7 o7 x7 s7 => ?_
  refine lC o7 (by simp [gO, gZ]) ?_
  simp only [gO, gZ, QB, QC, QN, QI, QP]
  rw [hRR]
  exact ⟨rfl, ((x12.mono fun _ _ h => h.elim).seq ((x3.mono fun _ _ h => .inr h).seq ((x4.seq x46).mono fun _ _ h => h.elim))).trans x7 fun y hy h => by omega⟩
 rw [if_neg hb] at hm
 have d1 : decide (((Bp l : Nat) : Int) > ((min win 131072 : Nat) : Int)) = false := decide_eq_false (by omega)
 have d2 : decide (((min win 131072 : Nat) : Int) < ((Bp l : Nat) : Int)) = false := decide_eq_false (by omega)
 have hk2' : zN l ≠ 2 := by
  intro h
  rw [if_pos h] at hm
  cases hm
 rw [if_neg hk2'] at hm
 have hk01 : zN l = 0 ∨ zN l = 1 := by
  have : zN l < 4 := Nat.mod_lt _ (by omega)
  omega
 have x02 : fW w w2 kY := x12
 have x06 : fW w w6 (fun y => y = pr) := ((x02.mono fun _ _ h => h.elim).seq x3).seq ((x4.seq x46).mono fun _ _ h => h.elim)
 have ha' : sG w (fun b => A b /\ b ≠ p6 /\ b ≠ p9 /\ b ≠ px) 1 va all.length (all.map lN) := mH ha fun b hb h1 => by
  have := x1.size
  have := x2.size
  exact ⟨hb, by omega, by omega, by omega⟩
 have ha6 := ha'.ext x06 fun b hb e => (hA b hb.1).2 (e ▸ hpr)
 have hr6 := (hr1.ext x4 fun _ _ _ h => h).ext x46 fun _ _ _ h => h
 have o6' := (o3.ext x4 fun h => h).ext x46 fun h => h
 have e8 : (l.drop 3).headD 0 = (l.drop 3).headD 0 := rfl
 have hld : (l.drop 3).length = l.length - 3 := Qy
 have main : kE RR (.pointer (some ⟨p, 0, none⟩)) va (.int .u64 (win : Nat)) (.pointer (some ⟨p6, 0, none⟩)) (.pointer (some ⟨p9, 0, none⟩)) (.int .i64 (min win 131072 : Nat)) (.pointer (some ⟨px, 0, none⟩)) (.int .i64 (Fi l : Nat)) w6 := by
  have hz0 := o.lt
  refine LM (made := J1 l) (L := bx l % 2 == 1) (A := fun b => A b /\ b ≠ p6 /\ b ≠ p9 /\ b ≠ px) o6' k0 k2 k3 hvo og6 ot6 o6 hr6 ha6 ?_ ?_ (by omega) (by omega) q1 (by omega) (by omega) (by omega) hk01 (by omega) (by omega) (by omega) hall hmost rfl rfl ?_ ?_ ?_
  .intro b hb
   exact ⟨(hA b hb.1).1, (hA b hb.1).2, hb.2.1, hb.2.2.1, hb.2.2.2⟩
  .intro b hb
   exact ⟨hAn b (by omega), by omega, by omega, by omega⟩
  .intro h w' x
   rw [if_pos (by omega)] at hm
   cases hm
   rw [hRR]
   exact ⟨rfl, (x06.mono fun _ _ h => .inr h).trans x fun y hy h => by omega⟩
  .intro h h2 w' h5
   rw [if_neg (by omega), if_pos (by omega)] at hm
   cases hm
   rw [hRR]
   refine ⟨rfl, (x06.mono fun _ _ h => .inr h).trans h5 fun y hy h => ?_⟩
   rcases h with h | h | h
   .exact .inl h.1
   .exact .inr h
   .omega
  .intro h h2 w' va' h3 h4 h5
   rw [if_neg (by omega), if_neg (by omega)] at hm
   cases hm
   rw [hRR]
   rw [Ra] at h4
   refine ⟨va', rfl, mH h3 fun b hb _ => hb.1, h4, (x06.mono fun _ _ h => .inr h).trans h5 fun y hy h => ?_⟩
   rcases h with h | h | h
   .exact .inl h.1
   .exact .inr h
   .omega
 rcases hk01 with h | h
 .have e1 : Fi l = Bp l := by unfold Fi; rw [if_neg (by omega)]
  have e2 : (((zN l : Nat) : Int) == 1) = false := by rw [h] <;> rfl
  rw [e1] at main
  simp (disch := omega) only [dQ, fE, cQ, stepR_skip, eC, fB, eH, eT, eS, eM, fH, eP, dK, eN, eJ, eY, eE, eB, eK, eD, eI, eX, fC, eF, dR, eU, eZ, eA, gA, gB, gC, gG, gE, gF, gD, gH, gI, dH, Result.ok.injEq, Next.value.injEq, true_and, and_true, dZ, dY, fA, eL, eQ, fG, Qp, dS, dW, dV, dT, dN, dM, dO, dL, dI, cY, if_true, if_false, Qm, Qs, Qn, Qo, Qr, Qq, Ql, Qk, cR, cP, cD, bT, cV, dJ, bX, bW, cS, cM, cK, dD, cN, dB, dC, dX, cZ, cC, bE, bQ, aT, aA, aK, dE, aJ, cF, dF, dA, bN, aH, bB, aY, cL, aD, aX, aM, aV, cU, aW, cJ, bS, aC, aE, aL, dP, aP, aN, bC, aR, cI, aF, bZ, bU, bL, bD, bA, cX, aI, bM, aS, aU, aQ, aG, dG, cO, bO, aO, cW, bV, bY, cG, bP, bR, bK, cH, bF, cB, aZ, bJ, bH, bG, cA, n0, c1, c2, d1, d2, e2]
  exact main
 .have e1 : Fi l = 1 := by unfold Fi; rw [if_pos (by omega)]
  have e2 : (((zN l : Nat) : Int) == 1) = true := by rw [h] <;> rfl
  rw [e1] at main
  simp (disch := omega) only [dQ, fE, cQ, stepR_skip, eC, fB, eH, eT, eS, eM, fH, eP, dK, eN, eJ, eY, eE, eB, eK, eD, eI, eX, fC, eF, dR, eU, eZ, eA, gA, gB, gC, gG, gE, gF, gD, gH, gI, dH, Result.ok.injEq, Next.value.injEq, true_and, and_true, dZ, dY, fA, eL, eQ, fG, Qp, dS, dW, dV, dT, dN, dM, dO, dL, dI, cY, if_true, if_false, Qm, Qs, Qn, Qo, Qr, Qq, Ql, Qk, cR, cP, cD, bT, cV, dJ, bX, bW, cS, cM, cK, dD, cN, dB, dC, dX, cZ, cC, bE, bQ, aT, aA, aK, dE, aJ, cF, dF, dA, bN, aH, bB, aY, cL, aD, aX, aM, aV, cU, aW, cJ, bS, aC, aE, aL, dP, aP, aN, bC, aR, cI, aF, bZ, bU, bL, bD, bA, cX, aI, bM, aS, aU, aQ, aG, dG, cO, bO, aO, cW, bV, bY, cG, bP, bR, bK, cH, bF, cB, aZ, bJ, bH, bG, cA, n0, c1, c2, d1, d2, e2]
  exact main
end Go.Proofs.YthohephggmkeeaaDoor
namespace Go.Proofs.YthohephggmkeeaaDoor
open Go Go.En
set_option maxRecDepth 4000
def AI (x : Int) (k : Nat) : Int := Pg .u64 (IntKind.u64.wrap (x * 2 ^ k)) (x.fdiv (2 ^ (64 - k)))
def JY (v x : Int) : Int := IntKind.u64.wrap (AI (IntKind.u64.wrap (v + IntKind.u64.wrap (x * 14029467366897019727))) 31 * 11400714785074694791)
theorem PH : ∀ k : Fin 64, vM .u64 (k.val : Int) 63 = (k.val : Int) := by decide
theorem Oy : ∀ k : Fin 64, IntKind.u64.wrap (64 - (k.val : Int)) = 64 - (k.val : Int) := by decide
theorem EZ (x : Int) (k : Nat) (hk : k < 64) (w : RM) :
 fK pg hY #[.int .u64 x, .int .i64 (k : Int)] w (fun v w' => v = .int .u64 (AI x k) /\ w' = w) := by
 refine xG ?_
 have h1 := PH ⟨k, hk⟩
 have h2 := Oy ⟨k, hk⟩
 simp only at h1 h2
 have e1 : min k IntKind.u64.bits = k := by simp only [IntKind.bits]; omega
 have e2 : min (64 - (k : Int)).toNat IntKind.u64.bits = 64 - k := by simp only [IntKind.bits]; omega
 simp (disch := omega) only [sT, mA, dQ, fE, cQ, stepR_skip, eC, fB, eH, eT, eS, eM, fH, eP, dK, eN, eJ, eY, eE, eB, eK, eD, eI, eX, fC, eF, dR, eU, eZ, eA, gA, gB, gC, gG, gE, gF, gD, gH, gI, dH, Result.ok.injEq, Next.value.injEq, true_and, and_true, dZ, dY, fA, eL, eQ, fG, Qp, dS, dW, dV, dT, dN, dM, dO, dL, dI, cY, if_true, if_false, Qm, Qs, Qn, Qo, Qr, Qq, Ql, Qk, cR, cP, cD, bT, cV, dJ, bX, bW, cS, cM, cK, dD, cN, dB, dC, dX, cZ, cC, bE, bQ, aT, aA, aK, dE, aJ, cF, dF, dA, bN, aH, bB, aY, cL, aD, aX, aM, aV, cU, aW, cJ, bS, aC, aE, aL, dP, aP, aN, bC, aR, cI, aF, bZ, bU, bL, bD, bA, cX, aI, bM, aS, aU, aQ, aG, dG, cO, bO, aO, cW, bV, bY, cG, bP, bR, bK, cH, bF, cB, aZ, bJ, bH, bG, cA, h1, h2, e1, e2, AI]
theorem vI (x : Int) (k : Nat) (hk : k < 64) (w : RM) :
 fK pg jR #[.int .u64 x, .int .u64 (k : Int)] w (fun v w' => v = .int .u64 (AI x k) /\ w' = w) := by
 refine G5 ?_
 have h2 := Oy ⟨k, hk⟩
 simp only at h2
 have e1 : min k IntKind.u64.bits = k := by simp only [IntKind.bits]; omega
 have e2 : min (64 - (k : Int)).toNat IntKind.u64.bits = 64 - k := by simp only [IntKind.bits]; omega
 simp (disch := omega) only [HG, Af, dQ, fE, cQ, stepR_skip, eC, fB, eH, eT, eS, eM, fH, eP, dK, eN, eJ, eY, eE, eB, eK, eD, eI, eX, fC, eF, dR, eU, eZ, eA, gA, gB, gC, gG, gE, gF, gD, gH, gI, dH, Result.ok.injEq, Next.value.injEq, true_and, and_true, dZ, dY, fA, eL, eQ, fG, Qp, dS, dW, dV, dT, dN, dM, dO, dL, dI, cY, if_true, if_false, Qm, Qs, Qn, Qo, Qr, Qq, Ql, Qk, cR, cP, cD, bT, cV, dJ, bX, bW, cS, cM, cK, dD, cN, dB, dC, dX, cZ, cC, bE, bQ, aT, aA, aK, dE, aJ, cF, dF, dA, bN, aH, bB, aY, cL, aD, aX, aM, aV, cU, aW, cJ, bS, aC, aE, aL, dP, aP, aN, bC, aR, cI, aF, bZ, bU, bL, bD, bA, cX, aI, bM, aS, aU, aQ, aG, dG, cO, bO, aO, cW, bV, bY, cG, bP, bR, bK, cH, bF, cB, aZ, bJ, bH, bG, cA, h2, e1, e2, AI]
theorem F5 (v x : Int) (w : RM) :
 fK pg sI #[.int .u64 v, .int .u64 x] w (fun r w' => r = .int .u64 (JY v x) /\ w' = w) := by
 refine Hw ?_
 simp (disch := omega) only [IJ, B1, dQ, fE, cQ, stepR_skip, eC, fB, eH, eT, eS, eM, fH, eP, dK, eN, eJ, eY, eE, eB, eK, eD, eI, eX, fC, eF, dR, eU, eZ, eA, gA, gB, gC, gG, gE, gF, gD, gH, gI, dH, Result.ok.injEq, Next.value.injEq, true_and, and_true, dZ, dY, fA, eL, eQ, fG, Qp, dS, dW, dV, dT, dN, dM, dO, dL, dI, cY, if_true, if_false, Qm, Qs, Qn, Qo, Qr, Qq, Ql, Qk, cR, cP, cD, bT, cV, dJ, bX, bW, cS, cM, cK, dD, cN, dB, dC, dX, cZ, cC, bE, bQ, aT, aA, aK, dE, aJ, cF, dF, dA, bN, aH, bB, aY, cL, aD, aX, aM, aV, cU, aW, cJ, bS, aC, aE, aL, dP, aP, aN, bC, aR, cI, aF, bZ, bU, bL, bD, bA, cX, aI, bM, aS, aU, aQ, aG, dG, cO, bO, aO, cW, bV, bY, cG, bP, bR, bK, cH, bF, cB, aZ, bJ, bH, bG, cA]
 refine (EZ _ 31 (by omega) w).mono ?_
 rintro r w' ⟨rfl, rfl⟩
 simp (disch := omega) only [dQ, fE, cQ, stepR_skip, eC, fB, eH, eT, eS, eM, fH, eP, dK, eN, eJ, eY, eE, eB, eK, eD, eI, eX, fC, eF, dR, eU, eZ, eA, gA, gB, gC, gG, gE, gF, gD, gH, gI, dH, Result.ok.injEq, Next.value.injEq, true_and, and_true, dZ, dY, fA, eL, eQ, fG, Qp, dS, dW, dV, dT, dN, dM, dO, dL, dI, cY, if_true, if_false, Qm, Qs, Qn, Qo, Qr, Qq, Ql, Qk, cR, cP, cD, bT, cV, dJ, bX, bW, cS, cM, cK, dD, cN, dB, dC, dX, cZ, cC, bE, bQ, aT, aA, aK, dE, aJ, cF, dF, dA, bN, aH, bB, aY, cL, aD, aX, aM, aV, cU, aW, cJ, bS, aC, aE, aL, dP, aP, aN, bC, aR, cI, aF, bZ, bU, bL, bD, bA, cX, aI, bM, aS, aU, aQ, aG, dG, cO, bO, aO, cW, bV, bY, cG, bP, bR, bK, cH, bF, cB, aZ, bJ, bH, bG, cA, JY]
theorem Ei (v x : Int) (w : RM) :
 fK pg nZ #[.int .u64 v, .int .u64 x] w (fun r w' => r = .int .u64 (JY v x) /\ w' = w) := by
 refine FI ?_
 simp (disch := omega) only [Gq, yW, dQ, fE, cQ, stepR_skip, eC, fB, eH, eT, eS, eM, fH, eP, dK, eN, eJ, eY, eE, eB, eK, eD, eI, eX, fC, eF, dR, eU, eZ, eA, gA, gB, gC, gG, gE, gF, gD, gH, gI, dH, Result.ok.injEq, Next.value.injEq, true_and, and_true, dZ, dY, fA, eL, eQ, fG, Qp, dS, dW, dV, dT, dN, dM, dO, dL, dI, cY, if_true, if_false, Qm, Qs, Qn, Qo, Qr, Qq, Ql, Qk, cR, cP, cD, bT, cV, dJ, bX, bW, cS, cM, cK, dD, cN, dB, dC, dX, cZ, cC, bE, bQ, aT, aA, aK, dE, aJ, cF, dF, dA, bN, aH, bB, aY, cL, aD, aX, aM, aV, cU, aW, cJ, bS, aC, aE, aL, dP, aP, aN, bC, aR, cI, aF, bZ, bU, bL, bD, bA, cX, aI, bM, aS, aU, aQ, aG, dG, cO, bO, aO, cW, bV, bY, cG, bP, bR, bK, cH, bF, cB, aZ, bJ, bH, bG, cA]
 refine (vI _ 31 (by omega) w).mono ?_
 rintro r w' ⟨rfl, rfl⟩
 simp (disch := omega) only [dQ, fE, cQ, stepR_skip, eC, fB, eH, eT, eS, eM, fH, eP, dK, eN, eJ, eY, eE, eB, eK, eD, eI, eX, fC, eF, dR, eU, eZ, eA, gA, gB, gC, gG, gE, gF, gD, gH, gI, dH, Result.ok.injEq, Next.value.injEq, true_and, and_true, dZ, dY, fA, eL, eQ, fG, Qp, dS, dW, dV, dT, dN, dM, dO, dL, dI, cY, if_true, if_false, Qm, Qs, Qn, Qo, Qr, Qq, Ql, Qk, cR, cP, cD, bT, cV, dJ, bX, bW, cS, cM, cK, dD, cN, dB, dC, dX, cZ, cC, bE, bQ, aT, aA, aK, dE, aJ, cF, dF, dA, bN, aH, bB, aY, cL, aD, aX, aM, aV, cU, aW, cJ, bS, aC, aE, aL, dP, aP, aN, bC, aR, cI, aF, bZ, bU, bL, bD, bA, cX, aI, bM, aS, aU, aQ, aG, dG, cO, bO, aO, cW, bV, bY, cG, bP, bR, bK, cH, bF, cB, aZ, bJ, bH, bG, cA, JY]
def pF : List UInt8 -> Int
 | [] => 0
 | c :: l => (c.toNat : Int) + 256 * pF l
theorem BM : ∀ l, 0 <= pF l
 | [] => by simp [pF]
 | c :: l => by have := BM l; simp only [pF]; omega
theorem H7 (l : List UInt8) (c : UInt8) : pF (l ++ [c]) = pF l + (c.toNat : Int) * 256 ^ l.length := by
 induction l with
 | nil => simp [pF]
 | cons a l ih => simp only [Q9, pF, ih, QK, Int.pow_succ, Int.mul_add]; rw [Int.mul_comm (256 : Int) (_ * _), Int.mul_assoc]; omega
theorem Hu : ∀ l : List UInt8, pF l < 256 ^ l.length
 | [] => by simp [pF]
 | c :: l => by
   have := Hu l
   have hc : c.toNat < 256 := c.toNat_lt
   simp only [pF, QK, Int.pow_succ]; omega
theorem Ce {α : Type} {l : List α} {k : Nat} (h : k < l.length) : l.take (k + 1) = l.take k ++ [l[k]] := by
 rw [List.take_succ_eq_append_getElem h]
theorem Mx {x : Int} {c k : Nat} (hk : k < 8) (hx0 : 0 <= x) (hx : x < 256 ^ k) (hc : c < 256) :
 Pg .u64 x (IntKind.u64.wrap ((c : Int) * 2 ^ (8 * k))) = x + (c : Int) * 256 ^ k := by
 obtain ⟨m, rfl⟩ := Int.eq_ofNat_of_zero_le hx0
 have e256 : (256 : Nat) ^ k = 2 ^ (8 * k) := by rw [show (256 : Nat) = 2 ^ 8 from rfl, <- Nat.pow_mul]
 have hm : m < 2 ^ (8 * k) := by rw [<- e256]; exact_mod_cast hx
 have hle : c * 2 ^ (8 * k) + 2 ^ (8 * k) <= 2 ^ 64 := by
  have h1 : (c + 1) * 2 ^ (8 * k) <= 256 * 2 ^ (8 * k) := RK _ (by omega)
  have h2 : (256 : Nat) * 2 ^ (8 * k) = 2 ^ (8 * k + 8) := by rw [Nat.pow_add, RC]
  have h3 : (2 : Nat) ^ (8 * k + 8) <= 2 ^ 64 := Re (by omega) (by omega)
  rw [Q6] at h1; omega
 have hpos : 0 < 2 ^ (8 * k) := Nat.pow_pos (by omega)
 have w : IntKind.u64.wrap ((c : Int) * 2 ^ (8 * k)) = ((c * 2 ^ (8 * k) : Nat) : Int) := by
  have : ((c : Int) * 2 ^ (8 * k)) = ((c * 2 ^ (8 * k) : Nat) : Int) := by push_cast; rfl
  rw [this]; exact dY (by omega) (by omega)
 rw [w]
 have b1 : (BitVec.ofInt 64 (m : Int) ||| BitVec.ofInt 64 ((c * 2 ^ (8 * k) : Nat) : Int)).toNat = m + c * 2 ^ (8 * k) := by
  rw [BitVec.toNat_or]
  simp only [BitVec.toNat_ofInt]
  have e1 : (((m : Int) % ((2 ^ 64 : Nat) : Int)).toNat) = m := by omega
  have e2 : ((((c * 2 ^ (8 * k) : Nat) : Int) % ((2 ^ 64 : Nat) : Int)).toNat) = c * 2 ^ (8 * k) := by omega
  rw [e1, e2, Nat.or_comm, RC c, <- Nat.two_pow_add_eq_or_of_lt hm]
  omega
 show IntKind.u64.wrap ((BitVec.ofInt 64 (m : Int) ||| BitVec.ofInt 64 ((c * 2 ^ (8 * k) : Nat) : Int)).toNat : Int) = _
 rw [b1]
 have : ((m + c * 2 ^ (8 * k) : Nat) : Int) = (m : Int) + (c : Int) * 256 ^ k := by
  rw [<- e256]; push_cast; rfl
 rw [<- this]
 exact dY (by omega) (by omega)
theorem DW (v : RN) (l : List UInt8) (w : RM) (h : Bs w v l) (hl : l.length <= 8) :
 fK pg qD #[v] w (fun r w' => r = .int .u64 (pF l) /\ w' = w) := by
 obtain ⟨a, n, c, rfl, hn, hc, hcell⟩ := h
 rw [Qw] at hn
 subst hn
 refine G1 ?_
 simp (disch := omega) only [Hv, uS, AM, Ah, An, AL, Ak, Ad, Ag, dQ, fE, cQ, stepR_skip, eC, fB, eH, eT, eS, eM, fH, eP, dK, eN, eJ, eY, eE, eB, eK, eD, eI, eX, fC, eF, dR, eU, eZ, eA, gA, gB, gC, gG, gE, gF, gD, gH, gI, dH, Result.ok.injEq, Next.value.injEq, true_and, and_true, dZ, dY, fA, eL, eQ, fG, Qp, dS, dW, dV, dT, dN, dM, dO, dL, dI, cY, if_true, if_false, Qm, Qs, Qn, Qo, Qr, Qq, Ql, Qk, cR, cP, cD, bT, cV, dJ, bX, bW, cS, cM, cK, dD, cN, dB, dC, dX, cZ, cC, bE, bQ, aT, aA, aK, dE, aJ, cF, dF, dA, bN, aH, bB, aY, cL, aD, aX, aM, aV, cU, aW, cJ, bS, aC, aE, aL, dP, aP, aN, bC, aR, cI, aF, bZ, bU, bL, bD, bA, cX, aI, bM, aS, aU, aQ, aG, dG, cO, bO, aO, cW, bV, bY, cG, bP, bR, bK, cH, bF, cB, aZ, bJ, bH, bG, cA]
 refine iO.rule (fun n t w' => ∃ k : Nat, n = l.length - k /\ k <= l.length /\ t = (.int .u64 (pF (l.take k)), .int .i64 (k : Int)) /\ w' = w) l.length ⟨0, rfl, Nat.zero_le _, rfl, rfl⟩ ?_
 rintro n t w' ⟨k, rfl, hk, rfl, rfl⟩
 by_cases hlt : k < l.length
 .obtain ⟨b, off, rfl, hcell'⟩ := hcell (by omega)
  have hcl := hcell' k hlt
  rw [Rg, Qv hlt, QR] at hcl
  have hb : (l[k].toNat) < 256 := l[k].toNat_lt
  have hd : decide ((k : Int) < (l.length : Int)) = true := by simpa using hlt
  have e1 : min (8 * (k : Int)).toNat IntKind.u64.bits = 8 * k := by simp only [IntKind.bits]; omega
  simp (disch := omega) only [rC, dQ, fE, cQ, stepR_skip, eC, fB, eH, eT, eS, eM, fH, eP, dK, eN, eJ, eY, eE, eB, eK, eD, eI, eX, fC, eF, dR, eU, eZ, eA, gA, gB, gC, gG, gE, gF, gD, gH, gI, dH, Result.ok.injEq, Next.value.injEq, true_and, and_true, dZ, dY, fA, eL, eQ, fG, Qp, dS, dW, dV, dT, dN, dM, dO, dL, dI, cY, if_true, if_false, Qm, Qs, Qn, Qo, Qr, Qq, Ql, Qk, cR, cP, cD, bT, cV, dJ, bX, bW, cS, cM, cK, dD, cN, dB, dC, dX, cZ, cC, bE, bQ, aT, aA, aK, dE, aJ, cF, dF, dA, bN, aH, bB, aY, cL, aD, aX, aM, aV, cU, aW, cJ, bS, aC, aE, aL, dP, aP, aN, bC, aR, cI, aF, bZ, bU, bL, bD, bA, cX, aI, bM, aS, aU, aQ, aG, dG, cO, bO, aO, cW, bV, bY, cG, bP, bR, bK, cH, bF, cB, aZ, bJ, bH, bG, cA, hd, dI, hcl, lN, e1]
  have hlen : (l.take k).length = k := by simp; omega
  have hx := Hu (l.take k)
  rw [hlen] at hx
  refine ⟨l.length - (k + 1), by omega, k + 1, rfl, by omega, ?_⟩
  rw [Mx (by omega) (BM _) hx hb, Ce hlt, H7, hlen]
  rfl
 .have hd : decide ((k : Int) < (l.length : Int)) = false := by simpa using hlt
  simp (disch := omega) only [rC, dQ, fE, cQ, stepR_skip, eC, fB, eH, eT, eS, eM, fH, eP, dK, eN, eJ, eY, eE, eB, eK, eD, eI, eX, fC, eF, dR, eU, eZ, eA, gA, gB, gC, gG, gE, gF, gD, gH, gI, dH, Result.ok.injEq, Next.value.injEq, true_and, and_true, dZ, dY, fA, eL, eQ, fG, Qp, dS, dW, dV, dT, dN, dM, dO, dL, dI, cY, if_true, if_false, Qm, Qs, Qn, Qo, Qr, Qq, Ql, Qk, cR, cP, cD, bT, cV, dJ, bX, bW, cS, cM, cK, dD, cN, dB, dC, dX, cZ, cC, bE, bQ, aT, aA, aK, dE, aJ, cF, dF, dA, bN, aH, bB, aY, cL, aD, aX, aM, aV, cU, aW, cJ, bS, aC, aE, aL, dP, aP, aN, bC, aR, cI, aF, bZ, bU, bL, bD, bA, cX, aI, bM, aS, aU, aQ, aG, dG, cO, bO, aO, cW, bV, bY, cG, bP, bR, bK, cH, bF, cB, aZ, bJ, bH, bG, cA, hd, cY]
  rw [QL (by omega)]
theorem MH (s : ByteArray) (n : Nat) (hn : n <= s.size) (w : RM) :
 fK pg xL #[.agg #[.string s, .int .i64 0], .int .i64 (n : Int)] w
  (fun v w' => v = .tuple #[.agg #[.string (s.extract n s.size), .int .i64 0], .string (s.extract 0 n)] /\ fW w w' kY) := by
 refine G2 ?_
 simp (disch := omega) only [HK, AR, dQ, fE, cQ, stepR_skip, eC, fB, eH, eT, eS, eM, fH, eP, dK, eN, eJ, eY, eE, eB, eK, eD, eI, eX, fC, eF, dR, eU, eZ, eA, gA, gB, gC, gG, gE, gF, gD, gH, gI, dH, Result.ok.injEq, Next.value.injEq, true_and, and_true, dZ, dY, fA, eL, eQ, fG, Qp, dS, dW, dV, dT, dN, dM, dO, dL, dI, cY, if_true, if_false, Qm, Qs, Qn, Qo, Qr, Qq, Ql, Qk, cR, cP, cD, bT, cV, dJ, bX, bW, cS, cM, cK, dD, cN, dB, dC, dX, cZ, cC, bE, bQ, aT, aA, aK, dE, aJ, cF, dF, dA, bN, aH, bB, aY, cL, aD, aX, aM, aV, cU, aW, cJ, bS, aC, aE, aL, dP, aP, aN, bC, aR, cI, aF, bZ, bU, bL, bD, bA, cX, aI, bM, aS, aU, aQ, aG, dG, cO, bO, aO, cW, bV, bY, cG, bP, bR, bK, cH, bF, cB, aZ, bJ, bH, bG, cA]
 refine Dp fun w1 o1 x1 s1 => ?_
 refine pL fun w2 o2 x2 s2 => ?_
 have o1 := o1.ext x2 (fun h => h)
 have d1 : ((0 : Int) != 0) = false := rfl
 have d2 : decide ((n : Int) < 0) = false := by simp
 have d3 : decide ((s.size : Int) < (n : Int)) = false := by simp; omega
 simp (disch := omega) only [dQ, fE, cQ, stepR_skip, eC, fB, eH, eT, eS, eM, fH, eP, dK, eN, eJ, eY, eE, eB, eK, eD, eI, eX, fC, eF, dR, eU, eZ, eA, gA, gB, gC, gG, gE, gF, gD, gH, gI, dH, Result.ok.injEq, Next.value.injEq, true_and, and_true, dZ, dY, fA, eL, eQ, fG, Qp, dS, dW, dV, dT, dN, dM, dO, dL, dI, cY, if_true, if_false, Qm, Qs, Qn, Qo, Qr, Qq, Ql, Qk, cR, cP, cD, bT, cV, dJ, bX, bW, cS, cM, cK, dD, cN, dB, dC, dX, cZ, cC, bE, bQ, aT, aA, aK, dE, aJ, cF, dF, dA, bN, aH, bB, aY, cL, aD, aX, aM, aV, cU, aW, cJ, bS, aC, aE, aL, dP, aP, aN, bC, aR, cI, aF, bZ, bU, bL, bD, bA, cX, aI, bM, aS, aU, aQ, aG, dG, cO, bO, aO, cW, bV, bY, cG, bP, bR, bK, cH, bF, cB, aZ, bJ, bH, bG, cA, o1.cell, Value.cells, d1, d2, d3]
 refine LH o1 rfl (by simp [Value.cells]) fun w3 o1 x3 s3 => ?_
 have o2 := o2.ext x3 (by simp [s1])
 simp (disch := omega) only [dQ, fE, cQ, stepR_skip, eC, fB, eH, eT, eS, eM, fH, eP, dK, eN, eJ, eY, eE, eB, eK, eD, eI, eX, fC, eF, dR, eU, eZ, eA, gA, gB, gC, gG, gE, gF, gD, gH, gI, dH, Result.ok.injEq, Next.value.injEq, true_and, and_true, dZ, dY, fA, eL, eQ, fG, Qp, dS, dW, dV, dT, dN, dM, dO, dL, dI, cY, if_true, if_false, Qm, Qs, Qn, Qo, Qr, Qq, Ql, Qk, cR, cP, cD, bT, cV, dJ, bX, bW, cS, cM, cK, dD, cN, dB, dC, dX, cZ, cC, bE, bQ, aT, aA, aK, dE, aJ, cF, dF, dA, bN, aH, bB, aY, cL, aD, aX, aM, aV, cU, aW, cJ, bS, aC, aE, aL, dP, aP, aN, bC, aR, cI, aF, bZ, bU, bL, bD, bA, cX, aI, bM, aS, aU, aQ, aG, dG, cO, bO, aO, cW, bV, bY, cG, bP, bR, bK, cH, bF, cB, aZ, bJ, bH, bG, cA, oP o1 (off := 0) (by simp [Value.cells])]
 refine lU o2 rfl (by simp [one, Value.cells]) (by decide) fun w4 o2 x4 s4 => ?_
 refine tU o2 (by simp [gO, Value.cells]) ⟨rfl, ?_⟩
 exact ((x1.seq x2).new x3 (by omega)).new x4 (by omega)
theorem MF (l : List UInt8) (k : Nat) (hk : k < 8) (hl : k < l.length) :
 IntKind.u64.wrap (pF (l.take k) + IntKind.u64.wrap ((l[k].toNat : Int) * IntKind.u64.wrap (256 ^ k))) = pF (l.take (k + 1)) /\ IntKind.u64.wrap (IntKind.u64.wrap (256 ^ k) * 256) = IntKind.u64.wrap (256 ^ (k + 1)) := by
 have hlen : (l.take k).length = k := by simp; omega
 have h0 := BM (l.take k)
 have h1 := Hu (l.take k)
 rw [hlen] at h1
 have hc : l[k].toNat < 256 := Ru _
 have hp : ∀ k : Fin 8, (0 : Int) < 256 ^ k.val /\ (256 : Int) ^ k.val * 256 <= 18446744073709551616 := by decide
 obtain ⟨p0, p1⟩ := hp ⟨k, hk⟩
 simp only at p0 p1
 have e : IntKind.u64.wrap (256 ^ k) = 256 ^ k := dY (by omega) (by omega)
 rw [Ce hl, H7, hlen, e]
 have m0 : 0 <= (l[k].toNat : Int) * 256 ^ k := Int.mul_nonneg (by omega) (by omega)
 have m1 : ((l[k].toNat : Int) + 1) * 256 ^ k <= 256 * 256 ^ k := Int.mul_le_mul_of_nonneg_right (by omega) (by omega)
 rw [Int.add_mul, Int.one_mul, Int.mul_comm 256] at m1
 refine ⟨?_, by rw [Int.pow_succ]⟩
 have e2 : IntKind.u64.wrap ((l[k].toNat : Int) * 256 ^ k) = (l[k].toNat : Int) * 256 ^ k := dY m0 (by omega)
 rw [e2]
 exact dY (by omega) (by omega)
theorem Nj (s : ByteArray) (n : Nat) (h1 : 1 <= n) (h8 : n <= 8) (hn : n <= s.size) (w : RM) :
 fK pg tM #[.agg #[.string s, .int .i64 0], .int .i64 (n : Int)] w
  (fun v w' => v = .tuple #[.agg #[.string (s.extract n s.size), .int .i64 0], .int .u64 (pF ((Gm s).take n))] /\ fW w w' kY) := by
 refine Fj ?_
 simp (disch := omega) only [ER, rM, wJ, wD, wO, vQ, vT, wB, wF, uA, uF, dQ, fE, cQ, stepR_skip, eC, fB, eH, eT, eS, eM, fH, eP, dK, eN, eJ, eY, eE, eB, eK, eD, eI, eX, fC, eF, dR, eU, eZ, eA, gA, gB, gC, gG, gE, gF, gD, gH, gI, dH, Result.ok.injEq, Next.value.injEq, true_and, and_true, dZ, dY, fA, eL, eQ, fG, Qp, dS, dW, dV, dT, dN, dM, dO, dL, dI, cY, if_true, if_false, Qm, Qs, Qn, Qo, Qr, Qq, Ql, Qk, cR, cP, cD, bT, cV, dJ, bX, bW, cS, cM, cK, dD, cN, dB, dC, dX, cZ, cC, bE, bQ, aT, aA, aK, dE, aJ, cF, dF, dA, bN, aH, bB, aY, cL, aD, aX, aM, aV, cU, aW, cJ, bS, aC, aE, aL, dP, aP, aN, bC, aR, cI, aF, bZ, bU, bL, bD, bA, cX, aI, bM, aS, aU, aQ, aG, dG, cO, bO, aO, cW, bV, bY, cG, bP, bR, bK, cH, bF, cB, aZ, bJ, bH, bG, cA]
 refine Dp fun w1 o1 x1 s1 => ?_
 refine pL fun w2 o2 x2 s2 => ?_
 have o1 := o1.ext x2 (fun h => h)
 have d1 : ((0 : Int) == 0) = true := rfl
 have d2 : decide ((n : Int) < 1) = false := by simp; omega
 have d3 : decide ((8 : Int) < (n : Int)) = false := by simp; omega
 simp (disch := omega) only [dQ, fE, cQ, stepR_skip, eC, fB, eH, eT, eS, eM, fH, eP, dK, eN, eJ, eY, eE, eB, eK, eD, eI, eX, fC, eF, dR, eU, eZ, eA, gA, gB, gC, gG, gE, gF, gD, gH, gI, dH, Result.ok.injEq, Next.value.injEq, true_and, and_true, dZ, dY, fA, eL, eQ, fG, Qp, dS, dW, dV, dT, dN, dM, dO, dL, dI, cY, if_true, if_false, Qm, Qs, Qn, Qo, Qr, Qq, Ql, Qk, cR, cP, cD, bT, cV, dJ, bX, bW, cS, cM, cK, dD, cN, dB, dC, dX, cZ, cC, bE, bQ, aT, aA, aK, dE, aJ, cF, dF, dA, bN, aH, bB, aY, cL, aD, aX, aM, aV, cU, aW, cJ, bS, aC, aE, aL, dP, aP, aN, bC, aR, cI, aF, bZ, bU, bL, bD, bA, cX, aI, bM, aS, aU, aQ, aG, dG, cO, bO, aO, cW, bV, bY, cG, bP, bR, bK, cH, bF, cB, aZ, bJ, bH, bG, cA, o1.cell, Value.cells, d1, d2, d3]
 have e1 : pg = pg := rfl
 simp (disch := omega) only [oP o1 (off := 0) (by simp [Value.cells]), cQ]
 refine (MH s n hn w2).mono ?_
 rintro v w3 ⟨rfl, x3⟩
 have o1 := o1.ext x3 (fun h => h)
 have o2 := o2.ext x3 (fun h => h)
 have z3 := x3.size
 simp (disch := omega) only [dQ, fE, cQ, stepR_skip, eC, fB, eH, eT, eS, eM, fH, eP, dK, eN, eJ, eY, eE, eB, eK, eD, eI, eX, fC, eF, dR, eU, eZ, eA, gA, gB, gC, gG, gE, gF, gD, gH, gI, dH, Result.ok.injEq, Next.value.injEq, true_and, and_true, dZ, dY, fA, eL, eQ, fG, Qp, dS, dW, dV, dT, dN, dM, dO, dL, dI, cY, if_true, if_false, Qm, Qs, Qn, Qo, Qr, Qq, Ql, Qk, cR, cP, cD, bT, cV, dJ, bX, bW, cS, cM, cK, dD, cN, dB, dC, dX, cZ, cC, bE, bQ, aT, aA, aK, dE, aJ, cF, dF, dA, bN, aH, bB, aY, cL, aD, aX, aM, aV, cU, aW, cJ, bS, aC, aE, aL, dP, aP, aN, bC, aR, cI, aF, bZ, bU, bL, bD, bA, cX, aI, bM, aS, aU, aQ, aG, dG, cO, bO, aO, cW, bV, bY, cG, bP, bR, bK, cH, bF, cB, aZ, bJ, bH, bG, cA]
 refine lU o1 rfl (by simp [one, Value.cells]) (by simp [Value.cells]) fun w4 o1 x4 s4 => ?_
 have o2 := o2.ext x4 (by omega)
 have x := ((x1.seq x2).seq x3).new x4 (by omega)
 have hsz : (s.extract 0 n).size = n := by rw [DT _ _ _ hn, Nat.sub_zero]
 obtain ⟨l, hl0⟩ : ∃ l, l = (Gm s).take n := ⟨_, rfl⟩
 have hl : l.length = n := by rw [hl0, Qz, qA]; omega
 have hp : Gm (s.extract 0 n) = l := by rw [De, QN, Nat.sub_zero, hl0]
 have hget : ∀ k (h : k < (s.extract 0 n).size) (h1 : k < l.length), (s.extract 0 n)[k]'h = l[k]'h1 := fun k h h' => by
  rw [Lp]; simp only [hp]
 rw [<- hl0]
 clear hl0
 generalize s.extract 0 n = sx at hsz hp hget ⊢
 refine iO.rule (fun m t w' => ∃ k : Nat, m = n - k /\ k <= n /\ t = (.int .u64 (pF (l.take k)), .int .u64 (IntKind.u64.wrap (256 ^ k)), .int .i64 (k : Int)) /\ w' = w4) n ⟨0, rfl, Nat.zero_le _, rfl, rfl⟩ ?_
 rintro m t w' ⟨k, rfl, hk, rfl, rfl⟩
 by_cases hlt : k < n
 .have hd : decide ((k : Int) < (sx.size : Int)) = true := by rw [hsz]; simpa using hlt
  have hk' : k < sx.size := by omega
  have hb : (l[k]'(by omega)).toNat < 256 := Ru _
  simp (disch := omega) only [nW, dQ, fE, cQ, stepR_skip, eC, fB, eH, eT, eS, eM, fH, eP, dK, eN, eJ, eY, eE, eB, eK, eD, eI, eX, fC, eF, dR, eU, eZ, eA, gA, gB, gC, gG, gE, gF, gD, gH, gI, dH, Result.ok.injEq, Next.value.injEq, true_and, and_true, dZ, dY, fA, eL, eQ, fG, Qp, dS, dW, dV, dT, dN, dM, dO, dL, dI, cY, if_true, if_false, Qm, Qs, Qn, Qo, Qr, Qq, Ql, Qk, cR, cP, cD, bT, cV, dJ, bX, bW, cS, cM, cK, dD, cN, dB, dC, dX, cZ, cC, bE, bQ, aT, aA, aK, dE, aJ, cF, dF, dA, bN, aH, bB, aY, cL, aD, aX, aM, aV, cU, aW, cJ, bS, aC, aE, aL, dP, aP, aN, bC, aR, cI, aF, bZ, bU, bL, bD, bA, cX, aI, bM, aS, aU, aQ, aG, dG, cO, bO, aO, cW, bV, bY, cG, bP, bR, bK, cH, bF, cB, aZ, bJ, bH, bG, cA, hd, hget k hk' (by omega)]
  refine ⟨n - (k + 1), by omega, k + 1, rfl, by omega, ?_⟩
  obtain ⟨e1, e2⟩ := MF l k (by omega) (by omega)
  rw [e1, e2] <;> rfl
 .have hd : decide ((k : Int) < (sx.size : Int)) = false := by rw [hsz]; simpa using hlt
  simp (disch := omega) only [nW, dQ, fE, cQ, stepR_skip, eC, fB, eH, eT, eS, eM, fH, eP, dK, eN, eJ, eY, eE, eB, eK, eD, eI, eX, fC, eF, dR, eU, eZ, eA, gA, gB, gC, gG, gE, gF, gD, gH, gI, dH, Result.ok.injEq, Next.value.injEq, true_and, and_true, dZ, dY, fA, eL, eQ, fG, Qp, dS, dW, dV, dT, dN, dM, dO, dL, dI, cY, if_true, if_false, Qm, Qs, Qn, Qo, Qr, Qq, Ql, Qk, cR, cP, cD, bT, cV, dJ, bX, bW, cS, cM, cK, dD, cN, dB, dC, dX, cZ, cC, bE, bQ, aT, aA, aK, dE, aJ, cF, dF, dA, bN, aH, bB, aY, cL, aD, aX, aM, aV, cU, aW, cJ, bS, aC, aE, aL, dP, aP, aN, bC, aR, cI, aF, bZ, bU, bL, bD, bA, cX, aI, bM, aS, aU, aQ, aG, dG, cO, bO, aO, cW, bV, bY, cG, bP, bR, bK, cH, bF, cB, aZ, bJ, bH, bG, cA, hd, oP o1 (off := 0) (by simp [Value.cells, gO])]
  refine lU o2 rfl (by simp [one, Value.cells, gO]) (by decide) fun w5 o2 x5 s5 => ?_
  refine tU o2 (by simp [gO, Value.cells]) ⟨?_, x.new x5 (by omega)⟩
  have e : l.take k = l := QL (by omega)
  rw [e]
  rfl
theorem KL (s : ByteArray) (i n : Nat) (h1 : 1 <= n) (h8 : n <= 8) (hn : i + n <= s.size) (w : RM) :
 fK pg uD #[.string s, .int .i64 (i : Int), .int .i64 (n : Int)] w (fun v w' => v = .int .u64 (pF (((Gm s).drop i).take n)) /\ fW w w' kY) := by
 refine Il ?_
 simp (disch := omega) only [Jm, CQ, dQ, fE, cQ, stepR_skip, eC, fB, eH, eT, eS, eM, fH, eP, dK, eN, eJ, eY, eE, eB, eK, eD, eI, eX, fC, eF, dR, eU, eZ, eA, gA, gB, gC, gG, gE, gF, gD, gH, gI, dH, Result.ok.injEq, Next.value.injEq, true_and, and_true, dZ, dY, fA, eL, eQ, fG, Qp, dS, dW, dV, dT, dN, dM, dO, dL, dI, cY, if_true, if_false, Qm, Qs, Qn, Qo, Qr, Qq, Ql, Qk, cR, cP, cD, bT, cV, dJ, bX, bW, cS, cM, cK, dD, cN, dB, dC, dX, cZ, cC, bE, bQ, aT, aA, aK, dE, aJ, cF, dF, dA, bN, aH, bB, aY, cL, aD, aX, aM, aV, cU, aW, cJ, bS, aC, aE, aL, dP, aP, aN, bC, aR, cI, aF, bZ, bU, bL, bD, bA, cX, aI, bM, aS, aU, aQ, aG, dG, cO, bO, aO, cW, bV, bY, cG, bP, bR, bK, cH, bF, cB, aZ, bJ, bH, bG, cA]
 have hsz : (s.extract i s.size).size = s.size - i := DT _ _ _ (QD _)
 refine (Nj _ n h1 h8 (by omega) w).mono ?_
 rintro v w1 ⟨rfl, x1⟩
 simp (disch := omega) only [dQ, fE, cQ, stepR_skip, eC, fB, eH, eT, eS, eM, fH, eP, dK, eN, eJ, eY, eE, eB, eK, eD, eI, eX, fC, eF, dR, eU, eZ, eA, gA, gB, gC, gG, gE, gF, gD, gH, gI, dH, Result.ok.injEq, Next.value.injEq, true_and, and_true, dZ, dY, fA, eL, eQ, fG, Qp, dS, dW, dV, dT, dN, dM, dO, dL, dI, cY, if_true, if_false, Qm, Qs, Qn, Qo, Qr, Qq, Ql, Qk, cR, cP, cD, bT, cV, dJ, bX, bW, cS, cM, cK, dD, cN, dB, dC, dX, cZ, cC, bE, bQ, aT, aA, aK, dE, aJ, cF, dF, dA, bN, aH, bB, aY, cL, aD, aX, aM, aV, cU, aW, cJ, bS, aC, aE, aL, dP, aP, aN, bC, aR, cI, aF, bZ, bU, bL, bD, bA, cX, aI, bM, aS, aU, aQ, aG, dG, cO, bO, aO, cW, bV, bY, cG, bP, bR, bK, cH, bF, cB, aZ, bJ, bH, bG, cA]
 refine pL fun w2 o2 x2 s2 => ?_
 refine lU o2 rfl (by simp [one]) (by decide) fun w3 o3 x3 s3 => ?_
 refine ⟨?_, (x1.seq x2).new x3 x1.size⟩
 rw [De]
 congr 2
 rw [List.take_take]
 congr 1
 omega
def Ox : List Int := [IntKind.u64.wrap (11400714785074694791 + 14029467366897019727), 14029467366897019727, 0, IntKind.u64.wrap (0 - 11400714785074694791)]
def A6 (vs : List Int) (s : List UInt8) (i : Nat) : List Int := vs.mapIdx fun j v => if j < i then JY v (pF ((s.drop (8 * j)).take 8)) else v
def Ba : Nat -> List UInt8 -> List Int
 | 0, _ => Ox
 | k + 1, L => A6 (Ba k L) ((L.drop (32 * k)).take 32) 4
theorem mE (vs : List Int) (s : List UInt8) (i : Nat) : (A6 vs s i).length = vs.length := by simp [A6]
theorem mI : ∀ k L, (Ba k L).length = 4
 | 0, _ => rfl
 | k + 1, L => by rw [Ba, mE, mI k L]
theorem Iz (vs : List Int) (s : List UInt8) : A6 vs s 0 = vs := by
 apply List.ext_getElem
 .simp [A6]
 .intro i h1 h2; simp [A6]
theorem Kb (vs : List Int) (s : List UInt8) (i : Nat) (h : i < vs.length) : (A6 vs s i)[i]? = some vs[i] := by
 rw [Qv (by rw [mE]; exact h)]; simp [A6]
theorem JG (vs : List Int) (s : List UInt8) (i : Nat) (h : i < vs.length) : (A6 vs s i).set i (JY vs[i] (pF ((s.drop (8 * i)).take 8))) = A6 vs s (i + 1) := by
 apply List.ext_getElem
 .simp [A6]
 .intro j h1 h2
  rw [List.getElem_set]
  simp only [A6, List.getElem_mapIdx]
  by_cases hij : i = j
  .subst hij; simp
  .simp only [hij, if_false]
   by_cases hj : j < i
   .rw [if_pos hj, if_pos (by omega)]
   .rw [if_neg hj, if_neg (by omega)]
theorem Gk : ∀ k (L M : List UInt8), 32 * k <= L.length -> Ba k (L ++ M) = Ba k L
 | 0, _, _, _ => rfl
 | k + 1, L, M, h => by
   rw [Ba, Ba, Gk k L M (by omega)]
   congr 1
   rw [List.drop_append_of_le_length (by omega), Rh (by rw [Qy]; omega)]
def gP (vs : List Int) (kept : List UInt8) (n all : Nat) : List RN := vs.map (Value.int .u64) ++ (kept.map lN ++ [.int .i64 (n : Int), .int .u64 (all : Int)])
theorem lF {vs : List Int} {kept : List UInt8} {n all : Nat} (h1 : vs.length = 4) (h2 : kept.length = 32) : (gP vs kept n all).length = 38 := by
 simp [gP, h1, h2]
theorem GG {vs : List Int} {kept : List UInt8} {n all : Nat} (i : Nat) (h : i < vs.length) : (gP vs kept n all)[i]? = some (.int .u64 vs[i]) := by
 unfold gP; rw [QO (by simpa using h)]; simp [h]
theorem C0 {vs : List Int} {kept : List UInt8} {n all : Nat} (h1 : vs.length = 4) (i : Nat) (h : i < kept.length) : (gP vs kept n all)[4 + i]? = some (lN kept[i]) := by
 unfold gP
 rw [Q8 (by simp [h1]), Qw, h1, Nat.add_sub_cancel_left, QO (by simpa using h)]; simp [h]
theorem zW {vs : List Int} {kept : List UInt8} {n all : Nat} (h1 : vs.length = 4) (h2 : kept.length = 32) : (gP vs kept n all)[36]? = some (.int .i64 (n : Int)) := by
 unfold gP
 rw [Q8 (by simp [h1]), Qw, h1, Q8 (by simp [h2]), Qw, h2] <;> rfl
theorem uT {vs : List Int} {kept : List UInt8} {n all : Nat} (h1 : vs.length = 4) (h2 : kept.length = 32) : (gP vs kept n all)[37]? = some (.int .u64 (all : Int)) := by
 unfold gP
 rw [Q8 (by simp [h1]), Qw, h1, Q8 (by simp [h2]), Qw, h2] <;> rfl
theorem GI {vs : List Int} {kept : List UInt8} {n all : Nat} (i : Nat) (x : Int) (h : i < vs.length) : (gP vs kept n all).set i (.int .u64 x) = gP (vs.set i x) kept n all := by
 unfold gP; rw [List.set_append_left _ _ (by simpa using h), List.map_set]
theorem Ch {vs : List Int} {kept : List UInt8} {n all : Nat} (h1 : vs.length = 4) (h2 : kept.length = 32) (m : Nat) : (gP vs kept n all).set 36 (.int .i64 (m : Int)) = gP vs kept m all := by
 unfold gP
 rw [Q0 _ _ (by simp [h1]), Qw, h1, Q0 _ _ (by simp [h2]), Qw, h2] <;> rfl
theorem EH {vs : List Int} {kept : List UInt8} {n all : Nat} (h1 : vs.length = 4) (h2 : kept.length = 32) (m : Nat) : (gP vs kept n all).set 37 (.int .u64 (m : Int)) = gP vs kept n m := by
 unfold gP
 rw [Q0 _ _ (by simp [h1]), Qw, h1, Q0 _ _ (by simp [h2]), Qw, h2] <;> rfl
def Cc (l : List UInt8) (o : Nat) (x : List UInt8) : List UInt8 := l.take o ++ x ++ l.drop (o + x.length)
theorem Im {l : List UInt8} {o : Nat} {x : List UInt8} (h : o + x.length <= l.length) : (Cc l o x).length = l.length := by
 simp [Cc]; omega
theorem LN {l : List UInt8} {o : Nat} {c : UInt8} {x : List UInt8} (h : o + (x.length + 1) <= l.length) : Cc (l.set o c) (o + 1) x = Cc l o (c :: x) := by
 unfold Cc
 rw [List.take_set, List.drop_set_of_lt (by omega)]
 have e : (l.take (o + 1)).set o c = l.take o ++ [c] := by
  rw [List.take_succ_eq_append_getElem (by omega), Q0 _ _ (by simp; omega)]
  simp only [Qz]
  rw [show o - min o l.length = 0 from by omega] <;> rfl
 rw [e]
 simp only [QF, List.singleton_append, QK, Q9, Rd]
 rw [show o + 1 + x.length = o + (x.length + 1) from by omega]
theorem Hx {vs : List Int} {n all : Nat} (h1 : vs.length = 4) : ∀ (x kept : List UInt8) (o : Nat), o + x.length <= kept.length →
 gO (gP vs kept n all) (4 + o) (x.map lN) = gP vs (Cc kept o x) n all := by
 intro x
 induction x with
 | nil => intro kept o _; simp [gO, Cc]
 | cons c x ih =>
   intro kept o h
   rw [QK] at h
   have e : (gP vs kept n all).set (4 + o) (lN c) = gP vs (kept.set o c) n all := by
    unfold gP
    rw [Q0 _ _ (by simp [h1]), Qw, h1, Nat.add_sub_cancel_left, List.set_append_left _ _ (by simp; omega), List.map_set]
   rw [Rl, gO, e, Rw, ih _ _ (by simp; omega), LN (by omega)]
def Lh (w : RM) (b : Nat) (L : List UInt8) (all : Nat) : Prop :=
 ∃ kept, kept.length = 32 /\ kept.take (L.length % 32) = L.drop (32 * (L.length / 32)) /\ iL w b (gP (Ba (L.length / 32) L) kept (L.length % 32) all)
abbrev F2 (w : RM) (b : Nat) (L : List UInt8) : Prop := Lh w b L L.length
theorem NF (w : RM) : fK pg Dm #[] w (fun v w' => v = .pointer (some ⟨w.heap.size, 0, none⟩) /\ F2 w' w.heap.size [] /\ fW w w' kY) := by
 refine I5 ?_
 simp (disch := omega) only [Lu, D8, dQ, fE, cQ, stepR_skip, eC, fB, eH, eT, eS, eM, fH, eP, dK, eN, eJ, eY, eE, eB, eK, eD, eI, eX, fC, eF, dR, eU, eZ, eA, gA, gB, gC, gG, gE, gF, gD, gH, gI, dH, Result.ok.injEq, Next.value.injEq, true_and, and_true, dZ, dY, fA, eL, eQ, fG, Qp, dS, dW, dV, dT, dN, dM, dO, dL, dI, cY, if_true, if_false, Qm, Qs, Qn, Qo, Qr, Qq, Ql, Qk, cR, cP, cD, bT, cV, dJ, bX, bW, cS, cM, cK, dD, cN, dB, dC, dX, cZ, cC, bE, bQ, aT, aA, aK, dE, aJ, cF, dF, dA, bN, aH, bB, aY, cL, aD, aX, aM, aV, cU, aW, cJ, bS, aC, aE, aL, dP, aP, aN, bC, aR, cI, aF, bZ, bU, bL, bD, bA, cX, aI, bM, aS, aU, aQ, aG, dG, cO, bO, aO, cW, bV, bY, cG, bP, bR, bK, cH, bF, cB, aZ, bJ, bH, bG, cA]
 refine Dp fun w1 o1 x1 s1 => ⟨rfl, ⟨List.replicate 32 0, rfl, rfl, ?_⟩, x1⟩
 exact o1
theorem Bl {w : RM} {b : Nat} {cs : List RN} (h : iL w b cs) : iL (dr w) b cs := h.ext (fW.dr w kY) (fun h => h)
theorem I1 (w0 : RM) (b : Nat) (vs : List Int) (kept : List UInt8) (all : Nat) (h1 : vs.length = 4) (h2 : kept.length = 32) (v : RN) (R : RN -> RN -> RM -> Prop)
 (hR : ∀ w', iL w' b (gP (A6 vs kept 4) kept 32 all) -> fW w0 w' (fun x => x = b) -> R (.pointer (some ⟨b, 0, none⟩)) v w') (w : RM) (ho : iL w b (gP vs kept 32 all)) (hx : fW w0 w (fun x => x = b)) :
 pB R (.pointer (some ⟨b, 0, none⟩)) v w := by
 simp (disch := omega) only [pB, tK, sV, sU]
 refine iO.rule (fun n t w' => ∃ i : Nat, i <= 4 /\ n = 4 - i /\ t = .int .i64 (i : Int) /\ iL w' b (gP (A6 vs kept i) kept 32 all) /\ fW w0 w' (fun x => x = b)) 4
  ⟨0, by omega, rfl, rfl, by rw [Iz]; exact ho, hx⟩ ?_
 rintro n t w' ⟨i, hi, rfl, rfl, ho, hx⟩
 by_cases hlt : i < 4
 .have hd : decide ((i : Int) < 4) = true := by simp; omega
  have hod := Bl ho
  have hv := Kb vs kept i (by omega)
  have hc : (gP (A6 vs kept i) kept 32 all)[i]? = some (.int .u64 vs[i]) := by
   rw [GG i (by rw [mE]; omega)]
   rw [Qv (by rw [mE]; omega)] at hv
   rw [Q1 hv]
  have t1 : (8 * (i : Int)).toNat = 8 * i := by omega
  have t2 : (8 * (i : Int) + 8).toNat = 8 * i + 8 := by omega
  simp (disch := omega) only [mK, dQ, fE, cQ, stepR_skip, eC, fB, eH, eT, eS, eM, fH, eP, dK, eN, eJ, eY, eE, eB, eK, eD, eI, eX, fC, eF, dR, eU, eZ, eA, gA, gB, gC, gG, gE, gF, gD, gH, gI, dH, Result.ok.injEq, Next.value.injEq, true_and, and_true, dZ, dY, fA, eL, eQ, fG, Qp, dS, dW, dV, dT, dN, dM, dO, dL, dI, cY, if_true, if_false, Qm, Qs, Qn, Qo, Qr, Qq, Ql, Qk, cR, cP, cD, bT, cV, dJ, bX, bW, cS, cM, cK, dD, cN, dB, dC, dX, cZ, cC, bE, bQ, aT, aA, aK, dE, aJ, cF, dF, dA, bN, aH, bB, aY, cL, aD, aX, aM, aV, cU, aW, cJ, bS, aC, aE, aL, dP, aP, aN, bC, aR, cI, aF, bZ, bU, bL, bD, bA, cX, aI, bM, aS, aU, aQ, aG, dG, cO, bO, aO, cW, bV, bY, cG, bP, bR, bK, cH, bF, cB, aZ, bJ, bH, bG, cA, hd, hod.cell, hc, t1, t2, ED (show 8 * i ≠ 32 by omega)]
  have hs : ((kept.drop (8 * i)).take 8).length = 8 := by rw [Qz, Qy]; omega
  have hbs : Bs (dr w') (.slice (some ⟨b, 4 + 8 * i, none⟩) (8 * i + 8 - 8 * i) (32 - 8 * i)) ((kept.drop (8 * i)).take 8) := by
   rw [show 8 * i + 8 - 8 * i = ((kept.drop (8 * i)).take 8).length from by omega]
   refine hod.bs (by omega) fun j hj => ?_
   rw [Rw, C0 (by rw [mE]; exact h1) (8 * i + j) (by omega)]
   simp
  refine (DW _ _ _ hbs (by omega)).mono ?_
  rintro r w1 ⟨rfl, rfl⟩
  simp (disch := omega) only [dQ, fE, cQ, stepR_skip, eC, fB, eH, eT, eS, eM, fH, eP, dK, eN, eJ, eY, eE, eB, eK, eD, eI, eX, fC, eF, dR, eU, eZ, eA, gA, gB, gC, gG, gE, gF, gD, gH, gI, dH, Result.ok.injEq, Next.value.injEq, true_and, and_true, dZ, dY, fA, eL, eQ, fG, Qp, dS, dW, dV, dT, dN, dM, dO, dL, dI, cY, if_true, if_false, Qm, Qs, Qn, Qo, Qr, Qq, Ql, Qk, cR, cP, cD, bT, cV, dJ, bX, bW, cS, cM, cK, dD, cN, dB, dC, dX, cZ, cC, bE, bQ, aT, aA, aK, dE, aJ, cF, dF, dA, bN, aH, bB, aY, cL, aD, aX, aM, aV, cU, aW, cJ, bS, aC, aE, aL, dP, aP, aN, bC, aR, cI, aF, bZ, bU, bL, bD, bA, cX, aI, bM, aS, aU, aQ, aG, dG, cO, bO, aO, cW, bV, bY, cG, bP, bR, bK, cH, bF, cB, aZ, bJ, bH, bG, cA, hod.cell, hc]
  refine (F5 _ _ _).mono ?_
  rintro r w1 ⟨rfl, rfl⟩
  refine uP hod rfl (by rw [lF (by rw [mE]; exact h1) h2]; omega) fun w2 o2 x2 s2 => ?_
  rw [GI i _ (by rw [mE]; omega), JG vs kept i (by omega)] at o2
  exact ⟨4 - (i + 1), by omega, i + 1, by omega, rfl, rfl, o2, (hx.seq (fW.dr _ _)).seq x2⟩
 .have : i = 4 := by omega
  subst this
  have hd : decide (((4 : Nat) : Int) < 4) = false := by simp
  simp (disch := omega) only [mK, dQ, fE, cQ, stepR_skip, eC, fB, eH, eT, eS, eM, fH, eP, dK, eN, eJ, eY, eE, eB, eK, eD, eI, eX, fC, eF, dR, eU, eZ, eA, gA, gB, gC, gG, gE, gF, gD, gH, gI, dH, Result.ok.injEq, Next.value.injEq, true_and, and_true, dZ, dY, fA, eL, eQ, fG, Qp, dS, dW, dV, dT, dN, dM, dO, dL, dI, cY, if_true, if_false, Qm, Qs, Qn, Qo, Qr, Qq, Ql, Qk, cR, cP, cD, bT, cV, dJ, bX, bW, cS, cM, cK, dD, cN, dB, dC, dX, cZ, cC, bE, bQ, aT, aA, aK, dE, aJ, cF, dF, dA, bN, aH, bB, aY, cL, aD, aX, aM, aV, cU, aW, cJ, bS, aC, aE, aL, dP, aP, aN, bC, aR, cI, aF, bZ, bU, bL, bD, bA, cX, aI, bM, aS, aU, aQ, aG, dG, cO, bO, aO, cW, bV, bY, cG, bP, bR, bK, cH, bF, cB, aZ, bJ, bH, bG, cA, hd]
  exact hR _ ho hx
theorem Jb (w0 : RM) (b : Nat) (L l : List UInt8) (_hlen : L.length + l.length <= 1099511627776) (R : RM -> Prop)
 (hR : ∀ w', Lh w' b (L ++ l) (L.length + l.length) -> fW w0 w' (fun x => x = b) -> R w') (v : RN) (w : RM)
 (h : Lh w b L (L.length + l.length)) (hv : Bs w v l) (hb : ¬ Gv v (fun x => x = b)) (hx : fW w0 w (fun x => x = b)) :
 nJ R (.pointer (some ⟨b, 0, none⟩)) v w := by
 unfold nJ
 refine iO.rule (fun n t w' => ∃ m : Nat, m <= l.length /\ n = l.length - m /\ Bs w' t (l.drop m) /\ ¬ Gv t (fun x => x = b) /\ Lh w' b (L ++ l.take m) (L.length + l.length) /\ fW w0 w' (fun x => x = b)) l.length
  ⟨0, by omega, rfl, hv, hb, by simpa using h, hx⟩ ?_
 rintro n t w' ⟨m, hm, rfl, hv, hb, ⟨kept, h2, hk, ho⟩, hx⟩
 have hv' := hv
 obtain ⟨a, n, c, rfl, hn, hc, hcell⟩ := hv'
 rw [Qw, Qy] at hn
 by_cases hlt : m < l.length
 .obtain ⟨b', o', rfl, hcell'⟩ := hcell (by omega)
  have hd : decide ((0 : Int) < (n : Int)) = true := by simp; omega
  have hM : (L ++ l.take m).length = L.length + m := by simp; omega
  rw [hM] at hk ho
  obtain ⟨q, hq⟩ : ∃ q, q = (L.length + m) / 32 := ⟨_, rfl⟩
  obtain ⟨r, hr⟩ : ∃ r, r = (L.length + m) % 32 := ⟨_, rfl⟩
  rw [<- hq, <- hr] at hk ho
  have hqr : L.length + m = 32 * q + r /\ r < 32 := by omega
  have h1 : (Ba q (L ++ l.take m)).length = 4 := mI _ _
  have hod := Bl ho
  have t1 : (r : Int).toNat = r := by omega
  simp (disch := omega) only [kG, lO, lP, nP, lJ, mC, mF, pC, kR, dQ, fE, cQ, stepR_skip, eC, fB, eH, eT, eS, eM, fH, eP, dK, eN, eJ, eY, eE, eB, eK, eD, eI, eX, fC, eF, dR, eU, eZ, eA, gA, gB, gC, gG, gE, gF, gD, gH, gI, dH, Result.ok.injEq, Next.value.injEq, true_and, and_true, dZ, dY, fA, eL, eQ, fG, Qp, dS, dW, dV, dT, dN, dM, dO, dL, dI, cY, if_true, if_false, Qm, Qs, Qn, Qo, Qr, Qq, Ql, Qk, cR, cP, cD, bT, cV, dJ, bX, bW, cS, cM, cK, dD, cN, dB, dC, dX, cZ, cC, bE, bQ, aT, aA, aK, dE, aJ, cF, dF, dA, bN, aH, bB, aY, cL, aD, aX, aM, aV, cU, aW, cJ, bS, aC, aE, aL, dP, aP, aN, bC, aR, cI, aF, bZ, bU, bL, bD, bA, cX, aI, bM, aS, aU, aQ, aG, dG, cO, bO, aO, cW, bV, bY, cG, bP, bR, bK, cH, bF, cB, aZ, bJ, bH, bG, cA, hd, hod.cell, zW h1 h2, ED (show r ≠ 32 by omega)]
  have hvd : Bs (dr w') (.slice (some ⟨b', o', none⟩) n c) (l.drop m) := hv.ext (fW.dr w' kY) (by unfold Gv kY; split <;> simp)
  refine C9 hod (by rw [lF h1 h2]; omega) hvd (KU _) fun w1 o1 x1 s1 => ?_
  obtain ⟨u, hu⟩ : ∃ u, u = min n (32 - r) := ⟨_, rfl⟩
  have hlm : (List.map lN (l.drop m)).length = n := by rw [Qw, Qy, hn]
  rw [hlm] at o1 ⊢
  rw [<- hu] at o1 ⊢
  have hu1 : u <= n /\ u <= 32 - r /\ (u = n ∨ u = 32 - r) := by omega
  have hul : ((l.drop m).take u).length = u := by rw [Qz, Qy]; omega
  rw [<- RG, Hx h1 _ _ _ (by omega)] at o1
  obtain ⟨kept1, hk1⟩ : ∃ x, x = Cc kept r ((l.drop m).take u) := ⟨_, rfl⟩
  rw [<- hk1] at o1
  have h21 : kept1.length = 32 := by rw [hk1, Im (by omega)]; exact h2
  simp (disch := omega) only [dQ, fE, cQ, stepR_skip, eC, fB, eH, eT, eS, eM, fH, eP, dK, eN, eJ, eY, eE, eB, eK, eD, eI, eX, fC, eF, dR, eU, eZ, eA, gA, gB, gC, gG, gE, gF, gD, gH, gI, dH, Result.ok.injEq, Next.value.injEq, true_and, and_true, dZ, dY, fA, eL, eQ, fG, Qp, dS, dW, dV, dT, dN, dM, dO, dL, dI, cY, if_true, if_false, Qm, Qs, Qn, Qo, Qr, Qq, Ql, Qk, cR, cP, cD, bT, cV, dJ, bX, bW, cS, cM, cK, dD, cN, dB, dC, dX, cZ, cC, bE, bQ, aT, aA, aK, dE, aJ, cF, dF, dA, bN, aH, bB, aY, cL, aD, aX, aM, aV, cU, aW, cJ, bS, aC, aE, aL, dP, aP, aN, bC, aR, cI, aF, bZ, bU, bL, bD, bA, cX, aI, bM, aS, aU, aQ, aG, dG, cO, bO, aO, cW, bV, bY, cG, bP, bR, bK, cH, bF, cB, aZ, bJ, bH, bG, cA, o1.cell, zW h1 h21]
  refine Je o1 rfl (by rw [lF h1 h21]; omega) fun w2 o2 x2 s2 => ?_
  rw [<- Int.natCast_add, Ch h1 h21] at o2
  have hx2 : fW w' w2 (fun x => x = b) := ((fW.dr w' _).seq x1).seq x2
  have hv2 := hv.ext hx2 hb
  have hv3 := hv2.drop hu1.1
  have hb3 := LC (k := u) hb (by omega) (n - u)
  rw [<- Rx, Ra] at hv3
  have hM2 : L ++ l.take (m + u) = (L ++ l.take m) ++ (l.drop m).take u := by rw [QF, List.take_add]
  have hacc : Ba q (L ++ l.take (m + u)) = Ba q (L ++ l.take m) := by rw [hM2]; exact Gk _ _ _ (by omega)
  have hlen2 : (L ++ l.take (m + u)).length = L.length + (m + u) := by simp; omega
  have hkeep : kept1.take (r + u) = (L ++ l.take (m + u)).drop (32 * q) := by
   rw [hk1, hM2, List.drop_append_of_le_length (by omega), <- hk]
   unfold Cc
   rw [Rh (by simp; omega), QL (by simp; omega)]
  rw [<- hacc] at o2
  simp (disch := omega) only [dQ, fE, cQ, stepR_skip, eC, fB, eH, eT, eS, eM, fH, eP, dK, eN, eJ, eY, eE, eB, eK, eD, eI, eX, fC, eF, dR, eU, eZ, eA, gA, gB, gC, gG, gE, gF, gD, gH, gI, dH, Result.ok.injEq, Next.value.injEq, true_and, and_true, dZ, dY, fA, eL, eQ, fG, Qp, dS, dW, dV, dT, dN, dM, dO, dL, dI, cY, if_true, if_false, Qm, Qs, Qn, Qo, Qr, Qq, Ql, Qk, cR, cP, cD, bT, cV, dJ, bX, bW, cS, cM, cK, dD, cN, dB, dC, dX, cZ, cC, bE, bQ, aT, aA, aK, dE, aJ, cF, dF, dA, bN, aH, bB, aY, cL, aD, aX, aM, aV, cU, aW, cJ, bS, aC, aE, aL, dP, aP, aN, bC, aR, cI, aF, bZ, bU, bL, bD, bA, cX, aI, bM, aS, aU, aQ, aG, dG, cO, bO, aO, cW, bV, bY, cG, bP, bR, bK, cH, bF, cB, aZ, bJ, bH, bG, cA, o2.cell, zW (mI _ _) h21]
  by_cases hfull : r + u = 32
  .have he : (((r + u : Nat) : Int) == 32) = true := by rw [hfull] <;> rfl
   rw [he]
   simp (disch := omega) only [dQ, fE, cQ, stepR_skip, eC, fB, eH, eT, eS, eM, fH, eP, dK, eN, eJ, eY, eE, eB, eK, eD, eI, eX, fC, eF, dR, eU, eZ, eA, gA, gB, gC, gG, gE, gF, gD, gH, gI, dH, Result.ok.injEq, Next.value.injEq, true_and, and_true, dZ, dY, fA, eL, eQ, fG, Qp, dS, dW, dV, dT, dN, dM, dO, dL, dI, cY, if_true, if_false, Qm, Qs, Qn, Qo, Qr, Qq, Ql, Qk, cR, cP, cD, bT, cV, dJ, bX, bW, cS, cM, cK, dD, cN, dB, dC, dX, cZ, cC, bE, bQ, aT, aA, aK, dE, aJ, cF, dF, dA, bN, aH, bB, aY, cL, aD, aX, aM, aV, cU, aW, cJ, bS, aC, aE, aL, dP, aP, aN, bC, aR, cI, aF, bZ, bU, bL, bD, bA, cX, aI, bM, aS, aU, aQ, aG, dG, cO, bO, aO, cW, bV, bY, cG, bP, bR, bK, cH, bF, cB, aZ, bJ, bH, bG, cA]
   rw [hfull] at o2 hkeep
   have h11 := mI q (L ++ l.take (m + u))
   refine I1 w2 b _ kept1 _ h11 h21 _ _ (fun w3 o3 x3 => ?_) w2 o2 (fW.refl _ _)
   have h13 : (A6 (Ba q (L ++ l.take (m + u))) kept1 4).length = 4 := by rw [mE]; exact h11
   simp (disch := omega) only [kG, lO, lP, nP, lJ, mC, mF, pC, kR, dQ, fE, cQ, stepR_skip, eC, fB, eH, eT, eS, eM, fH, eP, dK, eN, eJ, eY, eE, eB, eK, eD, eI, eX, fC, eF, dR, eU, eZ, eA, gA, gB, gC, gG, gE, gF, gD, gH, gI, dH, Result.ok.injEq, Next.value.injEq, true_and, and_true, dZ, dY, fA, eL, eQ, fG, Qp, dS, dW, dV, dT, dN, dM, dO, dL, dI, cY, if_true, if_false, Qm, Qs, Qn, Qo, Qr, Qq, Ql, Qk, cR, cP, cD, bT, cV, dJ, bX, bW, cS, cM, cK, dD, cN, dB, dC, dX, cZ, cC, bE, bQ, aT, aA, aK, dE, aJ, cF, dF, dA, bN, aH, bB, aY, cL, aD, aX, aM, aV, cU, aW, cJ, bS, aC, aE, aL, dP, aP, aN, bC, aR, cI, aF, bZ, bU, bL, bD, bA, cX, aI, bM, aS, aU, aQ, aG, dG, cO, bO, aO, cW, bV, bY, cG, bP, bR, bK, cH, bF, cB, aZ, bJ, bH, bG, cA]
   refine Je o3 rfl (by rw [lF h13 h21]; omega) fun w4 o4 x4 s4 => ?_
   have o4 : iL w4 b ((gP (A6 (Ba q (L ++ l.take (m + u))) kept1 4) kept1 32 (L.length + l.length)).set 36 (.int .i64 ((0 : Nat) : Int))) := o4
   rw [Ch h13 h21] at o4
   have hx4 := x3.seq x4
   have hkk : kept1 = (L ++ l.take (m + u)).drop (32 * q) := by rw [<- hkeep, QL (by omega)]
   refine ⟨l.length - (m + u), by omega, m + u, by omega, rfl, hv3.ext hx4 hb3, hb3, ⟨kept1, h21, ?_, ?_⟩, (hx.seq hx2).seq hx4⟩
   .have z : (L ++ l.take (m + u)).drop (32 * ((L.length + (m + u)) / 32)) = [] := List.drop_eq_nil_of_le (by rw [hlen2]; omega)
    have z1 : (L.length + (m + u)) % 32 = 0 := by omega
    rw [hlen2, z, z1] <;> rfl
   .have z1 : (L.length + (m + u)) % 32 = 0 := by omega
    have z2 : (L.length + (m + u)) / 32 = q + 1 := by omega
    have z3 : kept1.take 32 = kept1 := QL (by omega)
    rw [hlen2, z1, z2, Ba, <- hkk, z3]
    exact o4
  .have he : (((r + u : Nat) : Int) == 32) = false := by rw [beq_eq_false_iff_ne]; omega
   rw [he]
   simp (disch := omega) only [dQ, fE, cQ, stepR_skip, eC, fB, eH, eT, eS, eM, fH, eP, dK, eN, eJ, eY, eE, eB, eK, eD, eI, eX, fC, eF, dR, eU, eZ, eA, gA, gB, gC, gG, gE, gF, gD, gH, gI, dH, Result.ok.injEq, Next.value.injEq, true_and, and_true, dZ, dY, fA, eL, eQ, fG, Qp, dS, dW, dV, dT, dN, dM, dO, dL, dI, cY, if_true, if_false, Qm, Qs, Qn, Qo, Qr, Qq, Ql, Qk, cR, cP, cD, bT, cV, dJ, bX, bW, cS, cM, cK, dD, cN, dB, dC, dX, cZ, cC, bE, bQ, aT, aA, aK, dE, aJ, cF, dF, dA, bN, aH, bB, aY, cL, aD, aX, aM, aV, cU, aW, cJ, bS, aC, aE, aL, dP, aP, aN, bC, aR, cI, aF, bZ, bU, bL, bD, bA, cX, aI, bM, aS, aU, aQ, aG, dG, cO, bO, aO, cW, bV, bY, cG, bP, bR, bK, cH, bF, cB, aZ, bJ, bH, bG, cA]
   refine ⟨l.length - (m + u), by omega, m + u, by omega, rfl, hv3, hb3, ⟨kept1, h21, ?_, ?_⟩, hx.seq hx2⟩
   .rw [hlen2, show (L.length + (m + u)) % 32 = r + u from by omega, show (L.length + (m + u)) / 32 = q from by omega]; exact hkeep
   .rw [hlen2, show (L.length + (m + u)) % 32 = r + u from by omega, show (L.length + (m + u)) / 32 = q from by omega]; exact o2
 .have hd : decide ((0 : Int) < (n : Int)) = false := by simp; omega
  simp (disch := omega) only [kG, lO, lP, nP, lJ, mC, mF, pC, kR, dQ, fE, cQ, stepR_skip, eC, fB, eH, eT, eS, eM, fH, eP, dK, eN, eJ, eY, eE, eB, eK, eD, eI, eX, fC, eF, dR, eU, eZ, eA, gA, gB, gC, gG, gE, gF, gD, gH, gI, dH, Result.ok.injEq, Next.value.injEq, true_and, and_true, dZ, dY, fA, eL, eQ, fG, Qp, dS, dW, dV, dT, dN, dM, dO, dL, dI, cY, if_true, if_false, Qm, Qs, Qn, Qo, Qr, Qq, Ql, Qk, cR, cP, cD, bT, cV, dJ, bX, bW, cS, cM, cK, dD, cN, dB, dC, dX, cZ, cC, bE, bQ, aT, aA, aK, dE, aJ, cF, dF, dA, bN, aH, bB, aY, cL, aD, aX, aM, aV, cU, aW, cJ, bS, aC, aE, aL, dP, aP, aN, bC, aR, cI, aF, bZ, bU, bL, bD, bA, cX, aI, bM, aS, aU, aQ, aG, dG, cO, bO, aO, cW, bV, bY, cG, bP, bR, bK, cH, bF, cB, aZ, bJ, bH, bG, cA, hd]
  refine hR _ ⟨kept, h2, ?_, ?_⟩ hx
  .have e : l.take m = l := QL (by omega)
   rw [e] at hk; exact hk
  .have e : l.take m = l := QL (by omega)
   rw [e] at ho; exact ho
theorem LG (b : Nat) (L l : List UInt8) (hlen : L.length + l.length <= 1099511627776) (v : RN) (w : RM) (h : F2 w b L) (hv : Bs w v l) (hb : ¬ Gv v (fun x => x = b)) :
 fK pg qG #[.pointer (some ⟨b, 0, none⟩), v] w (fun r w' => r = .tuple #[] /\ F2 w' b (L ++ l) /\ fW w w' (fun x => x = b)) := by
 refine DF ?_
 obtain ⟨kept, h2, hk, ho⟩ := h
 have h1 := mI (L.length / 32) L
 have hv' := hv
 obtain ⟨a, n, c, rfl, hn, hc, hcell⟩ := hv'
 rw [Qw] at hn
 simp (disch := omega) only [C2, rV, rP, rY, dQ, fE, cQ, stepR_skip, eC, fB, eH, eT, eS, eM, fH, eP, dK, eN, eJ, eY, eE, eB, eK, eD, eI, eX, fC, eF, dR, eU, eZ, eA, gA, gB, gC, gG, gE, gF, gD, gH, gI, dH, Result.ok.injEq, Next.value.injEq, true_and, and_true, dZ, dY, fA, eL, eQ, fG, Qp, dS, dW, dV, dT, dN, dM, dO, dL, dI, cY, if_true, if_false, Qm, Qs, Qn, Qo, Qr, Qq, Ql, Qk, cR, cP, cD, bT, cV, dJ, bX, bW, cS, cM, cK, dD, cN, dB, dC, dX, cZ, cC, bE, bQ, aT, aA, aK, dE, aJ, cF, dF, dA, bN, aH, bB, aY, cL, aD, aX, aM, aV, cU, aW, cJ, bS, aC, aE, aL, dP, aP, aN, bC, aR, cI, aF, bZ, bU, bL, bD, bA, cX, aI, bM, aS, aU, aQ, aG, dG, cO, bO, aO, cW, bV, bY, cG, bP, bR, bK, cH, bF, cB, aZ, bJ, bH, bG, cA, ho.cell, uT h1 h2]
 refine uP ho rfl (by rw [lF h1 h2]; omega) fun w1 o1 x1 s1 => ?_
 rw [<- Int.natCast_add, hn, EH h1 h2] at o1
 refine Jb w b L l hlen _ (fun w' hh hx => ⟨?_, hx⟩) _ w1 ⟨kept, h2, hk, o1⟩ (hv.ext x1 hb) hb x1
 unfold F2; rw [Qt]; exact hh
theorem Le (n : Int) : 0 <= IntKind.u64.wrap n /\ IntKind.u64.wrap n <= 18446744073709551615 := by rw [P0]; omega
theorem KQ (x : Int) (k : Nat) : 0 <= AI x k /\ AI x k <= 18446744073709551615 := Le _
def jA (vs : List Int) : Nat -> Int
 | 0 => 0
 | i + 1 => IntKind.u64.wrap (jA vs i + AI (vs.getD i 0) ([1, 7, 12, 18].getD i 0))
def jB (vs : List Int) : Nat -> Int
 | 0 => jA vs 4
 | i + 1 => IntKind.u64.wrap (IntKind.u64.wrap (Eh .u64 (jB vs i) (JY 0 (vs.getD i 0)) * 11400714785074694791) + 9650029242287828579)
def Hy (L : List UInt8) : Int := if L.length < 32 then 2870177450012600261 else jB (Ba (L.length / 32) L) 4
def Ku (x : Int) : Int :=
 let y1 := IntKind.u64.wrap (Eh .u64 x (x.fdiv (2 ^ min (33 : Int).toNat IntKind.u64.bits)) * 14029467366897019727)
 let y2 := IntKind.u64.wrap (Eh .u64 y1 (y1.fdiv (2 ^ min (29 : Int).toNat IntKind.u64.bits)) * 1609587929392839161)
 Eh .u64 y2 (y2.fdiv (2 ^ min (32 : Int).toNat IntKind.u64.bits))
def PK (x m : Int) : Int := IntKind.u64.wrap (IntKind.u64.wrap (AI (Eh .u64 x (JY 0 m)) 27 * 11400714785074694791) + 9650029242287828579)
def Nh (x m : Int) : Int := IntKind.u64.wrap (IntKind.u64.wrap (AI (Eh .u64 x (IntKind.u64.wrap (m * 11400714785074694791))) 23 * 14029467366897019727) + 1609587929392839161)
def Pn (x : Int) (c : UInt8) : Int := IntKind.u64.wrap (AI (Eh .u64 x (IntKind.u64.wrap ((c.toNat : Int) * 2870177450012600261))) 11 * 11400714785074694791)
def e8 (x : Int) (B : List UInt8) : Nat -> Int
 | 0 => x
 | j + 1 => PK (e8 x B j) (pF ((B.drop (8 * j)).take 8))
def e1 (x : Int) (B : List UInt8) : Nat -> Int
 | 0 => x
 | j + 1 => Pn (e1 x B j) (B.getD j 0)
def yB (x : Int) (C : List UInt8) : Int × List UInt8 := if 4 <= C.length then (Nh x (pF (C.take 4)), C.drop 4) else (x, C)
def J4 (x : Int) (B : List UInt8) : Int :=
 let r := yB (e8 x B (B.length / 8)) (B.drop (8 * (B.length / 8)))
 e1 r.1 r.2 r.2.length
def Nt (L : List UInt8) : Int := Ku (J4 (IntKind.u64.wrap (Hy L + (L.length : Int))) (L.drop (32 * (L.length / 32))))
theorem La (b : Nat) (L : List UInt8) (hlen : L.length <= 1099511627776) (w : RM) (h : F2 w b L) :
 fK pg pA #[.pointer (some ⟨b, 0, none⟩)] w (fun r w' => r = .int .u64 (Hy L) /\ w' = w) := by
 refine CY ?_
 obtain ⟨kept, h2, hk, ho⟩ := h
 have h1 := mI (L.length / 32) L
 by_cases hs : L.length < 32
 .have hd : decide ((L.length : Int) < 32) = true := by simp; omega
  simp (disch := omega) only [wL, mN, mL, dQ, fE, cQ, stepR_skip, eC, fB, eH, eT, eS, eM, fH, eP, dK, eN, eJ, eY, eE, eB, eK, eD, eI, eX, fC, eF, dR, eU, eZ, eA, gA, gB, gC, gG, gE, gF, gD, gH, gI, dH, Result.ok.injEq, Next.value.injEq, true_and, and_true, dZ, dY, fA, eL, eQ, fG, Qp, dS, dW, dV, dT, dN, dM, dO, dL, dI, cY, if_true, if_false, Qm, Qs, Qn, Qo, Qr, Qq, Ql, Qk, cR, cP, cD, bT, cV, dJ, bX, bW, cS, cM, cK, dD, cN, dB, dC, dX, cZ, cC, bE, bQ, aT, aA, aK, dE, aJ, cF, dF, dA, bN, aH, bB, aY, cL, aD, aX, aM, aV, cU, aW, cJ, bS, aC, aE, aL, dP, aP, aN, bC, aR, cI, aF, bZ, bU, bL, bD, bA, cX, aI, bM, aS, aU, aQ, aG, dG, cO, bO, aO, cW, bV, bY, cG, bP, bR, bK, cH, bF, cB, aZ, bJ, bH, bG, cA, ho.cell, uT h1 h2, hd, Hy, hs]
 .have hd : decide ((L.length : Int) < 32) = false := by simp; omega
  obtain ⟨vs, hvs⟩ : ∃ vs, vs = Ba (L.length / 32) L := ⟨_, rfl⟩
  have hH : Hy L = jB vs 4 := by rw [hvs]; unfold Hy; rw [if_neg hs]
  rw [hH]
  rw [<- hvs] at ho h1
  clear hvs hH
  simp (disch := omega) only [wL, nM, rX, rT, rZ, rR, sB, rQ, qS, qR, qK, qJ, mL, mN, dQ, fE, cQ, stepR_skip, eC, fB, eH, eT, eS, eM, fH, eP, dK, eN, eJ, eY, eE, eB, eK, eD, eI, eX, fC, eF, dR, eU, eZ, eA, gA, gB, gC, gG, gE, gF, gD, gH, gI, dH, Result.ok.injEq, Next.value.injEq, true_and, and_true, dZ, dY, fA, eL, eQ, fG, Qp, dS, dW, dV, dT, dN, dM, dO, dL, dI, cY, if_true, if_false, Qm, Qs, Qn, Qo, Qr, Qq, Ql, Qk, cR, cP, cD, bT, cV, dJ, bX, bW, cS, cM, cK, dD, cN, dB, dC, dX, cZ, cC, bE, bQ, aT, aA, aK, dE, aJ, cF, dF, dA, bN, aH, bB, aY, cL, aD, aX, aM, aV, cU, aW, cJ, bS, aC, aE, aL, dP, aP, aN, bC, aR, cI, aF, bZ, bU, bL, bD, bA, cX, aI, bM, aS, aU, aQ, aG, dG, cO, bO, aO, cW, bV, bY, cG, bP, bR, bK, cH, bF, cB, aZ, bJ, bH, bG, cA, ho.cell, uT h1 h2, hd]
  refine iO.rule (fun n t w' => ∃ i : Nat, i <= 4 /\ n = 4 - i /\ t = (.int .u64 (jA vs i), .int .i64 (i : Int)) /\ w' = w) 4 ⟨0, by omega, rfl, rfl, rfl⟩ ?_
  rintro n t w' ⟨i, hi, rfl, rfl, rfl⟩
  by_cases hlt : i < 4
  .have hd : decide ((i : Int) < 4) = true := by simp; omega
   have hv := GG (vs := vs) (kept := kept) (n := L.length % 32) (all := L.length) i (by omega)
   have hg : (#[Value.int .i64 1, .int .i64 7, .int .i64 12, .int .i64 18] : Array RN)[i]? = some (.int .i64 (([1, 7, 12, 18].getD i 0 : Nat) : Int)) := by
    have : i = 0 ∨ i = 1 ∨ i = 2 ∨ i = 3 := by omega
    rcases this with rfl | rfl | rfl | rfl <;> rfl
   have ht : [1, 7, 12, 18].getD i 0 < 64 := by
    have : i = 0 ∨ i = 1 ∨ i = 2 ∨ i = 3 := by omega
    rcases this with rfl | rfl | rfl | rfl <;> decide
   simp (disch := omega) only [lI, dQ, fE, cQ, stepR_skip, eC, fB, eH, eT, eS, eM, fH, eP, dK, eN, eJ, eY, eE, eB, eK, eD, eI, eX, fC, eF, dR, eU, eZ, eA, gA, gB, gC, gG, gE, gF, gD, gH, gI, dH, Result.ok.injEq, Next.value.injEq, true_and, and_true, dZ, dY, fA, eL, eQ, fG, Qp, dS, dW, dV, dT, dN, dM, dO, dL, dI, cY, if_true, if_false, Qm, Qs, Qn, Qo, Qr, Qq, Ql, Qk, cR, cP, cD, bT, cV, dJ, bX, bW, cS, cM, cK, dD, cN, dB, dC, dX, cZ, cC, bE, bQ, aT, aA, aK, dE, aJ, cF, dF, dA, bN, aH, bB, aY, cL, aD, aX, aM, aV, cU, aW, cJ, bS, aC, aE, aL, dP, aP, aN, bC, aR, cI, aF, bZ, bU, bL, bD, bA, cX, aI, bM, aS, aU, aQ, aG, dG, cO, bO, aO, cW, bV, bY, cG, bP, bR, bK, cH, bF, cB, aZ, bJ, bH, bG, cA, hd, hg, ho.cell, hv]
   refine (EZ _ _ ht _).mono ?_
   rintro r w1 ⟨rfl, rfl⟩
   simp (disch := omega) only [dQ, fE, cQ, stepR_skip, eC, fB, eH, eT, eS, eM, fH, eP, dK, eN, eJ, eY, eE, eB, eK, eD, eI, eX, fC, eF, dR, eU, eZ, eA, gA, gB, gC, gG, gE, gF, gD, gH, gI, dH, Result.ok.injEq, Next.value.injEq, true_and, and_true, dZ, dY, fA, eL, eQ, fG, Qp, dS, dW, dV, dT, dN, dM, dO, dL, dI, cY, if_true, if_false, Qm, Qs, Qn, Qo, Qr, Qq, Ql, Qk, cR, cP, cD, bT, cV, dJ, bX, bW, cS, cM, cK, dD, cN, dB, dC, dX, cZ, cC, bE, bQ, aT, aA, aK, dE, aJ, cF, dF, dA, bN, aH, bB, aY, cL, aD, aX, aM, aV, cU, aW, cJ, bS, aC, aE, aL, dP, aP, aN, bC, aR, cI, aF, bZ, bU, bL, bD, bA, cX, aI, bM, aS, aU, aQ, aG, dG, cO, bO, aO, cW, bV, bY, cG, bP, bR, bK, cH, bF, cB, aZ, bJ, bH, bG, cA]
   refine ⟨4 - (i + 1), by omega, i + 1, by omega, rfl, ?_⟩
   have hvd : vs.getD i 0 = vs[i]'(by omega) := by rw [QG, Qv (by omega)] <;> rfl
   rw [jA, hvd]
   rfl
  .have : i = 4 := by omega
   subst this
   have hd : decide (((4 : Nat) : Int) < 4) = false := by simp
   have ha := H5 (off := 0) ho (by rw [lF h1 h2]; omega)
   have hb : ((gP vs kept (L.length % 32) L.length).drop 0).take 4 = vs.map (Value.int .u64) := by
    rw [QN]; unfold gP; rw [Rh (by simp; omega), QL (by simp; omega)]
   rw [hb] at ha
   simp (disch := omega) only [lI, dQ, fE, cQ, stepR_skip, eC, fB, eH, eT, eS, eM, fH, eP, dK, eN, eJ, eY, eE, eB, eK, eD, eI, eX, fC, eF, dR, eU, eZ, eA, gA, gB, gC, gG, gE, gF, gD, gH, gI, dH, Result.ok.injEq, Next.value.injEq, true_and, and_true, dZ, dY, fA, eL, eQ, fG, Qp, dS, dW, dV, dT, dN, dM, dO, dL, dI, cY, if_true, if_false, Qm, Qs, Qn, Qo, Qr, Qq, Ql, Qk, cR, cP, cD, bT, cV, dJ, bX, bW, cS, cM, cK, dD, cN, dB, dC, dX, cZ, cC, bE, bQ, aT, aA, aK, dE, aJ, cF, dF, dA, bN, aH, bB, aY, cL, aD, aX, aM, aV, cU, aW, cJ, bS, aC, aE, aL, dP, aP, aN, bC, aR, cI, aF, bZ, bU, bL, bD, bA, cX, aI, bM, aS, aU, aQ, aG, dG, cO, bO, aO, cW, bV, bY, cG, bP, bR, bK, cH, bF, cB, aZ, bJ, bH, bG, cA, hd, ha]
   refine iO.rule (fun n t w2 => ∃ i : Nat, i <= 4 /\ n = 4 - i /\ t = (.int .u64 (jB vs i), .int .i64 (i : Int)) /\ w2 = w') 4 ⟨0, by omega, rfl, rfl, rfl⟩ ?_
   rintro n t w2 ⟨i, hi, rfl, rfl, rfl⟩
   by_cases hlt : i < 4
   .have hd : decide ((i : Int) < 4) = true := by simp; omega
    have hg : ((vs.map (Value.int .u64)).toArray)[i]? = some (.int .u64 (vs[i]'(by omega))) := by simp [show i < vs.length by omega]
    simp (disch := omega) only [lM, dQ, fE, cQ, stepR_skip, eC, fB, eH, eT, eS, eM, fH, eP, dK, eN, eJ, eY, eE, eB, eK, eD, eI, eX, fC, eF, dR, eU, eZ, eA, gA, gB, gC, gG, gE, gF, gD, gH, gI, dH, Result.ok.injEq, Next.value.injEq, true_and, and_true, dZ, dY, fA, eL, eQ, fG, Qp, dS, dW, dV, dT, dN, dM, dO, dL, dI, cY, if_true, if_false, Qm, Qs, Qn, Qo, Qr, Qq, Ql, Qk, cR, cP, cD, bT, cV, dJ, bX, bW, cS, cM, cK, dD, cN, dB, dC, dX, cZ, cC, bE, bQ, aT, aA, aK, dE, aJ, cF, dF, dA, bN, aH, bB, aY, cL, aD, aX, aM, aV, cU, aW, cJ, bS, aC, aE, aL, dP, aP, aN, bC, aR, cI, aF, bZ, bU, bL, bD, bA, cX, aI, bM, aS, aU, aQ, aG, dG, cO, bO, aO, cW, bV, bY, cG, bP, bR, bK, cH, bF, cB, aZ, bJ, bH, bG, cA, hd, hg]
    refine (F5 _ _ _).mono ?_
    rintro r w1 ⟨rfl, rfl⟩
    simp (disch := omega) only [dQ, fE, cQ, stepR_skip, eC, fB, eH, eT, eS, eM, fH, eP, dK, eN, eJ, eY, eE, eB, eK, eD, eI, eX, fC, eF, dR, eU, eZ, eA, gA, gB, gC, gG, gE, gF, gD, gH, gI, dH, Result.ok.injEq, Next.value.injEq, true_and, and_true, dZ, dY, fA, eL, eQ, fG, Qp, dS, dW, dV, dT, dN, dM, dO, dL, dI, cY, if_true, if_false, Qm, Qs, Qn, Qo, Qr, Qq, Ql, Qk, cR, cP, cD, bT, cV, dJ, bX, bW, cS, cM, cK, dD, cN, dB, dC, dX, cZ, cC, bE, bQ, aT, aA, aK, dE, aJ, cF, dF, dA, bN, aH, bB, aY, cL, aD, aX, aM, aV, cU, aW, cJ, bS, aC, aE, aL, dP, aP, aN, bC, aR, cI, aF, bZ, bU, bL, bD, bA, cX, aI, bM, aS, aU, aQ, aG, dG, cO, bO, aO, cW, bV, bY, cG, bP, bR, bK, cH, bF, cB, aZ, bJ, bH, bG, cA]
    refine ⟨4 - (i + 1), by omega, i + 1, by omega, rfl, ?_⟩
    have hvd : vs.getD i 0 = vs[i]'(by omega) := by rw [QG, Qv (by omega)] <;> rfl
    rw [jB, hvd]
    rfl
   .have : i = 4 := by omega
    subst this
    have hd : decide (((4 : Nat) : Int) < 4) = false := by simp
    simp (disch := omega) only [lM, dQ, fE, cQ, stepR_skip, eC, fB, eH, eT, eS, eM, fH, eP, dK, eN, eJ, eY, eE, eB, eK, eD, eI, eX, fC, eF, dR, eU, eZ, eA, gA, gB, gC, gG, gE, gF, gD, gH, gI, dH, Result.ok.injEq, Next.value.injEq, true_and, and_true, dZ, dY, fA, eL, eQ, fG, Qp, dS, dW, dV, dT, dN, dM, dO, dL, dI, cY, if_true, if_false, Qm, Qs, Qn, Qo, Qr, Qq, Ql, Qk, cR, cP, cD, bT, cV, dJ, bX, bW, cS, cM, cK, dD, cN, dB, dC, dX, cZ, cC, bE, bQ, aT, aA, aK, dE, aJ, cF, dF, dA, bN, aH, bB, aY, cL, aD, aX, aM, aV, cU, aW, cJ, bS, aC, aE, aL, dP, aP, aN, bC, aR, cI, aF, bZ, bU, bL, bD, bA, cX, aI, bM, aS, aU, aQ, aG, dG, cO, bO, aO, cW, bV, bY, cG, bP, bR, bK, cH, bF, cB, aZ, bJ, bH, bG, cA, hd]
theorem JA (w : RM) (R : RN -> RM -> Prop) (y : Int) (D : List UInt8) (v : RN) (hv : Bs w v D) (hD : D.length < 32) (hR : R (.int .u64 (Ku (e1 y D D.length))) w) :
 rK R (.int .u64 y) v w := by
 have hv' := hv
 obtain ⟨a, n, c, rfl, hn, hc, hcell⟩ := hv'
 rw [Qw] at hn
 simp (disch := omega) only [rK, vU, vV, wN, wA, dQ, fE, cQ, stepR_skip, eC, fB, eH, eT, eS, eM, fH, eP, dK, eN, eJ, eY, eE, eB, eK, eD, eI, eX, fC, eF, dR, eU, eZ, eA, gA, gB, gC, gG, gE, gF, gD, gH, gI, dH, Result.ok.injEq, Next.value.injEq, true_and, and_true, dZ, dY, fA, eL, eQ, fG, Qp, dS, dW, dV, dT, dN, dM, dO, dL, dI, cY, if_true, if_false, Qm, Qs, Qn, Qo, Qr, Qq, Ql, Qk, cR, cP, cD, bT, cV, dJ, bX, bW, cS, cM, cK, dD, cN, dB, dC, dX, cZ, cC, bE, bQ, aT, aA, aK, dE, aJ, cF, dF, dA, bN, aH, bB, aY, cL, aD, aX, aM, aV, cU, aW, cJ, bS, aC, aE, aL, dP, aP, aN, bC, aR, cI, aF, bZ, bU, bL, bD, bA, cX, aI, bM, aS, aU, aQ, aG, dG, cO, bO, aO, cW, bV, bY, cG, bP, bR, bK, cH, bF, cB, aZ, bJ, bH, bG, cA]
 refine iO.rule (fun m t w' => ∃ j : Nat, j <= n /\ m = n - j /\ t = (.int .u64 (e1 y D j), .int .i64 (j : Int)) /\ w' = w) n ⟨0, by omega, rfl, rfl, rfl⟩ ?_
 rintro m t w' ⟨j, hj, rfl, rfl, rfl⟩
 by_cases hlt : j < n
 .obtain ⟨b, off, rfl, hcell'⟩ := hcell (by omega)
  have hcl := hcell' j hlt
  rw [Rg, Qv (by omega), QR] at hcl
  have hb : (D[j]'(by omega)).toNat < 256 := Ru _
  have hd : decide ((j : Int) < (n : Int)) = true := by simpa using hlt
  simp (disch := omega) only [nU, dQ, fE, cQ, stepR_skip, eC, fB, eH, eT, eS, eM, fH, eP, dK, eN, eJ, eY, eE, eB, eK, eD, eI, eX, fC, eF, dR, eU, eZ, eA, gA, gB, gC, gG, gE, gF, gD, gH, gI, dH, Result.ok.injEq, Next.value.injEq, true_and, and_true, dZ, dY, fA, eL, eQ, fG, Qp, dS, dW, dV, dT, dN, dM, dO, dL, dI, cY, if_true, if_false, Qm, Qs, Qn, Qo, Qr, Qq, Ql, Qk, cR, cP, cD, bT, cV, dJ, bX, bW, cS, cM, cK, dD, cN, dB, dC, dX, cZ, cC, bE, bQ, aT, aA, aK, dE, aJ, cF, dF, dA, bN, aH, bB, aY, cL, aD, aX, aM, aV, cU, aW, cJ, bS, aC, aE, aL, dP, aP, aN, bC, aR, cI, aF, bZ, bU, bL, bD, bA, cX, aI, bM, aS, aU, aQ, aG, dG, cO, bO, aO, cW, bV, bY, cG, bP, bR, bK, cH, bF, cB, aZ, bJ, bH, bG, cA, hd, hcl, lN]
  refine (EZ _ 11 (by omega) _).mono ?_
  rintro r w1 ⟨rfl, rfl⟩
  simp (disch := omega) only [dQ, fE, cQ, stepR_skip, eC, fB, eH, eT, eS, eM, fH, eP, dK, eN, eJ, eY, eE, eB, eK, eD, eI, eX, fC, eF, dR, eU, eZ, eA, gA, gB, gC, gG, gE, gF, gD, gH, gI, dH, Result.ok.injEq, Next.value.injEq, true_and, and_true, dZ, dY, fA, eL, eQ, fG, Qp, dS, dW, dV, dT, dN, dM, dO, dL, dI, cY, if_true, if_false, Qm, Qs, Qn, Qo, Qr, Qq, Ql, Qk, cR, cP, cD, bT, cV, dJ, bX, bW, cS, cM, cK, dD, cN, dB, dC, dX, cZ, cC, bE, bQ, aT, aA, aK, dE, aJ, cF, dF, dA, bN, aH, bB, aY, cL, aD, aX, aM, aV, cU, aW, cJ, bS, aC, aE, aL, dP, aP, aN, bC, aR, cI, aF, bZ, bU, bL, bD, bA, cX, aI, bM, aS, aU, aQ, aG, dG, cO, bO, aO, cW, bV, bY, cG, bP, bR, bK, cH, bF, cB, aZ, bJ, bH, bG, cA]
  refine ⟨n - (j + 1), by omega, j + 1, by omega, rfl, ?_⟩
  have hg : D.getD j 0 = D[j]'(by omega) := by rw [QG, Qv (by omega)] <;> rfl
  rw [e1, hg]
  rfl
 .have hd : decide ((j : Int) < (n : Int)) = false := by simpa using hlt
  have : j = D.length := by omega
  subst this
  simp (disch := omega) only [nU, rH, dQ, fE, cQ, stepR_skip, eC, fB, eH, eT, eS, eM, fH, eP, dK, eN, eJ, eY, eE, eB, eK, eD, eI, eX, fC, eF, dR, eU, eZ, eA, gA, gB, gC, gG, gE, gF, gD, gH, gI, dH, Result.ok.injEq, Next.value.injEq, true_and, and_true, dZ, dY, fA, eL, eQ, fG, Qp, dS, dW, dV, dT, dN, dM, dO, dL, dI, cY, if_true, if_false, Qm, Qs, Qn, Qo, Qr, Qq, Ql, Qk, cR, cP, cD, bT, cV, dJ, bX, bW, cS, cM, cK, dD, cN, dB, dC, dX, cZ, cC, bE, bQ, aT, aA, aK, dE, aJ, cF, dF, dA, bN, aH, bB, aY, cL, aD, aX, aM, aV, cU, aW, cJ, bS, aC, aE, aL, dP, aP, aN, bC, aR, cI, aF, bZ, bU, bL, bD, bA, cX, aI, bM, aS, aU, aQ, aG, dG, cO, bO, aO, cW, bV, bY, cG, bP, bR, bK, cH, bF, cB, aZ, bJ, bH, bG, cA, hd]
  exact hR
theorem Mi (w : RM) (R : RN -> RM -> Prop) (x : Int) (B : List UInt8) (v : RN) (hv : Bs w v B) (hB : B.length < 32) (hR : R (.int .u64 (Ku (J4 x B))) w) :
 qH R (.int .u64 x) v w := by
 unfold qH uN uK
 refine iO.rule (fun n t w' => ∃ (j : Nat) (u : RN), 8 * j <= B.length /\ n = B.length - j /\ t = (.int .u64 (e8 x B j), u) /\ Bs w u (B.drop (8 * j)) /\ w' = w) B.length ⟨0, v, by omega, rfl, rfl, hv, rfl⟩ ?_
 rintro n t w' ⟨j, u, hj, rfl, rfl, hu, rfl⟩
 have hu' := hu
 obtain ⟨a, n, c, rfl, hn, hc, hcell⟩ := hu'
 rw [Qw, Qy] at hn
 by_cases h8 : 8 <= n
 .obtain ⟨b', o', rfl, _⟩ := hcell (by omega)
  have hd : decide ((8 : Int) <= (n : Int)) = true := by simp; omega
  have t8 : (8 : Int).toNat = 8 := rfl
  simp (disch := omega) only [nB, dQ, fE, cQ, stepR_skip, eC, fB, eH, eT, eS, eM, fH, eP, dK, eN, eJ, eY, eE, eB, eK, eD, eI, eX, fC, eF, dR, eU, eZ, eA, gA, gB, gC, gG, gE, gF, gD, gH, gI, dH, Result.ok.injEq, Next.value.injEq, true_and, and_true, dZ, dY, fA, eL, eQ, fG, Qp, dS, dW, dV, dT, dN, dM, dO, dL, dI, cY, if_true, if_false, Qm, Qs, Qn, Qo, Qr, Qq, Ql, Qk, cR, cP, cD, bT, cV, dJ, bX, bW, cS, cM, cK, dD, cN, dB, dC, dX, cZ, cC, bE, bQ, aT, aA, aK, dE, aJ, cF, dF, dA, bN, aH, bB, aY, cL, aD, aX, aM, aV, cU, aW, cJ, bS, aC, aE, aL, dP, aP, aN, bC, aR, cI, aF, bZ, bU, bL, bD, bA, cX, aI, bM, aS, aU, aQ, aG, dG, cO, bO, aO, cW, bV, bY, cG, bP, bR, bK, cH, bF, cB, aZ, bJ, bH, bG, cA, hd, t8]
  have hs := hu.take h8
  rw [<- RG] at hs
  refine (DW _ _ _ hs (by rw [Qz]; omega)).mono ?_
  rintro r w1 ⟨rfl, rfl⟩
  refine (F5 _ _ _).mono ?_
  rintro r w1 ⟨rfl, rfl⟩
  simp (disch := omega) only [dQ, fE, cQ, stepR_skip, eC, fB, eH, eT, eS, eM, fH, eP, dK, eN, eJ, eY, eE, eB, eK, eD, eI, eX, fC, eF, dR, eU, eZ, eA, gA, gB, gC, gG, gE, gF, gD, gH, gI, dH, Result.ok.injEq, Next.value.injEq, true_and, and_true, dZ, dY, fA, eL, eQ, fG, Qp, dS, dW, dV, dT, dN, dM, dO, dL, dI, cY, if_true, if_false, Qm, Qs, Qn, Qo, Qr, Qq, Ql, Qk, cR, cP, cD, bT, cV, dJ, bX, bW, cS, cM, cK, dD, cN, dB, dC, dX, cZ, cC, bE, bQ, aT, aA, aK, dE, aJ, cF, dF, dA, bN, aH, bB, aY, cL, aD, aX, aM, aV, cU, aW, cJ, bS, aC, aE, aL, dP, aP, aN, bC, aR, cI, aF, bZ, bU, bL, bD, bA, cX, aI, bM, aS, aU, aQ, aG, dG, cO, bO, aO, cW, bV, bY, cG, bP, bR, bK, cH, bF, cB, aZ, bJ, bH, bG, cA]
  refine (EZ _ 27 (by omega) _).mono ?_
  rintro r w1 ⟨rfl, rfl⟩
  simp (disch := omega) only [dQ, fE, cQ, stepR_skip, eC, fB, eH, eT, eS, eM, fH, eP, dK, eN, eJ, eY, eE, eB, eK, eD, eI, eX, fC, eF, dR, eU, eZ, eA, gA, gB, gC, gG, gE, gF, gD, gH, gI, dH, Result.ok.injEq, Next.value.injEq, true_and, and_true, dZ, dY, fA, eL, eQ, fG, Qp, dS, dW, dV, dT, dN, dM, dO, dL, dI, cY, if_true, if_false, Qm, Qs, Qn, Qo, Qr, Qq, Ql, Qk, cR, cP, cD, bT, cV, dJ, bX, bW, cS, cM, cK, dD, cN, dB, dC, dX, cZ, cC, bE, bQ, aT, aA, aK, dE, aJ, cF, dF, dA, bN, aH, bB, aY, cL, aD, aX, aM, aV, cU, aW, cJ, bS, aC, aE, aL, dP, aP, aN, bC, aR, cI, aF, bZ, bU, bL, bD, bA, cX, aI, bM, aS, aU, aQ, aG, dG, cO, bO, aO, cW, bV, bY, cG, bP, bR, bK, cH, bF, cB, aZ, bJ, bH, bG, cA, t8]
  have hs2 := hu.drop h8
  rw [<- Rx, Ra] at hs2
  exact ⟨B.length - (j + 1), by omega, j + 1, _, by omega, rfl, rfl, by rw [Nat.mul_add]; exact hs2⟩
 .have hd : decide ((8 : Int) <= (n : Int)) = false := by simp; omega
  have hj8 : j = B.length / 8 := by omega
  obtain ⟨C, hC⟩ : ∃ C, C = B.drop (8 * j) := ⟨_, rfl⟩
  have hCl : C.length = n := by rw [hC, Qy, hn]
  have htail : J4 x B = (let r := yB (e8 x B j) C; e1 r.1 r.2 r.2.length) := by rw [hC, hj8] <;> rfl
  rw [htail] at hR
  rw [<- hC] at hu
  simp (disch := omega) only [nB, dQ, fE, cQ, stepR_skip, eC, fB, eH, eT, eS, eM, fH, eP, dK, eN, eJ, eY, eE, eB, eK, eD, eI, eX, fC, eF, dR, eU, eZ, eA, gA, gB, gC, gG, gE, gF, gD, gH, gI, dH, Result.ok.injEq, Next.value.injEq, true_and, and_true, dZ, dY, fA, eL, eQ, fG, Qp, dS, dW, dV, dT, dN, dM, dO, dL, dI, cY, if_true, if_false, Qm, Qs, Qn, Qo, Qr, Qq, Ql, Qk, cR, cP, cD, bT, cV, dJ, bX, bW, cS, cM, cK, dD, cN, dB, dC, dX, cZ, cC, bE, bQ, aT, aA, aK, dE, aJ, cF, dF, dA, bN, aH, bB, aY, cL, aD, aX, aM, aV, cU, aW, cJ, bS, aC, aE, aL, dP, aP, aN, bC, aR, cI, aF, bZ, bU, bL, bD, bA, cX, aI, bM, aS, aU, aQ, aG, dG, cO, bO, aO, cW, bV, bY, cG, bP, bR, bK, cH, bF, cB, aZ, bJ, bH, bG, cA, hd]
  by_cases h4 : 4 <= n
  .obtain ⟨b', o', rfl, _⟩ := hcell (by omega)
   have hd : decide ((4 : Int) <= (n : Int)) = true := by simp; omega
   have t4 : (4 : Int).toNat = 4 := rfl
   have ha : yB (e8 x B j) C = (Nh (e8 x B j) (pF (C.take 4)), C.drop 4) := by unfold yB; rw [if_pos (by omega)]
   rw [ha] at hR
   simp (disch := omega) only [rN, rL, dQ, fE, cQ, stepR_skip, eC, fB, eH, eT, eS, eM, fH, eP, dK, eN, eJ, eY, eE, eB, eK, eD, eI, eX, fC, eF, dR, eU, eZ, eA, gA, gB, gC, gG, gE, gF, gD, gH, gI, dH, Result.ok.injEq, Next.value.injEq, true_and, and_true, dZ, dY, fA, eL, eQ, fG, Qp, dS, dW, dV, dT, dN, dM, dO, dL, dI, cY, if_true, if_false, Qm, Qs, Qn, Qo, Qr, Qq, Ql, Qk, cR, cP, cD, bT, cV, dJ, bX, bW, cS, cM, cK, dD, cN, dB, dC, dX, cZ, cC, bE, bQ, aT, aA, aK, dE, aJ, cF, dF, dA, bN, aH, bB, aY, cL, aD, aX, aM, aV, cU, aW, cJ, bS, aC, aE, aL, dP, aP, aN, bC, aR, cI, aF, bZ, bU, bL, bD, bA, cX, aI, bM, aS, aU, aQ, aG, dG, cO, bO, aO, cW, bV, bY, cG, bP, bR, bK, cH, bF, cB, aZ, bJ, bH, bG, cA, hd, t4]
   have hs := hu.take h4
   rw [<- RG] at hs
   refine (DW _ _ _ hs (by rw [Qz]; omega)).mono ?_
   rintro r w1 ⟨rfl, rfl⟩
   simp (disch := omega) only [dQ, fE, cQ, stepR_skip, eC, fB, eH, eT, eS, eM, fH, eP, dK, eN, eJ, eY, eE, eB, eK, eD, eI, eX, fC, eF, dR, eU, eZ, eA, gA, gB, gC, gG, gE, gF, gD, gH, gI, dH, Result.ok.injEq, Next.value.injEq, true_and, and_true, dZ, dY, fA, eL, eQ, fG, Qp, dS, dW, dV, dT, dN, dM, dO, dL, dI, cY, if_true, if_false, Qm, Qs, Qn, Qo, Qr, Qq, Ql, Qk, cR, cP, cD, bT, cV, dJ, bX, bW, cS, cM, cK, dD, cN, dB, dC, dX, cZ, cC, bE, bQ, aT, aA, aK, dE, aJ, cF, dF, dA, bN, aH, bB, aY, cL, aD, aX, aM, aV, cU, aW, cJ, bS, aC, aE, aL, dP, aP, aN, bC, aR, cI, aF, bZ, bU, bL, bD, bA, cX, aI, bM, aS, aU, aQ, aG, dG, cO, bO, aO, cW, bV, bY, cG, bP, bR, bK, cH, bF, cB, aZ, bJ, bH, bG, cA]
   refine (EZ _ 23 (by omega) _).mono ?_
   rintro r w1 ⟨rfl, rfl⟩
   simp (disch := omega) only [dQ, fE, cQ, stepR_skip, eC, fB, eH, eT, eS, eM, fH, eP, dK, eN, eJ, eY, eE, eB, eK, eD, eI, eX, fC, eF, dR, eU, eZ, eA, gA, gB, gC, gG, gE, gF, gD, gH, gI, dH, Result.ok.injEq, Next.value.injEq, true_and, and_true, dZ, dY, fA, eL, eQ, fG, Qp, dS, dW, dV, dT, dN, dM, dO, dL, dI, cY, if_true, if_false, Qm, Qs, Qn, Qo, Qr, Qq, Ql, Qk, cR, cP, cD, bT, cV, dJ, bX, bW, cS, cM, cK, dD, cN, dB, dC, dX, cZ, cC, bE, bQ, aT, aA, aK, dE, aJ, cF, dF, dA, bN, aH, bB, aY, cL, aD, aX, aM, aV, cU, aW, cJ, bS, aC, aE, aL, dP, aP, aN, bC, aR, cI, aF, bZ, bU, bL, bD, bA, cX, aI, bM, aS, aU, aQ, aG, dG, cO, bO, aO, cW, bV, bY, cG, bP, bR, bK, cH, bF, cB, aZ, bJ, bH, bG, cA, t4]
   have hs2 := hu.drop h4
   rw [<- Rx] at hs2
   exact JA _ _ _ _ _ hs2 (by rw [Qy]; omega) hR
  .have hd : decide ((4 : Int) <= (n : Int)) = false := by simp; omega
   have ha : yB (e8 x B j) C = (e8 x B j, C) := by unfold yB; rw [if_neg (by omega)]
   rw [ha] at hR
   simp (disch := omega) only [rN, rL, dQ, fE, cQ, stepR_skip, eC, fB, eH, eT, eS, eM, fH, eP, dK, eN, eJ, eY, eE, eB, eK, eD, eI, eX, fC, eF, dR, eU, eZ, eA, gA, gB, gC, gG, gE, gF, gD, gH, gI, dH, Result.ok.injEq, Next.value.injEq, true_and, and_true, dZ, dY, fA, eL, eQ, fG, Qp, dS, dW, dV, dT, dN, dM, dO, dL, dI, cY, if_true, if_false, Qm, Qs, Qn, Qo, Qr, Qq, Ql, Qk, cR, cP, cD, bT, cV, dJ, bX, bW, cS, cM, cK, dD, cN, dB, dC, dX, cZ, cC, bE, bQ, aT, aA, aK, dE, aJ, cF, dF, dA, bN, aH, bB, aY, cL, aD, aX, aM, aV, cU, aW, cJ, bS, aC, aE, aL, dP, aP, aN, bC, aR, cI, aF, bZ, bU, bL, bD, bA, cX, aI, bM, aS, aU, aQ, aG, dG, cO, bO, aO, cW, bV, bY, cG, bP, bR, bK, cH, bF, cB, aZ, bJ, bH, bG, cA, hd]
   exact JA _ _ _ _ _ hu (by omega) hR
theorem Nz (b : Nat) (L : List UInt8) (hlen : L.length <= 1099511627776) (w : RM) (h : F2 w b L) :
 fK pg tG #[.pointer (some ⟨b, 0, none⟩)] w (fun r w' => r = .int .u64 (Nt L) /\ fW w w' kY) := by
 refine Fo ?_
 have h' := h
 obtain ⟨kept, h2, hk, ho⟩ := h'
 have h1 := mI (L.length / 32) L
 have hod := Bl ho
 simp (disch := omega) only [ES, uE, uM, dQ, fE, cQ, stepR_skip, eC, fB, eH, eT, eS, eM, fH, eP, dK, eN, eJ, eY, eE, eB, eK, eD, eI, eX, fC, eF, dR, eU, eZ, eA, gA, gB, gC, gG, gE, gF, gD, gH, gI, dH, Result.ok.injEq, Next.value.injEq, true_and, and_true, dZ, dY, fA, eL, eQ, fG, Qp, dS, dW, dV, dT, dN, dM, dO, dL, dI, cY, if_true, if_false, Qm, Qs, Qn, Qo, Qr, Qq, Ql, Qk, cR, cP, cD, bT, cV, dJ, bX, bW, cS, cM, cK, dD, cN, dB, dC, dX, cZ, cC, bE, bQ, aT, aA, aK, dE, aJ, cF, dF, dA, bN, aH, bB, aY, cL, aD, aX, aM, aV, cU, aW, cJ, bS, aC, aE, aL, dP, aP, aN, bC, aR, cI, aF, bZ, bU, bL, bD, bA, cX, aI, bM, aS, aU, aQ, aG, dG, cO, bO, aO, cW, bV, bY, cG, bP, bR, bK, cH, bF, cB, aZ, bJ, bH, bG, cA]
 refine (La b L hlen (dr w) ⟨kept, h2, hk, hod⟩).mono ?_
 rintro r w1 ⟨rfl, rfl⟩
 have hod2 := Bl hod
 have hr : L.length % 32 < 32 := by omega
 have hbs : Bs (dr (dr w)) (.slice (some ⟨b, 4, none⟩) (L.length % 32 - 0) (32 - 0)) (L.drop (32 * (L.length / 32))) := by
  rw [<- hk]
  have e : (kept.take (L.length % 32)).length = L.length % 32 := by rw [Qz]; omega
  rw [show L.length % 32 - 0 = (kept.take (L.length % 32)).length from by omega]
  refine hod2.bs (by omega) fun j hj => ?_
  rw [C0 h1 j (by omega)]
  simp
 have t0 : uC ⟨b, 4, none⟩ 32 0 1 = ⟨b, 4, none⟩ := by rw [ED (by omega)]
 simp (disch := omega) only [dQ, fE, cQ, stepR_skip, eC, fB, eH, eT, eS, eM, fH, eP, dK, eN, eJ, eY, eE, eB, eK, eD, eI, eX, fC, eF, dR, eU, eZ, eA, gA, gB, gC, gG, gE, gF, gD, gH, gI, dH, Result.ok.injEq, Next.value.injEq, true_and, and_true, dZ, dY, fA, eL, eQ, fG, Qp, dS, dW, dV, dT, dN, dM, dO, dL, dI, cY, if_true, if_false, Qm, Qs, Qn, Qo, Qr, Qq, Ql, Qk, cR, cP, cD, bT, cV, dJ, bX, bW, cS, cM, cK, dD, cN, dB, dC, dX, cZ, cC, bE, bQ, aT, aA, aK, dE, aJ, cF, dF, dA, bN, aH, bB, aY, cL, aD, aX, aM, aV, cU, aW, cJ, bS, aC, aE, aL, dP, aP, aN, bC, aR, cI, aF, bZ, bU, bL, bD, bA, cX, aI, bM, aS, aU, aQ, aG, dG, cO, bO, aO, cW, bV, bY, cG, bP, bR, bK, cH, bF, cB, aZ, bJ, bH, bG, cA, hod.cell, hod2.cell, uT h1 h2, zW h1 h2, t0]
 refine Mi _ _ _ _ _ hbs (by rw [Qy]; omega) ⟨rfl, (fW.dr w _).seq (fW.dr _ _)⟩
theorem OQ (L : List UInt8) (hlen : L.length <= 1099511627776) (v : RN) (w : RM) (hv : Bs w v L) :
 fK pg Dj #[v] w (fun r w' => r = .int .u64 (Nt L) /\ fW w w' kY) := by
 refine JK ?_
 simp (disch := omega) only [MY, Gc, dQ, fE, cQ, stepR_skip, eC, fB, eH, eT, eS, eM, fH, eP, dK, eN, eJ, eY, eE, eB, eK, eD, eI, eX, fC, eF, dR, eU, eZ, eA, gA, gB, gC, gG, gE, gF, gD, gH, gI, dH, Result.ok.injEq, Next.value.injEq, true_and, and_true, dZ, dY, fA, eL, eQ, fG, Qp, dS, dW, dV, dT, dN, dM, dO, dL, dI, cY, if_true, if_false, Qm, Qs, Qn, Qo, Qr, Qq, Ql, Qk, cR, cP, cD, bT, cV, dJ, bX, bW, cS, cM, cK, dD, cN, dB, dC, dX, cZ, cC, bE, bQ, aT, aA, aK, dE, aJ, cF, dF, dA, bN, aH, bB, aY, cL, aD, aX, aM, aV, cU, aW, cJ, bS, aC, aE, aL, dP, aP, aN, bC, aR, cI, aF, bZ, bU, bL, bD, bA, cX, aI, bM, aS, aU, aQ, aG, dG, cO, bO, aO, cW, bV, bY, cG, bP, bR, bK, cH, bF, cB, aZ, bJ, bH, bG, cA]
 refine (NF w).mono ?_
 rintro r w1 ⟨rfl, h1, x1⟩
 have hnb : ¬ Gv v (fun x => x = w.heap.size) := by
  intro hb
  refine hv.old ?_
  unfold Gv at *
  split at hb
  .omega
  .exact hb
 have hv1 := hv.ext x1 (by unfold Gv kY; split <;> simp)
 refine (LG _ [] L (by simpa using hlen) v w1 h1 hv1 hnb).mono ?_
 rintro r w2 ⟨rfl, h2, x2⟩
 refine (Nz _ L hlen w2 h2).mono ?_
 rintro r w3 ⟨rfl, x3⟩
 exact ⟨rfl, (x1.new x2 (QD _)).seq x3⟩
end Go.Proofs.YthohephggmkeeaaDoor

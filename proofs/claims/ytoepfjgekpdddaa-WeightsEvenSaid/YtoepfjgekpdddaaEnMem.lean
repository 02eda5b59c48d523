/- The engine: memory. A block that is known whole and may be written; what is left as it was; the operations on such blocks. -/
import Derived.Test.YtoepfjgekpdddaaEnOps
namespace Go.En
open Go

/-- Block b holds just these cells, and none of them is frozen. -/
def Own (w : World) (b : Nat) (cs : List Value) : Prop :=
  ∃ T lo hi, w.heap[b]? = some (.cells cs.toArray T (lo, hi)) ∧ (cs.length ≤ lo ∨ hi = lo)

/-- w' is w, but for the blocks of M and new ones. -/
structure Ext (w w' : World) (M : Nat → Prop) : Prop where
  os : w'.os = w.os
  tape : w'.tape = w.tape
  output : w'.output = w.output
  size : w.heap.size ≤ w'.heap.size
  keep : ∀ b, b < w.heap.size → ¬ M b → w'.heap[b]? = w.heap[b]?

def nob : Nat → Prop := fun _ => False

theorem Ext.refl (w : World) (M : Nat → Prop) : Ext w w M := ⟨rfl, rfl, rfl, Nat.le_refl _, fun _ _ _ => rfl⟩
theorem Ext.mono {w w' : World} {M N : Nat → Prop} (h : Ext w w' M) (hm : ∀ b, b < w.heap.size → M b → N b) : Ext w w' N :=
  ⟨h.os, h.tape, h.output, h.size, fun b hb hn => h.keep b hb fun hM => hn (hm b hb hM)⟩
theorem Ext.trans {a b c : World} {M N : Nat → Prop} (h : Ext a b M) (k : Ext b c N) (hn : ∀ x, x < a.heap.size → N x → M x) : Ext a c M :=
  ⟨k.os.trans h.os, k.tape.trans h.tape, k.output.trans h.output, Nat.le_trans h.size k.size,
    fun x hx hM => (k.keep x (Nat.lt_of_lt_of_le hx h.size) fun h => hM (hn x hx h)).trans (h.keep x hx hM)⟩
theorem Ext.seq {a b c : World} {M : Nat → Prop} (h : Ext a b M) (k : Ext b c M) : Ext a c M := h.trans k fun _ _ h => h
/-- a step that writes a block newer than the first world's -/
theorem Ext.new {a b c : World} {M : Nat → Prop} {x : Nat} (h : Ext a b M) (k : Ext b c (fun y => y = x)) (hx : a.heap.size ≤ x) : Ext a c M :=
  h.trans k fun y hy e => absurd hy (by subst e; omega)
/-- a step that makes new blocks only -/
theorem Ext.more {a b c : World} {M : Nat → Prop} (h : Ext a b M) (k : Ext b c (fun _ => False)) : Ext a c M := h.trans k fun _ _ h => h.elim
theorem Ext.below {w w' : World} (h : Ext w w' nob) : Go.RowKit.Below w.heap.size w w' :=
  ⟨h.os, h.tape, h.output, h.size, fun k hk => h.keep k hk fun h => h⟩
theorem Ext.dr (w : World) (M : Nat → Prop) : Ext w (dr w) M := ⟨rfl, rfl, rfl, Nat.le_refl _, fun _ _ _ => rfl⟩
theorem Ext.alloc (w : World) (o : Obj) (M : Nat → Prop) : Ext w (w.alloc o) M :=
  ⟨rfl, rfl, rfl, by simp, fun b hb _ => by show (w.heap.push o)[b]? = _; rw [Array.getElem?_push, if_neg (by omega)]⟩
theorem heap_setCell_ne (w : World) (a : Addr) (v : Value) (b : Nat) (h : b ≠ a.block) : (w.setCell a v).heap[b]? = w.heap[b]? := Go.RowKit.Below.heap_setCell w a v b h
theorem Ext.setCell (w : World) (a : Addr) (v : Value) {M : Nat → Prop} (h : a.block < w.heap.size → M a.block) : Ext w (w.setCell a v) M :=
  ⟨rfl, rfl, rfl, by simp, fun b hb hM => heap_setCell_ne w a v b fun e => hM (e ▸ h (e ▸ hb))⟩

theorem Own.lt {w : World} {b : Nat} {cs : List Value} (h : Own w b cs) : b < w.heap.size := by
  obtain ⟨T, lo, hi, h, _⟩ := h
  rcases Nat.lt_or_ge b w.heap.size with h' | h'
  · exact h'
  · rw [Array.getElem?_eq_none h'] at h; cases h
theorem Own.ext {w w' : World} {b : Nat} {cs : List Value} {M : Nat → Prop} (h : Own w b cs) (hx : Ext w w' M) (hM : ¬ M b) : Own w' b cs := by
  have := h.lt
  obtain ⟨T, lo, hi, h, k⟩ := h
  exact ⟨T, lo, hi, by rw [hx.keep b this hM]; exact h, k⟩
theorem Own.cell {w : World} {b off : Nat} {cs : List Value} (h : Own w b cs) : w.cell? ⟨b, off, none⟩ = cs[off]? := by
  obtain ⟨T, lo, hi, h, _⟩ := h
  simp [World.cell?, h]
theorem Own.free {w : World} {b off : Nat} {cs : List Value} {s : Option Nat} (h : Own w b cs) (ho : off < cs.length) : w.frozen? ⟨b, off, s⟩ = false := by
  obtain ⟨T, lo, hi, h, k⟩ := h
  simp only [World.frozen?, h]
  rcases k with k | k <;> (simp; omega)
theorem Own.setCell {w : World} {b off : Nat} {cs : List Value} (h : Own w b cs) (v : Value) : Own (w.setCell ⟨b, off, none⟩ v) b (cs.set off v) := by
  have hb := h.lt
  obtain ⟨T, lo, hi, h, k⟩ := h
  refine ⟨T, lo, hi, ?_, by simpa using k⟩
  simp only [World.setCell, Array.getElem?_modify, h]
  simp
theorem Own.alloc (w : World) (cs : List Value) (T : TypeId) : Own (w.alloc (.cells cs.toArray T)) w.heap.size cs :=
  ⟨T, 0, 0, by show (w.heap.push _)[w.heap.size]? = _; simp, .inr rfl⟩
theorem cell_ext {w w' : World} {M : Nat → Prop} {a : Addr} {v : Value} (h : w.cell? a = some v) (hx : Ext w w' M) (hM : ¬ M a.block) : w'.cell? a = some v := by
  have hb := World.block_lt_of_cell? w a h
  have e := hx.keep _ hb hM
  unfold World.cell? at h ⊢
  rw [e]; exact h

section
variable {P : Program} {w : World} {t : TypeId}

def agg? (d : TypeDesc) : Bool := match d with | .struct _ | .array _ _ => true | _ => false

theorem isAgg_run {d : TypeDesc} (hu : P.underlying t = some d) : (isAgg t).run P w = .ok (agg? d) w := by
  cases d <;> simp [isAgg, underlying, hu, agg?]
theorem sizeOf_run {i : TypeInfo} (hi : P.info? t = some i) : (sizeOf t).run P w = .ok i.size w := by simp [sizeOf, typeInfo, hi]

theorem loadCellsFrom_run {b off : Nat} {cs : List Value} (ho : Own w b cs) : ∀ (n i : Nat) (acc : Array Value), off + i + n ≤ cs.length →
    (loadCellsFrom ⟨b, off, none⟩ i n acc).run P w = .ok (acc ++ ((cs.drop (off + i)).take n).toArray) w := by
  intro n
  induction n with
  | zero => intro i acc _; simp [loadCellsFrom]
  | succ n ih =>
    intro i acc h
    have hc : w.cell? ((⟨b, off, none⟩ : Addr).add i) = some cs[off + i] := by
      unfold Addr.add
      split
      · rename_i hi; subst hi; rw [ho.cell]; simp
      · show w.cell? ⟨b, off + i, none⟩ = _; rw [ho.cell]; simp
    simp only [loadCellsFrom, Sem.run_bind, run_load, hc, Result.andThen_ok]
    rw [ih (i + 1) _ (by omega)]
    congr 1
    rw [List.drop_eq_getElem_cons (by omega : off + i < cs.length)]
    simp [Nat.add_assoc]

theorem loadCells_run {b off n : Nat} {cs : List Value} (ho : Own w b cs) (h : off + n ≤ cs.length) :
    (loadCells ⟨b, off, none⟩ n).run P w = .ok ((cs.drop off).take n).toArray w := by
  unfold loadCells
  rw [loadCellsFrom_run ho n 0 #[] (by omega)]
  simp

/-- A load out of a known block. -/
theorem r_loadO {d : TypeDesc} (hu : P.underlying t = some d) (hd : agg? d = false) {b off : Nat} {cs : List Value} (ho : Own w b cs) {v : Value} (h : cs[off]? = some v) :
    (sLoad t (.pointer (some ⟨b, off, none⟩))).run P w = .ok (.value v) w := by
  unfold sLoad
  rw [runV]
  simp only [Instr.loadAt, Instr.sureAddr, loadVar, pure_bind, Sem.run_bind, isAgg_run hu, hd, Result.andThen_ok, Bool.false_eq_true, if_false, run_load, ho.cell, h]

theorem r_loadA {d : TypeDesc} {i : TypeInfo} (hu : P.underlying t = some d) (hd : agg? d = true) (hi : P.info? t = some i) {b off : Nat} {cs : List Value} (ho : Own w b cs) (h : off + i.size ≤ cs.length) :
    (sLoad t (.pointer (some ⟨b, off, none⟩))).run P w = .ok (.value (.agg ((cs.drop off).take i.size).toArray)) w := by
  unfold sLoad
  rw [runV]
  simp only [Instr.loadAt, Instr.sureAddr, loadVar, pure_bind, Sem.run_bind, isAgg_run hu, hd, Result.andThen_ok, if_true, sizeOf_run hi, loadCells_run ho h, Sem.run_pure]

def one (v : Value) : Bool := match v with | .agg _ | .tuple _ => false | _ => true

theorem run_store1 {a : Addr} {v x : Value} (hv : one v = true) (hc : w.cell? a = some x) (hf : w.frozen? a = false) : (store a v).run P w = .ok () (w.setCell a v) := by
  unfold store
  cases v <;> simp [one] at hv <;> simp [Sem.run, hc, hf]

/-- cells written over a known block -/
def setAll (cs : List Value) (off : Nat) : List Value → List Value
  | [] => cs
  | v :: vs => setAll (cs.set off v) (off + 1) vs

theorem setAll_length (vs : List Value) : ∀ (cs : List Value) (off : Nat), (setAll cs off vs).length = cs.length := by
  induction vs with
  | nil => intro cs off; rfl
  | cons v vs ih => intro cs off; simp [setAll, ih]

theorem storeCells_run {b : Nat} {M : Nat → Prop} (hM : M b) : ∀ (vs : List Value) (w : World) (off i : Nat) (cs : List Value), Own w b cs → off + i + vs.length ≤ cs.length → (∀ v ∈ vs, one v = true) →
    ∃ w', (storeCells ⟨b, off, none⟩ vs i).run P w = .ok () w' ∧ Own w' b (setAll cs (off + i) vs) ∧ Ext w w' M ∧ w'.heap.size = w.heap.size ∧ w'.drawn = w.drawn := by
  intro vs
  induction vs with
  | nil => intro w off i cs ho _ _; exact ⟨w, by simp [storeCells], ho, Ext.refl _ _, rfl, rfl⟩
  | cons v vs ih =>
    intro w off i cs ho h hv
    simp only [List.length_cons] at h
    have ha : (⟨b, off, none⟩ : Addr).add i = ⟨b, off + i, none⟩ := by
      unfold Addr.add; split
      · rename_i hi; subst hi; rfl
      · rfl
    have hlt : off + i < cs.length := by omega
    have hc : w.cell? ⟨b, off + i, none⟩ = some cs[off + i] := by rw [ho.cell]; simp
    have hs := run_store1 (P := P) (hv v (by simp)) hc (ho.free hlt)
    obtain ⟨w', h1, h2, h3, h4, h5⟩ := ih (w.setCell ⟨b, off + i, none⟩ v) off (i + 1) (cs.set (off + i) v) (ho.setCell v) (by simp; omega) (fun x hx => hv x (List.mem_cons_of_mem _ hx))
    refine ⟨w', ?_, h2, (Ext.setCell w _ v fun _ => hM).trans h3 (fun _ _ h => h), by rw [h4]; simp, by rw [h5]; rfl⟩
    simp only [storeCells, Sem.run_bind, ha, hs, Result.andThen_ok]
    exact h1

/-- A store into a known block. -/
theorem stp_store {i : TypeInfo} (hi : P.info? t = some i) {b off : Nat} {cs : List Value} (ho : Own w b cs) {v : Value} (hs : v.cells.size = i.size)
    (hv : ∀ x ∈ v.cells.toList, one x = true) (h : off + i.size ≤ cs.length) {K : Value → World → Prop}
    (hk : ∀ w', Own w' b (setAll cs off v.cells.toList) → Ext w w' (fun x => x = b) → w'.heap.size = w.heap.size → K undef w') : Stp P (sStore t (.pointer (some ⟨b, off, none⟩)) v) w K := by
  obtain ⟨w', h1, h2, h3, h4, _⟩ := storeCells_run (P := P) (M := fun x => x = b) rfl v.cells.toList w off 0 cs ho (by simp [hs]; omega) hv
  have : (sStore t (.pointer (some ⟨b, off, none⟩)) v).run P w = .ok .skip w' := by
    unfold sStore
    rw [runU]
    simp only [Instr.storeAt, Instr.sureAddr, storeVar, pure_bind, Sem.run_bind, sizeOf_run hi, Result.andThen_ok, hs]
    simp [h1]
  unfold Stp
  rw [this]
  exact hk w' h2 h3 h4

theorem one_cells {v : Value} (hv : one v = true) : v.cells = #[v] := by cases v <;> simp [one] at hv <;> rfl

theorem stp_store1 {i : TypeInfo} (hi : P.info? t = some i) (h1 : i.size = 1) {b off : Nat} {cs : List Value} (ho : Own w b cs) {v : Value} (hv : one v = true) (h : off < cs.length) {K : Value → World → Prop}
    (hk : ∀ w', Own w' b (cs.set off v) → Ext w w' (fun x => x = b) → w'.heap.size = w.heap.size → K undef w') : Stp P (sStore t (.pointer (some ⟨b, off, none⟩)) v) w K := by
  have e := one_cells hv
  refine stp_store hi ho (by rw [e, h1]; rfl) (by rw [e]; simpa using hv) (by omega) fun w' a b c => hk w' ?_ b c
  rw [e] at a; exact a

/-- A load, of whatever is there. -/
def ldC (c : Option Value) (w : World) (far : Result Next) : Result Next := match c with | some v => .ok (.value v) w | none => far
def far (P : Program) (t : TypeId) (x : Addr) (w : World) : Result Next := (sLoad t (.pointer (some x))).run P w
theorem ldC_some (v : Value) (w : World) (f : Result Next) : ldC (some v) w f = .ok (.value v) w := rfl
theorem r_ld {d : TypeDesc} (hu : P.underlying t = some d) (hd : agg? d = false) (x : Addr) (w : World) :
    (sLoad t (.pointer (some x))).run P w = ldC (w.cell? x) w (far P t x w) := by
  cases h : w.cell? x with
  | none => rfl
  | some v =>
    unfold sLoad
    rw [runV]
    simp only [Instr.loadAt, Instr.sureAddr, loadVar, pure_bind, Sem.run_bind, isAgg_run hu, hd, Result.andThen_ok, Bool.false_eq_true, if_false, run_load, h, ldC]

theorem ldR_agg {d : TypeDesc} {i : TypeInfo} (hu : P.underlying t = some d) (hd : agg? d = true) (hi : P.info? t = some i) {b off : Nat} {cs : List Value} (ho : Own w b cs) (h : off + i.size ≤ cs.length) {K : Value → Prop}
    (hk : K (.agg ((cs.drop off).take i.size).toArray)) : LdR P t (.pointer (some ⟨b, off, none⟩)) w K := by
  refine ⟨_, ?_, hk⟩
  simp only [asAddr, loadVar, pure_bind, Sem.run_bind, isAgg_run hu, hd, Result.andThen_ok, if_true, sizeOf_run hi, loadCells_run ho h, Sem.run_pure]
theorem ldR_one {d : TypeDesc} (hu : P.underlying t = some d) (hd : agg? d = false) {b off : Nat} {cs : List Value} (ho : Own w b cs) {v : Value} (h : cs[off]? = some v) {K : Value → Prop}
    (hk : K v) : LdR P t (.pointer (some ⟨b, off, none⟩)) w K := by
  refine ⟨_, ?_, hk⟩
  simp only [asAddr, loadVar, pure_bind, Sem.run_bind, isAgg_run hu, hd, Result.andThen_ok, Bool.false_eq_true, if_false, run_load, ho.cell, h]

/-- A new variable. -/
theorem stp_box {v : Value} {K : Value → World → Prop} (hk : ∀ w', Own w' w.heap.size v.cells.toList → Ext w w' nob → w'.heap.size = w.heap.size + 1 → K (.pointer (some ⟨w.heap.size, 0, none⟩)) w') :
    Stp P (sBox t v) w K := by
  have : (sBox t v).run P w = .ok (.value (.pointer (some ⟨w.heap.size, 0, none⟩))) (w.alloc (.cells v.cells.toList.toArray t)) := by
    unfold sBox; rw [runV]
    simp [Instr.box, newVar, newRow]
  unfold Stp
  rw [this]
  exact hk _ (Own.alloc _ _ _) (Ext.alloc _ _ _) (by simp)

theorem stp_alloc {i : TypeInfo} {z : Value} (hi : P.info? t = some i) (hz : i.zero = some z) {K : Value → World → Prop}
    (hk : ∀ w', Own w' w.heap.size z.cells.toList → Ext w w' nob → w'.heap.size = w.heap.size + 1 → K (.pointer (some ⟨w.heap.size, 0, none⟩)) w') :
    Stp P (sAlloc t) w K := by
  have : (sAlloc t).run P w = .ok (.value (.pointer (some ⟨w.heap.size, 0, none⟩))) (w.alloc (.cells z.cells.toList.toArray t)) := by
    unfold sAlloc; rw [runV]
    simp [Instr.alloc, zeroValue, typeInfo, hi, hz, newVar, newRow]
  unfold Stp
  rw [this]
  exact hk _ (Own.alloc _ _ _) (Ext.alloc _ _ _) (by simp)
end

/- slicing -/
theorem bound_run {P : Program} {w : World} {k : IntKind} {a : Int} {y : Nat} {code : BoundsCode} (h0 : 0 ≤ a) (h1 : a ≤ y) : (Instr.sliceBound (.int k a) y code).run P w = .ok a.toNat w := by
  simp [Instr.sliceBound, asIntOf, h0, h1]

section
variable {P : Program} {w : World} {t e : TypeId} {k k' : IntKind} {lo hi : Int} {i : TypeInfo}
def shift? (x : Option Addr) (m l sz : Nat) : Option Addr := if m = l then x else x.map (·.add (l * sz))
theorem r_slice_lo (hu : P.underlying t = some (.slice e)) (hi' : P.info? e = some i) (x : Option Addr) (n c : Nat) (h0 : 0 ≤ lo) (h1 : lo ≤ n) :
    (sSlice t (.slice x n c) (some (.int k lo)) none none).run P w = .ok (.value (.slice (shift? x c lo.toNat i.size) (n - lo.toNat) (c - lo.toNat))) w := by
  simp only [sSlice, runV, Instr.sliceAt, underlying, hu, Sem.run_bind, run_program, Result.andThen_ok, Sem.run_pure, Instr.slice, Instr.sliceBounds, pure_bind, bound_run h0 h1, sizeOf_run hi', shift?]
theorem r_slice_hi (hu : P.underlying t = some (.slice e)) (hi' : P.info? e = some i) (x : Option Addr) (n c : Nat) (h0 : 0 ≤ hi) (h1 : hi ≤ c) :
    (sSlice t (.slice x n c) none (some (.int k hi)) none).run P w = .ok (.value (.slice (shift? x c 0 i.size) (hi.toNat - 0) (c - 0))) w := by
  simp only [sSlice, runV, Instr.sliceAt, underlying, hu, Sem.run_bind, run_program, Result.andThen_ok, Sem.run_pure, Instr.slice, Instr.sliceBounds, pure_bind, bound_run h0 h1, sizeOf_run hi', shift?]
theorem r_slice_lohi (hu : P.underlying t = some (.slice e)) (hi' : P.info? e = some i) (x : Option Addr) (n c : Nat) (h0 : 0 ≤ lo) (h1 : lo ≤ hi) (h2 : hi ≤ c) :
    (sSlice t (.slice x n c) (some (.int k lo)) (some (.int k' hi)) none).run P w = .ok (.value (.slice (shift? x c lo.toNat i.size) (hi.toNat - lo.toNat) (c - lo.toNat))) w := by
  have h3 : (0 : Int) ≤ hi := by omega
  have h4 : lo ≤ (hi.toNat : Int) := by omega
  simp only [sSlice, runV, Instr.sliceAt, underlying, hu, Sem.run_bind, run_program, Result.andThen_ok, Sem.run_pure, Instr.slice, Instr.sliceBounds, pure_bind, bound_run h3 h2, bound_run h0 h4, sizeOf_run hi', shift?]
theorem r_sliceT_lo (hu : P.underlying t = some .string) (x : ByteArray) (h0 : 0 ≤ lo) (h1 : lo ≤ x.size) :
    (sSlice t (.string x) (some (.int k lo)) none none).run P w = .ok (.value (.string (x.extract lo.toNat x.size))) w := by
  simp only [sSlice, runV, Instr.sliceAt, underlying, hu, Sem.run_bind, run_program, Result.andThen_ok, Sem.run_pure, Instr.slice, Instr.sliceBounds, pure_bind, Option.isSome_none, Bool.false_eq_true, if_false, bound_run h0 h1]
theorem r_sliceT_hi (hu : P.underlying t = some .string) (x : ByteArray) (h0 : 0 ≤ hi) (h1 : hi ≤ x.size) :
    (sSlice t (.string x) none (some (.int k hi)) none).run P w = .ok (.value (.string (x.extract 0 hi.toNat))) w := by
  simp only [sSlice, runV, Instr.sliceAt, underlying, hu, Sem.run_bind, run_program, Result.andThen_ok, Sem.run_pure, Instr.slice, Instr.sliceBounds, pure_bind, Option.isSome_none, Bool.false_eq_true, if_false, bound_run h0 h1]
theorem r_sliceT_lohi (hu : P.underlying t = some .string) (x : ByteArray) (h0 : 0 ≤ lo) (h1 : lo ≤ hi) (h2 : hi ≤ x.size) :
    (sSlice t (.string x) (some (.int k lo)) (some (.int k' hi)) none).run P w = .ok (.value (.string (x.extract lo.toNat hi.toNat))) w := by
  have h3 : (0 : Int) ≤ hi := by omega
  have h4 : lo ≤ (hi.toNat : Int) := by omega
  simp only [sSlice, runV, Instr.sliceAt, underlying, hu, Sem.run_bind, run_program, Result.andThen_ok, Sem.run_pure, Instr.slice, Instr.sliceBounds, pure_bind, Option.isSome_none, Bool.false_eq_true, if_false, bound_run h3 h2, bound_run h0 h4]
def shiftA (a : Addr) (m l sz : Nat) : Addr := if m = l then a else a.add (l * sz)
theorem r_sliceA_lo {n : Nat} (hu : P.underlying t = some (.array n e)) (hi' : P.info? e = some i) (x : Addr) (h0 : 0 ≤ lo) (h1 : lo ≤ n) :
    (sSlice t (.pointer (some x)) (some (.int k lo)) none none).run P w = .ok (.value (.slice (some (shiftA x n lo.toNat i.size)) (n - lo.toNat) (n - lo.toNat))) w := by
  simp only [sSlice, runV, Instr.sliceAt, Instr.sureAddr, underlying, hu, Sem.run_bind, run_program, Result.andThen_ok, Sem.run_pure, Instr.sliceBounds, pure_bind, bound_run h0 h1, sizeOf_run hi', shiftA]
theorem r_sliceA_hi {n : Nat} (hu : P.underlying t = some (.array n e)) (hi' : P.info? e = some i) (x : Addr) (h0 : 0 ≤ hi) (h1 : hi ≤ n) :
    (sSlice t (.pointer (some x)) none (some (.int k hi)) none).run P w = .ok (.value (.slice (some (shiftA x n 0 i.size)) (hi.toNat - 0) (n - 0))) w := by
  simp only [sSlice, runV, Instr.sliceAt, Instr.sureAddr, underlying, hu, Sem.run_bind, run_program, Result.andThen_ok, Sem.run_pure, Instr.sliceBounds, pure_bind, bound_run h0 h1, sizeOf_run hi', shiftA]
theorem r_sliceA_all {n : Nat} (hu : P.underlying t = some (.array n e)) (hi' : P.info? e = some i) (x : Addr) :
    (sSlice t (.pointer (some x)) none none none).run P w = .ok (.value (.slice (some (shiftA x n 0 i.size)) (n - 0) (n - 0))) w := by
  simp only [sSlice, runV, Instr.sliceAt, Instr.sureAddr, underlying, hu, Sem.run_bind, run_program, Result.andThen_ok, Sem.run_pure, Instr.sliceBounds, pure_bind, sizeOf_run hi', shiftA]
theorem r_sliceA_lohi {n : Nat} (hu : P.underlying t = some (.array n e)) (hi' : P.info? e = some i) (x : Addr) (h0 : 0 ≤ lo) (h1 : lo ≤ hi) (h2 : hi ≤ n) :
    (sSlice t (.pointer (some x)) (some (.int k lo)) (some (.int k' hi)) none).run P w = .ok (.value (.slice (some (shiftA x n lo.toNat i.size)) (hi.toNat - lo.toNat) (n - lo.toNat))) w := by
  have h3 : (0 : Int) ≤ hi := by omega
  have h4 : lo ≤ (hi.toNat : Int) := by omega
  simp only [sSlice, runV, Instr.sliceAt, Instr.sureAddr, underlying, hu, Sem.run_bind, run_program, Result.andThen_ok, Sem.run_pure, Instr.sliceBounds, pure_bind, bound_run h3 h2, bound_run h0 h4, sizeOf_run hi', shiftA]
end

/- SLICES. -/
/-- v is a slice that reads as l. -/
def Sl (w : World) (v : Value) (l : List Value) : Prop :=
  ∃ a n c, v = .slice a n c ∧ n = l.length ∧ n ≤ c ∧ (0 < n → ∃ b off, a = some ⟨b, off, none⟩ ∧ ∀ i, i < n → w.cell? ⟨b, off + i, none⟩ = l[i]?)

/-- the block of a slice, if it has one -/
def inB (v : Value) (M : Nat → Prop) : Prop := match v with | .slice (some a) (_ + 1) _ => M a.block | _ => False

theorem Sl.ext {w w' : World} {v : Value} {l : List Value} {M : Nat → Prop} (h : Sl w v l) (hx : Ext w w' M) (hM : ¬ inB v M) : Sl w' v l := by
  obtain ⟨a, n, c, rfl, hn, hc, h⟩ := h
  refine ⟨a, n, c, rfl, hn, hc, fun h0 => ?_⟩
  obtain ⟨b, off, rfl, h2⟩ := h h0
  refine ⟨b, off, rfl, fun i hi => ?_⟩
  have h1 := h2 i hi
  obtain ⟨v, hv⟩ : ∃ v, l[i]? = some v := ⟨l[i], by simp⟩
  rw [hv] at h1 ⊢
  refine cell_ext h1 hx ?_
  obtain ⟨m, rfl⟩ : ∃ m, n = m + 1 := ⟨n - 1, by omega⟩
  exact hM

/-- the blocks that a slice lies in are old ones -/
theorem Sl.old {w : World} {v : Value} {l : List Value} (h : Sl w v l) : ¬ inB v (fun b => w.heap.size ≤ b) := by
  obtain ⟨a, n, c, rfl, hn, hc, h⟩ := h
  unfold inB
  split
  · rename_i x m _ e
    obtain ⟨rfl, rfl, rfl⟩ : a = some x ∧ n = m + 1 ∧ c = _ := by simpa using e
    obtain ⟨b, off, e, h2⟩ := h (by omega)
    have e := Option.some.inj e; subst e
    have h1 := h2 0 (by omega)
    obtain ⟨v, hv⟩ : ∃ v, l[0]? = some v := ⟨l[0], by simp⟩
    rw [hv] at h1
    have := World.block_lt_of_cell? _ _ h1
    simp at this ⊢; omega
  · simp

def b2v (x : UInt8) : Value := .int .u8 x.toNat
abbrev Bs (w : World) (v : Value) (l : List UInt8) : Prop := Sl w v (l.map b2v)

end Go.En

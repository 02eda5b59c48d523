/- Parts of the proof of SequencesWrites: merged and given short names by a program of ours. -/
import Derived.Laws.IdiomStrings
import Derived.Test.YtaggdjhhmbnhoaaDoorSvB
set_option linter.unusedVariables false
set_option linter.unusedSimpArgs false
open Array renaming getElem?_eq_none → aKN, length_toList → aKh
open Bool renaming false_eq_true → aI5, not_false → aJT, and_eq_true → aJn, not_true → aJx, or_eq_false_iff → aKV
open Int renaming toNat_natCast → aIY, tdiv_eq_ediv_of_nonneg → aJs, tmod_eq_emod_of_nonneg → aJt, fdiv_eq_ediv_of_nonneg → aKF
open List renaming getElem?_cons_zero → aI0, getElem?_cons_succ → aI1, set_cons_zero → aI2, set_cons_succ → aI3, drop_zero → aI4, take_zero → aI6, getElem?_eq_getElem → aI7, length_append → aI8, take_succ_cons → aIX, ext_getElem → aJ2, replicate_succ → aJ3, cons_append → aJ9, getElem_map → aJB, drop_eq_getElem_cons → aJC, take_add_one → aJE, getElem?_take_of_lt → aJF, getElem?_append_right → aJG, map_append → aJJ, drop_succ_cons → aJK, nil_append → aJM, mem_range → aJN, mem_map → aJO, append_nil → aJP, mem_cons → aJQ, mem_of_getElem? → aJX, getElem_range → aJY, length_map → aJb, append_assoc → aJc, getElem?_append_left → aJd, getD_eq_getElem?_getD → aJe, length_take → aJg, getElem_mem → aJh, mem_cons_of_mem → aJi, getElem?_eq_none → aJk, length_cons → aJo, getElem?_map → aJq, length_eq_zero_iff → aJr, length_drop → aJu, take_of_length_le → aJw, getElem_of_mem → aJy, range_succ → aK0, length_erase_of_mem → aK4, map_replicate → aK7, drop_left → aK9, take_length → aKA, getElem_cons_zero → aKB, map_set → aKD, set_append_right → aKE, length_range → aKH, getLast?_eq_getElem? → aKI, count_singleton → aKJ, getElem?_replicate → aKL, length_set → aKM, getElem_set_self → aKS, getElem_set → aKW, map_take → aKX, getElem?_range → aKZ, drop_of_length_le → aKa, count_append → aKb, getElem?_toArray → aKc, getElem?_drop → aKe, mem_append → aKk, length_singleton → aKl, map_congr_left → aKp, toList_toArray → aKq, take_append_drop → aKs, count_cons → aKw, set_append_left → aKx, map_cons → aKz, ext_getElem? → aLa, getElem_cons_succ → aLb, getElem_replicate → aLc, map_drop → aLf, mem_filter → aLi
open Nat renaming le_refl → aI9, zero_add → aIZ, add_mul → aJ4, le_trans → aJ7, mul_comm → aJ8, mod_eq_of_lt → aJA, mul_le_mul_right → aJH, min_eq_left → aJS, eq_zero_or_pos → aJU, add_zero → aJV, add_sub_cancel → aJZ, pow_le_pow_right → aJa, lt_or_ge → aJl, pow_succ → aJp, two_pow_pos → aJv, div_le_self → aK1, succ_mul → aK5, sub_zero → aK6, sub_self → aKC, mul_one → aKO, pow_add → aKP, div_div_eq_div_mul → aKQ, le_div_iff_mul_le → aKT, div_mul_le_self → aKY, testBit_eq_decide_div_mod_eq → aKg, mod_lt → aKj, add_assoc → aKn, div_lt_iff_lt_mul → aKt, lt_trichotomy → aKy
open Option renaming map_some → aJL, isNone_some → aJm, isNone_none → aKu
open Option.some renaming inj → aJj
open UInt8 renaming toNat_lt → aJz
namespace Go.En
open Go
def cM (w : aLl) (b : Nat) (cs : List aLm) : Prop :=
 ∃ T lo hi, w.heap[b]? = some (.cells cs.toArray T (lo, hi)) /\ (cs.length <= lo ∨ hi = lo)
structure aS (w w' : aLl) (M : Nat -> Prop) : Prop where
 os : w'.os = w.os
 tape : w'.tape = w.tape
 output : w'.output = w.output
 size : w.heap.size <= w'.heap.size
 keep : ∀ b, b < w.heap.size -> ¬ M b -> w'.heap[b]? = w.heap[b]?
def cI : Nat -> Prop := fun _ => False
theorem aS.refl (w : aLl) (M : Nat -> Prop) : aS w w M := ⟨rfl, rfl, rfl, aI9 _, fun _ _ _ => rfl⟩
theorem aS.mono {w w' : aLl} {M N : Nat -> Prop} (h : aS w w' M) (hm : ∀ b, b < w.heap.size -> M b -> N b) : aS w w' N :=
 ⟨h.os, h.tape, h.output, h.size, fun b hb hn => h.keep b hb fun hM => hn (hm b hb hM)⟩
theorem aS.trans {a b c : aLl} {M N : Nat -> Prop} (h : aS a b M) (k : aS b c N) (hn : ∀ x, x < a.heap.size -> N x -> M x) : aS a c M :=
 ⟨k.os.trans h.os, k.tape.trans h.tape, k.output.trans h.output, aJ7 h.size k.size,
   fun x hx hM => (k.keep x (Nat.lt_of_lt_of_le hx h.size) fun h => hM (hn x hx h)).trans (h.keep x hx hM)⟩
theorem aS.seq {a b c : aLl} {M : Nat -> Prop} (h : aS a b M) (k : aS b c M) : aS a c M := h.trans k fun _ _ h => h
theorem aS.new {a b c : aLl} {M : Nat -> Prop} {x : Nat} (h : aS a b M) (k : aS b c (fun y => y = x)) (hx : a.heap.size <= x) : aS a c M :=
 h.trans k fun y hy e => absurd hy (by subst e; omega)
theorem aS.more {a b c : aLl} {M : Nat -> Prop} (h : aS a b M) (k : aS b c (fun _ => False)) : aS a c M := h.trans k fun _ _ h => h.elim
theorem aS.below {w w' : aLl} (h : aS w w' cI) : Go.RowKit.Below w.heap.size w w' :=
 ⟨h.os, h.tape, h.output, h.size, fun k hk => h.keep k hk fun h => h⟩
theorem aS.dr (w : aLl) (M : Nat -> Prop) : aS w (dr w) M := ⟨rfl, rfl, rfl, aI9 _, fun _ _ _ => rfl⟩
theorem aS.alloc (w : aLl) (o : Obj) (M : Nat -> Prop) : aS w (w.alloc o) M :=
 ⟨rfl, rfl, rfl, by simp, fun b hb _ => by show (w.heap.push o)[b]? = _; rw [Array.getElem?_push, if_neg (by omega)]⟩
theorem anY (w : aLl) (a : Addr) (v : aLm) (b : Nat) (h : b ≠ a.block) : (w.setCell a v).heap[b]? = w.heap[b]? := Go.RowKit.Below.heap_setCell w a v b h
theorem aS.setCell (w : aLl) (a : Addr) (v : aLm) {M : Nat -> Prop} (h : a.block < w.heap.size -> M a.block) : aS w (w.setCell a v) M :=
 ⟨rfl, rfl, rfl, by simp, fun b hb hM => anY w a v b fun e => hM (e ▸ h (e ▸ hb))⟩
theorem cM.lt {w : aLl} {b : Nat} {cs : List aLm} (h : cM w b cs) : b < w.heap.size := by
 obtain ⟨T, lo, hi, h, _⟩ := h
 rcases aJl b w.heap.size with h' | h'
 .exact h'
 .rw [aKN h'] at h; cases h
theorem cM.ext {w w' : aLl} {b : Nat} {cs : List aLm} {M : Nat -> Prop} (h : cM w b cs) (hx : aS w w' M) (hM : ¬ M b) : cM w' b cs := by
 have := h.lt
 obtain ⟨T, lo, hi, h, k⟩ := h
 exact ⟨T, lo, hi, by rw [hx.keep b this hM]; exact h, k⟩
theorem cM.cell {w : aLl} {b off : Nat} {cs : List aLm} (h : cM w b cs) : w.cell? ⟨b, off, none⟩ = cs[off]? := by
 obtain ⟨T, lo, hi, h, _⟩ := h
 simp [World.cell?, h]
theorem cM.free {w : aLl} {b off : Nat} {cs : List aLm} {s : Option Nat} (h : cM w b cs) (ho : off < cs.length) : w.frozen? ⟨b, off, s⟩ = false := by
 obtain ⟨T, lo, hi, h, k⟩ := h
 simp only [World.frozen?, h]
 rcases k with k | k <;> (simp; omega)
theorem cM.setCell {w : aLl} {b off : Nat} {cs : List aLm} (h : cM w b cs) (v : aLm) : cM (w.setCell ⟨b, off, none⟩ v) b (cs.set off v) := by
 have hb := h.lt
 obtain ⟨T, lo, hi, h, k⟩ := h
 refine ⟨T, lo, hi, ?_, by simpa using k⟩
 simp only [World.setCell, Array.getElem?_modify, h]
 simp
theorem cM.alloc (w : aLl) (cs : List aLm) (T : TypeId) : cM (w.alloc (.cells cs.toArray T)) w.heap.size cs :=
 ⟨T, 0, 0, by show (w.heap.push _)[w.heap.size]? = _; simp, .inr rfl⟩
theorem Ut {w w' : aLl} {M : Nat -> Prop} {a : Addr} {v : aLm} (h : w.cell? a = some v) (hx : aS w w' M) (hM : ¬ M a.block) : w'.cell? a = some v := by
 have hb := World.block_lt_of_cell? w a h
 have e := hx.keep _ hb hM
 unfold World.cell? at h ⊢
 rw [e]; exact h
section
variable {P : Program} {w : aLl} {t : TypeId}
def ayA (d : TypeDesc) : Bool := match d with | .struct _ | .array _ _ => true | _ => false
theorem PV {d : TypeDesc} (hu : P.underlying t = some d) : (isAgg t).run P w = .ok (ayA d) w := by
 cases d <;> simp [isAgg, underlying, hu, ayA]
theorem iD {i : TypeInfo} (hi : P.info? t = some i) : (sizeOf t).run P w = .ok i.size w := by simp [sizeOf, typeInfo, hi]
theorem ZL {b off : Nat} {cs : List aLm} (ho : cM w b cs) : ∀ (n i : Nat) (acc : Array aLm), off + i + n <= cs.length →
 (loadCellsFrom ⟨b, off, none⟩ i n acc).run P w = .ok (acc ++ ((cs.drop (off + i)).take n).toArray) w := by
 intro n
 induction n with
 | zero => intro i acc _; simp [loadCellsFrom]
 | succ n ih =>
   intro i acc h
   have hc : w.cell? ((⟨b, off, none⟩ : Addr).add i) = some cs[off + i] := by
    unfold Addr.add
    split
    .rename_i hi; subst hi; rw [ho.cell]; simp
    .show w.cell? ⟨b, off + i, none⟩ = _; rw [ho.cell]; simp
   simp only [loadCellsFrom, Sem.run_bind, run_load, hc, Result.andThen_ok]
   rw [ih (i + 1) _ (by omega)]
   congr 1
   rw [aJC (by omega : off + i < cs.length)]
   simp [aKn]
theorem W1 {b off n : Nat} {cs : List aLm} (ho : cM w b cs) (h : off + n <= cs.length) :
 (loadCells ⟨b, off, none⟩ n).run P w = .ok ((cs.drop off).take n).toArray w := by
 unfold loadCells
 rw [ZL ho n 0 #[] (by omega)]
 simp
theorem zW {d : TypeDesc} {i : TypeInfo} (hu : P.underlying t = some d) (hd : ayA d = true) (hi : P.info? t = some i) {b off : Nat} {cs : List aLm} (ho : cM w b cs) (h : off + i.size <= cs.length) :
 (aI t (.pointer (some ⟨b, off, none⟩))).run P w = .ok (.value (.agg ((cs.drop off).take i.size).toArray)) w := by
 unfold aI
 rw [sO]
 simp only [Instr.loadAt, Instr.sureAddr, loadVar, pure_bind, Sem.run_bind, PV hu, hd, Result.andThen_ok, if_true, iD hi, W1 ho h, Sem.run_pure]
def one (v : aLm) : Bool := match v with | .agg _ | .tuple _ => false | _ => true
theorem aAU {a : Addr} {v x : aLm} (hv : one v = true) (hc : w.cell? a = some x) (hf : w.frozen? a = false) : (store a v).run P w = .ok () (w.setCell a v) := by
 unfold store
 cases v <;> simp [one] at hv <;> simp [Sem.run, hc, hf]
def aV (cs : List aLm) (off : Nat) : List aLm -> List aLm
 | [] => cs
 | v :: vs => aV (cs.set off v) (off + 1) vs
theorem Mz {b : Nat} {M : Nat -> Prop} (hM : M b) : ∀ (vs : List aLm) (w : aLl) (off i : Nat) (cs : List aLm), cM w b cs -> off + i + vs.length <= cs.length -> (∀ v ∈ vs, one v = true) →
 ∃ w', (storeCells ⟨b, off, none⟩ vs i).run P w = .ok () w' /\ cM w' b (aV cs (off + i) vs) /\ aS w w' M /\ w'.heap.size = w.heap.size /\ w'.drawn = w.drawn := by
 intro vs
 induction vs with
 | nil => intro w off i cs ho _ _; exact ⟨w, by simp [storeCells], ho, aS.refl _ _, rfl, rfl⟩
 | cons v vs ih =>
   intro w off i cs ho h hv
   simp only [aJo] at h
   have ha : (⟨b, off, none⟩ : Addr).add i = ⟨b, off + i, none⟩ := by
    unfold Addr.add; split
    .rename_i hi; subst hi; rfl
    .rfl
   have hlt : off + i < cs.length := by omega
   have hc : w.cell? ⟨b, off + i, none⟩ = some cs[off + i] := by rw [ho.cell]; simp
   have hs := aAU (P := P) (hv v (by simp)) hc (ho.free hlt)
   obtain ⟨w', h1, h2, h3, h4, h5⟩ := ih (w.setCell ⟨b, off + i, none⟩ v) off (i + 1) (cs.set (off + i) v) (ho.setCell v) (by simp; omega) (fun x hx => hv x (aJi _ hx))
   refine ⟨w', ?_, h2, (aS.setCell w _ v fun _ => hM).trans h3 (fun _ _ h => h), by rw [h4]; simp, by rw [h5] <;> rfl⟩
   simp only [storeCells, Sem.run_bind, ha, hs, Result.andThen_ok]
   exact h1
theorem lZ {i : TypeInfo} (hi : P.info? t = some i) {b off : Nat} {cs : List aLm} (ho : cM w b cs) {v : aLm} (hs : v.cells.size = i.size)
 (hv : ∀ x ∈ v.cells.toList, one x = true) (h : off + i.size <= cs.length) {K : aLm -> aLl -> Prop}
 (hk : ∀ w', cM w' b (aV cs off v.cells.toList) -> aS w w' (fun x => x = b) -> w'.heap.size = w.heap.size -> K undef w') : aC P (aK t (.pointer (some ⟨b, off, none⟩)) v) w K := by
 obtain ⟨w', h1, h2, h3, h4, _⟩ := Mz (P := P) (M := fun x => x = b) rfl v.cells.toList w off 0 cs ho (by simp [hs]; omega) hv
 have : (aK t (.pointer (some ⟨b, off, none⟩)) v).run P w = .ok .skip w' := by
  unfold aK
  rw [aIE]
  simp only [Instr.storeAt, Instr.sureAddr, storeVar, pure_bind, Sem.run_bind, iD hi, Result.andThen_ok, hs]
  simp [h1]
 unfold aC
 rw [this]
 exact hk w' h2 h3 h4
theorem avA {v : aLm} (hv : one v = true) : v.cells = #[v] := by cases v <;> simp [one] at hv <;> rfl
theorem xU {i : TypeInfo} (hi : P.info? t = some i) (h1 : i.size = 1) {b off : Nat} {cs : List aLm} (ho : cM w b cs) {v : aLm} (hv : one v = true) (h : off < cs.length) {K : aLm -> aLl -> Prop}
 (hk : ∀ w', cM w' b (cs.set off v) -> aS w w' (fun x => x = b) -> w'.heap.size = w.heap.size -> K undef w') : aC P (aK t (.pointer (some ⟨b, off, none⟩)) v) w K := by
 have e := avA hv
 refine lZ hi ho (by rw [e, h1] <;> rfl) (by rw [e]; simpa using hv) (by omega) fun w' a b c => hk w' ?_ b c
 rw [e] at a; exact a
def ldC (c : Option aLm) (w : aLl) (far : Result Next) : Result Next := match c with | some v => .ok (.value v) w | none => far
def far (P : Program) (t : TypeId) (x : Addr) (w : aLl) : Result Next := (aI t (.pointer (some x))).run P w
theorem aG (v : aLm) (w : aLl) (f : Result Next) : ldC (some v) w f = .ok (.value v) w := rfl
theorem asA {d : TypeDesc} (hu : P.underlying t = some d) (hd : ayA d = false) (x : Addr) (w : aLl) :
 (aI t (.pointer (some x))).run P w = ldC (w.cell? x) w (far P t x w) := by
 cases h : w.cell? x with
 | none => rfl
 | some v =>
   unfold aI
   rw [sO]
   simp only [Instr.loadAt, Instr.sureAddr, loadVar, pure_bind, Sem.run_bind, PV hu, hd, Result.andThen_ok, aI5, if_false, run_load, h, ldC]
theorem D5 {d : TypeDesc} {i : TypeInfo} (hu : P.underlying t = some d) (hd : ayA d = true) (hi : P.info? t = some i) {b off : Nat} {cs : List aLm} (ho : cM w b cs) (h : off + i.size <= cs.length) {K : aLm -> Prop}
 (hk : K (.agg ((cs.drop off).take i.size).toArray)) : mW P t (.pointer (some ⟨b, off, none⟩)) w K := by
 refine ⟨_, ?_, hk⟩
 simp only [asAddr, loadVar, pure_bind, Sem.run_bind, PV hu, hd, Result.andThen_ok, if_true, iD hi, W1 ho h, Sem.run_pure]
theorem gA {v : aLm} {K : aLm -> aLl -> Prop} (hk : ∀ w', cM w' w.heap.size v.cells.toList -> aS w w' cI -> w'.heap.size = w.heap.size + 1 -> K (.pointer (some ⟨w.heap.size, 0, none⟩)) w') :
 aC P (sU t v) w K := by
 have : (sU t v).run P w = .ok (.value (.pointer (some ⟨w.heap.size, 0, none⟩))) (w.alloc (.cells v.cells.toList.toArray t)) := by
  unfold sU; rw [sO]
  simp [Instr.box, newVar, newRow]
 unfold aC
 rw [this]
 exact hk _ (cM.alloc _ _ _) (aS.alloc _ _ _) (by simp)
theorem lK {i : TypeInfo} {z : aLm} (hi : P.info? t = some i) (hz : i.zero = some z) {K : aLm -> aLl -> Prop}
 (hk : ∀ w', cM w' w.heap.size z.cells.toList -> aS w w' cI -> w'.heap.size = w.heap.size + 1 -> K (.pointer (some ⟨w.heap.size, 0, none⟩)) w') :
 aC P (bV t) w K := by
 have : (bV t).run P w = .ok (.value (.pointer (some ⟨w.heap.size, 0, none⟩))) (w.alloc (.cells z.cells.toList.toArray t)) := by
  unfold bV; rw [sO]
  simp [Instr.alloc, zeroValue, typeInfo, hi, hz, newVar, newRow]
 unfold aC
 rw [this]
 exact hk _ (cM.alloc _ _ _) (aS.alloc _ _ _) (by simp)
end
theorem A4 {P : Program} {w : aLl} {k : IntKind} {a : Int} {y : Nat} {code : BoundsCode} (h0 : 0 <= a) (h1 : a <= y) : (Instr.sliceBound (.int k a) y code).run P w = .ok a.toNat w := by
 simp [Instr.sliceBound, asIntOf, h0, h1]
section
variable {P : Program} {w : aLl} {t e : TypeId} {k k' : IntKind} {lo hi : Int} {i : TypeInfo}
def kL (x : Option Addr) (m l sz : Nat) : Option Addr := if m = l then x else x.map (·.add (l * sz))
theorem arM (hu : P.underlying t = some (.slice e)) (hi' : P.info? e = some i) (x : Option Addr) (n c : Nat) (h0 : 0 <= lo) (h1 : lo <= n) :
 (gB t (.slice x n c) (some (.int k lo)) none none).run P w = .ok (.value (.slice (kL x c lo.toNat i.size) (n - lo.toNat) (c - lo.toNat))) w := by
 simp only [gB, sO, Instr.sliceAt, underlying, hu, Sem.run_bind, run_program, Result.andThen_ok, Sem.run_pure, Instr.slice, Instr.sliceBounds, pure_bind, A4 h0 h1, iD hi', kL]
theorem R9 (hu : P.underlying t = some (.slice e)) (hi' : P.info? e = some i) (x : Option Addr) (n c : Nat) (h0 : 0 <= hi) (h1 : hi <= c) :
 (gB t (.slice x n c) none (some (.int k hi)) none).run P w = .ok (.value (.slice (kL x c 0 i.size) (hi.toNat - 0) (c - 0))) w := by
 simp only [gB, sO, Instr.sliceAt, underlying, hu, Sem.run_bind, run_program, Result.andThen_ok, Sem.run_pure, Instr.slice, Instr.sliceBounds, pure_bind, A4 h0 h1, iD hi', kL]
theorem axR (hu : P.underlying t = some (.slice e)) (hi' : P.info? e = some i) (x : Option Addr) (n c : Nat) (h0 : 0 <= lo) (h1 : lo <= hi) (h2 : hi <= c) :
 (gB t (.slice x n c) (some (.int k lo)) (some (.int k' hi)) none).run P w = .ok (.value (.slice (kL x c lo.toNat i.size) (hi.toNat - lo.toNat) (c - lo.toNat))) w := by
 have h3 : (0 : Int) <= hi := by omega
 have h4 : lo <= (hi.toNat : Int) := by omega
 simp only [gB, sO, Instr.sliceAt, underlying, hu, Sem.run_bind, run_program, Result.andThen_ok, Sem.run_pure, Instr.slice, Instr.sliceBounds, pure_bind, A4 h3 h2, A4 h0 h4, iD hi', kL]
theorem aAC (hu : P.underlying t = some .string) (x : ByteArray) (h0 : 0 <= lo) (h1 : lo <= x.size) :
 (gB t (.string x) (some (.int k lo)) none none).run P w = .ok (.value (.string (x.extract lo.toNat x.size))) w := by
 simp only [gB, sO, Instr.sliceAt, underlying, hu, Sem.run_bind, run_program, Result.andThen_ok, Sem.run_pure, Instr.slice, Instr.sliceBounds, pure_bind, Option.isSome_none, aI5, if_false, A4 h0 h1]
theorem azQ (hu : P.underlying t = some .string) (x : ByteArray) (h0 : 0 <= hi) (h1 : hi <= x.size) :
 (gB t (.string x) none (some (.int k hi)) none).run P w = .ok (.value (.string (x.extract 0 hi.toNat))) w := by
 simp only [gB, sO, Instr.sliceAt, underlying, hu, Sem.run_bind, run_program, Result.andThen_ok, Sem.run_pure, Instr.slice, Instr.sliceBounds, pure_bind, Option.isSome_none, aI5, if_false, A4 h0 h1]
def xX (a : Addr) (m l sz : Nat) : Addr := if m = l then a else a.add (l * sz)
theorem ayZ {n : Nat} (hu : P.underlying t = some (.array n e)) (hi' : P.info? e = some i) (x : Addr) (h0 : 0 <= hi) (h1 : hi <= n) :
 (gB t (.pointer (some x)) none (some (.int k hi)) none).run P w = .ok (.value (.slice (some (xX x n 0 i.size)) (hi.toNat - 0) (n - 0))) w := by
 simp only [gB, sO, Instr.sliceAt, Instr.sureAddr, underlying, hu, Sem.run_bind, run_program, Result.andThen_ok, Sem.run_pure, Instr.sliceBounds, pure_bind, A4 h0 h1, iD hi', xX]
theorem DG {n : Nat} (hu : P.underlying t = some (.array n e)) (hi' : P.info? e = some i) (x : Addr) :
 (gB t (.pointer (some x)) none none none).run P w = .ok (.value (.slice (some (xX x n 0 i.size)) (n - 0) (n - 0))) w := by
 simp only [gB, sO, Instr.sliceAt, Instr.sureAddr, underlying, hu, Sem.run_bind, run_program, Result.andThen_ok, Sem.run_pure, Instr.sliceBounds, pure_bind, iD hi', xX]
end
def Sl (w : aLl) (v : aLm) (l : List aLm) : Prop :=
 ∃ a n c, v = .slice a n c /\ n = l.length /\ n <= c /\ (0 < n -> ∃ b off, a = some ⟨b, off, none⟩ /\ ∀ i, i < n -> w.cell? ⟨b, off + i, none⟩ = l[i]?)
def inB (v : aLm) (M : Nat -> Prop) : Prop := match v with | .slice (some a) (_ + 1) _ => M a.block | _ => False
theorem Sl.ext {w w' : aLl} {v : aLm} {l : List aLm} {M : Nat -> Prop} (h : Sl w v l) (hx : aS w w' M) (hM : ¬ inB v M) : Sl w' v l := by
 obtain ⟨a, n, c, rfl, hn, hc, h⟩ := h
 refine ⟨a, n, c, rfl, hn, hc, fun h0 => ?_⟩
 obtain ⟨b, off, rfl, h2⟩ := h h0
 refine ⟨b, off, rfl, fun i hi => ?_⟩
 have h1 := h2 i hi
 obtain ⟨v, hv⟩ : ∃ v, l[i]? = some v := ⟨l[i], by simp⟩
 rw [hv] at h1 ⊢
 refine Ut h1 hx ?_
 obtain ⟨m, rfl⟩ : ∃ m, n = m + 1 := ⟨n - 1, by omega⟩
 exact hM
theorem Sl.old {w : aLl} {v : aLm} {l : List aLm} (h : Sl w v l) : ¬ inB v (fun b => w.heap.size <= b) := by
 obtain ⟨a, n, c, rfl, hn, hc, h⟩ := h
 unfold inB
 split
 .rename_i x m _ e
  obtain ⟨rfl, rfl, rfl⟩ : a = some x /\ n = m + 1 /\ c = _ := by simpa using e
  obtain ⟨b, off, e, h2⟩ := h (by omega)
  have e := aJj e; subst e
  have h1 := h2 0 (by omega)
  obtain ⟨v, hv⟩ : ∃ v, l[0]? = some v := ⟨l[0], by simp⟩
  rw [hv] at h1
  have := World.block_lt_of_cell? _ _ h1
  simp at this ⊢; omega
 .simp
def KY (x : UInt8) : aLm := .int .u8 x.toNat
abbrev Bs (w : aLl) (v : aLm) (l : List UInt8) : Prop := Sl w v (l.map KY)
theorem FU (b o n : Nat) : (⟨b, o, none⟩ : Addr).add n = ⟨b, o + n, none⟩ := by
 unfold Addr.add; split
 .rename_i h; subst h; rfl
 .rfl
section
variable {P : Program} {w : aLl} {t e : TypeId} {k : IntKind} {a : Int}
theorem afD {inf : TypeInfo} {sz : Nat} (hz : inf.size = sz) (hu : P.underlying t = some (.slice e)) (hi : P.info? e = some inf) (b o n c : Nat) (h0 : 0 <= a) (h1 : a < n) :
 (aY t (.slice (some ⟨b, o, none⟩) n c) (.int k a)).run P w = .ok (.value (.pointer (some ⟨b, o + a.toNat * sz, none⟩))) w := by
 rw [aAl hu hi _ n c h0 h1, FU, hz]
theorem VX {inf : TypeInfo} (hz : inf.size = 1) (hu : P.underlying t = some (.slice e)) (hi : P.info? e = some inf) (b o n c : Nat) (h0 : 0 <= a) (h1 : a < n) :
 (aY t (.slice (some ⟨b, o, none⟩) n c) (.int k a)).run P w = .ok (.value (.pointer (some ⟨b, o + a.toNat, none⟩))) w := by
 rw [aAl hu hi _ n c h0 h1, FU, hz, aKO]
theorem avJ {inf : TypeInfo} {sz len : Nat} (hz : inf.size = sz) (hu : P.underlying t = some (.array len e)) (hi : P.info? e = some inf) (b o : Nat) (h0 : 0 <= a) (h1 : a < (len : Int)) :
 (aY t (.pointer (some ⟨b, o, none⟩)) (.int k a)).run P w = .ok (.value (.pointer (some ⟨b, o + a.toNat * sz, none⟩))) w := by
 rw [aAa hu hi _ h0 h1, FU, hz]
theorem Kn {inf : TypeInfo} {len : Nat} (hz : inf.size = 1) (hu : P.underlying t = some (.array len e)) (hi : P.info? e = some inf) (b o : Nat) (h0 : 0 <= a) (h1 : a < (len : Int)) :
 (aY t (.pointer (some ⟨b, o, none⟩)) (.int k a)).run P w = .ok (.value (.pointer (some ⟨b, o + a.toNat, none⟩))) w := by
 rw [aAa hu hi _ h0 h1, FU, hz, aKO]
end
def nH (x : ByteArray) : List UInt8 := x.data.toList
theorem mM (x : ByteArray) : (nH x).length = x.size := by unfold nH; rw [aKh] <;> rfl
theorem Z3 (x : ByteArray) (i : Nat) (h : i < x.size) : x[i]'h = (nH x)[i]'(by rw [mM]; exact h) := rfl
theorem Nw (x : ByteArray) (a b : Nat) : nH (x.extract a b) = ((nH x).drop a).take (b - a) := by
 unfold nH; rw [ByteArray.data_extract, Array.toList_extract, List.extract_eq_take_drop]
theorem aBb (l : List UInt8) : nH ⟨l.toArray⟩ = l := rfl
theorem aB7 {x y : ByteArray} (h : nH x = nH y) : x = y := by
 cases x; cases y; unfold nH at h; congr; exact Array.toList_inj.1 h
section
variable {P : Program} {w : aLl} {s d e : TypeId}
theorem aET (hs : P.underlying s = some (.slice e)) (hd : P.underlying d = some .string) (he : P.underlying e = some (.int .u8)) {l : List UInt8} {v : aLm} (h : Bs w v l) :
 (gF s d v).run P w = .ok (.value (.string ⟨l.toArray⟩)) w := by
 obtain ⟨a, n, c, rfl, hn, hc, h⟩ := h
 simp only [aJb] at hn
 unfold gF
 rw [sO]
 have key : (convert s d (.slice a n c)).run P w = .ok (.string ⟨l.toArray⟩) w := by
  cases a with
  | none =>
    have hl : l = [] := by
     cases l with
     | nil => rfl
     | cons x l => obtain ⟨b, off, e, _⟩ := h (by rw [hn]; simp); cases e
    subst hl
    rw [run_convert_bytes_string w s d e none n c hs he hd]
    rfl
  | some x =>
    subst hn
    refine run_convert_bytes_back w s d e x c l hs he hd fun j hj => ?_
    obtain ⟨b, off, hx, h2⟩ := h (by omega)
    have hx := aJj hx
    subst hx
    rw [FU, h2 j hj]
    simp [KY, hj]
 rw [key] <;> rfl
end
theorem aBL (l : List UInt8) : ∀ x ∈ l.map KY, one x = true := by
 intro x hx
 obtain ⟨c, _, rfl⟩ := aJO.1 hx
 rfl
theorem aDD {b o m l sz : Nat} (h : l ≠ m) : xX ⟨b, o, none⟩ m l sz = ⟨b, o + l * sz, none⟩ := by
 unfold xX; rw [if_neg (fun e => h e.symm), FU]
theorem FI {b o m l : Nat} (h : l ≠ m) : xX ⟨b, o, none⟩ m l 1 = ⟨b, o + l, none⟩ := by rw [aDD h, aKO]
theorem Sl.drop {w : aLl} {b o n c : Nat} {l : List aLm} (h : Sl w (.slice (some ⟨b, o, none⟩) n c) l) {k : Nat} (hk : k <= n) :
 Sl w (.slice (kL (some ⟨b, o, none⟩) c k 1) (n - k) (c - k)) (l.drop k) := by
 obtain ⟨x, m, c', e, hm, hc, hh⟩ := h
 cases e
 refine ⟨_, _, _, rfl, by rw [aJu]; omega, by omega, fun h0 => ?_⟩
 obtain ⟨b', o', e, h2⟩ := hh (by omega)
 cases e
 have hne : ¬ c = k := by omega
 refine ⟨b, o + k, by unfold kL; rw [if_neg hne, aJL, FU, aKO], fun i hi => ?_⟩
 rw [aKn, h2 (k + i) (by omega), aKe]
theorem Sl.take {w : aLl} {b o n c : Nat} {l : List aLm} (h : Sl w (.slice (some ⟨b, o, none⟩) n c) l) {k : Nat} (hk : k <= n) :
 Sl w (.slice (kL (some ⟨b, o, none⟩) c 0 1) (k - 0) (c - 0)) (l.take k) := by
 obtain ⟨x, m, c', e, hm, hc, hh⟩ := h
 cases e
 refine ⟨_, _, _, rfl, by rw [aJg]; omega, by omega, fun h0 => ?_⟩
 obtain ⟨b', o', e, h2⟩ := hh (by omega)
 cases e
 have hne : ¬ c = 0 := by omega
 refine ⟨b, o, by unfold kL; rw [if_neg hne, aJL, FU] <;> rfl, fun i hi => ?_⟩
 rw [h2 i (by omega), aJF (by omega)]
theorem cM.bs {w : aLl} {b off c : Nat} {cs : List aLm} {l : List UInt8} (h : cM w b cs) (hc : l.length <= c) (hl : ∀ i (hi : i < l.length), cs[off + i]? = some (KY l[i])) : Bs w (.slice (some ⟨b, off, none⟩) l.length c) l :=
 ⟨_, _, _, rfl, by simp, hc, fun _ => ⟨b, off, rfl, fun i hi => by rw [h.cell, hl i hi]; simp [hi]⟩⟩
section
variable {P : Program} {w : aLl} {t e : TypeId} {k : IntKind} {a : Int}
theorem aHt {len : Nat} {d : TypeDesc} {i : TypeInfo} (hu : P.underlying t = some (.array len e)) (hd : P.underlying e = some d) (ha : ayA d = false) (hi : P.info? e = some i) (h1 : i.size = 1)
 (cs : Array aLm) (h0 : 0 <= a) (hl : a < (len : Int)) {v : aLm} (hv : cs[a.toNat]? = some v) : (IM t (.agg cs) (.int k a)).run P w = .ok (.value v) w := by
 unfold IM
 rw [sO]
 simp only [Instr.index, asIntOf, pure_bind, underlying, hu, Sem.run_bind, run_program, Result.andThen_ok, Sem.run_pure, h0, hl, and_self, if_true, iD hi, h1, aKO, part, PV hd, ha, aI5, if_false, hv]
def aHC (P : Program) (t : TypeId) (cs : Array aLm) (k : IntKind) (a : Int) (w : aLl) : Result Next := (IM t (.agg cs) (.int k a)).run P w
theorem aEy {len : Nat} {d : TypeDesc} {i : TypeInfo} (hu : P.underlying t = some (.array len e)) (hd : P.underlying e = some d) (ha : ayA d = false) (hi : P.info? e = some i) (h1 : i.size = 1)
 (cs : Array aLm) (h0 : 0 <= a) (hl : a < (len : Int)) : (IM t (.agg cs) (.int k a)).run P w = ldC cs[a.toNat]? w (aHC P t cs k a w) := by
 cases hv : cs[a.toNat]? with
 | none => rfl
 | some v => exact aHt hu hd ha hi h1 cs h0 hl hv
theorem awY {b off : Nat} {l : List aLm} (h : ∀ i, i < l.length -> w.cell? ⟨b, off + i, none⟩ = l[i]?) (n : Nat) (hn : n <= l.length) :
 (loadCells ⟨b, off, none⟩ n).run P w = .ok (l.take n).toArray w := by
 have key : ∀ (m i : Nat) (acc : Array aLm), i + m <= l.length -> (loadCellsFrom ⟨b, off, none⟩ i m acc).run P w = .ok (acc ++ ((l.drop i).take m).toArray) w := by
  intro m
  induction m with
  | zero => intro i acc _; simp [loadCellsFrom]
  | succ m ih =>
    intro i acc hm
    have hc := h i (by omega)
    rw [aI7 (by omega)] at hc
    simp only [loadCellsFrom, Sem.run_bind, run_load, FU, hc, Result.andThen_ok]
    rw [ih (i + 1) _ (by omega), aJC (by omega : i < l.length), aIX]
    simp
 unfold loadCells
 rw [key n 0 #[] (by omega)]
 simp
theorem aEc {i : TypeInfo} {z : aLm} (hu : P.underlying t = some (.slice e)) (hi : P.info? e = some i) (h1 : i.size = 1) (hz : i.zero = some z) (hz1 : one z = true) {n : Int} (h0 : 0 <= n) (hn : i.bytes * n <= 2 ^ 48) (hn2 : n <= 9223372036854775807)
 {K : aLm -> aLl -> Prop}
 (hk : ∀ w', cM w' w.heap.size (List.replicate n.toNat z) -> aS w w' cI -> w'.heap.size = w.heap.size + 1 -> K (.slice (some ⟨w.heap.size, 0, none⟩) n.toNat n.toNat) w') :
 aC P (AX t (.int k n) (.int k n)) w K := by
 have hw : IntKind.i64.wrap n = n := aT (by omega) hn2
 have hcells : z.cells = #[z] := avA hz1
 have harr : (Array.range n.toNat).map (fun j => (#[z] : Array aLm)[j % (#[z] : Array aLm).size]!) = (List.replicate n.toNat z).toArray := by
  apply Array.ext
  .simp
  .intro j h1 h2; simp [Nat.mod_one]
 have hz' : (zeroValue e).run P w = .ok z w := by simp [zeroValue, typeInfo, hi, hz]
 have : (AX t (.int k n) (.int k n)).run P w = .ok (.value (.slice (some ⟨w.heap.size, 0, none⟩) n.toNat n.toNat)) (w.alloc (.cells (List.replicate n.toNat z).toArray e)) := by
  unfold AX
  rw [sO]
  have t1 : (decide (n < 0) || decide ((i.bytes : Int) * n > 2 ^ 48) || decide (n < 0) || decide (n > n)) = false := by
   simp only [aKV, decide_eq_false_iff_not]; omega
  by_cases hn0 : n.toNat = 0
  .simp only [Instr.makeSlice, underlying, typeInfo, asInt, asIntOf, pure_bind, Sem.run_bind, run_program, Result.andThen_ok, hu, hi, Sem.run_pure, hw, t1, aI5, if_false, run_askRoom, iD hi, h1, aKO, hn0, if_true, newRow, run_newObj]
   have : (Array.range 0).map (fun x => (#[] : Array aLm)[x % (#[] : Array aLm).size]!) = (List.replicate 0 z).toArray := by simp
   rw [this]
   rfl
  .simp only [Instr.makeSlice, underlying, typeInfo, asInt, asIntOf, pure_bind, Sem.run_bind, run_program, Result.andThen_ok, hu, hi, Sem.run_pure, hw, t1, aI5, if_false, run_askRoom, iD hi, h1, aKO, hn0, hz', hcells, newRow, run_newObj, harr]
   rfl
 unfold aC
 rw [this]
 exact hk _ (cM.alloc _ _ _) (aS.alloc _ _ _) (by simp)
end
def Cl (w : aLl) (sz : Nat) (v : aLm) (n : Nat) (l : List aLm) : Prop :=
 ∃ a c, v = .slice a n c /\ l.length = n * sz /\ (0 < n -> ∃ b off, a = some ⟨b, off, none⟩ /\ ∀ i, i < l.length -> w.cell? ⟨b, off + i, none⟩ = l[i]?)
def uD (w : aLl) (base sz : Nat) (v : aLm) (n : Nat) (l : List aLm) : Prop :=
 l.length = n * sz /\ ((v = .slice none 0 0 /\ n = 0) ∨
   ∃ b c rest, v = .slice (some ⟨b, 0, none⟩) n c /\ base <= b /\ cM w b (l ++ rest) /\ (l ++ rest).length = c * sz /\ n <= c)
def OSS (w : aLl) (S : Nat -> Prop) (sz : Nat) (v : aLm) (n : Nat) (l : List aLm) : Prop :=
 l.length = n * sz /\ ((v = .slice none 0 0 /\ n = 0) ∨
   ∃ b c rest, v = .slice (some ⟨b, 0, none⟩) n c /\ S b /\ cM w b (l ++ rest) /\ (l ++ rest).length = c * sz /\ n <= c)
theorem Sl.cl {w : aLl} {v : aLm} {l : List aLm} (h : Sl w v l) : Cl w 1 v l.length l := by
 obtain ⟨a, n, c, rfl, rfl, hc, h⟩ := h
 exact ⟨a, c, rfl, by omega, fun h0 => h h0⟩
theorem cM.cl {w : aLl} {b sz n c off : Nat} {cs l : List aLm} (h : cM w b cs) (hl : l.length = n * sz) (hcs : ∀ i, i < l.length -> cs[off + i]? = l[i]?) : Cl w sz (.slice (some ⟨b, off, none⟩) n c) n l :=
 ⟨_, _, rfl, hl, fun _ => ⟨b, off, rfl, fun i hi => by rw [h.cell, hcs i hi]⟩⟩
theorem uD.nil (w : aLl) (base sz : Nat) : uD w base sz (.slice none 0 0) 0 [] := ⟨by simp, .inl ⟨rfl, rfl⟩⟩
theorem uD.ext {w w' : aLl} {base sz n : Nat} {v : aLm} {l : List aLm} {M : Nat -> Prop} (h : uD w base sz v n l) (hx : aS w w' M) (hM : ∀ b, base <= b -> ¬ M b) : uD w' base sz v n l := by
 refine ⟨h.1, ?_⟩
 rcases h.2 with h2 | ⟨b, c, rest, h1, h2, h3, h4, h5⟩
 .exact .inl h2
 .exact .inr ⟨b, c, rest, h1, h2, h3.ext hx (hM b h2), h4, h5⟩
theorem uD.cl {w : aLl} {base sz n : Nat} {v : aLm} {l : List aLm} (h : uD w base sz v n l) : Cl w sz v n l := by
 rcases h.2 with ⟨rfl, rfl⟩ | ⟨b, c, rest, rfl, h2, h3, h4, h5⟩
 .exact ⟨_, _, rfl, h.1, fun h => by omega⟩
 .refine ⟨_, _, rfl, h.1, fun _ => ⟨b, 0, rfl, fun i hi => ?_⟩⟩
  rw [h3.cell, aIZ, aJd hi]
theorem uD.sl {w : aLl} {base n : Nat} {v : aLm} {l : List aLm} (h : uD w base 1 v n l) : Sl w v l := by
 have hl := h.1
 rcases h.2 with ⟨rfl, rfl⟩ | ⟨b, c, rest, rfl, h2, h3, h4, h5⟩
 .exact ⟨_, _, _, rfl, by omega, by omega, fun h => by omega⟩
 .refine ⟨_, _, _, rfl, by omega, h5, fun _ => ⟨b, 0, rfl, fun i hi => ?_⟩⟩
  rw [h3.cell, aIZ, aJd (by omega)]
section
variable {P : Program} {w : aLl} {t e : TypeId}
theorem Zk {b off : Nat} {l : List aLm} (h : ∀ i, i < l.length -> w.cell? ⟨b, off + i, none⟩ = l[i]?) : (loadCells ⟨b, off, none⟩ l.length).run P w = .ok l.toArray w := by
 have := awY (P := P) h l.length (aI9 _)
 rwa [aKA] at this
theorem BK {sz n : Nat} {v : aLm} {l : List aLm} (h : Cl w sz v n l) : (Builtin.firstCells sz n v).run P w = .ok l.toArray w := by
 obtain ⟨x, c, rfl, hl, hh⟩ := h
 cases x with
 | none =>
   have : n = 0 := by
    rcases aJU n with h | h
    .exact h
    .obtain ⟨b, off, e, _⟩ := hh h; cases e
   subst this
   have : l = [] := aJr.1 (by omega)
   subst this
   simp [Builtin.firstCells]
 | some x =>
   simp only [Builtin.firstCells]
   rw [<- hl]
   by_cases h0 : 0 < n
   .obtain ⟨b, off, e, h2⟩ := hh h0
    have e := aJj e; subst e
    exact Zk h2
   .have : n = 0 := by omega
    subst this
    have : l = [] := aJr.1 (by omega)
    subst this
    simp [loadCells, loadCellsFrom]
theorem sR (zs : Array aLm) (n : Nat) : (Builtin.zeroCells zs n).size = n * zs.size := by simp [Builtin.zeroCells]
theorem Oa (vs : List aLm) : ∀ (aIW rest : List aLm), vs.length <= rest.length -> aV (aIW ++ rest) aIW.length vs = aIW ++ vs ++ rest.drop vs.length := by
 induction vs with
 | nil => intro aIW rest _; simp [aV]
 | cons v vs ih =>
   intro aIW rest h
   cases rest with
   | nil => simp at h
   | cons r rest =>
     have := ih (aIW ++ [v]) rest (by simpa using h)
     simp only [aV, aI8, aJo, List.length_nil, aJc, aJ9, aJM] at this ⊢
     rw [aJK, <- this, aKE _ _ (aI9 _), aKC, aI2, aIZ]
theorem Av {S : Nat -> Prop} {sz n m : Nat} {i : TypeInfo} {z : aLm} {ty t2 e2 : TypeId} (hu : P.underlying t = some (.slice e)) (hu2 : P.underlying t2 = some (.slice e2)) (hi : P.info? e = some i) (hsz : i.size = sz) (hz : i.zero = some z) (hzs : z.cells.size = sz)
 {v x : aLm} {l news : List aLm} (h : OSS w S sz v n l) (hx : Cl w sz x m news) (hone : ∀ y ∈ news, one y = true) (hb : ∀ b, w.heap.size <= b -> S b)
 (hn : n + m <= 9223372036854775807) (hbytes : (n + m) * i.bytes <= 140737488355328) (_hpos : i.bytes ≠ 0)
 {K : aLm -> aLl -> Prop} (hk : ∀ v' w', OSS w' S sz v' (n + m) (l ++ news) -> aS w w' S -> K v' w') : aC P (lF .append #[t, t2] ty [v, x]) w K := by
 have hlx : (Builtin.lenOf x).run P w = .ok m w := by
  obtain ⟨a, c, rfl, _⟩ := hx; simp [Builtin.lenOf]
 have hnl := hx.choose_spec.choose_spec.2.1
 have hfx := BK (P := P) hx
 have hmax : IntKind.i64.max = 9223372036854775807 := by decide
 have hnot : ¬ (((n + m : Nat) : Int) > IntKind.i64.max /\ (False ∨ i.bytes = 0)) := by rw [hmax]; omega
 have hz' : ∀ w, (zeroValue e).run P w = .ok z w := fun w => by simp [zeroValue, typeInfo, hi, hz]
 have hlen := h.1
 rcases h.2 with ⟨rfl, rfl⟩ | ⟨b, c, rest, rfl, h2, h3, h4, h5⟩
 .
  have hl0 : l = [] := aJr.1 (by omega)
  subst hl0
  by_cases hm : m = 0
  .subst hm
   have hn0 : news = [] := aJr.1 (by omega)
   subst hn0
   have : (lF .append #[t, t2] ty [.slice none 0 0, x]).run P w = .ok (.value (.slice none 0 0)) w := by
    unfold lF builtin
    simp only [Builtin.append_, aKc, aI0, aI1]
    simp only [underlying, Sem.run_bind, run_program, Result.andThen_ok, hu, hu2, Sem.run_pure, iD hi, hsz, aI5, if_false, hlx, aI9, aJV, if_true, aJT, hfx]
   unfold aC
   rw [this]
   exact hk _ _ ⟨by simp, .inl ⟨rfl, by omega⟩⟩ (aS.refl _ _)
  .have hfit := growslice_fits (need := 0 + m) (old := 0) (bytes := i.bytes) (by omega) (by omega)
   have hfit' : ¬ (Builtin.nextslicecap (0 + m) 0 * i.bytes > 2 ^ 48) := by omega
   have hle : ¬ (0 + m <= 0) := by omega
   have hq : (Question.appendCap (0 + m) 0 e).forced = false := rfl
   obtain ⟨r, hr⟩ : ∃ r, (Question.appendCap (0 + m) 0 e).cut (w.tape w.drawn (.appendCap (0 + m) 0 e)) = m + r :=
    ⟨(w.tape w.drawn (.appendCap (0 + m) 0 e)) % (2 ^ 63 - (0 + m)), by simp only [Question.cut]; omega⟩
   have : (lF .append #[t, t2] ty [.slice none 0 0, x]).run P w = .ok (.value (.slice (some ⟨w.heap.size, 0, none⟩) (0 + m) (m + r))) ((dr w).alloc (.cells (news ++ (Builtin.zeroCells z.cells (m + r - (0 + m))).toList).toArray e)) := by
    have hfx' := BK (P := P) (w := dr w) hx
    unfold lF builtin
    simp only [Builtin.append_, aKc, aI0, aI1]
    simp only [underlying, typeInfo, Sem.run_bind, run_program, Result.andThen_ok, hu, hu2, hi, Sem.run_pure, iD hi, hsz, aI5, if_false, hlx, hle, aJT, if_true, hnot, hfit', run_choose, hq, hr, run_askRoom]
    change ((Sem.run P _ (dr w)).andThen _).andThen _ = _
    simp only [Sem.run_bind, hfx', run_firstCells_none, Result.andThen_ok, hz', Sem.run_pure, newRow, run_newObj]
    have e1 : (#[] ++ news.toArray ++ Builtin.zeroCells z.cells (m + r - (0 + m)) : Array aLm) = (news ++ (Builtin.zeroCells z.cells (m + r - (0 + m))).toList).toArray := by
     apply Array.ext'; simp
    rw [e1]
    rfl
   unfold aC
   rw [this]
   refine hk _ _ ⟨by simp only [aJM]; rw [hnl, aIZ], .inr ⟨w.heap.size, m + r, (Builtin.zeroCells z.cells (m + r - (0 + m))).toList, by rw [aIZ], hb _ (aI9 _), cM.alloc (dr w) _ _, ?_, by omega⟩⟩ ((aS.dr w _).seq (aS.alloc _ _ _))
   simp only [aJM, aI8, aKh, sR, hzs, hnl]
   rw [show m + r - (0 + m) = r from by omega, aJ4]
 .by_cases hc : n + m <= c
  .
   have hroom : news.length <= rest.length := by
    rw [aI8, hlen] at h4
    have : (n + m) * sz <= c * sz := aJH _ hc
    rw [aJ4] at this; omega
   obtain ⟨w', s1, s2, s3, s4, _⟩ := Mz (P := P) (M := S) h2 news w (n * sz) 0 (l ++ rest) h3 (by rw [aI8, hlen]; omega) hone
   have : (lF .append #[t, t2] ty [.slice (some ⟨b, 0, none⟩) n c, x]).run P w = .ok (.value (.slice (some ⟨b, 0, none⟩) (n + m) c)) w' := by
    unfold lF builtin
    simp only [Builtin.append_, aKc, aI0, aI1]
    simp only [underlying, Sem.run_bind, run_program, Result.andThen_ok, hu, hu2, Sem.run_pure, iD hi, hsz, aI5, if_false, hlx, hc, if_true, aJT, hfx, FU, aIZ, s1]
   unfold aC
   rw [this]
   rw [aJV, <- hlen, Oa _ _ _ hroom] at s2
   refine hk _ _ ⟨by rw [aI8, hlen, hnl, aJ4], .inr ⟨b, c, rest.drop news.length, rfl, h2, s2, ?_, hc⟩⟩ s3
   rw [<- h4]; simp; omega
  .
   have hfit := growslice_fits (need := n + m) (old := c) (bytes := i.bytes) (by omega) hbytes
   have hfit' : ¬ (Builtin.nextslicecap (n + m) c * i.bytes > 2 ^ 48) := by omega
   have hq : (Question.appendCap (n + m) c e).forced = false := rfl
   obtain ⟨r, hr⟩ : ∃ r, (Question.appendCap (n + m) c e).cut (w.tape w.drawn (.appendCap (n + m) c e)) = n + m + r :=
    ⟨(w.tape w.drawn (.appendCap (n + m) c e)) % (2 ^ 63 - (n + m)), by simp only [Question.cut]⟩
   have hold : Cl (dr w) sz (.slice (some ⟨b, 0, none⟩) n c) n l := ⟨_, _, rfl, hlen, fun _ => ⟨b, 0, rfl, fun i hi => by
    show w.cell? _ = _
    rw [h3.cell, aIZ, aJd hi]⟩⟩
   have : (lF .append #[t, t2] ty [.slice (some ⟨b, 0, none⟩) n c, x]).run P w = .ok (.value (.slice (some ⟨w.heap.size, 0, none⟩) (n + m) (n + m + r))) ((dr w).alloc (.cells (l ++ news ++ (Builtin.zeroCells z.cells (n + m + r - (n + m))).toList).toArray e)) := by
    have hfx' := BK (P := P) (w := dr w) hx
    have hfo := BK (P := P) hold
    unfold lF builtin
    simp only [Builtin.append_, aKc, aI0, aI1]
    simp only [underlying, typeInfo, Sem.run_bind, run_program, Result.andThen_ok, hu, hu2, hi, Sem.run_pure, iD hi, hsz, aI5, if_false, hlx, hc, aJT, if_true, hnot, hfit', run_choose, hq, hr, run_askRoom]
    change ((Sem.run P _ (dr w)).andThen _).andThen _ = _
    simp only [Sem.run_bind, hfx', hfo, Result.andThen_ok, hz', Sem.run_pure, newRow, run_newObj]
    have e1 : (l.toArray ++ news.toArray ++ Builtin.zeroCells z.cells (n + m + r - (n + m)) : Array aLm) = (l ++ news ++ (Builtin.zeroCells z.cells (n + m + r - (n + m))).toList).toArray := by
     apply Array.ext'; simp
    rw [e1]
    rfl
   unfold aC
   rw [this]
   refine hk _ _ ⟨by rw [aI8, hlen, hnl, aJ4], .inr ⟨w.heap.size, n + m + r, _, rfl, hb _ (aI9 _), cM.alloc (dr w) _ _, ?_, by omega⟩⟩ ((aS.dr w _).seq (aS.alloc _ _ _))
   simp only [aI8, aKh, sR, hzs, hnl, hlen]
   rw [show n + m + r - (n + m) = r from by omega, aJ4, aJ4]
theorem FG {base sz n m : Nat} {i : TypeInfo} {z : aLm} {ty t2 e2 : TypeId} (hu : P.underlying t = some (.slice e)) (hu2 : P.underlying t2 = some (.slice e2)) (hi : P.info? e = some i) (hsz : i.size = sz) (hz : i.zero = some z) (hzs : z.cells.size = sz)
 {v x : aLm} {l news : List aLm} (h : uD w base sz v n l) (hx : Cl w sz x m news) (hone : ∀ y ∈ news, one y = true) (hb : base <= w.heap.size)
 (hn : n + m <= 9223372036854775807) (hbytes : (n + m) * i.bytes <= 140737488355328) (_hpos : i.bytes ≠ 0)
 {K : aLm -> aLl -> Prop} (hk : ∀ v' w', uD w' base sz v' (n + m) (l ++ news) -> aS w w' (fun y => base <= y) -> K v' w') : aC P (lF .append #[t, t2] ty [v, x]) w K :=
 Av (S := fun y => base <= y) hu hu2 hi hsz hz hzs h hx hone (fun _ h => aJ7 hb h) hn hbytes _hpos hk
end
section
variable {P : Program} {w : aLl} {t e : TypeId}
theorem Dd {i : TypeInfo} {z : aLm} {n : Nat} {ps : List (Nat × aLm)} {cells : Array aLm} (hu : P.underlying t = some (.slice e)) (hi : P.info? e = some i) (hz : i.zero = some z)
 (h1 : ¬ n * i.size > 2 ^ 24) (h0 : ¬ n * i.size = 0) (hf : Instr.fill (fun j => some (j * i.size, i.size)) ((Array.range (n * i.size)).map (z.cells[· % z.cells.size]!)) ps = some cells)
 {K : aLm -> aLl -> Prop} (hk : ∀ w', cM w' w.heap.size cells.toList -> aS w w' cI -> w'.heap.size = w.heap.size + 1 -> K (.slice (some ⟨w.heap.size, 0, none⟩) n n) w') :
 aC P (cD t n ps) w K := by
 have hz' : (zeroValue e).run P w = .ok z w := by simp [zeroValue, typeInfo, hi, hz]
 have : (cD t n ps).run P w = .ok (.value (.slice (some ⟨w.heap.size, 0, none⟩) n n)) (w.alloc (.cells cells.toList.toArray e)) := by
  unfold cD; rw [sO]
  simp only [Instr.buildSlice, underlying, pure_bind, Sem.run_bind, run_program, Result.andThen_ok, hu, Sem.run_pure, iD hi, h1, h0, if_false, hz', hf, newRow, run_newObj]
  rfl
 unfold aC
 rw [this]
 exact hk _ (cM.alloc _ _ _) (aS.alloc _ _ _) (by simp)
end
section
variable {P : Program} {w : aLl} {t e : TypeId}
def Grown (es : Array MapEntry) (clock : Nat) : Prop := (es.toList.map (·.born)).Pairwise (· < ·) /\ ∀ e ∈ es.toList, e.born < clock
def Mp {κ : Type} (w : aLl) (m : Nat) (enc : κ -> aLm) (l : List (κ × aLm)) : Prop :=
 ∃ es clock, w.heap[m]? = some (.map es clock) /\ es.toList.map (fun e => (e.key, e.val)) = l.map (fun p => (enc p.1, p.2)) /\ Grown es clock /\ (l.map (·.1)).Nodup
theorem Mp.lt {κ : Type} {m : Nat} {enc : κ -> aLm} {l : List (κ × aLm)} (h : Mp w m enc l) : m < w.heap.size := by
 obtain ⟨es, c, h, _⟩ := h
 rcases aJl m w.heap.size with h' | h'
 .exact h'
 .rw [aKN h'] at h; cases h
theorem Mp.ext {κ : Type} {w w' : aLl} {m : Nat} {enc : κ -> aLm} {l : List (κ × aLm)} {M : Nat -> Prop} (h : Mp w m enc l) (hx : aS w w' M) (hM : ¬ M m) : Mp w' m enc l := by
 have := h.lt
 obtain ⟨es, c, h, k⟩ := h
 exact ⟨es, c, by rw [hx.keep m this hM]; exact h, k⟩
theorem Mp.dr {κ : Type} {w : aLl} {m : Nat} {enc : κ -> aLm} {l : List (κ × aLm)} (h : Mp w m enc l) : Mp (dr w) m enc l := h
variable {κ : Type} [DecidableEq κ] {enc : κ -> aLm}
theorem VU {d : TypeDesc} {i : TypeInfo} (hu : P.underlying t = some d) (hd : ayA d = true) (hi : P.info? t = some i) {b off : Nat} {l : List aLm} (hl : i.size = l.length) (h : ∀ j, j < l.length -> w.cell? ⟨b, off + j, none⟩ = l[j]?) :
 (aI t (.pointer (some ⟨b, off, none⟩))).run P w = .ok (.value (.agg l.toArray)) w := by
 unfold aI
 rw [sO]
 simp only [Instr.loadAt, Instr.sureAddr, loadVar, pure_bind, Sem.run_bind, PV hu, hd, Result.andThen_ok, if_true, iD hi, hl, Zk h, Sem.run_pure]
end
theorem dT {w : aLl} {b : Nat} {cs : List aLm} (h : cM w b cs) : cM (dr w) b cs := h.ext (aS.dr w cI) (fun h => h)
theorem Sl.dr {w : aLl} {v : aLm} {l : List aLm} (h : Sl w v l) : Sl (dr w) v l := h
theorem Sl.open {w : aLl} {v : aLm} {l : List UInt8} (h : Bs w v l) (h0 : 0 < l.length) : ∃ b off c, v = .slice (some ⟨b, off, none⟩) l.length c /\ l.length <= c /\ ∀ i, (h : i < l.length) -> w.cell? ⟨b, off + i, none⟩ = some (KY l[i]) := by
 obtain ⟨a, n, c, rfl, hn, hc, h⟩ := h
 simp only [aJb] at hn
 subst hn
 obtain ⟨b, off, rfl, hh⟩ := h h0
 exact ⟨b, off, c, rfl, hc, fun i hi => by rw [hh i hi]; simp [hi]⟩
theorem Sl.len {w : aLl} {v : aLm} {l : List aLm} (h : Sl w v l) : ∃ a c, v = .slice a l.length c /\ l.length <= c := by
 obtain ⟨a, n, c, rfl, rfl, hc, _⟩ := h
 exact ⟨a, c, rfl, hc⟩
theorem bU (v : aLm) : ¬ inB v cI := by unfold inB cI; split <;> simp
theorem aBn {b o m l : Nat} (h : l ≠ m) : kL (some ⟨b, o, none⟩) m l 1 = some ⟨b, o + l, none⟩ := by
 unfold kL; rw [if_neg (fun e => h e.symm)]; simp [FU]
theorem aAf {v : aLm} {M N : Nat -> Prop} (h : inB v M) (hm : ∀ b, M b -> N b) : inB v N := by
 unfold inB at *
 split at h
 .exact hm _ h
 .exact h
theorem uD.len {w : aLl} {b sz n : Nat} {v : aLm} {l : List aLm} (h : uD w b sz v n l) : ∃ a c, v = .slice a n c := by
 rcases h.2 with ⟨rfl, rfl⟩ | ⟨x, c, r, rfl, _⟩
 .exact ⟨_, _, rfl⟩
 .exact ⟨_, _, rfl⟩
theorem uD.lower {w : aLl} {a b sz n : Nat} {v : aLm} {l : List aLm} (h : uD w b sz v n l) (hab : a <= b) : uD w a sz v n l := by
 refine ⟨h.1, ?_⟩
 rcases h.2 with h | ⟨x, c, r, h1, h2, h3⟩
 .exact .inl h
 .exact .inr ⟨x, c, r, h1, by omega, h3⟩
theorem Sl.nil (w : aLl) : Sl w (.slice none 0 0) [] := ⟨none, 0, 0, rfl, rfl, aI9 _, fun h => absurd h (by simp)⟩
theorem Sl.take' {w : aLl} {a : Option Addr} {n c : Nat} {l : List aLm} (h : Sl w (.slice a n c) l) {k : Nat} (hk : k <= n) : Sl w (.slice (kL a c 0 1) (k - 0) (c - 0)) (l.take k) := by
 have h' := h
 obtain ⟨a', n', c', e, hn, hc, hh⟩ := h'
 cases e
 by_cases h0 : k = 0
 .subst h0
  exact ⟨_, _, _, rfl, by simp, by omega, fun h => by simp at h⟩
 .obtain ⟨b, off, rfl, _⟩ := hh (by omega)
  exact h.take hk
theorem Sl.drop' {w : aLl} {a : Option Addr} {n c : Nat} {l : List aLm} (h : Sl w (.slice a n c) l) {k : Nat} (hk : k <= n) : Sl w (.slice (kL a c k 1) (n - k) (c - k)) (l.drop k) := by
 have h' := h
 obtain ⟨a', n', c', e, hn, hc, hh⟩ := h'
 cases e
 by_cases h0 : n = 0
 .exact ⟨_, _, _, rfl, by rw [aJu]; omega, by omega, fun h => by omega⟩
 .obtain ⟨b, off, rfl, _⟩ := hh (by omega)
  exact h.drop hk
theorem Sl.openV {w : aLl} {v : aLm} {l : List aLm} (h : Sl w v l) (h0 : 0 < l.length) : ∃ b off c, v = .slice (some ⟨b, off, none⟩) l.length c /\ l.length <= c /\ ∀ i, (h : i < l.length) -> w.cell? ⟨b, off + i, none⟩ = some l[i] := by
 obtain ⟨a, n, c, rfl, hn, hc, h⟩ := h
 subst hn
 obtain ⟨b, off, rfl, hh⟩ := h h0
 exact ⟨b, off, c, rfl, hc, fun i hi => by rw [hh i hi]; simp [hi]⟩
theorem Sl.openI {w : aLl} {v : aLm} {k : IntKind} {l : List Int} (h : Sl w v (l.map (Value.int k))) (h0 : 0 < l.length) : ∃ b off c, v = .slice (some ⟨b, off, none⟩) l.length c /\ l.length <= c /\ ∀ i, (h : i < l.length) -> w.cell? ⟨b, off + i, none⟩ = some (.int k l[i]) := by
 obtain ⟨b, off, c, e, hc, hh⟩ := h.openV (by simpa using h0)
 simp only [aJb] at e hc hh
 exact ⟨b, off, c, e, hc, fun i hi => by rw [hh i hi]; simp⟩
theorem Sl.lenI {w : aLl} {v : aLm} {k : IntKind} {l : List Int} (h : Sl w v (l.map (Value.int k))) : ∃ a c, v = .slice a l.length c /\ l.length <= c := by
 obtain ⟨a, c, e, hc⟩ := h.len
 simp only [aJb] at e hc
 exact ⟨a, c, e, hc⟩
def QJ (n : Nat) (l : List aLm) : List aLm := (List.replicate n l).flatten
theorem aaO (n : Nat) (l : List aLm) : (QJ n l).length = n * l.length := by
 unfold QJ; rw [List.length_flatten]; simp
theorem aC9 : ∀ (n : Nat) (l : List aLm) (j : Nat) (_ : j < n * l.length) (h0 : 0 < l.length), (QJ n l)[j]? = some (l[j % l.length]'(aKj _ h0)) := by
 intro n
 induction n with
 | zero => intro l j h; simp at h
 | succ n ih =>
   intro l j h h0
   unfold QJ
   rw [aJ3, List.flatten_cons]
   by_cases hj : j < l.length
   .rw [aJd hj, aI7 hj]
    simp only [aJA hj]
   .rw [aJG (by omega)]
    have := ih l (j - l.length) (by rw [aK5] at h; omega) h0
    unfold QJ at this
    rw [this]
    simp only [<- Nat.mod_eq_sub_mod (show j ≥ l.length by omega)]
theorem aCQ {P : Program} {w : aLl} {t e : TypeId} {k : IntKind} {i : TypeInfo} {z : aLm} {sz : Nat} (hu : P.underlying t = some (.slice e)) (hi : P.info? e = some i) (h1 : i.size = sz) (hsz : 0 < sz) (hz : i.zero = some z) (hz1 : z.cells.size = sz) {n : Int} (h0 : 0 <= n) (hn : i.bytes * n <= 2 ^ 48) (hn2 : n <= 9223372036854775807)
 {K : aLm -> aLl -> Prop}
 (hk : ∀ w', cM w' w.heap.size (QJ n.toNat z.cells.toList) -> aS w w' cI -> w'.heap.size = w.heap.size + 1 -> K (.slice (some ⟨w.heap.size, 0, none⟩) n.toNat n.toNat) w') :
 aC P (AX t (.int k n) (.int k n)) w K := by
 have hw : IntKind.i64.wrap n = n := aT (by omega) hn2
 have hl : z.cells.toList.length = sz := by simpa using hz1
 have harr : (Array.range (n.toNat * sz)).map (fun j => z.cells[j % z.cells.size]!) = (QJ n.toNat z.cells.toList).toArray := by
  apply Array.ext
  .simp [aaO, hz1]
  .intro j h1 h2
   have hj : j < n.toNat * sz := by simpa using h1
   have := aC9 n.toNat z.cells.toList j (by rw [hl]; exact hj) (by rw [hl]; exact hsz)
   have hm : j % z.cells.size < z.cells.size := aKj _ (by omega)
   simp only [Array.getElem_map, Array.getElem_range, List.getElem_toArray]
   rw [getElem!_pos z.cells _ hm]
   rw [aI7 (by rw [aaO, hl]; exact hj)] at this
   have := aJj this
   rw [this]
   simp
 have hz' : (zeroValue e).run P w = .ok z w := by simp [zeroValue, typeInfo, hi, hz]
 have : (AX t (.int k n) (.int k n)).run P w = .ok (.value (.slice (some ⟨w.heap.size, 0, none⟩) n.toNat n.toNat)) (w.alloc (.cells (QJ n.toNat z.cells.toList).toArray e)) := by
  unfold AX
  rw [sO]
  have t1 : (decide (n < 0) || decide ((i.bytes : Int) * n > 2 ^ 48) || decide (n < 0) || decide (n > n)) = false := by
   simp only [aKV, decide_eq_false_iff_not]; omega
  by_cases hn0 : n.toNat * sz = 0
  .simp only [Instr.makeSlice, underlying, typeInfo, asInt, asIntOf, pure_bind, Sem.run_bind, run_program, Result.andThen_ok, hu, hi, Sem.run_pure, hw, t1, aI5, if_false, run_askRoom, iD hi, h1, hn0, if_true, newRow, run_newObj]
   have hn : n.toNat = 0 := by rcases Nat.mul_eq_zero.1 hn0 with h | h <;> omega
   have : (Array.range 0).map (fun x => (#[] : Array aLm)[x % (#[] : Array aLm).size]!) = (QJ n.toNat z.cells.toList).toArray := by rw [hn]; simp [QJ]
   rw [this]
   rfl
  .simp only [Instr.makeSlice, underlying, typeInfo, asInt, asIntOf, pure_bind, Sem.run_bind, run_program, Result.andThen_ok, hu, hi, Sem.run_pure, hw, t1, aI5, if_false, run_askRoom, iD hi, h1, hn0, hz', newRow, run_newObj, harr]
   rfl
 unfold aC
 rw [this]
 exact hk _ (cM.alloc _ _ _) (aS.alloc _ _ _) (by simp)
abbrev T3 := Int × Int × Int
def fe (k : IntKind) : List T3 -> List aLm
 | [] => []
 | e :: r => .int k e.1 :: .int .i64 e.2.1 :: .int .i64 e.2.2 :: fe k r
theorem lY (k : IntKind) : ∀ L : List T3, (fe k L).length = L.length * 3
 | [] => rfl
 | e :: r => by simp [fe, lY k r]; omega
theorem auK (k : IntKind) : ∀ L M : List T3, fe k (L ++ M) = fe k L ++ fe k M
 | [], _ => rfl
 | e :: r, M => by simp [fe, auK k r M]
theorem ajH (k : IntKind) : ∀ (L : List T3) (i : Nat) (h : i < L.length), (fe k L)[i * 3]? = some (.int k L[i].1) /\ (fe k L)[i * 3 + 1]? = some (.int .i64 L[i].2.1) /\ (fe k L)[i * 3 + 2]? = some (.int .i64 L[i].2.2)
 | [], i, h => by simp at h
 | e :: r, 0, _ => ⟨rfl, rfl, rfl⟩
 | e :: r, i + 1, h => by
   have := ajH k r i (by simpa using h)
   rw [aJ4]
   exact this
theorem aeE (k : IntKind) : ∀ (L : List T3) (i : Nat) (h : i < L.length) (x : Int), (fe k L).set (i * 3) (.int k x) = fe k (L.set i (x, L[i].2)) /\ (fe k L).set (i * 3 + 1) (.int .i64 x) = fe k (L.set i (L[i].1, x, L[i].2.2)) /\ (fe k L).set (i * 3 + 2) (.int .i64 x) = fe k (L.set i (L[i].1, L[i].2.1, x))
 | [], i, h, _ => by simp at h
 | e :: r, 0, _, x => ⟨rfl, rfl, rfl⟩
 | e :: r, i + 1, h, x => by
   have := aeE k r i (by simpa using h) x
   rw [aJ4]
   obtain ⟨h1, h2, h3⟩ := this
   refine ⟨?_, ?_, ?_⟩
   .show (_ :: _ :: _ :: (fe k r).set (i * 3) _) = _; rw [h1] <;> rfl
   .show (_ :: _ :: _ :: (fe k r).set (i * 3 + 1) _) = _; rw [h2] <;> rfl
   .show (_ :: _ :: _ :: (fe k r).set (i * 3 + 2) _) = _; rw [h3] <;> rfl
theorem aB3 (k : IntKind) (x : Int) : ∀ n : Nat, QJ n [.int k x, .int .i64 0, .int .i64 0] = fe k (List.replicate n (x, 0, 0))
 | 0 => rfl
 | n + 1 => by
   have := aB3 k x n
   unfold QJ at this ⊢
   rw [aJ3, List.flatten_cons, this, aJ3] <;> rfl
theorem aBN {P : Program} {w : aLl} {t e : TypeId} {k k' : IntKind} {hi mx : Int} {i : TypeInfo} (hu : P.underlying t = some (.slice e)) (hi' : P.info? e = some i) (x : Option Addr) (n c : Nat) (h0 : 0 <= hi) (h1 : hi <= mx) (h2 : mx <= c) :
 (gB t (.slice x n c) none (some (.int k hi)) (some (.int k' mx))).run P w = .ok (.value (.slice (kL x mx.toNat 0 i.size) (hi.toNat - 0) (mx.toNat - 0))) w := by
 have h3 : (0 : Int) <= mx := by omega
 have h4 : hi <= (mx.toNat : Int) := by omega
 simp only [gB, sO, Instr.sliceAt, underlying, hu, Sem.run_bind, run_program, Result.andThen_ok, Sem.run_pure, Instr.slice, Instr.sliceBounds, pure_bind, A4 h3 h2, A4 h0 h4, iD hi', kL]
end Go.En
namespace Go.Proofs.YtaggdjhhmbnhoaaDoor
open Go Go.En
set_option maxRecDepth 4000
theorem jY (n0 : Int) (n1 : Int) (n2 : Int) (w : aLl) : (bX 47 [(0, (.int .u32 n0)), (1, (.int .u32 n1)), (2, (.int .u32 n2))]).run pg w = .ok (.value (.agg #[(.int .u32 n0), (.int .u32 n1), (.int .u32 n2)])) w := by kernel_rfl
theorem arR : (pg).info? 47 = some Tryd.t47 := by kernel_rfl
theorem yF {n : Nat} {ps : List (Nat × aLm)} {cells : Array aLm} {w : aLl} (h1 : ¬ n * 3 > 2 ^ 24) (h0 : ¬ n * 3 = 0) (hf : Go.Instr.fill (fun j => some (j * 3, 3)) ((Array.range (n * 3)).map ((Tryd.t47.zero.get!).cells[· % (Tryd.t47.zero.get!).cells.size]!)) ps = some cells) {K : aLm -> aLl -> Prop} (hk : ∀ w', cM w' w.heap.size cells.toList -> aS w w' cI -> w'.heap.size = w.heap.size + 1 -> K (.slice (some ⟨w.heap.size, 0, none⟩) n n) w') : aC pg (cD 24 n ps) w K := Dd (i := Tryd.t47) Tryd.underlying24 arR rfl h1 h0 hf hk
theorem dK  (w : aLl) : (bX 29 []).run pg w = .ok (.value (.agg #[(.int .i64 0), (.slice none 0 0), (.int .i64 0), (.slice none 0 0), (.int .i64 0), (.slice none 0 0)])) w := by kernel_rfl
theorem aCm : (pg).info? 29 = some Tryd.t29 := by kernel_rfl
theorem iH {w : aLl} {K : aLm -> aLl -> Prop} (hk : ∀ w', cM w' w.heap.size [(.int .i64 0), (.slice none 0 0), (.int .i64 0), (.slice none 0 0), (.int .i64 0), (.slice none 0 0)] -> aS w w' cI -> w'.heap.size = w.heap.size + 1 -> K (.pointer (some ⟨w.heap.size, 0, none⟩)) w') : aC pg (bV 29) w K := lK (i := Tryd.t29) aCm rfl hk
theorem jK {b off : Nat} {cs : List aLm} {w : aLl} {xs : Array aLm} {K : aLm -> aLl -> Prop} (ho : cM w b cs) (hs : xs.size = 6) (hv : ∀ x ∈ xs.toList, one x = true) (h : off + 6 <= cs.length) (hk : ∀ w', cM w' b (aV cs off xs.toList) -> aS w w' (fun x => x = b) -> w'.heap.size = w.heap.size -> K undef w') : aC pg (aK 29 (.pointer (some ⟨b, off, none⟩)) (.agg xs)) w K := lZ (v := .agg xs) aCm ho hs hv h hk
theorem fH {ty : TypeId} (x : Option Addr) (n c : Nat) (w : aLl) : (lF .len #[22] ty [.slice x n c]).run pg w = .ok (.value (.int .i64 n)) w := Zb Tryd.underlying22 x n c
theorem Yy : (pg).info? 5 = some Tryd.t5 := by kernel_rfl
theorem mJ {k : IntKind} {a : Int} (b o n c : Nat) (w : aLl) (h0 : 0 <= a) (h1 : a < n) : (aY 22 (.slice (some ⟨b, o, none⟩) n c) (.int k a)).run pg w = .ok (.value (.pointer (some ⟨b, o + a.toNat, none⟩))) w := VX rfl Tryd.underlying22 Yy b o n c h0 h1
theorem kJ (x : Addr) (w : aLl) : (aI 5 (.pointer (some x))).run pg w = ldC (w.cell? x) w (far pg 5 x w) := asA Tryd.underlying5 rfl x w
theorem cB {ty : TypeId} (x : Option Addr) (n c : Nat) (w : aLl) : (lF .len #[24] ty [.slice x n c]).run pg w = .ok (.value (.int .i64 n)) w := Zb Tryd.underlying24 x n c
theorem iC {k : IntKind} {a : Int} (b o n c : Nat) (w : aLl) (h0 : 0 <= a) (h1 : a < n) : (aY 24 (.slice (some ⟨b, o, none⟩) n c) (.int k a)).run pg w = .ok (.value (.pointer (some ⟨b, o + a.toNat * 3, none⟩))) w := afD rfl Tryd.underlying24 arR b o n c h0 h1
theorem SZ : (pg).info? 43 = some Tryd.t43 := by kernel_rfl
theorem eP (b o : Nat) (w : aLl) : (aL 47 (.pointer (some ⟨b, o, none⟩)) 0).run pg w = .ok (.value (.pointer (some ⟨b, o, none⟩))) w := kM (i := 0) Tryd.underlying47 rfl SZ (by decide) _
theorem mB (x : Addr) (w : aLl) : (aI 43 (.pointer (some x))).run pg w = ldC (w.cell? x) w (far pg 43 x w) := asA Tryd.underlying43 rfl x w
theorem fI (b o : Nat) (w : aLl) : (aL 47 (.pointer (some ⟨b, o, none⟩)) 2).run pg w = .ok (.value (.pointer (some ⟨b, o + 2, none⟩))) w := kM (i := 2) Tryd.underlying47 rfl SZ (by decide) _
theorem fY (b o : Nat) (w : aLl) : (aL 47 (.pointer (some ⟨b, o, none⟩)) 1).run pg w = .ok (.value (.pointer (some ⟨b, o + 1, none⟩))) w := kM (i := 1) Tryd.underlying47 rfl SZ (by decide) _
theorem azE : (pg).info? 27 = some Tryd.t27 := by kernel_rfl
theorem cL {k : IntKind} {a : Int} (b o : Nat) (w : aLl) (h0 : 0 <= a) (h1 : a < 3) : (aY 29 (.pointer (some ⟨b, o, none⟩)) (.int k a)).run pg w = .ok (.value (.pointer (some ⟨b, o + a.toNat * 2, none⟩))) w := avJ rfl Tryd.underlying29 azE b o h0 (by simpa using h1)
theorem aH0 : (pg).info? 25 = some Tryd.t25 := by kernel_rfl
theorem bR (b o : Nat) (w : aLl) : (aL 27 (.pointer (some ⟨b, o, none⟩)) 1).run pg w = .ok (.value (.pointer (some ⟨b, o + 1, none⟩))) w := kM (i := 1) Tryd.underlying27 rfl aH0 (by decide) _
theorem cW (x : Addr) (w : aLl) : (aI 25 (.pointer (some x))).run pg w = ldC (w.cell? x) w (far pg 25 x w) := asA Tryd.underlying25 rfl x w
theorem fK {ty : TypeId} (x : Option Addr) (n c : Nat) (w : aLl) : (lF .len #[25] ty [.slice x n c]).run pg w = .ok (.value (.int .i64 n)) w := Zb Tryd.underlying25 x n c
theorem Aq {b off : Nat} {cs : List aLm} {w : aLl} (ho : cM w b cs) (h : off + 6 <= cs.length) {K : aLm -> Prop} (hk : K (.agg ((cs.drop off).take 6).toArray)) : mW pg 29 (.pointer (some ⟨b, off, none⟩)) w K := D5 Tryd.underlying29 rfl aCm ho h hk
theorem kT {b off : Nat} {cs : List aLm} {w : aLl} (ho : cM w b cs) (h : off + 6 <= cs.length) : (aI 29 (.pointer (some ⟨b, off, none⟩))).run pg w = .ok (.value (.agg ((cs.drop off).take 6).toArray)) w := zW Tryd.underlying29 rfl aCm ho h
theorem aIa : (pg).info? 67 = some Tryd.t67 := by kernel_rfl
theorem apV {w : aLl} {K : aLm -> aLl -> Prop} (hk : ∀ w', cM w' w.heap.size [(.int .i64 0), (.int .i64 0), (.int .i64 0)] -> aS w w' cI -> w'.heap.size = w.heap.size + 1 -> K (.pointer (some ⟨w.heap.size, 0, none⟩)) w') : aC pg (bV 67) w K := lK (i := Tryd.t67) aIa rfl hk
theorem fZ {b off : Nat} {cs : List aLm} {w : aLl} (ho : cM w b cs) (h : off + 2 <= cs.length) : (aI 27 (.pointer (some ⟨b, off, none⟩))).run pg w = .ok (.value (.agg ((cs.drop off).take 2).toArray)) w := zW Tryd.underlying27 rfl azE ho h
theorem Du : (pg).info? 3 = some Tryd.t3 := by kernel_rfl
theorem rS {k : IntKind} {a : Int} (b o : Nat) (w : aLl) (h0 : 0 <= a) (h1 : a < 3) : (aY 67 (.pointer (some ⟨b, o, none⟩)) (.int k a)).run pg w = .ok (.value (.pointer (some ⟨b, o + a.toNat, none⟩))) w := Kn rfl Tryd.underlying67 Du b o h0 (by simpa using h1)
theorem vP {b off : Nat} {cs : List aLm} {w : aLl} {v : aLm} {K : aLm -> aLl -> Prop} (ho : cM w b cs) (hv : one v = true) (h : off < cs.length) (hk : ∀ w', cM w' b (cs.set off v) -> aS w w' (fun x => x = b) -> w'.heap.size = w.heap.size -> K undef w') : aC pg (aK 3 (.pointer (some ⟨b, off, none⟩)) v) w K := xU Du rfl ho hv h hk
theorem Je {w : aLl} {K : aLm -> aLl -> Prop} (hk : ∀ w', cM w' w.heap.size [(.int .u32 0), (.int .u32 0), (.int .u32 0)] -> aS w w' cI -> w'.heap.size = w.heap.size + 1 -> K (.pointer (some ⟨w.heap.size, 0, none⟩)) w') : aC pg (bV 47) w K := lK (i := Tryd.t47) arR rfl hk
theorem bZ (x : Addr) (w : aLl) : (aI 3 (.pointer (some x))).run pg w = ldC (w.cell? x) w (far pg 3 x w) := asA Tryd.underlying3 rfl x w
theorem FT {b off : Nat} {cs : List aLm} {w : aLl} {v : aLm} {K : aLm -> aLl -> Prop} (ho : cM w b cs) (hv : one v = true) (h : off < cs.length) (hk : ∀ w', cM w' b (cs.set off v) -> aS w w' (fun x => x = b) -> w'.heap.size = w.heap.size -> K undef w') : aC pg (aK 43 (.pointer (some ⟨b, off, none⟩)) v) w K := xU SZ rfl ho hv h hk
theorem afN {b off : Nat} {l : List aLm} {w : aLl} (hl : l.length = 3) (h : ∀ j, j < l.length -> w.cell? ⟨b, off + j, none⟩ = l[j]?) : (aI 47 (.pointer (some ⟨b, off, none⟩))).run pg w = .ok (.value (.agg l.toArray)) w := VU Tryd.underlying47 rfl arR hl.symm h
theorem F4 {b off : Nat} {cs : List aLm} {w : aLl} (ho : cM w b cs) (h : off + 3 <= cs.length) : (aI 47 (.pointer (some ⟨b, off, none⟩))).run pg w = .ok (.value (.agg ((cs.drop off).take 3).toArray)) w := zW Tryd.underlying47 rfl arR ho h
theorem nX {base n m : Nat} {ty : TypeId} {w : aLl} {v x : aLm} {l news : List aLm} (h : uD w base 3 v n l) (hx : Cl w 3 x m news) (hone : ∀ y ∈ news, one y = true) (hb : base <= w.heap.size) (hbytes : (n + m) * 12 <= 140737488355328) {K : aLm -> aLl -> Prop} (hk : ∀ v' w', uD w' base 3 v' (n + m) (l ++ news) -> aS w w' (fun y => base <= y) -> K v' w') : aC pg (lF .append #[24, 24] ty [v, x]) w K := FG (i := Tryd.t47) Tryd.underlying24 Tryd.underlying24 arR rfl rfl rfl h hx hone hb (by omega) hbytes (by decide) hk
theorem lL (n0 : Int) (n1 : Int) (n2 : Int) (w : aLl) : (bX 67 [(0, (.int .i64 n0)), (1, (.int .i64 n1)), (2, (.int .i64 n2))]).run pg w = .ok (.value (.agg #[(.int .i64 n0), (.int .i64 n1), (.int .i64 n2)])) w := by kernel_rfl
theorem tL {k : IntKind} {a : Int} (cs : Array aLm) (w : aLl) (h0 : 0 <= a) (h1 : a < 3) : (IM 67 (.agg cs) (.int k a)).run pg w = ldC cs[a.toNat]? w (aHC pg 67 cs k a w) := aEy Tryd.underlying67 Tryd.underlying3 rfl Du rfl cs h0 (by simpa using h1)
theorem aCf : (pg).info? 36 = some Tryd.t36 := by kernel_rfl
theorem uA {b off : Nat} {cs : List aLm} {w : aLl} (ho : cM w b cs) (h : off + 6 <= cs.length) {K : aLm -> Prop} (hk : K (.agg ((cs.drop off).take 6).toArray)) : mW pg 36 (.pointer (some ⟨b, off, none⟩)) w K := D5 Tryd.underlying36 rfl aCf ho h hk
theorem jW {w : aLl} {K : aLm -> aLl -> Prop} (hk : ∀ w', cM w' w.heap.size [(.int .i64 0), (.slice none 0 0), (.int .i64 0), (.slice none 0 0), (.int .i64 0), (.slice none 0 0)] -> aS w w' cI -> w'.heap.size = w.heap.size + 1 -> K (.pointer (some ⟨w.heap.size, 0, none⟩)) w') : aC pg (bV 36) w K := lK (i := Tryd.t36) aCf rfl hk
theorem kZ (s0 : ByteArray) (w : aLl) : (bX 72 [(0, (.string s0))]).run pg w = .ok (.value (.agg #[(.string s0), (.int .i64 0)])) w := by kernel_rfl
theorem aB6 : (pg).info? 72 = some Tryd.t72 := by kernel_rfl
theorem mD {w : aLl} {K : aLm -> aLl -> Prop} (hk : ∀ w', cM w' w.heap.size [(.string ⟨#[]⟩), (.int .i64 0)] -> aS w w' cI -> w'.heap.size = w.heap.size + 1 -> K (.pointer (some ⟨w.heap.size, 0, none⟩)) w') : aC pg (bV 72) w K := lK (i := Tryd.t72) aB6 rfl hk
theorem jZ {b off : Nat} {cs : List aLm} {w : aLl} {xs : Array aLm} {K : aLm -> aLl -> Prop} (ho : cM w b cs) (hs : xs.size = 2) (hv : ∀ x ∈ xs.toList, one x = true) (h : off + 2 <= cs.length) (hk : ∀ w', cM w' b (aV cs off xs.toList) -> aS w w' (fun x => x = b) -> w'.heap.size = w.heap.size -> K undef w') : aC pg (aK 72 (.pointer (some ⟨b, off, none⟩)) (.agg xs)) w K := lZ (v := .agg xs) aB6 ho hs hv h hk
theorem aEd : (pg).info? 30 = some Tryd.t30 := by kernel_rfl
theorem dV (b o : Nat) (w : aLl) : (aL 72 (.pointer (some ⟨b, o, none⟩)) 1).run pg w = .ok (.value (.pointer (some ⟨b, o + 1, none⟩))) w := kM (i := 1) Tryd.underlying72 rfl aEd (by decide) _
theorem iN (x : Addr) (w : aLl) : (aI 30 (.pointer (some x))).run pg w = ldC (w.cell? x) w (far pg 30 x w) := asA Tryd.underlying30 rfl x w
theorem jF {b off : Nat} {cs : List aLm} {w : aLl} (ho : cM w b cs) (h : off + 6 <= cs.length) : (aI 36 (.pointer (some ⟨b, off, none⟩))).run pg w = .ok (.value (.agg ((cs.drop off).take 6).toArray)) w := zW Tryd.underlying36 rfl aCf ho h
theorem jE {b off : Nat} {cs : List aLm} {w : aLl} {xs : Array aLm} {K : aLm -> aLl -> Prop} (ho : cM w b cs) (hs : xs.size = 6) (hv : ∀ x ∈ xs.toList, one x = true) (h : off + 6 <= cs.length) (hk : ∀ w', cM w' b (aV cs off xs.toList) -> aS w w' (fun x => x = b) -> w'.heap.size = w.heap.size -> K undef w') : aC pg (aK 36 (.pointer (some ⟨b, off, none⟩)) (.agg xs)) w K := lZ (v := .agg xs) aCf ho hs hv h hk
theorem aIc : (pg).info? 9 = some Tryd.t9 := by kernel_rfl
theorem eX (b o : Nat) (w : aLl) : (aL 72 (.pointer (some ⟨b, o, none⟩)) 0).run pg w = .ok (.value (.pointer (some ⟨b, o, none⟩))) w := kM (i := 0) Tryd.underlying72 rfl aIc (by decide) _
theorem sP (x : Addr) (w : aLl) : (aI 9 (.pointer (some x))).run pg w = ldC (w.cell? x) w (far pg 9 x w) := asA Tryd.underlying9 rfl x w
theorem pI {ty : TypeId} (x : ByteArray) (w : aLl) : (lF .len #[9] ty [.string x]).run pg w = .ok (.value (.int .i64 x.size)) w := aGV Tryd.underlying9 x
theorem hP {b off : Nat} {cs : List aLm} {w : aLl} (ho : cM w b cs) (h : off + 2 <= cs.length) : (aI 72 (.pointer (some ⟨b, off, none⟩))).run pg w = .ok (.value (.agg ((cs.drop off).take 2).toArray)) w := zW Tryd.underlying72 rfl aB6 ho h
theorem cR {k : IntKind} (a : Int) (w : aLl) : (gF 73 3 (.int k a)).run pg w = .ok (.value (.int .i64 (IntKind.i64.wrap a))) w := DR Tryd.underlying73 Tryd.underlying3
theorem zD {n : Nat} {ps : List (Nat × aLm)} {cells : Array aLm} {w : aLl} (h1 : ¬ n * 1 > 2 ^ 24) (h0 : ¬ n * 1 = 0) (hf : Go.Instr.fill (fun j => some (j * 1, 1)) ((Array.range (n * 1)).map ((Tryd.t3.zero.get!).cells[· % (Tryd.t3.zero.get!).cells.size]!)) ps = some cells) {K : aLm -> aLl -> Prop} (hk : ∀ w', cM w' w.heap.size cells.toList -> aS w w' cI -> w'.heap.size = w.heap.size + 1 -> K (.slice (some ⟨w.heap.size, 0, none⟩) n n) w') : aC pg (cD 77 n ps) w K := Dd (i := Tryd.t3) Tryd.underlying77 Du rfl h1 h0 hf hk
theorem dB {k : IntKind} {a : Int} (b o n c : Nat) (w : aLl) (h0 : 0 <= a) (h1 : a < n) : (aY 77 (.slice (some ⟨b, o, none⟩) n c) (.int k a)).run pg w = .ok (.value (.pointer (some ⟨b, o + a.toNat, none⟩))) w := VX rfl Tryd.underlying77 Du b o n c h0 h1
theorem aAk : (pg).info? 35 = some Tryd.t35 := by kernel_rfl
theorem dA {k : IntKind} {a : Int} (b o : Nat) (w : aLl) (h0 : 0 <= a) (h1 : a < 3) : (aY 36 (.pointer (some ⟨b, o, none⟩)) (.int k a)).run pg w = .ok (.value (.pointer (some ⟨b, o + a.toNat * 2, none⟩))) w := avJ rfl Tryd.underlying36 aAk b o h0 (by simpa using h1)
theorem dD {b off : Nat} {cs : List aLm} {w : aLl} (ho : cM w b cs) (h : off + 2 <= cs.length) : (aI 35 (.pointer (some ⟨b, off, none⟩))).run pg w = .ok (.value (.agg ((cs.drop off).take 2).toArray)) w := zW Tryd.underlying35 rfl aAk ho h
theorem gE {w : aLl} {K : aLm -> aLl -> Prop} (hk : ∀ w', cM w' w.heap.size [(.int .i64 0), (.slice none 0 0)] -> aS w w' cI -> w'.heap.size = w.heap.size + 1 -> K (.pointer (some ⟨w.heap.size, 0, none⟩)) w') : aC pg (bV 35) w K := lK (i := Tryd.t35) aAk rfl hk
theorem eJ {b off : Nat} {cs : List aLm} {w : aLl} {xs : Array aLm} {K : aLm -> aLl -> Prop} (ho : cM w b cs) (hs : xs.size = 2) (hv : ∀ x ∈ xs.toList, one x = true) (h : off + 2 <= cs.length) (hk : ∀ w', cM w' b (aV cs off xs.toList) -> aS w w' (fun x => x = b) -> w'.heap.size = w.heap.size -> K undef w') : aC pg (aK 35 (.pointer (some ⟨b, off, none⟩)) (.agg xs)) w K := lZ (v := .agg xs) aAk ho hs hv h hk
theorem pD {k : IntKind} {lo : Int} (x : ByteArray) (w : aLl) (h0 : 0 <= lo) (h1 : lo <= x.size) : (gB 9 (.string x) (some (.int k lo)) none none).run pg w = .ok (.value (.string (x.extract lo.toNat x.size))) w := aAC Tryd.underlying9  x h0 h1
theorem aCF : (pg).info? 82 = some Tryd.t82 := by kernel_rfl
theorem kV {w : aLl} {K : aLm -> aLl -> Prop} (hk : ∀ w', cM w' w.heap.size [(.slice none 0 0), (.int .i64 0)] -> aS w w' cI -> w'.heap.size = w.heap.size + 1 -> K (.pointer (some ⟨w.heap.size, 0, none⟩)) w') : aC pg (bV 82) w K := lK (i := Tryd.t82) aCF rfl hk
theorem bY {b off : Nat} {cs : List aLm} {w : aLl} {xs : Array aLm} {K : aLm -> aLl -> Prop} (ho : cM w b cs) (hs : xs.size = 2) (hv : ∀ x ∈ xs.toList, one x = true) (h : off + 2 <= cs.length) (hk : ∀ w', cM w' b (aV cs off xs.toList) -> aS w w' (fun x => x = b) -> w'.heap.size = w.heap.size -> K undef w') : aC pg (aK 82 (.pointer (some ⟨b, off, none⟩)) (.agg xs)) w K := lZ (v := .agg xs) aCF ho hs hv h hk
theorem dE {b off : Nat} {cs : List aLm} {w : aLl} (ho : cM w b cs) (h : off + 2 <= cs.length) : (aI 82 (.pointer (some ⟨b, off, none⟩))).run pg w = .ok (.value (.agg ((cs.drop off).take 2).toArray)) w := zW Tryd.underlying82 rfl aCF ho h
theorem eE {ty : TypeId} (x : Option Addr) (n c : Nat) (w : aLl) : (lF .len #[91] ty [.slice x n c]).run pg w = .ok (.value (.int .i64 n)) w := Zb Tryd.underlying91 x n c
theorem lW {k : IntKind} {a : Int} (b o n c : Nat) (w : aLl) (h0 : 0 <= a) (h1 : a < n) : (aY 91 (.slice (some ⟨b, o, none⟩) n c) (.int k a)).run pg w = .ok (.value (.pointer (some ⟨b, o + a.toNat, none⟩))) w := VX rfl Tryd.underlying91 SZ b o n c h0 h1
theorem jB {k : IntKind} (a : Int) (w : aLl) : (gF 3 94 (.int k a)).run pg w = .ok (.value (.int .u64 (IntKind.u64.wrap a))) w := DR Tryd.underlying3 Tryd.underlying94
theorem AP {n : Nat} {ps : List (Nat × aLm)} {cells : Array aLm} {w : aLl} (h1 : ¬ n * 1 > 2 ^ 24) (h0 : ¬ n * 1 = 0) (hf : Go.Instr.fill (fun j => some (j * 1, 1)) ((Array.range (n * 1)).map ((Tryd.t5.zero.get!).cells[· % (Tryd.t5.zero.get!).cells.size]!)) ps = some cells) {K : aLm -> aLl -> Prop} (hk : ∀ w', cM w' w.heap.size cells.toList -> aS w w' cI -> w'.heap.size = w.heap.size + 1 -> K (.slice (some ⟨w.heap.size, 0, none⟩) n n) w') : aC pg (cD 22 n ps) w K := Dd (i := Tryd.t5) Tryd.underlying22 Yy rfl h1 h0 hf hk
theorem fF {k : IntKind} (a : Int) (w : aLl) : (gF 3 73 (.int k a)).run pg w = .ok (.value (.int .u64 (IntKind.u64.wrap a))) w := DR Tryd.underlying3 Tryd.underlying73
theorem aCA : (pg).info? 98 = some Tryd.t98 := by kernel_rfl
theorem G6 {w : aLl} {K : aLm -> aLl -> Prop} (hk : ∀ w', cM w' w.heap.size [(.slice none 0 0), (.slice none 0 0), (.slice none 0 0)] -> aS w w' cI -> w'.heap.size = w.heap.size + 1 -> K (.pointer (some ⟨w.heap.size, 0, none⟩)) w') : aC pg (bV 98) w K := lK (i := Tryd.t98) aCA rfl hk
theorem Ln {b off : Nat} {cs : List aLm} {w : aLl} {xs : Array aLm} {K : aLm -> aLl -> Prop} (ho : cM w b cs) (hs : xs.size = 3) (hv : ∀ x ∈ xs.toList, one x = true) (h : off + 3 <= cs.length) (hk : ∀ w', cM w' b (aV cs off xs.toList) -> aS w w' (fun x => x = b) -> w'.heap.size = w.heap.size -> K undef w') : aC pg (aK 98 (.pointer (some ⟨b, off, none⟩)) (.agg xs)) w K := lZ (v := .agg xs) aCA ho hs hv h hk
theorem aB4 : (pg).info? 77 = some Tryd.t77 := by kernel_rfl
theorem nQ {k : IntKind} {a : Int} (b o : Nat) (w : aLl) (h0 : 0 <= a) (h1 : a < 3) : (aY 98 (.pointer (some ⟨b, o, none⟩)) (.int k a)).run pg w = .ok (.value (.pointer (some ⟨b, o + a.toNat, none⟩))) w := Kn rfl Tryd.underlying98 aB4 b o h0 (by simpa using h1)
theorem cF (x : Addr) (w : aLl) : (aI 77 (.pointer (some x))).run pg w = ldC (w.cell? x) w (far pg 77 x w) := asA Tryd.underlying77 rfl x w
theorem kD {w : aLl} {K : aLm -> aLl -> Prop} (hk : ∀ w', cM w' w.heap.size [(.int .i64 0), (.slice none 0 0)] -> aS w w' cI -> w'.heap.size = w.heap.size + 1 -> K (.pointer (some ⟨w.heap.size, 0, none⟩)) w') : aC pg (bV 27) w K := lK (i := Tryd.t27) azE rfl hk
theorem eL {b off : Nat} {cs : List aLm} {w : aLl} {xs : Array aLm} {K : aLm -> aLl -> Prop} (ho : cM w b cs) (hs : xs.size = 2) (hv : ∀ x ∈ xs.toList, one x = true) (h : off + 2 <= cs.length) (hk : ∀ w', cM w' b (aV cs off xs.toList) -> aS w w' (fun x => x = b) -> w'.heap.size = w.heap.size -> K undef w') : aC pg (aK 27 (.pointer (some ⟨b, off, none⟩)) (.agg xs)) w K := lZ (v := .agg xs) azE ho hs hv h hk
theorem Ui {base n m : Nat} {ty : TypeId} {w : aLl} {v x : aLm} {l news : List aLm} (h : uD w base 1 v n l) (hx : Cl w 1 x m news) (hone : ∀ y ∈ news, one y = true) (hb : base <= w.heap.size) (hbytes : (n + m) * 1 <= 140737488355328) {K : aLm -> aLl -> Prop} (hk : ∀ v' w', uD w' base 1 v' (n + m) (l ++ news) -> aS w w' (fun y => base <= y) -> K v' w') : aC pg (lF .append #[22, 22] ty [v, x]) w K := FG (i := Tryd.t5) Tryd.underlying22 Tryd.underlying22 Yy rfl rfl rfl h hx hone hb (by omega) hbytes (by decide) hk
theorem Ku {b off : Nat} {cs : List aLm} {w : aLl} (ho : cM w b cs) (h : off + 3 <= cs.length) : (aI 98 (.pointer (some ⟨b, off, none⟩))).run pg w = .ok (.value (.agg ((cs.drop off).take 3).toArray)) w := zW Tryd.underlying98 rfl aCA ho h
theorem sD {k : IntKind} {a : Int} (b o : Nat) (w : aLl) (h0 : 0 <= a) (h1 : a < 3) : (aY 41 (.pointer (some ⟨b, o, none⟩)) (.int k a)).run pg w = .ok (.value (.pointer (some ⟨b, o + a.toNat, none⟩))) w := Kn rfl Tryd.underlying41 Yy b o h0 (by simpa using h1)
theorem gN (aH7 aIr : aLm) (aH2 aIe : aLm) (aIu aH4 : aLm) (w : aLl) : (bX 36 [(0, (.agg #[aH7, aIr])), (1, (.agg #[aH2, aIe])), (2, (.agg #[aIu, aH4]))]).run pg w = .ok (.value (.agg #[aH7, aIr, aH2, aIe, aIu, aH4])) w := by kernel_rfl
theorem oB (a0 : Option Addr) (l0 c0 : Nat) (w : aLl) : (bX 112 [(0, (.slice a0 l0 c0))]).run pg w = .ok (.value (.agg #[(.slice a0 l0 c0), (.int .i64 0)])) w := by kernel_rfl
theorem iQ {ox oy : Operand} (x : Option Addr) (w : aLl) : (aH .eql 56 ox oy (.pointer x) (.pointer none)).run pg w = .ok (.value (.bool x.isNone)) w := aqZ Tryd.underlying56 x
theorem jU (b o : Nat) (w : aLl) : (aL 112 (.pointer (some ⟨b, o, none⟩)) 1).run pg w = .ok (.value (.pointer (some ⟨b, o + 1, none⟩))) w := kM (i := 1) Tryd.underlying112 rfl aEd (by decide) _
theorem avF : (pg).info? 22 = some Tryd.t22 := by kernel_rfl
theorem jT (b o : Nat) (w : aLl) : (aL 112 (.pointer (some ⟨b, o, none⟩)) 0).run pg w = .ok (.value (.pointer (some ⟨b, o, none⟩))) w := kM (i := 0) Tryd.underlying112 rfl avF (by decide) _
theorem fS (x : Addr) (w : aLl) : (aI 22 (.pointer (some x))).run pg w = ldC (w.cell? x) w (far pg 22 x w) := asA Tryd.underlying22 rfl x w
theorem mF {k : IntKind} {lo : Int} (a : Option Addr) (n c : Nat) (w : aLl) (h0 : 0 <= lo) (h1 : lo <= n) : (gB 22 (.slice a n c) (some (.int k lo)) none none).run pg w = .ok (.value (.slice (kL a c (lo.toNat) 1) (n - lo.toNat) (c - lo.toNat))) w := arM Tryd.underlying22 Yy _ n c h0 h1
theorem aD0 : (pg).info? 112 = some Tryd.t112 := by kernel_rfl
theorem aaG {b off : Nat} {cs : List aLm} {w : aLl} (ho : cM w b cs) (h : off + 2 <= cs.length) : (aI 112 (.pointer (some ⟨b, off, none⟩))).run pg w = .ok (.value (.agg ((cs.drop off).take 2).toArray)) w := zW Tryd.underlying112 rfl aD0 ho h
theorem Zp {b off : Nat} {cs : List aLm} {w : aLl} {xs : Array aLm} {K : aLm -> aLl -> Prop} (ho : cM w b cs) (hs : xs.size = 2) (hv : ∀ x ∈ xs.toList, one x = true) (h : off + 2 <= cs.length) (hk : ∀ w', cM w' b (aV cs off xs.toList) -> aS w w' (fun x => x = b) -> w'.heap.size = w.heap.size -> K undef w') : aC pg (aK 112 (.pointer (some ⟨b, off, none⟩)) (.agg xs)) w K := lZ (v := .agg xs) aD0 ho hs hv h hk
theorem mE (a0 : Option Addr) (l0 c0 : Nat) (n1 : Int) (w : aLl) : (bX 118 [(0, (.slice a0 l0 c0)), (1, (.int .i64 n1))]).run pg w = .ok (.value (.agg #[(.slice a0 l0 c0), (.int .i64 n1)])) w := by kernel_rfl
theorem mV (b o : Nat) (w : aLl) : (aL 27 (.pointer (some ⟨b, o, none⟩)) 0).run pg w = .ok (.value (.pointer (some ⟨b, o, none⟩))) w := kM (i := 0) Tryd.underlying27 rfl Du (by decide) _
theorem afQ : (pg).info? 123 = some Tryd.t123 := by kernel_rfl
theorem iU {k : IntKind} {a : Int} (b o n c : Nat) (w : aLl) (h0 : 0 <= a) (h1 : a < n) : (aY 25 (.slice (some ⟨b, o, none⟩) n c) (.int k a)).run pg w = .ok (.value (.pointer (some ⟨b, o + a.toNat * 3, none⟩))) w := afD rfl Tryd.underlying25 afQ b o n c h0 h1
theorem eH (b o : Nat) (w : aLl) : (aL 123 (.pointer (some ⟨b, o, none⟩)) 0).run pg w = .ok (.value (.pointer (some ⟨b, o, none⟩))) w := kM (i := 0) Tryd.underlying123 rfl Yy (by decide) _
theorem kX {k : IntKind} (a : Int) (w : aLl) : (gF 5 3 (.int k a)).run pg w = .ok (.value (.int .i64 (IntKind.i64.wrap a))) w := DR Tryd.underlying5 Tryd.underlying3
theorem oQ {k : IntKind} (a : Int) (w : aLl) : (gF 73 43 (.int k a)).run pg w = .ok (.value (.int .u32 (IntKind.u32.wrap a))) w := DR Tryd.underlying73 Tryd.underlying43
theorem GD {b off : Nat} {cs : List aLm} {w : aLl} (ho : cM w b cs) (h : off + 3 <= cs.length) : (aI 123 (.pointer (some ⟨b, off, none⟩))).run pg w = .ok (.value (.agg ((cs.drop off).take 3).toArray)) w := zW Tryd.underlying123 rfl afQ ho h
theorem Kf {w : aLl} {K : aLm -> aLl -> Prop} (hk : ∀ w', cM w' w.heap.size [(.int .u8 0), (.int .i64 0), (.int .i64 0)] -> aS w w' cI -> w'.heap.size = w.heap.size + 1 -> K (.pointer (some ⟨w.heap.size, 0, none⟩)) w') : aC pg (bV 123) w K := lK (i := Tryd.t123) afQ rfl hk
theorem Gx {b off : Nat} {cs : List aLm} {w : aLl} {xs : Array aLm} {K : aLm -> aLl -> Prop} (ho : cM w b cs) (hs : xs.size = 3) (hv : ∀ x ∈ xs.toList, one x = true) (h : off + 3 <= cs.length) (hk : ∀ w', cM w' b (aV cs off xs.toList) -> aS w w' (fun x => x = b) -> w'.heap.size = w.heap.size -> K undef w') : aC pg (aK 123 (.pointer (some ⟨b, off, none⟩)) (.agg xs)) w K := lZ (v := .agg xs) afQ ho hs hv h hk
theorem gV (b o : Nat) (w : aLl) : (aL 123 (.pointer (some ⟨b, o, none⟩)) 2).run pg w = .ok (.value (.pointer (some ⟨b, o + 2, none⟩))) w := kM (i := 2) Tryd.underlying123 rfl Du (by decide) _
theorem gJ (b o : Nat) (w : aLl) : (aL 123 (.pointer (some ⟨b, o, none⟩)) 1).run pg w = .ok (.value (.pointer (some ⟨b, o + 1, none⟩))) w := kM (i := 1) Tryd.underlying123 rfl Du (by decide) _
theorem jO {ox oy : Operand} (x : Option Addr) (w : aLl) : (aH .eql 63 ox oy (.pointer x) (.pointer none)).run pg w = .ok (.value (.bool x.isNone)) w := aqZ Tryd.underlying63 x
theorem iY (b o : Nat) (w : aLl) : (aL 118 (.pointer (some ⟨b, o, none⟩)) 1).run pg w = .ok (.value (.pointer (some ⟨b, o + 1, none⟩))) w := kM (i := 1) Tryd.underlying118 rfl Du (by decide) _
theorem TG {b off : Nat} {cs : List aLm} {w : aLl} (ho : cM w b cs) (h : off + 2 <= cs.length) {K : aLm -> Prop} (hk : K (.agg ((cs.drop off).take 2).toArray)) : mW pg 72 (.pointer (some ⟨b, off, none⟩)) w K := D5 Tryd.underlying72 rfl aB6 ho h hk
theorem aaQ {b off : Nat} {cs : List aLm} {w : aLl} {v : aLm} {K : aLm -> aLl -> Prop} (ho : cM w b cs) (hv : one v = true) (h : off < cs.length) (hk : ∀ w', cM w' b (cs.set off v) -> aS w w' (fun x => x = b) -> w'.heap.size = w.heap.size -> K undef w') : aC pg (aK 30 (.pointer (some ⟨b, off, none⟩)) v) w K := xU aEd rfl ho hv h hk
theorem qD {k : IntKind} {a : Int} (x : ByteArray) (w : aLl) (h0 : 0 <= a) (h1 : a.toNat < x.size) : (IM 9 (.string x) (.int k a)).run pg w = .ok (.value (.int .u8 (x[a.toNat]'h1).toNat)) w := aG6 Tryd.underlying9 x h0 h1
theorem nU {k : IntKind} (a : Int) (w : aLl) : (gF 5 73 (.int k a)).run pg w = .ok (.value (.int .u64 (IntKind.u64.wrap a))) w := DR Tryd.underlying5 Tryd.underlying73
theorem pW {b off : Nat} {cs : List aLm} {w : aLl} (ho : cM w b cs) (h : off + 2 <= cs.length) {K : aLm -> Prop} (hk : K (.agg ((cs.drop off).take 2).toArray)) : mW pg 35 (.pointer (some ⟨b, off, none⟩)) w K := D5 Tryd.underlying35 rfl aAk ho h hk
theorem cG  (w : aLl) : (bX 35 []).run pg w = .ok (.value (.agg #[(.int .i64 0), (.slice none 0 0)])) w := by kernel_rfl
theorem aGM : (pg).info? 33 = some Tryd.t33 := by kernel_rfl
theorem bF (b o : Nat) (w : aLl) : (aL 35 (.pointer (some ⟨b, o, none⟩)) 1).run pg w = .ok (.value (.pointer (some ⟨b, o + 1, none⟩))) w := kM (i := 1) Tryd.underlying35 rfl aGM (by decide) _
theorem bA (x : Addr) (w : aLl) : (aI 33 (.pointer (some x))).run pg w = ldC (w.cell? x) w (far pg 33 x w) := asA Tryd.underlying33 rfl x w
theorem gG {ty : TypeId} (x : Option Addr) (n c : Nat) (w : aLl) : (lF .len #[33] ty [.slice x n c]).run pg w = .ok (.value (.int .i64 n)) w := Zb Tryd.underlying33 x n c
theorem axC : (pg).info? 130 = some Tryd.t130 := by kernel_rfl
theorem qW {w : aLl} {K : aLm -> aLl -> Prop} (hk : ∀ w', cM w' w.heap.size [(.int .i64 0), (.slice none 0 0)] -> aS w w' cI -> w'.heap.size = w.heap.size + 1 -> K (.pointer (some ⟨w.heap.size, 0, none⟩)) w') : aC pg (bV 130) w K := lK (i := Tryd.t130) axC rfl hk
theorem jX {b off : Nat} {cs : List aLm} {w : aLl} {xs : Array aLm} {K : aLm -> aLl -> Prop} (ho : cM w b cs) (hs : xs.size = 2) (hv : ∀ x ∈ xs.toList, one x = true) (h : off + 2 <= cs.length) (hk : ∀ w', cM w' b (aV cs off xs.toList) -> aS w w' (fun x => x = b) -> w'.heap.size = w.heap.size -> K undef w') : aC pg (aK 130 (.pointer (some ⟨b, off, none⟩)) (.agg xs)) w K := lZ (v := .agg xs) axC ho hs hv h hk
theorem nK {b off : Nat} {cs : List aLm} {w : aLl} (ho : cM w b cs) (h : off + 2 <= cs.length) : (aI 130 (.pointer (some ⟨b, off, none⟩))).run pg w = .ok (.value (.agg ((cs.drop off).take 2).toArray)) w := zW Tryd.underlying130 rfl axC ho h
theorem iZ {b off : Nat} {cs : List aLm} {w : aLl} (ho : cM w b cs) (h : off + 2 <= cs.length) {K : aLm -> Prop} (hk : K (.agg ((cs.drop off).take 2).toArray)) : mW pg 82 (.pointer (some ⟨b, off, none⟩)) w K := D5 Tryd.underlying82 rfl aCF ho h hk
theorem jA  (w : aLl) : (bX 82 []).run pg w = .ok (.value (.agg #[(.slice none 0 0), (.int .i64 0)])) w := by kernel_rfl
theorem nZ {ty : TypeId} (x : Option Addr) (n c : Nat) (w : aLl) : (lF .len #[80] ty [.slice x n c]).run pg w = .ok (.value (.int .i64 n)) w := Zb Tryd.underlying80 x n c
theorem aCW : (pg).info? 4 = some Tryd.t4 := by kernel_rfl
theorem vH {k : IntKind} {a : Int} (b o n c : Nat) (w : aLl) (h0 : 0 <= a) (h1 : a < n) : (aY 80 (.slice (some ⟨b, o, none⟩) n c) (.int k a)).run pg w = .ok (.value (.pointer (some ⟨b, o + a.toNat, none⟩))) w := VX rfl Tryd.underlying80 aCW b o n c h0 h1
theorem GW (x : Addr) (w : aLl) : (aI 4 (.pointer (some x))).run pg w = ldC (w.cell? x) w (far pg 4 x w) := asA Tryd.underlying4 rfl x w
theorem sN {k : IntKind} {hi : Int} (a : Option Addr) (n c : Nat) (w : aLl) (h0 : 0 <= hi) (h1 : hi <= c) : (gB 80 (.slice a n c) none (some (.int k hi)) none).run pg w = .ok (.value (.slice (kL a c (0) 1) (hi.toNat - 0) (c - 0))) w := R9 Tryd.underlying80 aCW _ n c h0 h1
theorem lA (a0 : Option Addr) (l0 c0 : Nat) (w : aLl) : (bX 82 [(0, (.slice a0 l0 c0))]).run pg w = .ok (.value (.agg #[(.slice a0 l0 c0), (.int .i64 0)])) w := by kernel_rfl
theorem jS (b o : Nat) (w : aLl) : (aL 35 (.pointer (some ⟨b, o, none⟩)) 0).run pg w = .ok (.value (.pointer (some ⟨b, o, none⟩))) w := kM (i := 0) Tryd.underlying35 rfl Du (by decide) _
theorem aBI : (pg).info? 139 = some Tryd.t139 := by kernel_rfl
theorem eB {k : IntKind} {a : Int} (b o n c : Nat) (w : aLl) (h0 : 0 <= a) (h1 : a < n) : (aY 33 (.slice (some ⟨b, o, none⟩) n c) (.int k a)).run pg w = .ok (.value (.pointer (some ⟨b, o + a.toNat * 3, none⟩))) w := afD rfl Tryd.underlying33 aBI b o n c h0 h1
theorem fA (b o : Nat) (w : aLl) : (aL 139 (.pointer (some ⟨b, o, none⟩)) 0).run pg w = .ok (.value (.pointer (some ⟨b, o, none⟩))) w := kM (i := 0) Tryd.underlying139 rfl Du (by decide) _
theorem iE (b o : Nat) (w : aLl) : (aL 139 (.pointer (some ⟨b, o, none⟩)) 1).run pg w = .ok (.value (.pointer (some ⟨b, o + 1, none⟩))) w := kM (i := 1) Tryd.underlying139 rfl Du (by decide) _
theorem iF (b o : Nat) (w : aLl) : (aL 139 (.pointer (some ⟨b, o, none⟩)) 2).run pg w = .ok (.value (.pointer (some ⟨b, o + 2, none⟩))) w := kM (i := 2) Tryd.underlying139 rfl Du (by decide) _
theorem aFq : (pg).info? 80 = some Tryd.t80 := by kernel_rfl
theorem fJ (b o : Nat) (w : aLl) : (aL 82 (.pointer (some ⟨b, o, none⟩)) 0).run pg w = .ok (.value (.pointer (some ⟨b, o, none⟩))) w := kM (i := 0) Tryd.underlying82 rfl aFq (by decide) _
theorem pF (x : Addr) (w : aLl) : (aI 80 (.pointer (some x))).run pg w = ldC (w.cell? x) w (far pg 80 x w) := asA Tryd.underlying80 rfl x w
theorem gH (b o : Nat) (w : aLl) : (aL 82 (.pointer (some ⟨b, o, none⟩)) 1).run pg w = .ok (.value (.pointer (some ⟨b, o + 1, none⟩))) w := kM (i := 1) Tryd.underlying82 rfl Du (by decide) _
theorem Rg {n : Nat} {ps : List (Nat × aLm)} {cells : Array aLm} {w : aLl} (h1 : ¬ n * 1 > 2 ^ 24) (h0 : ¬ n * 1 = 0) (hf : Go.Instr.fill (fun j => some (j * 1, 1)) ((Array.range (n * 1)).map ((Tryd.t43.zero.get!).cells[· % (Tryd.t43.zero.get!).cells.size]!)) ps = some cells) {K : aLm -> aLl -> Prop} (hk : ∀ w', cM w' w.heap.size cells.toList -> aS w w' cI -> w'.heap.size = w.heap.size + 1 -> K (.slice (some ⟨w.heap.size, 0, none⟩) n n) w') : aC pg (cD 91 n ps) w K := Dd (i := Tryd.t43) Tryd.underlying91 SZ rfl h1 h0 hf hk
theorem RM {base n m : Nat} {ty : TypeId} {w : aLl} {v x : aLm} {l news : List aLm} (h : uD w base 1 v n l) (hx : Cl w 1 x m news) (hone : ∀ y ∈ news, one y = true) (hb : base <= w.heap.size) (hbytes : (n + m) * 4 <= 140737488355328) {K : aLm -> aLl -> Prop} (hk : ∀ v' w', uD w' base 1 v' (n + m) (l ++ news) -> aS w w' (fun y => base <= y) -> K v' w') : aC pg (lF .append #[91, 91] ty [v, x]) w K := FG (i := Tryd.t43) Tryd.underlying91 Tryd.underlying91 SZ rfl rfl rfl h hx hone hb (by omega) hbytes (by decide) hk
theorem Fz {base n m : Nat} {ty : TypeId} {w : aLl} {v x : aLm} {l news : List aLm} (h : uD w base 1 v n l) (hx : Cl w 1 x m news) (hone : ∀ y ∈ news, one y = true) (hb : base <= w.heap.size) (hbytes : (n + m) * 8 <= 140737488355328) {K : aLm -> aLl -> Prop} (hk : ∀ v' w', uD w' base 1 v' (n + m) (l ++ news) -> aS w w' (fun y => base <= y) -> K v' w') : aC pg (lF .append #[77, 77] ty [v, x]) w K := FG (i := Tryd.t3) Tryd.underlying77 Tryd.underlying77 Du rfl rfl rfl h hx hone hb (by omega) hbytes (by decide) hk
theorem pH  (w : aLl) : (bX 141 []).run pg w = .ok (.value (.agg #[(.slice none 0 0)])) w := by kernel_rfl
theorem kS {ox oy : Operand} (x : Option Addr) (w : aLl) : (aH .eql 95 ox oy (.pointer x) (.pointer none)).run pg w = .ok (.value (.bool x.isNone)) w := aqZ Tryd.underlying95 x
theorem jV (b o : Nat) (w : aLl) : (aL 141 (.pointer (some ⟨b, o, none⟩)) 0).run pg w = .ok (.value (.pointer (some ⟨b, o, none⟩))) w := kM (i := 0) Tryd.underlying141 rfl avF (by decide) _
theorem lH {k : IntKind} (a : Int) (w : aLl) : (gF 73 5 (.int k a)).run pg w = .ok (.value (.int .u8 (IntKind.u8.wrap a))) w := DR Tryd.underlying73 Tryd.underlying5
theorem Hx {b off : Nat} {cs : List aLm} {w : aLl} {v : aLm} {K : aLm -> aLl -> Prop} (ho : cM w b cs) (hv : one v = true) (h : off < cs.length) (hk : ∀ w', cM w' b (cs.set off v) -> aS w w' (fun x => x = b) -> w'.heap.size = w.heap.size -> K undef w') : aC pg (aK 22 (.pointer (some ⟨b, off, none⟩)) v) w K := xU avF rfl ho hv h hk
theorem apL {b off : Nat} {cs : List aLm} {w : aLl} (ho : cM w b cs) (h : off + 3 <= cs.length) {K : aLm -> Prop} (hk : K (.agg ((cs.drop off).take 3).toArray)) : mW pg 98 (.pointer (some ⟨b, off, none⟩)) w K := D5 Tryd.underlying98 rfl aCA ho h hk
theorem aeT {b off : Nat} {cs : List aLm} {w : aLl} {xs : Array aLm} {K : aLm -> aLl -> Prop} (ho : cM w b cs) (hs : xs.size = 3) (hv : ∀ x ∈ xs.toList, one x = true) (h : off + 3 <= cs.length) (hk : ∀ w', cM w' b (aV cs off xs.toList) -> aS w w' (fun x => x = b) -> w'.heap.size = w.heap.size -> K undef w') : aC pg (aK 47 (.pointer (some ⟨b, off, none⟩)) (.agg xs)) w K := lZ (v := .agg xs) arR ho hs hv h hk
theorem vE {k : IntKind} {a : Int} (cs : Array aLm) (w : aLl) (h0 : 0 <= a) (h1 : a < 3) : (IM 142 (.agg cs) (.int k a)).run pg w = ldC cs[a.toNat]? w (aHC pg 142 cs k a w) := aEy Tryd.underlying142 Tryd.underlying43 rfl SZ rfl cs h0 (by simpa using h1)
theorem VW {b off : Nat} {cs : List aLm} {w : aLl} {v : aLm} {K : aLm -> aLl -> Prop} (ho : cM w b cs) (hv : one v = true) (h : off < cs.length) (hk : ∀ w', cM w' b (cs.set off v) -> aS w w' (fun x => x = b) -> w'.heap.size = w.heap.size -> K undef w') : aC pg (aK 77 (.pointer (some ⟨b, off, none⟩)) v) w K := xU aB4 rfl ho hv h hk
theorem sL {b off : Nat} {cs : List aLm} {w : aLl} (ho : cM w b cs) (h : off + 2 <= cs.length) {K : aLm -> Prop} (hk : K (.agg ((cs.drop off).take 2).toArray)) : mW pg 27 (.pointer (some ⟨b, off, none⟩)) w K := D5 Tryd.underlying27 rfl azE ho h hk
theorem dU {ty : TypeId} (x : Option Addr) (n c : Nat) (w : aLl) : (lF .len #[77] ty [.slice x n c]).run pg w = .ok (.value (.int .i64 n)) w := Zb Tryd.underlying77 x n c
theorem eT  (w : aLl) : (bX 27 []).run pg w = .ok (.value (.agg #[(.int .i64 0), (.slice none 0 0)])) w := by kernel_rfl
theorem aHm : (pg).info? 144 = some Tryd.t144 := by kernel_rfl
theorem alI {w : aLl} {K : aLm -> aLl -> Prop} (hk : ∀ w', cM w' w.heap.size [(.int .u32 0), (.int .u32 0), (.int .u32 0), (.int .u32 0), (.int .u32 0), (.int .u32 0), (.int .u32 0), (.int .u32 0), (.int .u32 0), (.int .u32 0), (.int .u32 0), (.int .u32 0), (.int .u32 0), (.int .u32 0), (.int .u32 0), (.int .u32 0), (.int .u32 0), (.int .u32 0), (.int .u32 0), (.int .u32 0), (.int .u32 0), (.int .u32 0), (.int .u32 0), (.int .u32 0), (.int .u32 0), (.int .u32 0), (.int .u32 0), (.int .u32 0), (.int .u32 0), (.int .u32 0), (.int .u32 0), (.int .u32 0), (.int .u32 0), (.int .u32 0), (.int .u32 0), (.int .u32 0), (.int .u32 0), (.int .u32 0), (.int .u32 0), (.int .u32 0), (.int .u32 0), (.int .u32 0), (.int .u32 0), (.int .u32 0), (.int .u32 0), (.int .u32 0), (.int .u32 0), (.int .u32 0), (.int .u32 0), (.int .u32 0), (.int .u32 0), (.int .u32 0), (.int .u32 0), (.int .u32 0), (.int .u32 0), (.int .u32 0), (.int .u32 0), (.int .u32 0), (.int .u32 0), (.int .u32 0), (.int .u32 0), (.int .u32 0), (.int .u32 0), (.int .u32 0), (.int .u32 0), (.int .u32 0), (.int .u32 0), (.int .u32 0), (.int .u32 0), (.int .u32 0), (.int .u32 0), (.int .u32 0), (.int .u32 0), (.int .u32 0), (.int .u32 0), (.int .u32 0), (.int .u32 0), (.int .u32 0), (.int .u32 0), (.int .u32 0), (.int .u32 0), (.int .u32 0), (.int .u32 0), (.int .u32 0), (.int .u32 0), (.int .u32 0), (.int .u32 0), (.int .u32 0), (.int .u32 0), (.int .u32 0), (.int .u32 0), (.int .u32 0), (.int .u32 0), (.int .u32 0), (.int .u32 0), (.int .u32 0), (.int .u32 0), (.int .u32 0), (.int .u32 0), (.int .u32 0), (.int .u32 0), (.int .u32 0), (.int .u32 0), (.int .u32 0), (.int .u32 0), (.int .u32 0), (.int .u32 0), (.int .u32 0), (.int .u32 0), (.int .u32 0), (.int .u32 0), (.int .u32 0), (.int .u32 0), (.int .u32 0), (.int .u32 0), (.int .u32 0), (.int .u32 0), (.int .u32 0), (.int .u32 0), (.int .u32 0), (.int .u32 0), (.int .u32 0), (.int .u32 0), (.int .u32 0), (.int .u32 0), (.int .u32 0), (.int .u32 0), (.int .u32 0), (.int .u32 0), (.int .u32 0), (.int .u32 0), (.int .u32 0), (.int .u32 0), (.int .u32 0), (.int .u32 0), (.int .u32 0), (.int .u32 0), (.int .u32 0), (.int .u32 0), (.int .u32 0), (.int .u32 0), (.int .u32 0), (.int .u32 0), (.int .u32 0), (.int .u32 0), (.int .u32 0), (.int .u32 0), (.int .u32 0), (.int .u32 0), (.int .u32 0), (.int .u32 0), (.int .u32 0), (.int .u32 0), (.int .u32 0), (.int .u32 0), (.int .u32 0), (.int .u32 0), (.int .u32 0), (.int .u32 0), (.int .u32 0), (.int .u32 0), (.int .u32 0), (.int .u32 0), (.int .u32 0), (.int .u32 0), (.int .u32 0), (.int .u32 0), (.int .u32 0), (.int .u32 0), (.int .u32 0), (.int .u32 0), (.int .u32 0), (.int .u32 0), (.int .u32 0), (.int .u32 0), (.int .u32 0), (.int .u32 0), (.int .u32 0), (.int .u32 0), (.int .u32 0), (.int .u32 0), (.int .u32 0), (.int .u32 0), (.int .u32 0), (.int .u32 0), (.int .u32 0), (.int .u32 0), (.int .u32 0), (.int .u32 0), (.int .u32 0), (.int .u32 0), (.int .u32 0), (.int .u32 0), (.int .u32 0), (.int .u32 0), (.int .u32 0), (.int .u32 0), (.int .u32 0), (.int .u32 0), (.int .u32 0), (.int .u32 0), (.int .u32 0), (.int .u32 0), (.int .u32 0), (.int .u32 0), (.int .u32 0), (.int .u32 0), (.int .u32 0), (.int .u32 0), (.int .u32 0), (.int .u32 0), (.int .u32 0), (.int .u32 0), (.int .u32 0), (.int .u32 0), (.int .u32 0), (.int .u32 0), (.int .u32 0), (.int .u32 0), (.int .u32 0), (.int .u32 0), (.int .u32 0), (.int .u32 0), (.int .u32 0), (.int .u32 0), (.int .u32 0), (.int .u32 0), (.int .u32 0), (.int .u32 0), (.int .u32 0), (.int .u32 0), (.int .u32 0), (.int .u32 0), (.int .u32 0), (.int .u32 0), (.int .u32 0), (.int .u32 0), (.int .u32 0), (.int .u32 0), (.int .u32 0), (.int .u32 0), (.int .u32 0), (.int .u32 0), (.int .u32 0), (.int .u32 0), (.int .u32 0), (.int .u32 0), (.int .u32 0), (.int .u32 0), (.int .u32 0), (.int .u32 0), (.int .u32 0), (.int .u32 0), (.int .u32 0), (.int .u32 0), (.int .u32 0)] -> aS w w' cI -> w'.heap.size = w.heap.size + 1 -> K (.pointer (some ⟨w.heap.size, 0, none⟩)) w') : aC pg (bV 144) w K := lK (i := Tryd.t144) aHm rfl hk
theorem rW {k : IntKind} {a : Int} (b o : Nat) (w : aLl) (h0 : 0 <= a) (h1 : a < 256) : (aY 144 (.pointer (some ⟨b, o, none⟩)) (.int k a)).run pg w = .ok (.value (.pointer (some ⟨b, o + a.toNat, none⟩))) w := Kn rfl Tryd.underlying144 SZ b o h0 (by simpa using h1)
theorem avO : (pg).info? 145 = some Tryd.t145 := by kernel_rfl
theorem kI {w : aLl} {K : aLm -> aLl -> Prop} (hk : ∀ w', cM w' w.heap.size [(.int .i64 0), (.slice none 0 0)] -> aS w w' cI -> w'.heap.size = w.heap.size + 1 -> K (.pointer (some ⟨w.heap.size, 0, none⟩)) w') : aC pg (bV 145) w K := lK (i := Tryd.t145) avO rfl hk
theorem fN {b off : Nat} {cs : List aLm} {w : aLl} {xs : Array aLm} {K : aLm -> aLl -> Prop} (ho : cM w b cs) (hs : xs.size = 2) (hv : ∀ x ∈ xs.toList, one x = true) (h : off + 2 <= cs.length) (hk : ∀ w', cM w' b (aV cs off xs.toList) -> aS w w' (fun x => x = b) -> w'.heap.size = w.heap.size -> K undef w') : aC pg (aK 145 (.pointer (some ⟨b, off, none⟩)) (.agg xs)) w K := lZ (v := .agg xs) avO ho hs hv h hk
theorem jI {k : IntKind} (a : Int) (w : aLl) : (gF 3 5 (.int k a)).run pg w = .ok (.value (.int .u8 (IntKind.u8.wrap a))) w := DR Tryd.underlying3 Tryd.underlying5
theorem bC (b o : Nat) (w : aLl) : (aL 145 (.pointer (some ⟨b, o, none⟩)) 1).run pg w = .ok (.value (.pointer (some ⟨b, o + 1, none⟩))) w := kM (i := 1) Tryd.underlying145 rfl aB4 (by decide) _
theorem gX {b off : Nat} {cs : List aLm} {w : aLl} (ho : cM w b cs) (h : off + 2 <= cs.length) : (aI 145 (.pointer (some ⟨b, off, none⟩))).run pg w = .ok (.value (.agg ((cs.drop off).take 2).toArray)) w := zW Tryd.underlying145 rfl avO ho h
theorem lC {k : IntKind} {hi : Int} (b o : Nat) (w : aLl) (h0 : 0 <= hi) (h1 : hi <= 256) : (gB 144 (.pointer (some ⟨b, o, none⟩)) none (some (.int k hi)) none).run pg w = .ok (.value (.slice (some (xX ⟨b, o, none⟩ 256 (0) 1)) (hi.toNat - 0) (256 - 0))) w := ayZ Tryd.underlying144 SZ _ h0 (by simpa using h1)
theorem aAO : (pg).info? 142 = some Tryd.t142 := by kernel_rfl
theorem WY {w : aLl} {K : aLm -> aLl -> Prop} (hk : ∀ w', cM w' w.heap.size [(.int .u32 0), (.int .u32 0), (.int .u32 0)] -> aS w w' cI -> w'.heap.size = w.heap.size + 1 -> K (.pointer (some ⟨w.heap.size, 0, none⟩)) w') : aC pg (bV 142) w K := lK (i := Tryd.t142) aAO rfl hk
theorem VE {b off : Nat} {cs : List aLm} {w : aLl} {xs : Array aLm} {K : aLm -> aLl -> Prop} (ho : cM w b cs) (hs : xs.size = 3) (hv : ∀ x ∈ xs.toList, one x = true) (h : off + 3 <= cs.length) (hk : ∀ w', cM w' b (aV cs off xs.toList) -> aS w w' (fun x => x = b) -> w'.heap.size = w.heap.size -> K undef w') : aC pg (aK 142 (.pointer (some ⟨b, off, none⟩)) (.agg xs)) w K := lZ (v := .agg xs) aAO ho hs hv h hk
theorem vC {k : IntKind} {a : Int} (b o : Nat) (w : aLl) (h0 : 0 <= a) (h1 : a < 3) : (aY 142 (.pointer (some ⟨b, o, none⟩)) (.int k a)).run pg w = .ok (.value (.pointer (some ⟨b, o + a.toNat, none⟩))) w := Kn rfl Tryd.underlying142 SZ b o h0 (by simpa using h1)
theorem kG {k : IntKind} (a : Int) (w : aLl) : (gF 43 73 (.int k a)).run pg w = .ok (.value (.int .u64 (IntKind.u64.wrap a))) w := DR Tryd.underlying43 Tryd.underlying73
theorem mH {ox oy : Operand} (x : Option Addr) (w : aLl) : (aH .neq 95 ox oy (.pointer x) (.pointer none)).run pg w = .ok (.value (.bool (!x.isNone))) w := aHF Tryd.underlying95 x
theorem tJ (n0 : Int) (w : aLl) : (bX 123 [(0, (.int .u8 n0))]).run pg w = .ok (.value (.agg #[(.int .u8 n0), (.int .i64 0), (.int .i64 0)])) w := by kernel_rfl
theorem anQ {n : Nat} {ps : List (Nat × aLm)} {cells : Array aLm} {w : aLl} (h1 : ¬ n * 3 > 2 ^ 24) (h0 : ¬ n * 3 = 0) (hf : Go.Instr.fill (fun j => some (j * 3, 3)) ((Array.range (n * 3)).map ((Tryd.t123.zero.get!).cells[· % (Tryd.t123.zero.get!).cells.size]!)) ps = some cells) {K : aLm -> aLl -> Prop} (hk : ∀ w', cM w' w.heap.size cells.toList -> aS w w' cI -> w'.heap.size = w.heap.size + 1 -> K (.slice (some ⟨w.heap.size, 0, none⟩) n n) w') : aC pg (cD 25 n ps) w K := Dd (i := Tryd.t123) Tryd.underlying25 afQ rfl h1 h0 hf hk
theorem tA (a0 : Option Addr) (l0 c0 : Nat) (w : aLl) : (bX 27 [(1, (.slice a0 l0 c0))]).run pg w = .ok (.value (.agg #[(.int .i64 0), (.slice a0 l0 c0)])) w := by kernel_rfl
theorem jJ (n0 : Int) (w : aLl) : (bX 35 [(0, (.int .i64 n0))]).run pg w = .ok (.value (.agg #[(.int .i64 n0), (.slice none 0 0)])) w := by kernel_rfl
theorem iX (n0 : Int) (n1 : Int) (n2 : Int) (w : aLl) : (bX 139 [(0, (.int .i64 n0)), (1, (.int .i64 n1)), (2, (.int .i64 n2))]).run pg w = .ok (.value (.agg #[(.int .i64 n0), (.int .i64 n1), (.int .i64 n2)])) w := by kernel_rfl
theorem wT {n : Nat} {ps : List (Nat × aLm)} {cells : Array aLm} {w : aLl} (h1 : ¬ n * 3 > 2 ^ 24) (h0 : ¬ n * 3 = 0) (hf : Go.Instr.fill (fun j => some (j * 3, 3)) ((Array.range (n * 3)).map ((Tryd.t139.zero.get!).cells[· % (Tryd.t139.zero.get!).cells.size]!)) ps = some cells) {K : aLm -> aLl -> Prop} (hk : ∀ w', cM w' w.heap.size cells.toList -> aS w w' cI -> w'.heap.size = w.heap.size + 1 -> K (.slice (some ⟨w.heap.size, 0, none⟩) n n) w') : aC pg (cD 33 n ps) w K := Dd (i := Tryd.t139) Tryd.underlying33 aBI rfl h1 h0 hf hk
theorem oI {base n m : Nat} {ty : TypeId} {w : aLl} {v x : aLm} {l news : List aLm} (h : uD w base 3 v n l) (hx : Cl w 3 x m news) (hone : ∀ y ∈ news, one y = true) (hb : base <= w.heap.size) (hbytes : (n + m) * 24 <= 140737488355328) {K : aLm -> aLl -> Prop} (hk : ∀ v' w', uD w' base 3 v' (n + m) (l ++ news) -> aS w w' (fun y => base <= y) -> K v' w') : aC pg (lF .append #[33, 33] ty [v, x]) w K := FG (i := Tryd.t139) Tryd.underlying33 Tryd.underlying33 aBI rfl rfl rfl h hx hone hb (by omega) hbytes (by decide) hk
theorem Di {b off : Nat} {cs : List aLm} {w : aLl} {v : aLm} {K : aLm -> aLl -> Prop} (ho : cM w b cs) (hv : one v = true) (h : off < cs.length) (hk : ∀ w', cM w' b (cs.set off v) -> aS w w' (fun x => x = b) -> w'.heap.size = w.heap.size -> K undef w') : aC pg (aK 33 (.pointer (some ⟨b, off, none⟩)) v) w K := xU aGM rfl ho hv h hk
theorem sI {ox oy : Operand} (x : Option Addr) (n c : Nat) (w : aLl) : (aH .eql 22 ox oy (.slice x n c) (.slice none 0 0)).run pg w = .ok (.value (.bool x.isNone)) w := aGx Tryd.underlying22 x n c
theorem sX {k k' : IntKind} {hi mx : Int} (a : Option Addr) (n c : Nat) (w : aLl) (h0 : 0 <= hi) (h1 : hi <= mx) (h2 : mx <= c) : (gB 22 (.slice a n c) none (some (.int k hi)) (some (.int k' mx))).run pg w = .ok (.value (.slice (kL a mx.toNat 0 1) (hi.toNat - 0) (mx.toNat - 0))) w := aBN Tryd.underlying22 Yy a n c h0 h1 h2
theorem mC (b o : Nat) (w : aLl) : (aL 118 (.pointer (some ⟨b, o, none⟩)) 0).run pg w = .ok (.value (.pointer (some ⟨b, o, none⟩))) w := kM (i := 0) Tryd.underlying118 rfl avF (by decide) _
theorem oX {k : IntKind} (a : Int) (w : aLl) : (gF 3 43 (.int k a)).run pg w = .ok (.value (.int .u32 (IntKind.u32.wrap a))) w := DR Tryd.underlying3 Tryd.underlying43
theorem yC {k : IntKind} {hi : Int} (a : Option Addr) (n c : Nat) (w : aLl) (h0 : 0 <= hi) (h1 : hi <= c) : (gB 77 (.slice a n c) none (some (.int k hi)) none).run pg w = .ok (.value (.slice (kL a c (0) 1) (hi.toNat - 0) (c - 0))) w := R9 Tryd.underlying77 Du _ n c h0 h1
theorem yJ {k : IntKind} {hi : Int} (x : ByteArray) (w : aLl) (h0 : 0 <= hi) (h1 : hi <= x.size) : (gB 9 (.string x) none (some (.int k hi)) none).run pg w = .ok (.value (.string (x.extract 0 hi.toNat))) w := azQ Tryd.underlying9  x h0 h1
theorem aDC {b off : Nat} {cs : List aLm} {w : aLl} {v : aLm} {K : aLm -> aLl -> Prop} (ho : cM w b cs) (hv : one v = true) (h : off < cs.length) (hk : ∀ w', cM w' b (cs.set off v) -> aS w w' (fun x => x = b) -> w'.heap.size = w.heap.size -> K undef w') : aC pg (aK 9 (.pointer (some ⟨b, off, none⟩)) v) w K := xU aIc rfl ho hv h hk
theorem jG (n0 : Int) (w : aLl) : (bX 139 [(0, (.int .i64 n0))]).run pg w = .ok (.value (.agg #[(.int .i64 n0), (.int .i64 0), (.int .i64 0)])) w := by kernel_rfl
theorem mQ (a0 : Option Addr) (l0 c0 : Nat) (w : aLl) : (bX 35 [(1, (.slice a0 l0 c0))]).run pg w = .ok (.value (.agg #[(.int .i64 0), (.slice a0 l0 c0)])) w := by kernel_rfl
theorem qA {b off : Nat} {cs : List aLm} {w : aLl} (ho : cM w b cs) (h : off + 2 <= cs.length) {K : aLm -> Prop} (hk : K (.agg ((cs.drop off).take 2).toArray)) : mW pg 130 (.pointer (some ⟨b, off, none⟩)) w K := D5 Tryd.underlying130 rfl axC ho h hk
theorem lD (a0 : Option Addr) (l0 c0 : Nat) (w : aLl) : (bX 164 [(0, (.slice a0 l0 c0))]).run pg w = .ok (.value (.agg #[(.slice a0 l0 c0), (.int .i64 0)])) w := by kernel_rfl
theorem axG : (pg).info? 164 = some Tryd.t164 := by kernel_rfl
theorem Ak {w : aLl} {K : aLm -> aLl -> Prop} (hk : ∀ w', cM w' w.heap.size [(.slice none 0 0), (.int .i64 0)] -> aS w w' cI -> w'.heap.size = w.heap.size + 1 -> K (.pointer (some ⟨w.heap.size, 0, none⟩)) w') : aC pg (bV 164) w K := lK (i := Tryd.t164) axG rfl hk
theorem dJ {b off : Nat} {cs : List aLm} {w : aLl} {xs : Array aLm} {K : aLm -> aLl -> Prop} (ho : cM w b cs) (hs : xs.size = 2) (hv : ∀ x ∈ xs.toList, one x = true) (h : off + 2 <= cs.length) (hk : ∀ w', cM w' b (aV cs off xs.toList) -> aS w w' (fun x => x = b) -> w'.heap.size = w.heap.size -> K undef w') : aC pg (aK 164 (.pointer (some ⟨b, off, none⟩)) (.agg xs)) w K := lZ (v := .agg xs) axG ho hs hv h hk
theorem fX {b off : Nat} {cs : List aLm} {w : aLl} (ho : cM w b cs) (h : off + 2 <= cs.length) : (aI 164 (.pointer (some ⟨b, off, none⟩))).run pg w = .ok (.value (.agg ((cs.drop off).take 2).toArray)) w := zW Tryd.underlying164 rfl axG ho h
theorem gI  (w : aLl) : (bX 130 []).run pg w = .ok (.value (.agg #[(.int .i64 0), (.slice none 0 0)])) w := by kernel_rfl
theorem jP (n0 : Int) (w : aLl) : (bX 130 [(0, (.int .i64 n0))]).run pg w = .ok (.value (.agg #[(.int .i64 n0), (.slice none 0 0)])) w := by kernel_rfl
theorem bW (b o : Nat) (w : aLl) : (aL 130 (.pointer (some ⟨b, o, none⟩)) 0).run pg w = .ok (.value (.pointer (some ⟨b, o, none⟩))) w := kM (i := 0) Tryd.underlying130 rfl Du (by decide) _
theorem aU (b o : Nat) (w : aLl) : (aL 130 (.pointer (some ⟨b, o, none⟩)) 1).run pg w = .ok (.value (.pointer (some ⟨b, o + 1, none⟩))) w := kM (i := 1) Tryd.underlying130 rfl aB4 (by decide) _
theorem aGX : (pg).info? 171 = some Tryd.t171 := by kernel_rfl
theorem awC {w : aLl} {K : aLm -> aLl -> Prop} (hk : ∀ w', cM w' w.heap.size [(.int .i64 0), (.int .i64 0), (.int .i64 0), (.int .i64 0), (.int .i64 0), (.int .i64 0), (.int .i64 0), (.int .i64 0), (.int .i64 0), (.int .i64 0), (.int .i64 0), (.int .i64 0), (.int .i64 0), (.int .i64 0), (.int .i64 0), (.int .i64 0), (.int .i64 0), (.int .i64 0), (.int .i64 0), (.int .i64 0), (.int .i64 0), (.int .i64 0), (.int .i64 0), (.int .i64 0), (.int .i64 0), (.int .i64 0), (.int .i64 0), (.int .i64 0), (.int .i64 0), (.int .i64 0), (.int .i64 0), (.int .i64 0), (.int .i64 0), (.int .i64 0), (.int .i64 0), (.int .i64 0), (.int .i64 0), (.int .i64 0), (.int .i64 0), (.int .i64 0), (.int .i64 0), (.int .i64 0), (.int .i64 0), (.int .i64 0), (.int .i64 0), (.int .i64 0), (.int .i64 0), (.int .i64 0), (.int .i64 0), (.int .i64 0), (.int .i64 0), (.int .i64 0), (.int .i64 0), (.int .i64 0), (.int .i64 0), (.int .i64 0), (.int .i64 0), (.int .i64 0), (.int .i64 0), (.int .i64 0), (.int .i64 0), (.int .i64 0), (.int .i64 0), (.int .i64 0), (.int .i64 0), (.int .i64 0), (.int .i64 0), (.int .i64 0), (.int .i64 0), (.int .i64 0), (.int .i64 0), (.int .i64 0), (.int .i64 0), (.int .i64 0), (.int .i64 0), (.int .i64 0), (.int .i64 0), (.int .i64 0), (.int .i64 0), (.int .i64 0), (.int .i64 0), (.int .i64 0), (.int .i64 0), (.int .i64 0), (.int .i64 0), (.int .i64 0), (.int .i64 0), (.int .i64 0), (.int .i64 0), (.int .i64 0), (.int .i64 0), (.int .i64 0), (.int .i64 0), (.int .i64 0), (.int .i64 0), (.int .i64 0), (.int .i64 0), (.int .i64 0), (.int .i64 0), (.int .i64 0), (.int .i64 0), (.int .i64 0), (.int .i64 0), (.int .i64 0), (.int .i64 0), (.int .i64 0), (.int .i64 0), (.int .i64 0), (.int .i64 0), (.int .i64 0), (.int .i64 0), (.int .i64 0), (.int .i64 0), (.int .i64 0), (.int .i64 0), (.int .i64 0), (.int .i64 0), (.int .i64 0), (.int .i64 0), (.int .i64 0), (.int .i64 0), (.int .i64 0), (.int .i64 0), (.int .i64 0), (.int .i64 0), (.int .i64 0), (.int .i64 0), (.int .i64 0), (.int .i64 0), (.int .i64 0), (.int .i64 0), (.int .i64 0), (.int .i64 0), (.int .i64 0), (.int .i64 0), (.int .i64 0), (.int .i64 0), (.int .i64 0), (.int .i64 0), (.int .i64 0), (.int .i64 0), (.int .i64 0), (.int .i64 0), (.int .i64 0), (.int .i64 0), (.int .i64 0), (.int .i64 0), (.int .i64 0), (.int .i64 0), (.int .i64 0), (.int .i64 0), (.int .i64 0), (.int .i64 0), (.int .i64 0), (.int .i64 0), (.int .i64 0), (.int .i64 0), (.int .i64 0), (.int .i64 0), (.int .i64 0), (.int .i64 0), (.int .i64 0), (.int .i64 0), (.int .i64 0), (.int .i64 0), (.int .i64 0), (.int .i64 0), (.int .i64 0), (.int .i64 0), (.int .i64 0), (.int .i64 0), (.int .i64 0), (.int .i64 0), (.int .i64 0), (.int .i64 0), (.int .i64 0), (.int .i64 0), (.int .i64 0), (.int .i64 0), (.int .i64 0), (.int .i64 0), (.int .i64 0), (.int .i64 0), (.int .i64 0), (.int .i64 0), (.int .i64 0), (.int .i64 0), (.int .i64 0), (.int .i64 0), (.int .i64 0), (.int .i64 0), (.int .i64 0), (.int .i64 0), (.int .i64 0), (.int .i64 0), (.int .i64 0), (.int .i64 0), (.int .i64 0), (.int .i64 0), (.int .i64 0), (.int .i64 0), (.int .i64 0), (.int .i64 0), (.int .i64 0), (.int .i64 0), (.int .i64 0), (.int .i64 0), (.int .i64 0), (.int .i64 0), (.int .i64 0), (.int .i64 0), (.int .i64 0), (.int .i64 0), (.int .i64 0), (.int .i64 0), (.int .i64 0), (.int .i64 0), (.int .i64 0), (.int .i64 0), (.int .i64 0), (.int .i64 0), (.int .i64 0), (.int .i64 0), (.int .i64 0), (.int .i64 0), (.int .i64 0), (.int .i64 0), (.int .i64 0), (.int .i64 0), (.int .i64 0), (.int .i64 0), (.int .i64 0), (.int .i64 0), (.int .i64 0), (.int .i64 0), (.int .i64 0), (.int .i64 0), (.int .i64 0), (.int .i64 0), (.int .i64 0), (.int .i64 0), (.int .i64 0), (.int .i64 0), (.int .i64 0), (.int .i64 0), (.int .i64 0), (.int .i64 0), (.int .i64 0), (.int .i64 0), (.int .i64 0), (.int .i64 0), (.int .i64 0), (.int .i64 0), (.int .i64 0), (.int .i64 0), (.int .i64 0)] -> aS w w' cI -> w'.heap.size = w.heap.size + 1 -> K (.pointer (some ⟨w.heap.size, 0, none⟩)) w') : aC pg (bV 171) w K := lK (i := Tryd.t171) aGX rfl hk
theorem xN {k : IntKind} {a : Int} (b o : Nat) (w : aLl) (h0 : 0 <= a) (h1 : a < 256) : (aY 171 (.pointer (some ⟨b, o, none⟩)) (.int k a)).run pg w = .ok (.value (.pointer (some ⟨b, o + a.toNat, none⟩))) w := Kn rfl Tryd.underlying171 Du b o h0 (by simpa using h1)
theorem aAR {n : Nat} {ps : List (Nat × aLm)} {cells : Array aLm} {w : aLl} (h1 : ¬ n * 1 > 2 ^ 24) (h0 : ¬ n * 1 = 0) (hf : Go.Instr.fill (fun j => some (j * 1, 1)) ((Array.range (n * 1)).map ((Tryd.t4.zero.get!).cells[· % (Tryd.t4.zero.get!).cells.size]!)) ps = some cells) {K : aLm -> aLl -> Prop} (hk : ∀ w', cM w' w.heap.size cells.toList -> aS w w' cI -> w'.heap.size = w.heap.size + 1 -> K (.slice (some ⟨w.heap.size, 0, none⟩) n n) w') : aC pg (cD 80 n ps) w K := Dd (i := Tryd.t4) Tryd.underlying80 aCW rfl h1 h0 hf hk
theorem YR {base n m : Nat} {ty : TypeId} {w : aLl} {v x : aLm} {l news : List aLm} (h : uD w base 1 v n l) (hx : Cl w 1 x m news) (hone : ∀ y ∈ news, one y = true) (hb : base <= w.heap.size) (hbytes : (n + m) * 1 <= 140737488355328) {K : aLm -> aLl -> Prop} (hk : ∀ v' w', uD w' base 1 v' (n + m) (l ++ news) -> aS w w' (fun y => base <= y) -> K v' w') : aC pg (lF .append #[80, 80] ty [v, x]) w K := FG (i := Tryd.t4) Tryd.underlying80 Tryd.underlying80 aCW rfl rfl rfl h hx hone hb (by omega) hbytes (by decide) hk
theorem vO {k : IntKind} {lo : Int} (a : Option Addr) (n c : Nat) (w : aLl) (h0 : 0 <= lo) (h1 : lo <= n) : (gB 80 (.slice a n c) (some (.int k lo)) none none).run pg w = .ok (.value (.slice (kL a c (lo.toNat) 1) (n - lo.toNat) (c - lo.toNat))) w := arM Tryd.underlying80 aCW _ n c h0 h1
theorem aAW {b off : Nat} {cs : List aLm} {w : aLl} {v : aLm} {K : aLm -> aLl -> Prop} (ho : cM w b cs) (hv : one v = true) (h : off < cs.length) (hk : ∀ w', cM w' b (cs.set off v) -> aS w w' (fun x => x = b) -> w'.heap.size = w.heap.size -> K undef w') : aC pg (aK 80 (.pointer (some ⟨b, off, none⟩)) v) w K := xU aFq rfl ho hv h hk
theorem apB {b off : Nat} {cs : List aLm} {w : aLl} (ho : cM w b cs) (h : off + 3 <= cs.length) {K : aLm -> Prop} (hk : K (.agg ((cs.drop off).take 3).toArray)) : mW pg 142 (.pointer (some ⟨b, off, none⟩)) w K := D5 Tryd.underlying142 rfl aAO ho h hk
theorem mZ (n0 : Int) (n1 : Int) (n2 : Int) (w : aLl) : (bX 142 [(0, (.int .u32 n0)), (1, (.int .u32 n1)), (2, (.int .u32 n2))]).run pg w = .ok (.value (.agg #[(.int .u32 n0), (.int .u32 n1), (.int .u32 n2)])) w := by kernel_rfl
theorem vD {k : IntKind} (a : Int) (w : aLl) : (gF 43 3 (.int k a)).run pg w = .ok (.value (.int .i64 (IntKind.i64.wrap a))) w := DR Tryd.underlying43 Tryd.underlying3
theorem nF {b off : Nat} {cs : List aLm} {w : aLl} (ho : cM w b cs) (h : off + 2 <= cs.length) {K : aLm -> Prop} (hk : K (.agg ((cs.drop off).take 2).toArray)) : mW pg 145 (.pointer (some ⟨b, off, none⟩)) w K := D5 Tryd.underlying145 rfl avO ho h hk
theorem aBQ : (pg).info? 174 = some Tryd.t174 := by kernel_rfl
theorem awD {b off : Nat} {l : List aLm} {w : aLl} (hl : l.length = 36) (h : ∀ j, j < l.length -> w.cell? ⟨b, off + j, none⟩ = l[j]?) : (aI 174 (.pointer (some ⟨b, off, none⟩))).run pg w = .ok (.value (.agg l.toArray)) w := VU Tryd.underlying174 rfl aBQ hl.symm h
theorem aAm {w : aLl} {K : aLm -> aLl -> Prop} (hk : ∀ w', cM w' w.heap.size [(.int .i64 0), (.int .i64 0), (.int .i64 0), (.int .i64 0), (.int .i64 0), (.int .i64 0), (.int .i64 0), (.int .i64 0), (.int .i64 0), (.int .i64 0), (.int .i64 0), (.int .i64 0), (.int .i64 0), (.int .i64 0), (.int .i64 0), (.int .i64 0), (.int .i64 0), (.int .i64 0), (.int .i64 0), (.int .i64 0), (.int .i64 0), (.int .i64 0), (.int .i64 0), (.int .i64 0), (.int .i64 0), (.int .i64 0), (.int .i64 0), (.int .i64 0), (.int .i64 0), (.int .i64 0), (.int .i64 0), (.int .i64 0), (.int .i64 0), (.int .i64 0), (.int .i64 0), (.int .i64 0)] -> aS w w' cI -> w'.heap.size = w.heap.size + 1 -> K (.pointer (some ⟨w.heap.size, 0, none⟩)) w') : aC pg (bV 174) w K := lK (i := Tryd.t174) aBQ rfl hk
theorem avY {b off : Nat} {cs : List aLm} {w : aLl} {xs : Array aLm} {K : aLm -> aLl -> Prop} (ho : cM w b cs) (hs : xs.size = 36) (hv : ∀ x ∈ xs.toList, one x = true) (h : off + 36 <= cs.length) (hk : ∀ w', cM w' b (aV cs off xs.toList) -> aS w w' (fun x => x = b) -> w'.heap.size = w.heap.size -> K undef w') : aC pg (aK 174 (.pointer (some ⟨b, off, none⟩)) (.agg xs)) w K := lZ (v := .agg xs) aBQ ho hs hv h hk
theorem rZ  (b o : Nat) (w : aLl)  : (gB 174 (.pointer (some ⟨b, o, none⟩)) none none none).run pg w = .ok (.value (.slice (some (xX ⟨b, o, none⟩ 36 (0) 1)) (36 - 0) (36 - 0))) w := DG Tryd.underlying174 Du _
theorem iS (n0 : Int) (a1 : Option Addr) (l1 c1 : Nat) (w : aLl) : (bX 145 [(0, (.int .i64 n0)), (1, (.slice a1 l1 c1))]).run pg w = .ok (.value (.agg #[(.int .i64 n0), (.slice a1 l1 c1)])) w := by kernel_rfl
theorem aA4 : (pg).info? 175 = some Tryd.t175 := by kernel_rfl
theorem axQ {b off : Nat} {l : List aLm} {w : aLl} (hl : l.length = 29) (h : ∀ j, j < l.length -> w.cell? ⟨b, off + j, none⟩ = l[j]?) : (aI 175 (.pointer (some ⟨b, off, none⟩))).run pg w = .ok (.value (.agg l.toArray)) w := VU Tryd.underlying175 rfl aA4 hl.symm h
theorem azU {w : aLl} {K : aLm -> aLl -> Prop} (hk : ∀ w', cM w' w.heap.size [(.int .i64 0), (.int .i64 0), (.int .i64 0), (.int .i64 0), (.int .i64 0), (.int .i64 0), (.int .i64 0), (.int .i64 0), (.int .i64 0), (.int .i64 0), (.int .i64 0), (.int .i64 0), (.int .i64 0), (.int .i64 0), (.int .i64 0), (.int .i64 0), (.int .i64 0), (.int .i64 0), (.int .i64 0), (.int .i64 0), (.int .i64 0), (.int .i64 0), (.int .i64 0), (.int .i64 0), (.int .i64 0), (.int .i64 0), (.int .i64 0), (.int .i64 0), (.int .i64 0)] -> aS w w' cI -> w'.heap.size = w.heap.size + 1 -> K (.pointer (some ⟨w.heap.size, 0, none⟩)) w') : aC pg (bV 175) w K := lK (i := Tryd.t175) aA4 rfl hk
theorem awE {b off : Nat} {cs : List aLm} {w : aLl} {xs : Array aLm} {K : aLm -> aLl -> Prop} (ho : cM w b cs) (hs : xs.size = 29) (hv : ∀ x ∈ xs.toList, one x = true) (h : off + 29 <= cs.length) (hk : ∀ w', cM w' b (aV cs off xs.toList) -> aS w w' (fun x => x = b) -> w'.heap.size = w.heap.size -> K undef w') : aC pg (aK 175 (.pointer (some ⟨b, off, none⟩)) (.agg xs)) w K := lZ (v := .agg xs) aA4 ho hs hv h hk
theorem rT  (b o : Nat) (w : aLl)  : (gB 175 (.pointer (some ⟨b, o, none⟩)) none none none).run pg w = .ok (.value (.slice (some (xX ⟨b, o, none⟩ 29 (0) 1)) (29 - 0) (29 - 0))) w := DG Tryd.underlying175 Du _
theorem aBV : (pg).info? 176 = some Tryd.t176 := by kernel_rfl
theorem awJ {b off : Nat} {l : List aLm} {w : aLl} (hl : l.length = 53) (h : ∀ j, j < l.length -> w.cell? ⟨b, off + j, none⟩ = l[j]?) : (aI 176 (.pointer (some ⟨b, off, none⟩))).run pg w = .ok (.value (.agg l.toArray)) w := VU Tryd.underlying176 rfl aBV hl.symm h
theorem azA {w : aLl} {K : aLm -> aLl -> Prop} (hk : ∀ w', cM w' w.heap.size [(.int .i64 0), (.int .i64 0), (.int .i64 0), (.int .i64 0), (.int .i64 0), (.int .i64 0), (.int .i64 0), (.int .i64 0), (.int .i64 0), (.int .i64 0), (.int .i64 0), (.int .i64 0), (.int .i64 0), (.int .i64 0), (.int .i64 0), (.int .i64 0), (.int .i64 0), (.int .i64 0), (.int .i64 0), (.int .i64 0), (.int .i64 0), (.int .i64 0), (.int .i64 0), (.int .i64 0), (.int .i64 0), (.int .i64 0), (.int .i64 0), (.int .i64 0), (.int .i64 0), (.int .i64 0), (.int .i64 0), (.int .i64 0), (.int .i64 0), (.int .i64 0), (.int .i64 0), (.int .i64 0), (.int .i64 0), (.int .i64 0), (.int .i64 0), (.int .i64 0), (.int .i64 0), (.int .i64 0), (.int .i64 0), (.int .i64 0), (.int .i64 0), (.int .i64 0), (.int .i64 0), (.int .i64 0), (.int .i64 0), (.int .i64 0), (.int .i64 0), (.int .i64 0), (.int .i64 0)] -> aS w w' cI -> w'.heap.size = w.heap.size + 1 -> K (.pointer (some ⟨w.heap.size, 0, none⟩)) w') : aC pg (bV 176) w K := lK (i := Tryd.t176) aBV rfl hk
theorem axB {b off : Nat} {cs : List aLm} {w : aLl} {xs : Array aLm} {K : aLm -> aLl -> Prop} (ho : cM w b cs) (hs : xs.size = 53) (hv : ∀ x ∈ xs.toList, one x = true) (h : off + 53 <= cs.length) (hk : ∀ w', cM w' b (aV cs off xs.toList) -> aS w w' (fun x => x = b) -> w'.heap.size = w.heap.size -> K undef w') : aC pg (aK 176 (.pointer (some ⟨b, off, none⟩)) (.agg xs)) w K := lZ (v := .agg xs) aBV ho hs hv h hk
theorem rQ  (b o : Nat) (w : aLl)  : (gB 176 (.pointer (some ⟨b, o, none⟩)) none none none).run pg w = .ok (.value (.slice (some (xX ⟨b, o, none⟩ 53 (0) 1)) (53 - 0) (53 - 0))) w := DG Tryd.underlying176 Du _
theorem dF  (w : aLl) : (bX 145 []).run pg w = .ok (.value (.agg #[(.int .i64 0), (.slice none 0 0)])) w := by kernel_rfl
theorem cP (b o : Nat) (w : aLl) : (aL 145 (.pointer (some ⟨b, o, none⟩)) 0).run pg w = .ok (.value (.pointer (some ⟨b, o, none⟩))) w := kM (i := 0) Tryd.underlying145 rfl Du (by decide) _
theorem oP (n0 : Int) (a1 : Option Addr) (l1 c1 : Nat) (w : aLl) : (bX 27 [(0, (.int .i64 n0)), (1, (.slice a1 l1 c1))]).run pg w = .ok (.value (.agg #[(.int .i64 n0), (.slice a1 l1 c1)])) w := by kernel_rfl
theorem atY {k : IntKind} {n : Int} {w : aLl} {K : aLm -> aLl -> Prop} (h0 : 0 <= n) (hn : 8 * n <= 2 ^ 48) (hk : ∀ w', cM w' w.heap.size (List.replicate n.toNat (.int .i64 0)) -> aS w w' cI -> w'.heap.size = w.heap.size + 1 -> K (.slice (some ⟨w.heap.size, 0, none⟩) n.toNat n.toNat) w') : aC pg (AX 77 (.int k n) (.int k n)) w K := aEc (i := Tryd.t3) Tryd.underlying77 Du rfl rfl rfl h0 hn (by omega) hk
theorem rP {k : IntKind} {hi : Int} (a : Option Addr) (n c : Nat) (w : aLl) (h0 : 0 <= hi) (h1 : hi <= c) : (gB 91 (.slice a n c) none (some (.int k hi)) none).run pg w = .ok (.value (.slice (kL a c (0) 1) (hi.toNat - 0) (c - 0))) w := R9 Tryd.underlying91 SZ _ n c h0 h1
theorem pS  (w : aLl) : (bX 183 []).run pg w = .ok (.value (.agg #[(.slice none 0 0), (.int .i64 0)])) w := by kernel_rfl
theorem iB {ox oy : Operand} (x : Option Addr) (w : aLl) : (aH .eql 151 ox oy (.pointer x) (.pointer none)).run pg w = .ok (.value (.bool x.isNone)) w := aqZ Tryd.underlying151 x
theorem iT (b o : Nat) (w : aLl) : (aL 183 (.pointer (some ⟨b, o, none⟩)) 1).run pg w = .ok (.value (.pointer (some ⟨b, o + 1, none⟩))) w := kM (i := 1) Tryd.underlying183 rfl Du (by decide) _
theorem gM (b o : Nat) (w : aLl) : (aL 183 (.pointer (some ⟨b, o, none⟩)) 0).run pg w = .ok (.value (.pointer (some ⟨b, o, none⟩))) w := kM (i := 0) Tryd.underlying183 rfl avF (by decide) _
theorem ZM {b off : Nat} {cs : List aLm} {w : aLl} {v : aLm} {K : aLm -> aLl -> Prop} (ho : cM w b cs) (hv : one v = true) (h : off < cs.length) (hk : ∀ w', cM w' b (cs.set off v) -> aS w w' (fun x => x = b) -> w'.heap.size = w.heap.size -> K undef w') : aC pg (aK 5 (.pointer (some ⟨b, off, none⟩)) v) w K := xU Yy rfl ho hv h hk
theorem oA (a0 : Option Addr) (l0 c0 : Nat) (n1 : Int) (w : aLl) : (bX 183 [(0, (.slice a0 l0 c0)), (1, (.int .i64 n1))]).run pg w = .ok (.value (.agg #[(.slice a0 l0 c0), (.int .i64 n1)])) w := by kernel_rfl
theorem nY (n0 : Int) (w : aLl) : (bX 145 [(0, (.int .i64 n0))]).run pg w = .ok (.value (.agg #[(.int .i64 n0), (.slice none 0 0)])) w := by kernel_rfl
theorem aAY : (pg).info? 190 = some Tryd.t190 := by kernel_rfl
theorem awZ {b off : Nat} {l : List aLm} {w : aLl} (hl : l.length = 20) (h : ∀ j, j < l.length -> w.cell? ⟨b, off + j, none⟩ = l[j]?) : (aI 190 (.pointer (some ⟨b, off, none⟩))).run pg w = .ok (.value (.agg l.toArray)) w := VU Tryd.underlying190 rfl aAY hl.symm h
theorem aAj {w : aLl} {K : aLm -> aLl -> Prop} (hk : ∀ w', cM w' w.heap.size [(.int .i64 0), (.int .i64 0), (.int .i64 0), (.int .i64 0), (.int .i64 0), (.int .i64 0), (.int .i64 0), (.int .i64 0), (.int .i64 0), (.int .i64 0), (.int .i64 0), (.int .i64 0), (.int .i64 0), (.int .i64 0), (.int .i64 0), (.int .i64 0), (.int .i64 0), (.int .i64 0), (.int .i64 0), (.int .i64 0)] -> aS w w' cI -> w'.heap.size = w.heap.size + 1 -> K (.pointer (some ⟨w.heap.size, 0, none⟩)) w') : aC pg (bV 190) w K := lK (i := Tryd.t190) aAY rfl hk
theorem axA {b off : Nat} {cs : List aLm} {w : aLl} {xs : Array aLm} {K : aLm -> aLl -> Prop} (ho : cM w b cs) (hs : xs.size = 20) (hv : ∀ x ∈ xs.toList, one x = true) (h : off + 20 <= cs.length) (hk : ∀ w', cM w' b (aV cs off xs.toList) -> aS w w' (fun x => x = b) -> w'.heap.size = w.heap.size -> K undef w') : aC pg (aK 190 (.pointer (some ⟨b, off, none⟩)) (.agg xs)) w K := lZ (v := .agg xs) aAY ho hs hv h hk
theorem rY  (b o : Nat) (w : aLl)  : (gB 190 (.pointer (some ⟨b, o, none⟩)) none none none).run pg w = .ok (.value (.slice (some (xX ⟨b, o, none⟩ 20 (0) 1)) (20 - 0) (20 - 0))) w := DG Tryd.underlying190 Du _
theorem aAZ : (pg).info? 191 = some Tryd.t191 := by kernel_rfl
theorem avW {b off : Nat} {l : List aLm} {w : aLl} (hl : l.length = 21) (h : ∀ j, j < l.length -> w.cell? ⟨b, off + j, none⟩ = l[j]?) : (aI 191 (.pointer (some ⟨b, off, none⟩))).run pg w = .ok (.value (.agg l.toArray)) w := VU Tryd.underlying191 rfl aAZ hl.symm h
theorem ayY {w : aLl} {K : aLm -> aLl -> Prop} (hk : ∀ w', cM w' w.heap.size [(.int .i64 0), (.int .i64 0), (.int .i64 0), (.int .i64 0), (.int .i64 0), (.int .i64 0), (.int .i64 0), (.int .i64 0), (.int .i64 0), (.int .i64 0), (.int .i64 0), (.int .i64 0), (.int .i64 0), (.int .i64 0), (.int .i64 0), (.int .i64 0), (.int .i64 0), (.int .i64 0), (.int .i64 0), (.int .i64 0), (.int .i64 0)] -> aS w w' cI -> w'.heap.size = w.heap.size + 1 -> K (.pointer (some ⟨w.heap.size, 0, none⟩)) w') : aC pg (bV 191) w K := lK (i := Tryd.t191) aAZ rfl hk
theorem axP {b off : Nat} {cs : List aLm} {w : aLl} {xs : Array aLm} {K : aLm -> aLl -> Prop} (ho : cM w b cs) (hs : xs.size = 21) (hv : ∀ x ∈ xs.toList, one x = true) (h : off + 21 <= cs.length) (hk : ∀ w', cM w' b (aV cs off xs.toList) -> aS w w' (fun x => x = b) -> w'.heap.size = w.heap.size -> K undef w') : aC pg (aK 191 (.pointer (some ⟨b, off, none⟩)) (.agg xs)) w K := lZ (v := .agg xs) aAZ ho hs hv h hk
theorem rX  (b o : Nat) (w : aLl)  : (gB 191 (.pointer (some ⟨b, o, none⟩)) none none none).run pg w = .ok (.value (.slice (some (xX ⟨b, o, none⟩ 21 (0) 1)) (21 - 0) (21 - 0))) w := DG Tryd.underlying191 Du _
theorem gQ (n0 : Int) (a1 : Option Addr) (l1 c1 : Nat) (w : aLl) : (bX 130 [(0, (.int .i64 n0)), (1, (.slice a1 l1 c1))]).run pg w = .ok (.value (.agg #[(.int .i64 n0), (.slice a1 l1 c1)])) w := by kernel_rfl
theorem nJ {b off : Nat} {cs : List aLm} {w : aLl} (ho : cM w b cs) (h : off + 2 <= cs.length) {K : aLm -> Prop} (hk : K (.agg ((cs.drop off).take 2).toArray)) : mW pg 164 (.pointer (some ⟨b, off, none⟩)) w K := D5 Tryd.underlying164 rfl axG ho h hk
theorem jQ (b o : Nat) (w : aLl) : (aL 164 (.pointer (some ⟨b, o, none⟩)) 0).run pg w = .ok (.value (.pointer (some ⟨b, o, none⟩))) w := kM (i := 0) Tryd.underlying164 rfl aFq (by decide) _
theorem gW (b o : Nat) (w : aLl) : (aL 164 (.pointer (some ⟨b, o, none⟩)) 1).run pg w = .ok (.value (.pointer (some ⟨b, o + 1, none⟩))) w := kM (i := 1) Tryd.underlying164 rfl Du (by decide) _
theorem rV {k k' : IntKind} {lo hi : Int} (a : Option Addr) (n c : Nat) (w : aLl) (h0 : 0 <= lo) (h1 : lo <= hi) (h2 : hi <= c) : (gB 80 (.slice a n c) (some (.int k lo)) (some (.int k' hi)) none).run pg w = .ok (.value (.slice (kL a c (lo.toNat) 1) (hi.toNat - lo.toNat) (c - lo.toNat))) w := axR Tryd.underlying80 aCW _ n c h0 h1 h2
theorem rU {k : IntKind} (a : Int) (w : aLl) : (gF 43 5 (.int k a)).run pg w = .ok (.value (.int .u8 (IntKind.u8.wrap a))) w := DR Tryd.underlying43 Tryd.underlying5
theorem agL {k : IntKind} {n : Int} {w : aLl} {K : aLm -> aLl -> Prop} (h0 : 0 <= n) (hn : 24 * n <= 2 ^ 48) (hk : ∀ w', cM w' w.heap.size (QJ n.toNat [(.int .u8 0), (.int .i64 0), (.int .i64 0)]) -> aS w w' cI -> w'.heap.size = w.heap.size + 1 -> K (.slice (some ⟨w.heap.size, 0, none⟩) n.toNat n.toNat) w') : aC pg (AX 25 (.int k n) (.int k n)) w K := aCQ (i := Tryd.t123) Tryd.underlying25 afQ rfl (by decide) rfl rfl h0 hn (by omega) hk
theorem tE {k : IntKind} (a : Int) (w : aLl) : (gF 94 43 (.int k a)).run pg w = .ok (.value (.int .u32 (IntKind.u32.wrap a))) w := DR Tryd.underlying94 Tryd.underlying43
theorem pA (a0 : Option Addr) (l0 c0 : Nat) (w : aLl) : (bX 195 [(0, (.slice a0 l0 c0))]).run pg w = .ok (.value (.agg #[(.slice a0 l0 c0), (.int .i64 0)])) w := by kernel_rfl
theorem kB {ox oy : Operand} (x : Option Addr) (w : aLl) : (aH .eql 184 ox oy (.pointer x) (.pointer none)).run pg w = .ok (.value (.bool x.isNone)) w := aqZ Tryd.underlying184 x
theorem nE (b o : Nat) (w : aLl) : (aL 195 (.pointer (some ⟨b, o, none⟩)) 0).run pg w = .ok (.value (.pointer (some ⟨b, o, none⟩))) w := kM (i := 0) Tryd.underlying195 rfl avF (by decide) _
theorem lB (b o : Nat) (w : aLl) : (aL 195 (.pointer (some ⟨b, o, none⟩)) 1).run pg w = .ok (.value (.pointer (some ⟨b, o + 1, none⟩))) w := kM (i := 1) Tryd.underlying195 rfl Du (by decide) _
theorem XD {l : List UInt8} {v : aLm} {w : aLl} (h : Bs w v l) : (gF 22 9 v).run pg w = .ok (.value (.string ⟨l.toArray⟩)) w := aET Tryd.underlying22 Tryd.underlying9 Tryd.underlying5 h
theorem aIo : (pg).info? 41 = some Tryd.t41 := by kernel_rfl
theorem asS {b off : Nat} {cs : List aLm} {w : aLl} (ho : cM w b cs) (h : off + 3 <= cs.length) : (aI 41 (.pointer (some ⟨b, off, none⟩))).run pg w = .ok (.value (.agg ((cs.drop off).take 3).toArray)) w := zW Tryd.underlying41 rfl aIo ho h
theorem zH {k : IntKind} (a : Int) (w : aLl) : (gF 54 3 (.int k a)).run pg w = .ok (.value (.int .i64 (IntKind.i64.wrap a))) w := DR Tryd.underlying54 Tryd.underlying3
theorem wW {k : IntKind} {hi : Int} (a : Option Addr) (n c : Nat) (w : aLl) (h0 : 0 <= hi) (h1 : hi <= c) : (gB 22 (.slice a n c) none (some (.int k hi)) none).run pg w = .ok (.value (.slice (kL a c (0) 1) (hi.toNat - 0) (c - 0))) w := R9 Tryd.underlying22 Yy _ n c h0 h1
end Go.Proofs.YtaggdjhhmbnhoaaDoor
namespace Go.Pu
def dC (p : Int) : Int := if p < 0 then 1 else p
def fits : Int -> List Int -> Bool
 | left, [] => left == 0
 | left, p :: r => if p < -1 ∨ left < dC p then false else fits (left - dC p) r
def tX (ps : List Int) : Int := (ps.map dC).sum
def atU (log : Int) (ps : List Int) : Bool := decide (5 <= log /\ log <= 15 /\ 1 <= ps.length /\ ps.length <= 256 /\ ps.getLast? ≠ some 0)
def Ua (log : Int) (ps : List Int) : Bool := atU log ps && fits (2 ^ log.toNat) ps
theorem zG (p : Int) (ps : List Int) : tX (p :: ps) = dC p + tX ps := by simp [tX]
theorem Hw (a b : List Int) : tX (a ++ b) = tX a + tX b := by simp [tX]
theorem nL {p : Int} (h : -1 <= p) : 0 <= dC p := by unfold dC; split <;> omega
theorem HF {ps : List Int} (h : ∀ p ∈ ps, -1 <= p) : 0 <= tX ps := by
 induction ps with
 | nil => simp [tX]
 | cons p r ih =>
   rw [zG]
   have := nL (h p (by simp))
   have := ih fun q hq => h q (aJi _ hq)
   omega
theorem ZX : ∀ {ps : List Int} {left : Int}, fits left ps = true ↔ (∀ p ∈ ps, -1 <= p) /\ tX ps = left
 | [], left => by simp [fits, tX]; constructor <;> intro h <;> omega
 | p :: r, left => by
   rw [fits, zG]
   by_cases h : p < -1 ∨ left < dC p
   .rw [if_pos h]
    constructor
    .intro h; cases h
    .rintro ⟨h1, h2⟩
     have hp := h1 p (by simp)
     have := HF (ps := r) fun q hq => h1 q (aJi _ hq)
     omega
   .rw [if_neg h, ZX]
    constructor
    .rintro ⟨h1, h2⟩
     exact ⟨fun q hq => by rcases aJQ.1 hq with rfl | hq; · omega
                           .exact h1 q hq, by omega⟩
    .rintro ⟨h1, h2⟩
     exact ⟨fun q hq => h1 q (aJi _ hq), by omega⟩
structure TO (log : Nat) (ps : List Int) : Prop where
 log5 : 5 <= log
 log15 : log <= 15
 len1 : 1 <= ps.length
 len256 : ps.length <= 256
 last : ps.getLast? ≠ some 0
 low : ∀ p ∈ ps, -1 <= p
 sum : tX ps = 2 ^ log
theorem TO.b {log : Nat} {ps : List Int} (h : TO log ps) : Ua log ps = true := by
 unfold Ua atU
 simp only [aJn, decide_eq_true_eq]
 have h1 := h.log5
 have h2 := h.log15
 refine ⟨⟨by omega, by omega, h.len1, h.len256, h.last⟩, ?_⟩
 rw [ZX, aIY]
 exact ⟨h.low, h.sum⟩
theorem ayM {log : Nat} (h : log <= 15) : (2 : Int) ^ log <= 32768 := by
 have : 2 ^ log <= 2 ^ 15 := aJa (by omega) h
 have e : ((2 ^ log : Nat) : Int) = (2 : Int) ^ log := by simp
 omega
theorem aAp (log : Nat) : (1 : Int) <= 2 ^ log := by
 have : 1 <= 2 ^ log := Nat.one_le_two_pow
 have e : ((2 ^ log : Nat) : Int) = (2 : Int) ^ log := by simp
 omega
theorem aoB {ps : List Int} (h : ∀ p ∈ ps, -1 <= p) {p : Int} (hp : p ∈ ps) : dC p <= tX ps := by
 induction ps with
 | nil => cases hp
 | cons q r ih =>
   rw [zG]
   have h0 := nL (h q (by simp))
   have h1 := HF (ps := r) fun q hq => h q (aJi _ hq)
   rcases aJQ.1 hp with rfl | hp
   .omega
   .have := ih (fun q hq => h q (aJi _ hq)) hp
    omega
def adv (n a : Nat) : Nat := (a + n / 2 + n / 8 + 3) % n
def adB (n high : Nat) : Nat -> Nat -> Nat
 | 0, a => a
 | f + 1, a => if a < high then a else adB n high f (adv n a)
def Yu : List Int -> Nat -> Nat -> List Int -> Nat × List Int
 | [], _, high, arr => (high, arr)
 | p :: r, s, high, arr => if p = -1 then Yu r (s + 1) (high - 1) (arr.set (high - 1) s) else Yu r (s + 1) high arr
def rF : List Int -> Nat -> List Nat
 | [], _ => []
 | p :: r, s => List.replicate p.toNat s ++ rF r (s + 1)
def place (n high : Nat) : List Nat -> Nat -> List Int -> List Int
 | [], _, arr => arr
 | s :: r, a, arr => place n high r (adB n high n (adv n a)) (arr.set a s)
def gZ (x0 : Int) (log : Nat) (ps : List Int) : List Int :=
 place (2 ^ log) (Yu ps 0 (2 ^ log) (List.replicate (2 ^ log) x0)).1 (rF ps 0) 0 (Yu ps 0 (2 ^ log) (List.replicate (2 ^ log) x0)).2
def pos (n j : Nat) : Nat := (j * (n / 2 + n / 8 + 3)) % n
theorem JS (n j : Nat) : adv n (pos n j) = pos n (j + 1) := by
 unfold adv pos
 rw [aKn, aKn, Nat.mod_add_mod, aJ4, Nat.one_mul, aKn]
theorem aF5 {s : Nat} (hs : s % 2 = 1) : ∀ (k x : Nat), 2 ^ k ∣ s * x -> 2 ^ k ∣ x := by
 intro k
 induction k with
 | zero => intro x _; simp
 | succ k ih =>
   intro x h
   have h2 : 2 ∣ s * x := Nat.dvd_trans ⟨2 ^ k, by rw [aJp, aJ8]⟩ h
   have hx : x % 2 = 0 := by
    have : (s * x) % 2 = 0 := Nat.mod_eq_zero_of_dvd h2
    rw [Nat.mul_mod, hs, Nat.one_mul, Nat.mod_mod] at this
    exact this
   obtain ⟨y, rfl⟩ : ∃ y, x = 2 * y := ⟨x / 2, by omega⟩
   rw [aJp, aJ8 (2 ^ k) 2, show s * (2 * y) = 2 * (s * y) by rw [Nat.mul_left_comm]] at h
   rw [aJp, aJ8 (2 ^ k) 2]
   exact Nat.mul_dvd_mul_left 2 (ih y (Nat.dvd_of_mul_dvd_mul_left (by omega) h))
theorem aEv {log : Nat} (h : 5 <= log) : (2 ^ log / 2 + 2 ^ log / 8 + 3) % 2 = 1 := by
 obtain ⟨k, rfl⟩ : ∃ k, log = k + 5 := ⟨log - 5, by omega⟩
 have : 2 ^ (k + 5) = 32 * 2 ^ k := by rw [aKP, aJ8]
 omega
theorem aFU {log : Nat} (h : 5 <= log) {i j : Nat} (hij : i < j) (hj : j < 2 ^ log) : pos (2 ^ log) i ≠ pos (2 ^ log) j := by
 unfold pos
 generalize hst : 2 ^ log / 2 + 2 ^ log / 8 + 3 = st
 have hodd : st % 2 = 1 := by rw [<- hst]; exact aEv h
 intro e
 have hle : i * st <= j * st := aJH _ (by omega)
 have hd : 2 ^ log ∣ st * (j - i) := by
  rw [aJ8, Nat.sub_mul]
  exact Nat.dvd_of_mod_eq_zero (Nat.sub_mod_eq_zero_of_mod_eq e.symm)
 have := Nat.le_of_dvd (by omega) (aF5 hodd _ _ hd)
 omega
theorem aFs : ∀ (n : Nat) (l : List Nat), l.Nodup -> (∀ a ∈ l, a < n) -> l.length <= n := by
 intro n
 induction n with
 | zero => intro l _ h; cases l with
   | nil => simp
   | cons a r => exact absurd (h a (by simp)) (by omega)
 | succ n ih =>
   intro l hd h
   by_cases hn : n ∈ l
   .have := ih (l.erase n) (hd.erase n) (fun a ha => by
     have h1 := h a (List.mem_of_mem_erase ha)
     have h2 : a ≠ n := fun e => by subst e; exact hd.not_mem_erase ha
     omega)
    rw [aK4 hn] at this
    omega
   .have := ih l hd (fun a ha => by
     have h1 := h a ha
     have h2 : a ≠ n := fun e => by subst e; exact hn ha
     omega)
    omega
theorem auE {n : Nat} {l : List Nat} (hd : l.Nodup) (h : ∀ a ∈ l, a < n) (hl : l.length = n) {a : Nat} (ha : a < n) : a ∈ l := by
 refine Classical.byContradiction fun hn => ?_
 have := aFs n (a :: l) (List.nodup_cons.2 ⟨hn, hd⟩) (fun b hb => (aJQ.1 hb).elim (fun e => e ▸ ha) (h b))
 simp at this; omega
def nM (n high j : Nat) : List Nat := ((List.range' j (n - j)).map (pos n)).filter (· < high)
theorem Vo {n high j : Nat} (h : j < n) : nM n high j = if pos n j < high then pos n j :: nM n high (j + 1) else nM n high (j + 1) := by
 unfold nM
 rw [show n - j = (n - (j + 1)) + 1 from by omega, List.range'_succ, aKz, List.filter_cons]
 simp
theorem Z5 (n high : Nat) : nM n high n = [] := by unfold nM; simp
theorem arB {n : Nat} (h : 0 < n) (j : Nat) : pos n j < n := aKj _ h
theorem Vs (n : Nat) : pos n 0 = 0 := by simp [pos]
theorem aIh (n : Nat) : pos n n = 0 := by simp [pos, Nat.mul_mod_right]
theorem aCX {n high : Nat} (hh : 0 < high) : ∀ (d j f : Nat), j + d = n -> d <= f -> adB n high f (pos n j) = (nM n high j).headD 0 := by
 intro d
 induction d with
 | zero =>
   intro j f hj _
   obtain rfl : j = n := by omega
   rw [Z5, aIh]
   cases f with
   | zero => rfl
   | succ f => unfold adB; rw [if_pos hh] <;> rfl
 | succ d ih =>
   intro j f hj hf
   obtain ⟨f, rfl⟩ : ∃ g, f = g + 1 := ⟨f - 1, by omega⟩
   rw [Vo (by omega)]
   unfold adB
   split
   .rfl
   .rw [JS]; exact ih (j + 1) f (by omega) (by omega)
def setAt : List (Nat × Nat) -> List Int -> List Int
 | [], arr => arr
 | (q, s) :: r, arr => setAt r (arr.set q s)
theorem aA0 {n high : Nat} (hh : 0 < high) : ∀ (syms : List Nat) (j a : Nat) (arr : List Int), j <= n -> syms.length <= (nM n high j).length -> (syms ≠ [] -> (nM n high j).headD 0 = a) →
 place n high syms a arr = setAt ((nM n high j).zip syms) arr := by
 intro syms
 induction syms with
 | nil => intro j a arr _ _ _; simp [place, setAt]
 | cons s r ih =>
   intro j a arr hj hlen ha
   have ha := ha (by simp)
   have key : ∀ (d j : Nat), j + d = n -> (s :: r).length <= (nM n high j).length -> (nM n high j).headD 0 = a -> ∃ i, i < n /\ j <= i /\ pos n i = a /\ nM n high j = a :: nM n high (i + 1) := by
    intro d
    induction d with
    | zero =>
      intro j hj hl _
      obtain rfl : j = n := by omega
      rw [Z5] at hl; simp at hl
    | succ d ihd =>
      intro j hj hl hd
      have e := Vo (high := high) (show j < n by omega)
      by_cases hp : pos n j < high
      .rw [if_pos hp] at e
       rw [e] at hd
       have : pos n j = a := hd
       exact ⟨j, by omega, aI9 _, this, by rw [e, this]⟩
      .rw [if_neg hp] at e
       rw [e] at hl hd ⊢
       obtain ⟨i, h1, h2, h3, h4⟩ := ihd (j + 1) (by omega) hl hd
       exact ⟨i, h1, by omega, h3, h4⟩
   obtain ⟨i, h1, h2, h3, h4⟩ := key (n - j) j (by omega) hlen ha
   rw [h4] at hlen ⊢
   simp only [aJo] at hlen
   rw [place, List.zip_cons_cons, setAt]
   refine ih (i + 1) _ _ (by omega) (by omega) (fun hr => ?_)
   rw [<- h3, JS]
   exact (aCX hh (n - (i + 1)) (i + 1) n (by omega) (by omega)).symm
def uL : List Int -> Nat -> List Nat
 | [], _ => []
 | p :: r, s => if p = -1 then s :: uL r (s + 1) else uL r (s + 1)
def toI (l : List Nat) : List Int := l.map Int.ofNat
theorem auQ : ∀ (ps : List Int) (s high : Nat) (arr : List Int), (uL ps s).length <= high -> high <= arr.length →
 Yu ps s high arr = (high - (uL ps s).length, arr.take (high - (uL ps s).length) ++ toI (uL ps s).reverse ++ arr.drop high) := by
 intro ps
 induction ps with
 | nil => intro s high arr h1 h2; simp [Yu, uL, toI]
 | cons p r ih =>
   intro s high arr h1 h2
   unfold Yu uL
   unfold uL at h1
   by_cases hp : p = -1
   .rw [if_pos hp, if_pos hp]
    rw [if_pos hp] at h1
    simp only [aJo] at h1 ⊢
    rw [ih (s + 1) (high - 1) _ (by omega) (by simp; omega)]
    congr 1
    .omega
    .have hlt : high - 1 < arr.length := by omega
     rw [List.take_set_of_le (by omega), show high - 1 - (uL r (s + 1)).length = high - ((uL r (s + 1)).length + 1) from by omega]
     have : (arr.set (high - 1) (s : Int)).drop (high - 1) = (s : Int) :: arr.drop high := by
      rw [aJC (by simp; omega)]
      simp only [aKS]
      rw [show high - 1 + 1 = high from by omega, List.drop_set_of_lt (by omega)]
     rw [this]
     simp [toI]
   .rw [if_neg hp, if_neg hp]
    rw [if_neg hp] at h1
    exact ih (s + 1) high arr h1 h2
theorem Zr : ∀ (l : List (Nat × Nat)) (arr : List Int), (setAt l arr).length = arr.length
 | [], _ => rfl
 | (q, s) :: r, arr => by rw [setAt, Zr]; simp
theorem VB {q : Nat} : ∀ (l : List (Nat × Nat)) (arr : List Int), (∀ x ∈ l, x.1 ≠ q) -> (setAt l arr)[q]? = arr[q]?
 | [], _, _ => rfl
 | (a, s) :: r, arr, h => by
   rw [setAt, VB r _ fun x hx => h x (aJi _ hx), List.getElem?_set_ne (h (a, s) (by simp))]
theorem aDI : ∀ (us : List Nat) (ss : List Nat) (arr : List Int) (t : Nat), us.Nodup -> us.length = ss.length -> (∀ q ∈ us, q < arr.length) -> (ht : t < us.length) -> (ht' : t < ss.length) →
 (setAt (us.zip ss) arr)[us[t]]? = some (ss[t] : Int) := by
 intro us
 induction us with
 | nil => intro ss arr t _ _ _ ht; simp at ht
 | cons u us ih =>
   intro ss arr t hd hl hb ht ht'
   cases ss with
   | nil => simp at hl
   | cons x ss =>
     obtain ⟨h1, h2⟩ := List.nodup_cons.1 hd
     rw [List.zip_cons_cons, setAt]
     cases t with
     | zero =>
       simp only [aKB]
       rw [VB _ _ (fun y hy => fun e => h1 (by have := (List.of_mem_zip (a := y.1) (b := y.2) hy).1; rw [e] at this; exact this))]
       have : u < arr.length := hb u (by simp)
       simp [this]
     | succ t =>
       simp only [aLb]
       exact ih ss _ t h2 (by simpa using hl) (fun q hq => by simpa using hb q (aJi _ hq)) (by simpa using ht) (by simpa using ht')
theorem aoR : ∀ (n : Nat) (l : List Nat), l.Nodup -> (∀ a ∈ l, a < n) -> l.length = n -> l.Perm (List.range n) := by
 intro n
 induction n with
 | zero => intro l _ _ h; rw [aJr.1 h]; exact List.Perm.refl _
 | succ n ih =>
   intro l hd h hl
   have hn : n ∈ l := auE hd h hl (by omega)
   have p1 := List.perm_cons_erase hn
   have p2 := ih (l.erase n) (hd.erase n) (fun a ha => by
    have h1 := h a (List.mem_of_mem_erase ha)
    have h2 : a ≠ n := fun e => by subst e; exact hd.not_mem_erase ha
    omega) (by rw [aK4 hn]; omega)
   rw [aK0]
   exact p1.trans ((p2.cons n).trans (List.perm_append_singleton n _).symm)
theorem ayS : ∀ (ps : List Int) (s : Nat), (∀ p ∈ ps, -1 <= p) -> ((rF ps s).length : Int) + (uL ps s).length = tX ps := by
 intro ps
 induction ps with
 | nil => intro s _; simp [rF, uL, tX]
 | cons p r ih =>
   intro s h
   have := ih (s + 1) fun q hq => h q (aJi _ hq)
   have hp := h p (by simp)
   rw [zG]
   unfold rF uL dC
   by_cases h1 : p = -1
   .rw [if_pos h1, if_pos (by omega)]; subst h1; simp; omega
   .rw [if_neg h1, if_neg (by omega)]; simp; omega
theorem aBB : ∀ (ps : List Int) (s i : Nat), (rF ps s).count (s + i) = if h : i < ps.length then ps[i].toNat else 0 := by
 intro ps
 induction ps with
 | nil => intro s i; simp [rF]
 | cons p r ih =>
   intro s i
   have low : ∀ (ps : List Int) (s a : Nat), a < s -> (rF ps s).count a = 0 := by
    intro ps
    induction ps with
    | nil => intro s a _; simp [rF]
    | cons p r ih =>
      intro s a h
      unfold rF
      rw [aKb, ih (s + 1) a (by omega), List.count_replicate]
      simp; omega
   unfold rF
   rw [aKb, List.count_replicate]
   cases i with
   | zero => rw [aJV, low r (s + 1) s (by omega)]; simp
   | succ i =>
     rw [show s + (i + 1) = s + 1 + i from by omega, ih (s + 1) i]
     have : (s == s + 1 + i) = false := by simp; omega
     rw [this]; simp
theorem aBe : ∀ (ps : List Int) (s i : Nat), (uL ps s).count (s + i) = if h : i < ps.length then (if ps[i] = -1 then 1 else 0) else 0 := by
 intro ps
 induction ps with
 | nil => intro s i; simp [uL]
 | cons p r ih =>
   intro s i
   have low : ∀ (ps : List Int) (s a : Nat), a < s -> (uL ps s).count a = 0 := by
    intro ps
    induction ps with
    | nil => intro s a _; simp [uL]
    | cons p r ih =>
      intro s a h
      unfold uL
      split
      .rw [aKw, ih (s + 1) a (by omega)]; simp; omega
      .exact ih (s + 1) a (by omega)
   unfold uL
   cases i with
   | zero =>
     rw [aJV]
     by_cases h : p = -1
     .rw [if_pos h, aKw, low r (s + 1) s (by omega)]; simp [h]
     .rw [if_neg h, low r (s + 1) s (by omega)]; simp [h]
   | succ i =>
     have e : s + (i + 1) = s + 1 + i := by omega
     by_cases h : p = -1
     .rw [if_pos h, aKw, e, ih (s + 1) i]
      have : (s == s + 1 + i) = false := by simp; omega
      rw [this]; simp
     .rw [if_neg h, e, ih (s + 1) i]; simp
theorem aFN : ∀ (ps : List Int) (s i : Nat) (h : i < ps.length), ps[i] = -1 -> (uL ps s)[(ps.take i).count (-1)]? = some (s + i) := by
 intro ps
 induction ps with
 | nil => intro s i h; simp at h
 | cons p r ih =>
   intro s i h hp
   unfold uL
   cases i with
   | zero => simp only [aKB] at hp; rw [if_pos hp]; simp
   | succ i =>
     simp only [aLb] at hp
     have := ih (s + 1) i (by simpa using h) hp
     rw [aIX, aKw]
     by_cases h1 : p = -1
     .rw [if_pos h1]; simp only [h1, beq_self_eq_true, if_true, aI1]; rw [this]; congr 1; omega
     .rw [if_neg h1]
      have : (p == -1) = false := by simpa using h1
      rw [this]; simp only [aI5, if_false, aJV]
      rw [‹(uL r (s + 1))[_]? = _›]; congr 1; omega
theorem WR {log high : Nat} (hl : 5 <= log) (hh : high <= 2 ^ log) : (nM (2 ^ log) high 0).Nodup /\ (∀ a ∈ nM (2 ^ log) high 0, a < high) /\ (nM (2 ^ log) high 0).length = high := by
 have hn : 0 < 2 ^ log := aJv log
 have hnd : ((List.range (2 ^ log)).map (pos (2 ^ log))).Nodup := by
  rw [List.nodup_iff_pairwise_ne, List.pairwise_map]
  refine List.pairwise_iff_getElem.2 fun i j hi hj hij => ?_
  simp only [aKH] at hi hj
  simp only [aJY]
  exact aFU hl hij hj
 have hp := aoR (2 ^ log) _ hnd (fun a ha => by
  obtain ⟨j, _, rfl⟩ := aJO.1 ha
  exact arB hn j) (by simp)
 unfold nM
 rw [aK6, <- List.range_eq_range']
 refine ⟨hnd.filter _, fun a ha => by simpa using (aLi.1 ha).2, ?_⟩
 rw [(hp.filter _).length_eq]
 have : ∀ m : Nat, high <= m -> ((List.range m).filter (· < high)).length = high := by
  intro m
  induction m with
  | zero => intro h; simp; omega
  | succ m ih =>
    intro h
    rw [aK0, List.filter_append, aI8]
    by_cases hm : high <= m
    .rw [ih hm]; simp; omega
    .have : high = m + 1 := by omega
     subst this
     have : (List.range m).filter (fun x => decide (x < m + 1)) = List.range m := List.filter_eq_self.2 fun a ha => by have := aJN.1 ha; simp; omega
     rw [this]; simp
 exact this _ hh
structure Lay (log : Nat) (ps : List Int) (S : List Int) : Prop where
 len : S.length = 2 ^ log
 cnt : ∀ s (h : s < ps.length), S.count (s : Int) = (dC ps[s]).toNat
 rng : ∀ x ∈ S, ∃ s : Nat, s < ps.length /\ x = s
 top : ∀ s (h : s < ps.length), ps[s] = -1 -> S[2 ^ log - 1 - (ps.take s).count (-1)]? = some (s : Int)
theorem auC (l : List Nat) (s : Nat) : (toI l).count (s : Int) = l.count s := by
 induction l with
 | nil => rfl
 | cons a r ih =>
   show List.count _ (Int.ofNat a :: toI r) = _
   rw [aKw, aKw, ih]
   congr 1
   by_cases h : a = s
   .subst h; simp
   .simp [h]; omega
theorem aE1 : ∀ (ps : List Int) (s : Nat), ∀ x ∈ rF ps s, s <= x /\ x < s + ps.length := by
 intro ps
 induction ps with
 | nil => intro s x h; simp [rF] at h
 | cons p r ih =>
   intro s x h
   unfold rF at h
   rcases aKk.1 h with h | h
   .have := (List.mem_replicate.1 h).2; simp; omega
   .have := ih (s + 1) x h; simp; omega
theorem aEu : ∀ (ps : List Int) (s : Nat), ∀ x ∈ uL ps s, s <= x /\ x < s + ps.length := by
 intro ps
 induction ps with
 | nil => intro s x h; simp [uL] at h
 | cons p r ih =>
   intro s x h
   unfold uL at h
   split at h
   .rcases aJQ.1 h with rfl | h
    .simp
    .have := ih (s + 1) x h; simp; omega
   .have := ih (s + 1) x h; simp; omega
theorem Vq {log : Nat} {ps : List Int} (h : TO log ps) (x0 : Int) :
 ∃ low : List Int, gZ x0 log ps = low ++ toI (uL ps 0).reverse /\ low.Perm (toI (rF ps 0)) /\ ((uL ps 0).length + low.length = 2 ^ log) /\
   (∀ t (h1 : t < (nM (2 ^ log) (rF ps 0).length 0).length) (h2 : t < (rF ps 0).length), low[(nM (2 ^ log) (rF ps 0).length 0)[t]]? = some ((rF ps 0)[t] : Int)) := by
 have hrl := ayS ps 0 h.low
 rw [h.sum] at hrl
 have hpow : ((2 ^ log : Nat) : Int) = (2 : Int) ^ log := by simp
 obtain ⟨m, hm⟩ : ∃ m, m = (uL ps 0).length := ⟨_, rfl⟩
 obtain ⟨hi, hhi⟩ : ∃ x, x = (rF ps 0).length := ⟨_, rfl⟩
 rw [<- hm, <- hhi] at hrl
 have hsum : hi + m = 2 ^ log := by omega
 have ht := auQ ps 0 (2 ^ log) (List.replicate (2 ^ log) x0) (by omega) (by simp)
 rw [<- hm, show 2 ^ log - m = hi from by omega] at ht
 have e2 : (List.replicate (2 ^ log) x0).take hi = List.replicate hi x0 := by rw [List.take_replicate]; congr 1; omega
 have e3 : (List.replicate (2 ^ log) x0).drop (2 ^ log) = [] := by simp
 rw [e2, e3, aJP] at ht
 unfold gZ
 rw [ht]
 simp only
 obtain ⟨u1, u2, u3⟩ := WR (high := hi) h.log5 (by omega)
 by_cases h0 : hi = 0
 .have hr : rF ps 0 = [] := aJr.1 (by omega)
  rw [hr, h0]
  refine ⟨[], by simp [place], by simp [toI], by simp; omega, fun t _ h2 => by simp at h2⟩
 .have hp := aA0 (n := 2 ^ log) (high := hi) (by omega) (rF ps 0) 0 0 (List.replicate hi x0 ++ toI (uL ps 0).reverse) (by omega) (by rw [u3]; omega) (fun _ => by
   rw [Vo (aJv log), Vs, if_pos (by omega)] <;> rfl)
  rw [hp]
  generalize hU : nM (2 ^ log) hi 0 = U at *
  have hb : ∀ q ∈ U, q < (List.replicate hi x0 ++ toI (uL ps 0).reverse).length := fun q hq => by have := u2 q hq; simp; omega
  obtain ⟨R, hR⟩ : ∃ R, R = setAt (U.zip (rF ps 0)) (List.replicate hi x0 ++ toI (uL ps 0).reverse) := ⟨_, rfl⟩
  have hRl : R.length = hi + m := by rw [hR, Zr]; simp [toI, hm]
  have hRd : R.drop hi = toI (uL ps 0).reverse := by
   apply aLa
   intro i
   rw [aKe, hR, VB _ _ (fun x hx => by
     have := u2 _ (List.of_mem_zip (a := x.1) (b := x.2) hx).1
     omega), aJG (by simp)]
   simp
  have hget : ∀ t (h1 : t < U.length) (h2 : t < (rF ps 0).length), R[U[t]]? = some ((rF ps 0)[t] : Int) := fun t h1 h2 => by
   rw [hR]; exact aDI U _ _ t u1 (by omega) hb h1 h2
  rw [<- hR]
  refine ⟨R.take hi, by rw [<- hRd, aKs], ?_, by rw [aJg]; omega, fun t h1 h2 => ?_⟩
  .have p1 : (U.map fun q => R.getD q 0).Perm ((List.range hi).map fun q => R.getD q 0) := (aoR hi U u1 u2 u3).map _
   have p2 : (U.map fun q => R.getD q 0) = toI (rF ps 0) := by
    apply aJ2
    .simp [toI]; omega
    .intro t h1 h2
     simp only [aJb] at h1
     have := hget t h1 (by omega)
     simp only [aJB, toI, aJe, this]
     rfl
   have p3 : ((List.range hi).map fun q => R.getD q 0) = R.take hi := by
    apply aJ2
    .simp; omega
    .intro q h1 h2
     simp only [aJb, aKH] at h1
     simp only [aJB, aJY, List.getElem_take, aJe]
     rw [aI7 (by omega)] <;> rfl
   rw [p2, p3] at p1
   exact p1.symm
  .subst hhi
   simp only [hU] at h1 ⊢
   have := hget t h1 h2
   rw [aJF (u2 _ (aJh h1))]
   exact this
theorem xJ {log : Nat} {ps : List Int} (h : TO log ps) (x0 : Int) : Lay log ps (gZ x0 log ps) := by
 obtain ⟨low, e, hp, hl, _⟩ := Vq h x0
 rw [e]
 refine ⟨by simp [toI]; omega, fun s hs => ?_, fun x hx => ?_, fun s hs hps => ?_⟩
 .rw [aKb, hp.count_eq, auC, auC, List.count_reverse]
  have h1 := aBB ps 0 s
  have h2 := aBe ps 0 s
  rw [aIZ] at h1 h2
  rw [h1, h2, dif_pos hs, dif_pos hs]
  have := h.low _ (aJh hs)
  unfold dC
  split <;> split <;> omega
 .rcases aKk.1 hx with hx | hx
  .have hx := hp.mem_iff.1 hx
   obtain ⟨s, hs, rfl⟩ := aJO.1 hx
   exact ⟨s, by have := aE1 ps 0 s hs; omega, rfl⟩
  .obtain ⟨s, hs, rfl⟩ := aJO.1 hx
   exact ⟨s, by have := aEu ps 0 s (List.mem_reverse.1 hs); omega, rfl⟩
 .have h1 := aFN ps 0 s hs hps
  rw [aIZ] at h1
  have hlt : (ps.take s).count (-1) < (uL ps 0).length := by
   rcases aJl ((ps.take s).count (-1)) (uL ps 0).length with h | h
   .exact h
   .rw [aJk h] at h1; cases h1
  rw [aJG (by omega)]
  unfold toI
  rw [aJq, List.getElem?_reverse (by omega), show (uL ps 0).length - 1 - (2 ^ log - 1 - List.count (-1) (List.take s ps) - low.length) = (ps.take s).count (-1) from by omega, h1]
  rfl
theorem aDv {log : Nat} {ps : List Int} (h : TO log ps) (x y : Int) : gZ x log ps = gZ y log ps := by
 obtain ⟨a, e1, p1, l1, g1⟩ := Vq h x
 obtain ⟨b, e2, p2, l2, g2⟩ := Vq h y
 rw [e1, e2]
 congr 1
 apply aLa
 intro q
 have hrl : (rF ps 0).length = a.length := by rw [p1.length_eq]; simp [toI]
 by_cases hq : q < a.length
 .obtain ⟨u1, u2, u3⟩ := WR (high := (rF ps 0).length) h.log5 (by omega)
  have hm := auE u1 u2 u3 (a := q) (by omega)
  obtain ⟨t, ht, rfl⟩ := aJy hm
  rw [g1 t ht (by omega), g2 t ht (by omega)]
 .rw [aJk (by omega), aJk (by omega)]
def bl (k : Nat) : Nat := if k = 0 then 0 else k.log2 + 1
theorem aFP : bl 0 = 0 := rfl
theorem W9 (k : Nat) : k < 2 ^ bl k := by
 unfold bl
 split
 .subst_vars; simp
 .exact Nat.lt_log2_self
theorem Vg {k : Nat} (h : k ≠ 0) : 2 ^ (bl k - 1) <= k := by
 unfold bl
 rw [if_neg h, aJZ]
 exact Nat.log2_self_le h
theorem HL {k : Nat} (h : k ≠ 0) : 1 <= bl k := by unfold bl; rw [if_neg h]; omega
theorem tR {k n : Nat} (h : k < 2 ^ n) : bl k <= n := by
 by_cases h0 : k = 0
 .subst h0; simp [bl]
 .rcases aJl n (bl k) with hh | hh
  .have h1 := Vg h0
   have := aJa (n := 2) (by omega) (show n <= bl k - 1 by omega)
   omega
  .exact hh
theorem aD9 {k n : Nat} (h1 : 2 ^ n <= k) (h2 : k < 2 ^ (n + 1)) : bl k = n + 1 := by
 have h0 : k ≠ 0 := by have := aJv n; omega
 have a := tR h2
 have b := W9 k
 rcases aJl (bl k) (n + 1) with h | h
 .have := aJa (n := 2) (by omega) (show bl k <= n by omega)
  omega
 .omega
def kAt (ps S : List Int) (i : Nat) : Nat := (dC (ps.getD (S.getD i 0).toNat 0)).toNat + (S.take i).count (S.getD i 0)
def ES (log : Nat) (x : Int) (k : Nat) : Int × Int × Int := (x, ((log + 1 - bl k : Nat) : Int), ((k * 2 ^ (log + 1 - bl k) : Nat) : Int) - 2 ^ log)
def Ht (log : Nat) (ps S : List Int) (i : Nat) : Int × Int × Int := ES log (S.getD i 0) (kAt ps S i)
def lQ (log : Nat) (ps : List Int) : List (Int × Int × Int) := (List.range (2 ^ log)).map (Ht log ps (gZ 0 log ps))
theorem kN (log : Nat) (ps : List Int) : (lQ log ps).length = 2 ^ log := by simp [lQ]
theorem WV {S : List Int} {i : Nat} (h : i < S.length) : (S.take i).count S[i] + 1 <= S.count S[i] := by
 have e : S = S.take i ++ S[i] :: S.drop (i + 1) := by rw [<- aJC h, aKs]
 have : S.count S[i] = (S.take i ++ S[i] :: S.drop (i + 1)).count S[i] := by rw [<- e]
 rw [this, aKb, aKw]; simp
theorem XE {log : Nat} {ps : List Int} (h : TO log ps) {s : Nat} (hs : s < ps.length) : (dC ps[s]).toNat <= 2 ^ log := by
 have := aoB h.low (aJh hs)
 rw [h.sum] at this
 have hpow : ((2 ^ log : Nat) : Int) = (2 : Int) ^ log := by simp
 rw [<- hpow] at this
 exact Int.toNat_le.2 this
theorem Y7 {log : Nat} {ps S : List Int} (h : TO log ps) (L : Lay log ps S) {i : Nat} (hi : i < 2 ^ log) :
 ∃ s : Nat, ∃ hs : s < ps.length, S.getD i 0 = (s : Int) /\ 1 <= (dC ps[s]).toNat /\ (dC ps[s]).toNat <= 2 ^ log /\ kAt ps S i = (dC ps[s]).toNat + (S.take i).count (s : Int) /\ (S.take i).count (s : Int) < (dC ps[s]).toNat := by
 have hil : i < S.length := by rw [L.len]; exact hi
 have hg : S.getD i 0 = S[i] := by rw [aJe, aI7 hil] <;> rfl
 obtain ⟨s, hs, e⟩ := L.rng _ (aJh hil)
 have hc := WV hil
 rw [e, L.cnt s hs] at hc
 refine ⟨s, hs, by rw [hg, e], by omega, XE h hs, ?_, by omega⟩
 unfold kAt
 rw [hg, e, aIY, aJe, aI7 hs] <;> rfl
theorem apU {log k : Nat} (h1 : 1 <= k) (h2 : k < 2 ^ (log + 1)) : 2 ^ log <= k * 2 ^ (log + 1 - bl k) /\ (k + 1) * 2 ^ (log + 1 - bl k) <= 2 ^ (log + 1) /\ bl k <= log + 1 /\ 1 <= bl k := by
 have a := tR h2
 have b := HL (k := k) (by omega)
 have c := Vg (k := k) (by omega)
 have d := W9 k
 refine ⟨?_, ?_, a, b⟩
 .calc 2 ^ log = 2 ^ (bl k - 1) * 2 ^ (log + 1 - bl k) := by rw [<- aKP]; congr 1; omega
   _ <= k * 2 ^ (log + 1 - bl k) := aJH _ c
 .calc (k + 1) * 2 ^ (log + 1 - bl k) <= 2 ^ bl k * 2 ^ (log + 1 - bl k) := aJH _ d
   _ = 2 ^ (log + 1) := by rw [<- aKP]; congr 1; omega
theorem aB5 (n j : Nat) (hn : 0 < n) : ∃ d, d < n /\ pos n (j + d) = 0 := by
 refine ⟨(n - j % n) % n, aKj _ hn, ?_⟩
 unfold pos
 have : (j + (n - j % n) % n) % n = 0 := by
  rw [Nat.add_mod_mod]
  have h1 := aKj j hn
  have h2 := Nat.div_add_mod j n
  have : j + (n - j % n) = n * (j / n + 1) := by
   rw [Nat.mul_add, aKO]
   generalize n * (j / n) = y at *
   generalize j % n = r at *
   omega
  rw [this, Nat.mul_mod_right]
 rw [Nat.mul_mod, this, Nat.zero_mul, Nat.zero_mod]
theorem VZ {n high : Nat} (hn : 0 < n) (hh : 0 < high) (j : Nat) : ∃ d, (∀ e, e < d -> high <= pos n (j + e)) /\ pos n (j + d) < high /\ adB n high n (pos n j) = pos n (j + d) := by
 obtain ⟨D, hD, h0⟩ := aB5 n j hn
 have key : ∀ (D f j : Nat), D <= f -> pos n (j + D) < high -> ∃ d, (∀ e, e < d -> high <= pos n (j + e)) /\ pos n (j + d) < high /\ adB n high f (pos n j) = pos n (j + d) := by
  intro D
  induction D with
  | zero =>
    intro f j _ h
    refine ⟨0, fun e he => by omega, h, ?_⟩
    rw [aJV] at h ⊢
    cases f with
    | zero => rfl
    | succ f => unfold adB; rw [if_pos h]
  | succ D ih =>
    intro f j hf h
    obtain ⟨f, rfl⟩ : ∃ g, f = g + 1 := ⟨f - 1, by omega⟩
    by_cases hj : pos n j < high
    .exact ⟨0, fun e he => by omega, hj, by unfold adB; rw [if_pos hj] <;> rfl⟩
    .obtain ⟨d, h1, h2, h3⟩ := ih f (j + 1) (by omega) (by rw [show j + 1 + D = j + (D + 1) from by omega]; exact h)
     refine ⟨d + 1, fun e he => ?_, by rw [show j + (d + 1) = j + 1 + d from by omega]; exact h2, ?_⟩
     .cases e with
      | zero => rw [aJV]; omega
      | succ e => rw [show j + (e + 1) = j + 1 + e from by omega]; exact h1 e (by omega)
     .unfold adB; rw [if_neg hj, JS, h3]; congr 1; omega
 exact key D n j (by omega) (by rw [h0]; exact hh)
theorem akJ {log : Nat} {ps : List Int} (h : TO log ps) (x0 : Int) : ∃ arr, Yu ps 0 (2 ^ log) (List.replicate (2 ^ log) x0) = ((rF ps 0).length, arr) /\ arr.length = 2 ^ log /\ (uL ps 0).length + (rF ps 0).length = 2 ^ log /\ gZ x0 log ps = place (2 ^ log) (rF ps 0).length (rF ps 0) 0 arr := by
 have hrl := ayS ps 0 h.low
 rw [h.sum] at hrl
 have hpow : ((2 ^ log : Nat) : Int) = (2 : Int) ^ log := by simp
 have hsum : (uL ps 0).length + (rF ps 0).length = 2 ^ log := by omega
 have ht := auQ ps 0 (2 ^ log) (List.replicate (2 ^ log) x0) (by omega) (by simp)
 rw [show 2 ^ log - (uL ps 0).length = (rF ps 0).length from by omega] at ht
 refine ⟨_, ht, ?_, hsum, ?_⟩
 .simp [toI]; omega
 .unfold gZ; rw [ht]
end Go.Pu
namespace Go.En
open Go
section
variable {P : Program} {w : aLl} {t e : TypeId}
theorem azO {i : TypeInfo} (hu : P.underlying t = some (.slice e)) (hi : P.info? e = some i)
 {K : aLm -> aLl -> Prop} (hk : ∀ w', cM w' w.heap.size [] -> aS w w' cI -> w'.heap.size = w.heap.size + 1 -> K (.slice (some ⟨w.heap.size, 0, none⟩) 0 0) w') :
 aC P (cD t 0 []) w K := by
 have : (cD t 0 []).run P w = .ok (.value (.slice (some ⟨w.heap.size, 0, none⟩) 0 0)) (w.alloc (.cells ([] : List aLm).toArray e)) := by
  unfold cD; rw [sO]
  have h1 : ¬ (0 > 2 ^ 24) := by omega
  have e : ∀ f : Nat -> aLm, Array.map f (Array.range 0) = #[] := fun f => by simp
  simp only [Instr.buildSlice, underlying, pure_bind, Sem.run_bind, run_program, Result.andThen_ok, hu, Sem.run_pure, iD hi, Nat.zero_mul, h1, if_false, if_true, newRow, run_newObj, Instr.fill, e]
  rfl
 unfold aC
 rw [this]
 exact hk _ (cM.alloc _ _ _) (aS.alloc _ _ _) (by simp)
def At (v : aLm) (b : Nat) : Prop := ∀ M : Nat -> Prop, ¬ M b -> ¬ inB v M
theorem At.nil (c b : Nat) (a : Option Addr) : At (.slice a 0 c) b := fun M h => by unfold inB; split <;> simp_all
theorem At.at (b o n c : Nat) : At (.slice (some ⟨b, o, none⟩) n c) b := fun M h => by
 unfold inB; split
 .rename_i x m _ e
  obtain ⟨rfl, _⟩ : (⟨b, o, none⟩ : Addr) = x /\ _ := by simpa using e
  exact h
 .simp
theorem uD.at' {w : aLl} {base sz n : Nat} {v : aLm} {l : List aLm} (h : uD w base sz v n l) (hb : base < w.heap.size) : ∃ b, base <= b /\ b < w.heap.size /\ At v b := by
 rcases h.2 with ⟨rfl, rfl⟩ | ⟨b, c, rest, rfl, h2, h3, h4, h5⟩
 .exact ⟨base, aI9 _, hb, At.nil _ _ _⟩
 .exact ⟨b, h2, h3.lt, At.at _ _ _ _⟩
end
end Go.En
namespace Go.Proofs.YtaggdjhhmbnhoaaDoor
open Go Go.En Go.Pu
set_option maxRecDepth 4000
theorem VO (n : Nat) (hn : n <= 40) (w : aLl) : aR pg qG #[.int .i64 n] w (fun r w' => r = .int .i64 (2 ^ n) /\ w' = w) := by
 refine afS ?_
 unfold akS Lk KC Kz MV MF KH Mk
 refine cC.rule (fun m t w' => ∃ i : Nat, m = n - i /\ t = (.int .i64 (2 ^ i), .int .i64 i) /\ i <= n /\ w' = w) n ⟨0, rfl, rfl, by omega, rfl⟩ ?_
 rintro m t w' ⟨i, rfl, rfl, hi, rfl⟩
 by_cases hlt : i < n
 .have d1 : decide ((i : Int) < (n : Int)) = true := by simp; omega
  have d2 : decide ((i : Int) < 40) = true := by simp; omega
  have hb : (2 : Int) ^ i <= 549755813888 := by
   have : 2 ^ i <= 2 ^ 39 := aJa (by omega) (by omega)
   have e : ((2 ^ i : Nat) : Int) = (2 : Int) ^ i := by simp
   omega
  have hp := aAp i
  simp (disch := omega) only [AM, aC, aW, d1, pX, aT, bN, aA, mU, bM, if_true, bP, d2, and_true, aF]
  exact ⟨n - (i + 1), by omega, i + 1, rfl, by rw [Int.pow_succ] <;> rfl, by omega⟩
 .have d1 : decide ((i : Int) < (n : Int)) = false := by simp; omega
  have : i = n := by omega
  subst this
  simp (disch := omega) only [AM, aC, aW, d1, pX, bN, aT, aA, Ev, true_and, vN, bM, aI5, if_false, aD, dH]
def axI : ByteArray := ⟨#[0, 1, 2, 2, 3, 3, 3, 3, 4, 4, 4, 4, 4, 4, 4, 4, 5, 5, 5, 5, 5, 5, 5, 5, 5, 5, 5, 5, 5, 5, 5, 5, 6, 6, 6, 6, 6, 6, 6, 6, 6, 6, 6, 6, 6, 6, 6, 6, 6, 6, 6, 6, 6, 6, 6, 6, 6, 6, 6, 6, 6, 6, 6, 6, 7, 7, 7, 7, 7, 7, 7, 7, 7, 7, 7, 7, 7, 7, 7, 7, 7, 7, 7, 7, 7, 7, 7, 7, 7, 7, 7, 7, 7, 7, 7, 7, 7, 7, 7, 7, 7, 7, 7, 7, 7, 7, 7, 7, 7, 7, 7, 7, 7, 7, 7, 7, 7, 7, 7, 7, 7, 7, 7, 7, 7, 7, 7, 7, 8, 8, 8, 8, 8, 8, 8, 8, 8, 8, 8, 8, 8, 8, 8, 8, 8, 8, 8, 8, 8, 8, 8, 8, 8, 8, 8, 8, 8, 8, 8, 8, 8, 8, 8, 8, 8, 8, 8, 8, 8, 8, 8, 8, 8, 8, 8, 8, 8, 8, 8, 8, 8, 8, 8, 8, 8, 8, 8, 8, 8, 8, 8, 8, 8, 8, 8, 8, 8, 8, 8, 8, 8, 8, 8, 8, 8, 8, 8, 8, 8, 8, 8, 8, 8, 8, 8, 8, 8, 8, 8, 8, 8, 8, 8, 8, 8, 8, 8, 8, 8, 8, 8, 8, 8, 8, 8, 8, 8, 8, 8, 8, 8, 8, 8, 8, 8, 8, 8, 8, 8, 8, 8, 8, 8, 8, 8, 8]⟩
theorem Qr : axI.size = 256 := by decide
set_option maxRecDepth 100000 in
theorem arE (x : Nat) (h : x < 256) : (axI[x]'(by rw [Qr]; exact h)).toNat = bl x := by
 have : ∀ k : Fin 256, (axI.data[k.val]!).toNat = bl k.val := by decide +kernel
 have h2 := this ⟨x, h⟩
 simp only at h2
 rw [<- h2]
 have hs : x < axI.data.size := by have := Qr; exact (show axI.data.size = 256 from this) ▸ h
 rw [getElem!_pos axI.data x hs]
 rfl
theorem Ug {x j : Nat} (h : 2 ^ j <= x) : bl x = bl (x / 2 ^ j) + j := by
 have hp := aJv j
 have h0 : x / 2 ^ j ≠ 0 := by
  have := Nat.div_pos h hp
  omega
 have a := Vg h0
 have b := W9 (x / 2 ^ j)
 have c := HL h0
 obtain ⟨m, hm⟩ : ∃ m, bl (x / 2 ^ j) = m + 1 := ⟨bl (x / 2 ^ j) - 1, by omega⟩
 rw [hm, aJZ] at a
 rw [hm] at b ⊢
 have h1 : 2 ^ (m + j) <= x := by
  rw [aKP]
  exact aJ7 (aJH _ a) (aKY _ _)
 have h2 : x < 2 ^ (m + j + 1) := by
  rw [show m + j + 1 = (m + 1) + j from by omega, aKP]
  exact (aKt hp).1 b
 rw [aD9 h1 h2]; omega
theorem ayB {x n : Nat} (hx : x < 256) (hn : n <= 1000) (R : aLm -> aLl -> Prop) (w : aLl) (h : R (.int .i64 ((n + bl x : Nat) : Int)) w) :
 tP R (.int .u64 x) (.int .i64 n) w := by
 have hg := arE x hx
 have hs := Qr
 have hb : bl x <= 8 := tR (n := 8) (by omega)
 unfold tP
 change aC pg _ w fun t21 w => aC pg (IM 9 (.string axI) t21) w _
 simp (disch := omega) only [aC, lH, JG, aA, qD, aIY, hg, kX, aT, bN]
 rw [Int.natCast_add] at h
 exact h
theorem UA (a b : Nat) : ((a : Int)).fdiv (b : Int) = ((a / b : Nat) : Int) := by rw [aKF _ (by omega)] <;> rfl
theorem VH (x j : Nat) (hj : j <= 64) : ((x : Int)).fdiv (2 ^ (min (j : Nat) IntKind.u64.bits)) = ((x / 2 ^ j : Nat) : Int) := by
 have e : min j IntKind.u64.bits = j := by simp only [IntKind.bits]; omega
 rw [e, <- UA]; simp
theorem aF2 (x : Nat) (hx : x < 18446744073709551616) (w : aLl) : aR pg zV #[.int .u64 x] w (fun r w' => r = .int .i64 (bl x : Nat) /\ w' = w) := by
 refine Ue ?_
 unfold SN CV Cx
 have step8 : ∀ (y n : Nat), y < 65536 -> n <= 64 -> n + bl y = bl x -> xZ (fun r w' => r = .int .i64 (bl x : Nat) /\ w' = w) (.int .u64 y) (.int .i64 n) w := by
  intro y n hy hn e
  unfold xZ CX
  by_cases h : 256 <= y
  .have d : decide ((256 : Int) <= (y : Int)) = true := by simp; omega
   have sh := VH y 8 (by omega)
   have hq : y / 2 ^ 8 < 256 := by omega
   have := Ug (x := y) (j := 8) (by omega)
   have e2 : (n : Int) + 8 = ((n + 8 : Nat) : Int) := by omega
   simp (disch := omega) only [aC, oD, d, vY, bN, e2, aT, aA, aF]
   rw [show (8 : Int).toNat = 8 from rfl, sh]
   exact ayB hq (by omega) _ _ ⟨by rw [<- e, this]; congr 2; omega, rfl⟩
  .have d : decide ((256 : Int) <= (y : Int)) = false := by simp; omega
   simp (disch := omega) only [aC, oD, d, vY, bN, aT, aA, aD]
   exact ayB (by omega) (by omega) _ _ ⟨by rw [e], rfl⟩
 have step16 : ∀ (y n : Nat), y < 4294967296 -> n <= 32 -> n + bl y = bl x -> yO (fun r w' => r = .int .i64 (bl x : Nat) /\ w' = w) (.int .u64 y) (.int .i64 n) w := by
  intro y n hy hn e
  unfold yO C6
  by_cases h : 65536 <= y
  .have d : decide ((65536 : Int) <= (y : Int)) = true := by simp; omega
   have sh := VH y 16 (by omega)
   have hq : y / 2 ^ 16 < 65536 := by omega
   have := Ug (x := y) (j := 16) (by omega)
   have e2 : (n : Int) + 16 = ((n + 16 : Nat) : Int) := by omega
   simp (disch := omega) only [aC, oD, d, vY, bN, e2, aT, aA, aF]
   rw [show (16 : Int).toNat = 16 from rfl, sh]
   exact step8 _ _ hq (by omega) (by rw [<- e, this]; omega)
  .have d : decide ((65536 : Int) <= (y : Int)) = false := by simp; omega
   simp (disch := omega) only [aC, oD, d, vY, bN, aT, aA, aD]
   exact step8 _ _ (by omega) (by omega) e
 by_cases h : 4294967296 <= x
 .have d : decide ((4294967296 : Int) <= (x : Int)) = true := by simp; omega
  have sh := VH x 32 (by omega)
  have hq : x / 2 ^ 32 < 4294967296 := by omega
  have := Ug (x := x) (j := 32) (by omega)
  simp (disch := omega) only [aC, oD, d, vY, aA, aF]
  rw [show (32 : Int).toNat = 32 from rfl, sh]
  exact step16 _ 32 hq (by omega) (by rw [this]; omega)
 .have d : decide ((4294967296 : Int) <= (x : Int)) = false := by simp; omega
  simp (disch := omega) only [aC, oD, d, vY, aA, aD]
  exact step16 _ 0 (by omega) (by omega) (by omega)
theorem aFD (x : Nat) (hx : x < 18446744073709551616) (w : aLl) : aR pg uF #[.int .u64 x] w (fun r w' => r = .int .i64 (bl x : Nat) /\ w' = w) := by
 refine Xn ?_
 simp (disch := omega) only [Xg, FR, aC, tE, aA, aD]
 exact aF2 x hx w
theorem awN {n : Nat} (h : n <= 20) : IntKind.i64.wrap (1 * 2 ^ (min n IntKind.i64.bits)) = ((2 ^ n : Nat) : Int) := by
 have : ∀ k : Fin 21, IntKind.i64.wrap (1 * 2 ^ (min k.val IntKind.i64.bits)) = ((2 ^ k.val : Nat) : Int) := by decide
 exact this ⟨n, by omega⟩
theorem aEf {w : aLl} {v : aLm} {l : List UInt8} (h : Bs w v l) (h0 : 0 < l.length) : ∃ b off c, v = .slice (some ⟨b, off, none⟩) l.length c /\ l.length <= c /\ ∀ i, (h : i < l.length) -> w.cell? ⟨b, off + i, none⟩ = some (.int .u8 (l[i].toNat : Nat)) := by
 obtain ⟨b, off, c, rfl, hc, hcell⟩ := h.openV (by simpa using h0)
 refine ⟨b, off, c, by rw [aJb], by simpa using hc, fun i hi => ?_⟩
 have := hcell i (by simpa using hi)
 simpa [KY] using this
theorem VP {v : aLm} {l : List UInt8} {w : aLl} (h : Bs w v l) (hl : l.length <= 1000000000) :
 aR pg kA #[v] w (fun r w' => uD w' w.heap.size 1 r l.length (l.map KY) /\ aS w w' cI) := by
 refine QV ?_
 have h1 := h
 obtain ⟨a, n, c, rfl, hn, hc, hh⟩ := h
 rw [aJb] at hn
 unfold Nv AH
 cases a with
 | none =>
   have h0 : l = [] := by
    cases l with
    | nil => rfl
    | cons x l => obtain ⟨b, off, h, _⟩ := hh (by simp at hn; omega); cases h
   subst h0
   simp (disch := omega) only [aC, sI, aKu, aA, aF]
   exact ⟨uD.nil _ _ _, aS.refl _ _⟩
 | some x =>
   simp (disch := omega) only [aC, sI, aJm, aA, aD]
   refine azO Tryd.underlying22 Yy fun w1 o1 x1 s1 => ?_
   have hcl1 := (h1.ext x1 (bU _)).cl
   rw [aJb] at hcl1
   have hos : uD w1 w.heap.size 1 (.slice (some ⟨w.heap.size, 0, none⟩) 0 0) 0 [] := ⟨rfl, .inr ⟨_, 0, [], rfl, aI9 _, o1, rfl, aI9 _⟩⟩
   refine Ui hos hcl1 (aBL _) x1.size (by omega) fun v3 w3 o3 x3 => ?_
   rw [aIZ, aJM] at o3
   exact ⟨o3, x1.trans x3 fun b hb h => Nat.not_le_of_lt hb h⟩
def AtI (v : aLm) (lo hi : Nat) : Prop := ∀ M : Nat -> Prop, (∀ b, lo <= b -> b < hi -> ¬ M b) -> ¬ inB v M
theorem uD.atI {w : aLl} {base sz n : Nat} {v : aLm} {l : List aLm} (h : uD w base sz v n l) : AtI v base w.heap.size := by
 intro M hM
 rcases h.2 with ⟨rfl, rfl⟩ | ⟨b, c, rest, rfl, h2, h3, h4, h5⟩
 .exact fun h => h
 .exact At.at b 0 n c M (hM b h2 h3.lt)
theorem aFy {w : aLl} {a : Option Addr} {n c : Nat} {l : List aLm} (h : Sl w (.slice a n c) l) {k : Nat} (hk : k <= n) : Sl w (.slice a k c) (l.take k) := by
 obtain ⟨a', n', c', e, hn, hc, hh⟩ := h
 cases e
 refine ⟨a, k, c, rfl, by rw [aJg]; omega, by omega, fun h0 => ?_⟩
 obtain ⟨b, off, ha, hcell⟩ := hh (by omega)
 refine ⟨b, off, ha, fun i hi => ?_⟩
 rw [hcell i (by omega), aJF (by omega)]
theorem slA {w : aLl} {a : Option Addr} {n c : Nat} {l : List aLm} (h : Sl w (.slice a n c) l) (h0 : 0 < n) : ∃ b off, a = some ⟨b, off, none⟩ /\ ∀ i, i < n -> w.cell? ⟨b, off + i, none⟩ = l[i]? := by
 obtain ⟨a', n', c', e, hn, hc, hh⟩ := h
 cases e
 exact hh h0
end Go.Proofs.YtaggdjhhmbnhoaaDoor
namespace Go.Pu
open Go Go.En
def Qc (c : UInt8) : List Bool := (List.range 8).map c.toNat.testBit
def bK : List UInt8 -> List Bool
 | [] => []
 | c :: l => Qc c ++ bK l
def wA : List Bool -> Nat
 | [] => 0
 | b :: l => b.toNat + 2 * wA l
theorem yB (c : UInt8) : (Qc c).length = 8 := by simp [Qc]
theorem nV : ∀ l : List UInt8, (bK l).length = 8 * l.length
 | [] => rfl
 | c :: l => by rw [bK, aI8, yB, nV l, aJo]; omega
theorem JN : ∀ a b : List UInt8, bK (a ++ b) = bK a ++ bK b
 | [], b => rfl
 | c :: a, b => by rw [aJ9, bK, bK, JN a b, aJc]
theorem aDg (c : UInt8) {k : Nat} (h : k < 8) : (Qc c)[k]? = some (c.toNat.testBit k) := by
 unfold Qc
 rw [aJq, aKZ h] <;> rfl
theorem Ko : ∀ (l : List UInt8) (i : Nat) (h : i < 8 * l.length), (bK l)[i]? = some ((l[i / 8]'(by omega)).toNat.testBit (i % 8))
 | [], i, h => by simp at h
 | c :: l, i, h => by
   rw [bK]
   rcases aJl i 8 with h8 | h8
   .rw [aJd (by rw [yB]; exact h8), aDg c h8]
    have e : i / 8 = 0 := by omega
    have e2 : i % 8 = i := by omega
    simp [e, e2]
   .rw [aJG (by rw [yB]; exact h8), yB, Ko l (i - 8) (by simp at h; omega)]
    have e : i / 8 = (i - 8) / 8 + 1 := by omega
    have e2 : (i - 8) % 8 = i % 8 := by omega
    simp [e, e2]
theorem Z9 : ∀ l : List Bool, wA l < 2 ^ l.length
 | [] => by simp [wA]
 | b :: l => by
   have := Z9 l
   rw [wA, aJo, aJp]
   have : b.toNat <= 1 := Bool.toNat_le b
   omega
theorem akB : ∀ a b : List Bool, wA (a ++ b) = wA a + 2 ^ a.length * wA b
 | [], b => by simp [wA]
 | x :: a, b => by
   rw [aJ9, wA, wA, akB a b, aJo, aJp, Nat.mul_add, <- Nat.mul_assoc, <- aKn, aJ8 2 (2 ^ a.length)]
theorem aCZ (a : List Bool) (x : Bool) : wA (a ++ [x]) = wA a + 2 ^ a.length * x.toNat := by
 rw [akB]; simp [wA]
def gU (x : Nat) (n : Nat) : List Bool := (List.range n).map x.testBit
theorem dQ (x n : Nat) : (gU x n).length = n := by simp [gU]
theorem FH (x : Nat) : gU x 0 = [] := rfl
theorem LO (x n : Nat) : gU x (n + 1) = gU x n ++ [x.testBit n] := by
 unfold gU; rw [aK0, aJJ] <;> rfl
theorem aBP (x n : Nat) : gU x (n + 1) = x.testBit 0 :: gU (x / 2) n := by
 unfold gU
 rw [List.range_succ_eq_map, aKz, List.map_map]
 congr 1
 apply aKp
 intro k _
 simp [Nat.testBit_succ]
theorem arD : ∀ (n x : Nat), wA (gU x n) = x % 2 ^ n
 | 0, x => by simp [gU, wA, Nat.mod_one]
 | n + 1, x => by
   rw [aBP, wA, arD n (x / 2), aJp, aJ8 (2 ^ n) 2, Nat.mod_mul]
   congr 1
   rw [Nat.testBit_zero]
   have : x % 2 = 0 ∨ x % 2 = 1 := by omega
   rcases this with h | h <;> simp [h]
theorem aBp {x i : Nat} (h : x < 2 ^ i) (b : Nat) : x ||| (b * 2 ^ i) = x + 2 ^ i * b := by
 rw [Nat.or_comm, aJ8 b, <- Nat.two_pow_add_eq_or_of_lt h b, Nat.add_comm]
theorem aCs {a b : Nat} (ha : a < 2 ^ 64) (hb : b < 2 ^ 64) : orI .u64 (a : Int) (b : Int) = ((a ||| b : Nat) : Int) := by
 have h := Nat.or_lt_two_pow ha hb
 unfold orI
 have e : IntKind.u64.bits = 64 := rfl
 rw [e, BitVec.ofInt_natCast, BitVec.ofInt_natCast, BitVec.toNat_or, BitVec.toNat_ofNat, BitVec.toNat_ofNat, aJA ha, aJA hb]
 exact iI (by omega) (by have : ((a ||| b : Nat) : Int) < ((2 ^ 64 : Nat) : Int) := by exact_mod_cast h
                         omega)
theorem aAu {a b : Nat} (ha : a < 2 ^ 8) (hb : b < 2 ^ 8) : orI .u8 (a : Int) (b : Int) = ((a ||| b : Nat) : Int) := by
 have h := Nat.or_lt_two_pow ha hb
 unfold orI
 have e : IntKind.u8.bits = 8 := rfl
 rw [e, BitVec.ofInt_natCast, BitVec.ofInt_natCast, BitVec.toNat_or, BitVec.toNat_ofNat, BitVec.toNat_ofNat, aJA ha, aJA hb]
 exact JG (by omega) (by have : ((a ||| b : Nat) : Int) < ((2 ^ 8 : Nat) : Int) := by exact_mod_cast h
                         omega)
theorem aFW {a : Nat} (h : a < 2 ^ 8) : aeC .u8 (a : Int) 1 = ((a % 2 : Nat) : Int) := by
 have : ∀ k : Fin 256, aeC .u8 (k.val : Int) 1 = ((k.val % 2 : Nat) : Int) := by decide +kernel
 exact this ⟨a, h⟩
theorem ayI {a : Nat} (h : a < 2 ^ 64) : aeC .u64 (a : Int) 1 = ((a % 2 : Nat) : Int) := by
 unfold aeC
 have e : IntKind.u64.bits = 64 := rfl
 rw [e, BitVec.ofInt_natCast, show (BitVec.ofInt 64 1) = BitVec.ofNat 64 1 from rfl, BitVec.toNat_and, BitVec.toNat_ofNat, BitVec.toNat_ofNat, aJA h, show 1 % 2 ^ 64 = 1 from rfl, Nat.and_one_is_mod]
 exact iI (by omega) (by omega)
theorem ajC (x k : Nat) : (x.testBit k).toNat = x / 2 ^ k % 2 := by
 rw [aKg]
 have : x / 2 ^ k % 2 = 0 ∨ x / 2 ^ k % 2 = 1 := by omega
 rcases this with h | h <;> simp [h]
def vZ (L : List Bool) (n : Nat) : Nat := wA (L.drop (L.length - min n L.length)) * 2 ^ (n - min n L.length)
theorem Eg (L : List Bool) (n : Nat) : vZ L n < 2 ^ n := by
 unfold vZ
 have h := Z9 (L.drop (L.length - min n L.length))
 rw [aJu, show L.length - (L.length - min n L.length) = min n L.length from by omega] at h
 calc _ < 2 ^ min n L.length * 2 ^ (n - min n L.length) := Nat.mul_lt_mul_of_pos_right h (aJv _)
  _ = 2 ^ n := by rw [<- aKP]; congr 1; omega
theorem atB {L : List Bool} {at' i : Nat} {b : Bool} (h : L[at' + i]? = some b) : (L.drop at').take (i + 1) = (L.drop at').take i ++ [b] := by
 rw [aJE, aKe, h] <;> rfl
def afB (l : List UInt8) : Option Nat := match l.getLast? with
 | none => none
 | some c => if c.toNat = 0 then none else some (8 * (l.length - 1) + bl c.toNat - 1)
theorem Km {l : List UInt8} (h : 0 < l.length) : afB l = if (l[l.length - 1]'(by omega)).toNat = 0 then none else some (8 * (l.length - 1) + bl (l[l.length - 1]'(by omega)).toNat - 1) := by
 unfold afB
 rw [aKI, aI7 (by omega)]
theorem Qm {l : List UInt8} {k : Nat} (h : afB l = some k) : 0 < l.length /\ k < 8 * l.length /\ 8 * (l.length - 1) <= k /\ (bK l)[k]? = some true /\ ∀ j, k < j -> j < 8 * l.length -> (bK l)[j]? = some false := by
 have h0 : 0 < l.length := by
  cases l with
  | nil => simp [afB] at h
  | cons x l => simp
 rw [Km h0] at h
 generalize hc : l[l.length - 1]'(by omega) = c at h
 split at h
 .cases h
 .rename_i hne
  have hk := aJj h
  have h1 := HL hne
  have h2 : bl c.toNat <= 8 := tR (by have : c.toNat < 256 := aJz c
                                      omega)
  have h3 := Vg hne
  have h4 := W9 c.toNat
  refine ⟨h0, by omega, by omega, ?_, ?_⟩
  .rw [Ko l k (by omega)]
   have e : k / 8 = l.length - 1 := by omega
   have e2 : k % 8 = bl c.toNat - 1 := by omega
   simp only [e, hc, e2]
   rw [aKg]
   obtain ⟨m, hm⟩ : ∃ m, bl c.toNat = m + 1 := ⟨bl c.toNat - 1, by omega⟩
   rw [hm, aJZ] at h3 ⊢
   rw [hm, aJp] at h4
   have : c.toNat / 2 ^ m = 1 := by
    have hp := aJv m
    have := (aKT hp).2 (show 1 * 2 ^ m <= c.toNat by omega)
    have := (aKt hp).2 (show c.toNat < 2 * 2 ^ m by omega)
    omega
   simp [this]
  .intro j h5 h6
   rw [Ko l j h6]
   have e : j / 8 = l.length - 1 := by omega
   simp only [e, hc]
   rw [Nat.testBit_lt_two_pow]
   exact Nat.lt_of_lt_of_le h4 (aJa (by omega) (by omega))
end Go.Pu
namespace Go.Proofs.YtaggdjhhmbnhoaaDoor
open Go Go.En Go.Pu
set_option maxRecDepth 4000
theorem aFb {l : List UInt8} {v : aLm} {st n : Nat} {w : aLl} (h : Bs w v l) (hn : n <= 64) (hat : st + n <= 8 * l.length) (hl : l.length <= 1000000000) :
 aR pg HE #[v, .int .i64 st, .int .i64 n] w (fun r w' => r = .int .u64 (wA (((bK l).drop st).take n)) /\ w' = w) := by
 refine arT ?_
 unfold auT RG Si QW Rd Rz QX RI
 refine cC.rule (fun m (t : aLm × aLm) w' => ∃ i : Nat, m = n - i /\ t = (.int .u64 (wA (((bK l).drop st).take i) : Nat), .int .i64 i) /\ i <= n /\ w' = w) n ⟨0, rfl, by simp [wA], by omega, rfl⟩ ?_
 rintro m t w1 ⟨i, rfl, rfl, hi, rfl⟩
 unfold JZ
 by_cases hlt : i < n
 .have d1 : decide ((i : Int) < (n : Int)) = true := by simp; omega
  obtain ⟨b, off, c, rfl, hc, hcell⟩ := h.openV (by simp; omega)
  obtain ⟨q, hq⟩ : ∃ q, q = st + i := ⟨_, rfl⟩
  have e0 : (st : Int) + (i : Int) = (q : Int) := by omega
  have e1 : (q : Int).tdiv 8 = ((q / 8 : Nat) : Int) := by rw [aJs (by omega)]; omega
  have e2 : (q : Int).tmod 8 = ((q % 8 : Nat) : Int) := by rw [aJt (by omega)]; omega
  have hq8 : q / 8 < l.length := by omega
  have hb : (bK l)[st + i]? = some ((l[q / 8]'hq8).toNat.testBit (q % 8)) := by subst hq; exact Ko l _ (by omega)
  have ht := atB hb
  have g1 := hcell (q / 8) (by simpa using hq8)
  simp only [aJB, KY] at g1
  have hx : (l[q / 8]'hq8).toNat < 256 := aJz _
  generalize (l[q / 8]'hq8).toNat = x at *
  have e3 : (x : Int).fdiv (2 ^ (min (q % 8) IntKind.u8.bits)) = ((x / 2 ^ (q % 8) : Nat) : Int) := by
   rw [show min (q % 8) IntKind.u8.bits = q % 8 from aJS (by have : IntKind.u8.bits = 8 := rfl
                                                             omega), aKF _ (Int.pow_nonneg (by omega))]
   simp
  have hy : x / 2 ^ (q % 8) < 2 ^ 8 := by have := aK1 x (2 ^ (q % 8)); omega
  have e4 := aFW hy
  rw [<- ajC] at e4
  have hbt : (x.testBit (q % 8)).toNat <= 1 := Bool.toNat_le _
  have hlen : (((bK l).drop st).take i).length = i := by rw [aJg, aJu, nV]; omega
  have hnb := Z9 (((bK l).drop st).take i)
  have hsn := aCZ (((bK l).drop st).take i) (x.testBit (q % 8))
  rw [<- ht, hlen] at hsn
  rw [hlen] at hnb
  have hp : 2 ^ i < 2 ^ 64 := Nat.pow_lt_pow_right (by omega) (by omega)
  have hp2 : 2 ^ i <= 2 ^ 63 := aJa (by omega) (by omega)
  generalize (x.testBit (q % 8)).toNat = bt at *
  have hm : bt * 2 ^ i <= 2 ^ i := by
   have := aJH (2 ^ i) hbt
   omega
  have e5 : IntKind.u64.wrap ((bt : Int) * 2 ^ (min i IntKind.u64.bits)) = ((bt * 2 ^ i : Nat) : Int) := by
   rw [show min i IntKind.u64.bits = i from aJS (by have : IntKind.u64.bits = 64 := rfl
                                                    omega)]
   have e : (bt : Int) * 2 ^ i = ((bt * 2 ^ i : Nat) : Int) := by simp
   rw [e]
   exact iI (by omega) (by omega)
  have e6 := aCs (a := wA (((bK l).drop st).take i)) (b := bt * 2 ^ i) (by omega) (by omega)
  rw [aBp hnb, <- hsn] at e6
  simp (disch := omega) only [aC, aW, d1, bN, e0, aT, aJb, jB, iI, aA, zX, e1, yV, e2, mJ, aIY, kJ, g1, aG, vY, e3, EN, e4, nU, mO, e5, ahI, e6, and_true, aF]
  exact ⟨n - (i + 1), by omega, i + 1, rfl, rfl, by omega⟩
 .have d1 : decide ((i : Int) < (n : Int)) = false := by simp; omega
  obtain rfl : i = n := by omega
  unfold J1
  simp (disch := omega) only [aC, aW, d1, bN, aT, jB, iI, aA, zX, yV, true_and, aD]
def Fwd (w : aLl) (lo hi : Nat) (l : List UInt8) (st : Nat) : Prop := ∃ v, cM w hi [v, .int .i64 st] /\ Bs w v l /\ AtI v lo hi
theorem Fwd.ext {w w' : aLl} {lo hi st : Nat} {l : List UInt8} {M : Nat -> Prop} (h : Fwd w lo hi l st) (hx : aS w w' M) (hM : ∀ b, lo <= b -> b <= hi -> ¬ M b) (hlh : lo <= hi) : Fwd w' lo hi l st := by
 obtain ⟨v, h1, h2, h3⟩ := h
 exact ⟨v, h1.ext hx (hM _ hlh (aI9 _)), h2.ext hx (h3 M fun b hb hh => hM b hb (by omega)), h3⟩
theorem awG {v : aLm} {l : List UInt8} {w : aLl} (h : Bs w v l) (hl : l.length <= 1000000000) :
 aR pg zR #[v] w (fun r w' => ∃ hi, r = .pointer (some ⟨hi, 0, none⟩) /\ w.heap.size <= hi /\ hi < w'.heap.size /\ Fwd w' w.heap.size hi l 0 /\ aS w w' cI) := by
 refine Vl ?_
 unfold SE CJ
 refine (VP h hl).mono ?_
 rintro r w1 ⟨o1, x1⟩
 have hat := uD.atI o1
 have hs := o1.sl
 obtain ⟨a, c, rfl⟩ := o1.len
 simp (disch := omega) only [aC, pA, aA]
 refine gA fun w2 o2 x2 s2 => ?_
 simp only [Value.cells] at o2
 exact ⟨_, rfl, x1.size, by omega, ⟨_, o2, hs.ext x2 (bU _), hat⟩, x1.seq x2⟩
theorem VI {l : List UInt8} {lo hi st n : Nat} {w : aLl} (h : Fwd w lo hi l st) (hlh : lo <= hi) (hn : n <= 32) (hst : st <= 8 * l.length) (hl : l.length <= 1000000) :
 aR pg nA #[.pointer (some ⟨hi, 0, none⟩), .int .i64 n] w (fun r w' =>
  (8 * l.length < st + n /\ r = .tuple #[.int .u64 0, .int .i64 10] /\ Fwd w' lo hi l st /\ aS w w' cI) ∨
  (st + n <= 8 * l.length /\ r = .tuple #[.int .u64 (wA (((bK l).drop st).take n)), .int .i64 0] /\ Fwd w' lo hi l (st + n) /\ aS w w' (fun y => y = hi))) := by
 refine Rh ?_
 obtain ⟨v, o, hs, hat⟩ := h
 unfold Nn AG
 have d1 : decide ((n : Int) < 0) = false := by simp
 have d2 : decide ((32 : Int) < (n : Int)) = false := by simp; omega
 have c0 := o.cell (off := 0)
 have c1 := o.cell (off := 1)
 simp only [aI0, aI1] at c0 c1
 obtain ⟨a, n', c, hv, hn', hc, hh⟩ := id hs
 rw [aJb] at hn'
 subst hn'
 by_cases hsh : 8 * l.length < st + n
 .have d3 : decide (8 * (l.length : Int) - (st : Int) < (n : Int)) = true := by simp; omega
  subst hv
  have od := dT o
  have c0d := od.cell (off := 0)
  have c1d := od.cell (off := 1)
  simp only [aI0, aI1] at c0d c1d
  simp (disch := omega) only [aC, kB, aJm, rI, true_and, aA, lB, aIZ, bZ, nE, fS, dG, bM, aI5, if_false, bP, aW, d1, dO, d2, c0d, aG, c1d, fH, pX, aT, dZ, d3, aF, aD]
  exact .inl ⟨hsh, ⟨_, dT o, hs.ext (aS.dr _ cI) (bU _), hat⟩, aS.dr _ _⟩
 .have d3 : decide (8 * (l.length : Int) - (st : Int) < (n : Int)) = false := by simp; omega
  subst hv
  have c0e := (dT o).cell (off := 0)
  have c1e := (dT o).cell (off := 1)
  have od := dT (dT o)
  have c0d := od.cell (off := 0)
  have c1d := od.cell (off := 1)
  simp only [aI0, aI1] at c0d c1d c0e c1e
  simp (disch := omega) only [aC, kB, aJm, rI, true_and, aA, lB, aIZ, bZ, nE, fS, dG, bM, aI5, if_false, bP, aW, d1, dO, d2, c0e, aG, c1e, c0d, c1d, fH, pX, aT, dZ, d3, aD]
  refine (aFb (l := l) (st := st) (n := n) ((hs.ext (aS.dr _ cI) (bU _)).ext (aS.dr _ cI) (bU _)) (by omega) (by omega) (by omega)).mono ?_
  rintro r w1 ⟨rfl, rfl⟩
  simp (disch := omega) only [c1d, aG, true_and, aA, bN, aT]
  refine vP od rfl (by simp) fun w2 o2 x2 s2 => ?_
  simp only [aI2, aI3] at o2
  have e1 : (st : Int) + (n : Int) = ((st + n : Nat) : Int) := by omega
  rw [e1] at o2
  have x02 : aS w w2 (fun y => y = hi) := ((aS.dr _ _).seq (aS.dr _ _)).seq x2
  exact .inr ⟨by omega, ⟨_, o2, hs.ext x02 (hat _ fun b hb hh => by omega), hat⟩, x02⟩
theorem aC3 {l : List UInt8} {lo hi st : Nat} {w : aLl} (h : Fwd w lo hi l st) (hst : st <= 1000000000) :
 aR pg wB #[.pointer (some ⟨hi, 0, none⟩)] w (fun r w' => r = .int .i64 (((st + 7) / 8 : Nat)) /\ w' = w) := by
 refine Se ?_
 obtain ⟨v, o, hs, hat⟩ := h
 have c1 := o.cell (off := 1)
 simp only [aI0, aI1] at c1
 have e1 : ((st : Int) + 7).tdiv 8 = (((st + 7) / 8 : Nat) : Int) := by rw [aJs (by omega)]; omega
 unfold Ny AD
 simp (disch := omega) only [aC, kB, aJm, rI, aA, lB, aIZ, bZ, and_true, c1, aG, bN, aT, zX, e1, aD]
theorem aoC (p : Int) (w : aLl) : aR pg sY #[.int .i64 p] w (fun r w' => r = .int .i64 (dC p) /\ w' = w) := by
 refine abO ?_
 unfold dC
 by_cases h : p < 0
 .have d : decide (p < 0) = true := by simpa using h
  simp (disch := omega) only [RS, BY, aC, aW, d, aA, and_true, aF]
  rw [if_pos h]
 .have d : decide (p < 0) = false := by simpa using h
  simp (disch := omega) only [RS, BY, aC, aW, d, aA, and_true, aD]
  rw [if_neg h]
theorem Sj {ps : List Int} (h : 0 < ps.length) : (ps.getLast? = some 0) ↔ ps[ps.length - 1]'(by omega) = 0 := by
 rw [aKI, aI7 (by omega)]
 simp
theorem aGJ {log : Int} {sv : aLm} {ps : List Int} {w : aLl} (hs : Sl w sv (ps.map (Value.int .i64))) (hl : ps.length <= 9223372036854775807) :
 aR pg EF #[.agg #[.int .i64 log, sv]] w (fun r w' => r = .bool (Ua log ps) /\ aS w w' cI) := by
 refine anI ?_
 unfold asJ OM Om
 obtain ⟨a, c, rfl, hc⟩ := hs.lenI
 refine gA fun w1 o1 x1 s1 => ?_
 have hs0 := hs
 have hs := hs.ext x1 (bU _)
 have c0 := o1.cell (off := 0)
 have c1 := o1.cell (off := 1)
 simp only [Value.cells, aI0, aI1] at c0 c1
 have no : ¬ (5 <= log /\ log <= 15 /\ 1 <= ps.length /\ ps.length <= 256 /\ ps.getLast? ≠ some 0) -> Ua log ps = false := fun h => by
  unfold Ua atU; rw [decide_eq_false h] <;> rfl
 by_cases h1 : log < 5
 .have d1 : decide (log < 5) = true := by simpa using h1
  simp (disch := omega) only [aC, cP, aA, bC, aIZ, bZ, c0, aG, aW, d1, jH, bM, if_true, aF, dH]
  exact ⟨by rw [no (by omega)], x1⟩
 have d1 : decide (log < 5) = false := by simpa using h1
 by_cases h2 : 15 < log
 .have d2 : decide (15 < log) = true := by simpa using h2
  simp (disch := omega) only [aC, cP, aA, bC, aIZ, bZ, c0, aG, aW, d1, dG, bM, aI5, if_false, bP, dO, d2, jH, if_true, aF, dH]
  exact ⟨by rw [no (by omega)], x1⟩
 have d2 : decide (15 < log) = false := by simpa using h2
 by_cases h3 : ps.length < 1
 .have d3 : decide ((ps.length : Int) < 1) = true := by simp; omega
  simp (disch := omega) only [aC, cP, aA, bC, aIZ, bZ, c0, aG, aW, d1, dG, bM, aI5, if_false, bP, dO, d2, cF, c1, dU, d3, jH, if_true, aF, dH]
  exact ⟨by rw [no (by omega)], x1⟩
 have d3 : decide ((ps.length : Int) < 1) = false := by simp; omega
 by_cases h4 : 256 < ps.length
 .have d4 : decide ((256 : Int) < (ps.length : Int)) = true := by simp; omega
  simp (disch := omega) only [aC, cP, aA, bC, aIZ, bZ, c0, aG, aW, d1, dG, bM, aI5, if_false, bP, dO, d2, cF, c1, dU, d3, d4, jH, if_true, aF, dH]
  exact ⟨by rw [no (by omega)], x1⟩
 have d4 : decide ((256 : Int) < (ps.length : Int)) = false := by simp; omega
 obtain ⟨b, off, c', e, hc', hcell⟩ := hs.openI (by omega)
 cases e
 have e1 : ((ps.length : Int) - 1) = ((ps.length - 1 : Nat) : Int) := by omega
 have g1 := hcell (ps.length - 1) (by omega)
 by_cases h5 : ps[ps.length - 1]'(by omega) = 0
 .have d5 : (ps[ps.length - 1]'(by omega) == 0) = true := by simpa using h5
  simp (disch := omega) only [aC, cP, aA, bC, aIZ, bZ, c0, aG, aW, d1, dG, bM, aI5, if_false, bP, dO, d2, cF, c1, dU, d3, d4, dZ, e1, aT, dB, aIY, g1, cK, d5, mO, aF]
  exact ⟨by rw [no (fun h => h.2.2.2.2 ((Sj (by omega)).2 h5))], x1⟩
 have d5 : (ps[ps.length - 1]'(by omega) == 0) = false := by simpa using h5
 obtain ⟨l, rfl⟩ : ∃ l : Nat, log = l := ⟨log.toNat, by omega⟩
 have hsh : IntKind.i64.wrap (1 * 2 ^ (min l IntKind.i64.bits)) = (2 : Int) ^ l := by
  have : ∀ k : Fin 16, IntKind.i64.wrap (1 * 2 ^ (min k.val IntKind.i64.bits)) = (2 : Int) ^ k.val := by decide
  exact this ⟨l, by omega⟩
 have hyes : Ua (l : Int) ps = fits (2 ^ l) ps := by
  unfold Ua atU
  rw [decide_eq_true ⟨by omega, by omega, by omega, by omega, fun h => h5 ((Sj (by omega)).1 h)⟩, aIY] <;> rfl
 simp (disch := omega) only [aC, cP, aA, bC, aIZ, bZ, c0, aG, aW, d1, dG, bM, aI5, if_false, bP, dO, d2, cF, c1, dU, d3, d4, dZ, e1, aT, dB, aIY, g1, cK, d5, mO, hsh, aD]
 unfold O2 Pp OL OZ PG
 simp (disch := omega) only [aC, bC, aIZ, aA, cF, c1, aG, dU]
 have hp15 := ayM (log := l) (by omega)
 have hp1 := aAp l
 refine cC.rule (fun m t w' => ∃ (i : Nat) (left : Int), m = ps.length - i /\ t = (.int .i64 left, .int .i64 i) /\ i <= ps.length /\ 0 <= left /\ left <= 32768 /\ fits (2 ^ l) ps = fits left (ps.drop i) /\ aS w w' cI) ps.length
  ⟨0, 2 ^ l, rfl, rfl, by omega, by omega, hp15, rfl, x1⟩ ?_
 rintro m t w2 ⟨i, left, rfl, rfl, hi, hl0, hl1, hf, x2⟩
 by_cases hlt : i < ps.length
 .have d6 : decide ((i : Int) < (ps.length : Int)) = true := by simp; omega
  have hsw := hs0.ext x2 (bU _)
  obtain ⟨b', off', c', e, _, hcell2⟩ := hsw.openI (by omega)
  cases e
  have g2 := hcell2 i hlt
  have hd : ps.drop i = ps[i] :: ps.drop (i + 1) := aJC hlt
  rw [hd, fits] at hf
  by_cases h6 : ps[i] < -1
  .have d7 : decide (ps[i] < -1) = true := by simpa using h6
   simp (disch := omega) only [zF, aC, aW, d6, dB, aIY, bN, aT, aA, bZ, g2, aG, d7, jH, bM, if_true, aF, dH]
   rw [if_pos (.inl h6)] at hf
   exact ⟨by rw [hyes, hf], x2⟩
  have d7 : decide (ps[i] < -1) = false := by simpa using h6
  simp (disch := omega) only [zF, aC, aW, d6, dB, aIY, bN, aT, aA, bZ, g2, aG, d7, dG, bM, aI5, if_false, bP, aF]
  refine (aoC _ _).mono ?_
  rintro r w3 ⟨rfl, rfl⟩
  by_cases h7 : left < dC ps[i]
  .have d8 : decide (left < dC ps[i]) = true := by simpa using h7
   simp (disch := omega) only [dO, d8, aA, aF]
   rw [if_pos (.inr h7)] at hf
   exact ⟨by rw [hyes, hf], x2⟩
  have d8 : decide (left < dC ps[i]) = false := by simpa using h7
  simp (disch := omega) only [dO, d8, aA, aD]
  refine (aoC _ _).mono ?_
  rintro r w3 ⟨rfl, rfl⟩
  rw [if_neg (by omega)] at hf
  have hpn := nL (p := ps[i]) (by omega)
  simp (disch := omega) only [dZ, aT, aA]
  exact ⟨ps.length - (i + 1), by omega, i + 1, left - dC ps[i], rfl, rfl, by omega, by omega, by omega, hf, x2⟩
 .have d6 : decide ((i : Int) < (ps.length : Int)) = false := by simp; omega
  rw [aKa (by omega), fits] at hf
  unfold zF G0
  simp (disch := omega) only [aC, aW, d6, bN, aT, aA, cK, aD]
  exact ⟨by rw [hyes, hf], x2⟩
theorem aDY {ps : List Int} {i : Nat} (hi : i < ps.length) : tX (ps.take (i + 1)) = tX (ps.take i) + dC ps[i] := by
 rw [aJE, aI7 hi, Hw]; simp [tX]
theorem aFo {log : Int} {sv : aLm} {ps : List Int} {w : aLl} (hs : Sl w sv (ps.map (Value.int .i64))) (hl : ps.length <= 9223372036854775807) :
 aR pg Nx #[.agg #[.int .i64 log, sv]] w (fun r w' => r = .bool (Ua log ps) /\ aS w w' cI) := by
 refine apN ?_
 unfold auJ O0 Pt
 obtain ⟨a, c, rfl, hc⟩ := hs.lenI
 refine gA fun w1 o1 x1 s1 => ?_
 have hs0 := hs.ext x1 (bU _)
 have c0 := o1.cell (off := 0)
 have c1 := o1.cell (off := 1)
 simp only [Value.cells, aI0, aI1] at c0 c1
 have no : ¬ (5 <= log /\ log <= 15 /\ 1 <= ps.length /\ ps.length <= 256 /\ ps.getLast? ≠ some 0) -> Ua log ps = false := fun h => by
  unfold Ua atU; rw [decide_eq_false h] <;> rfl
 by_cases h1 : log < 5
 .have d1 : decide (log < 5) = true := by simpa using h1
  simp (disch := omega) only [aC, bW, aA, aU, aIZ, bZ, c0, aG, aW, d1, jH, bM, if_true, aF, dH]
  exact ⟨by rw [no (by omega)], x1⟩
 have d1 : decide (log < 5) = false := by simpa using h1
 by_cases h2 : 15 < log
 .have d2 : decide (15 < log) = true := by simpa using h2
  simp (disch := omega) only [aC, bW, aA, aU, aIZ, bZ, c0, aG, aW, d1, dG, bM, aI5, if_false, bP, dO, d2, jH, if_true, aF, dH]
  exact ⟨by rw [no (by omega)], x1⟩
 have d2 : decide (15 < log) = false := by simpa using h2
 by_cases h3 : ps.length < 1
 .have d3 : ((ps.length : Int) == 0) = true := by rw [beq_iff_eq]; omega
  simp (disch := omega) only [aC, bW, aA, aU, aIZ, bZ, c0, aG, aW, d1, dG, bM, aI5, if_false, bP, dO, d2, cF, c1, dU, cK, d3, jH, if_true, aF, dH]
  exact ⟨by rw [no (by omega)], x1⟩
 have d3 : ((ps.length : Int) == 0) = false := by rw [beq_eq_false_iff_ne]; omega
 by_cases h4 : 256 < ps.length
 .have d4 : decide ((256 : Int) < (ps.length : Int)) = true := by simp; omega
  simp (disch := omega) only [aC, bW, aA, aU, aIZ, bZ, c0, aG, aW, d1, dG, bM, aI5, if_false, bP, dO, d2, cF, c1, dU, cK, d3, d4, jH, if_true, aF, dH]
  exact ⟨by rw [no (by omega)], x1⟩
 have d4 : decide ((256 : Int) < (ps.length : Int)) = false := by simp; omega
 obtain ⟨b, off, c', e, hc', hcell⟩ := hs0.openI (by omega)
 cases e
 have e1 : ((ps.length : Int) - 1) = ((ps.length - 1 : Nat) : Int) := by omega
 have g1 := hcell (ps.length - 1) (by omega)
 by_cases h5 : ps[ps.length - 1]'(by omega) = 0
 .have d5 : (ps[ps.length - 1]'(by omega) == 0) = true := by simpa using h5
  simp (disch := omega) only [aC, bW, aA, aU, aIZ, bZ, c0, aG, aW, d1, dG, bM, aI5, if_false, bP, dO, d2, cF, c1, dU, cK, d3, d4, dZ, e1, aT, dB, aIY, g1, d5, aF]
  exact ⟨by rw [no (fun h => h.2.2.2.2 ((Sj (by omega)).2 h5))], x1⟩
 have d5 : (ps[ps.length - 1]'(by omega) == 0) = false := by simpa using h5
 obtain ⟨l, rfl⟩ : ∃ l : Nat, log = l := ⟨log.toNat, by omega⟩
 have hyes : Ua (l : Int) ps = fits (2 ^ l) ps := by
  unfold Ua atU
  rw [decide_eq_true ⟨by omega, by omega, by omega, by omega, fun h => h5 ((Sj (by omega)).1 h)⟩, aIY] <;> rfl
 simp (disch := omega) only [aC, bW, aA, aU, aIZ, bZ, c0, aG, aW, d1, dG, bM, aI5, if_false, bP, dO, d2, cF, c1, dU, cK, d3, d4, dZ, e1, aT, dB, aIY, g1, d5, aD]
 unfold O4 Of On OE NG
 have hp15 := ayM (log := l) (by omega)
 refine cC.rule (fun m t w' => ∃ (i : Nat), m = ps.length - i /\ t = (.int .i64 (tX (ps.take i)), .int .i64 i) /\ i <= ps.length /\ 0 <= tX (ps.take i) /\ tX (ps.take i) <= 32768 * i /\ (∀ p ∈ ps.take i, -1 <= p) /\ aS w w' cI /\ aS w1 w' cI) ps.length
  ⟨0, rfl, by simp [tX], by omega, by simp [tX], by simp [tX], by simp, x1, aS.refl _ _⟩ ?_
 rintro m t w2 ⟨i, rfl, rfl, hi, hs0', hs1, hlo, x2, x12⟩
 have o2 := o1.ext x12 (fun h => h)
 have c0 := o2.cell (off := 0)
 have c1 := o2.cell (off := 1)
 simp only [Value.cells, aI0, aI1] at c0 c1
 by_cases hlt : i < ps.length
 .have d6 : decide ((i : Int) < (ps.length : Int)) = true := by simp; omega
  obtain ⟨b', off', c', e, _, hcell2⟩ := (hs.ext x2 (bU _)).openI (by omega)
  cases e
  have g2 := hcell2 i hlt
  have bad : ¬ (-1 <= ps[i] /\ ps[i] <= 32768) -> Ua (l : Int) ps = false := fun h => by
   rw [hyes, <- Bool.not_eq_true, ZX]
   rintro ⟨k1, k2⟩
   have := aoB k1 (aJh hlt)
   have := k1 _ (aJh hlt)
   unfold dC at *
   split at * <;> omega
  by_cases h6 : ps[i] < -1
  .have d7 : decide (ps[i] < -1) = true := by simpa using h6
   unfold yP Bi DS Ej JQ Dw
   simp (disch := omega) only [aC, aU, aIZ, aA, cF, c1, aG, dU, aW, d6, dB, aIY, bZ, g2, d7, jH, bM, if_true, aF, dH]
   exact ⟨by rw [bad (by omega)], x2⟩
  have d7 : decide (ps[i] < -1) = false := by simpa using h6
  by_cases h7 : 32768 < ps[i]
  .have d8 : decide (32768 < ps[i]) = true := by simpa using h7
   unfold yP Bi DS Ej JQ Dw
   simp (disch := omega) only [aC, aU, aIZ, aA, cF, c1, aG, dU, aW, d6, dB, aIY, bZ, g2, d7, dG, bM, aI5, if_false, bP, dO, d8, aF]
   exact ⟨by rw [bad (by omega)], x2⟩
  have d8 : decide (32768 < ps[i]) = false := by simpa using h7
  have hts := aDY hlt
  have hlow : ∀ p ∈ ps.take (i + 1), -1 <= p := fun p hp => by
   rw [aJE, aI7 hlt] at hp
   rcases aKk.1 hp with hp | hp
   .exact hlo p hp
   .simp at hp; omega
  unfold yP Bi DS Ej JQ Dw
  by_cases h8 : ps[i] < 0
  .have d9 : decide (ps[i] < 0) = true := by simpa using h8
   have e : dC ps[i] = 1 := by unfold dC; rw [if_pos h8]
   simp (disch := omega) only [aC, aU, aIZ, DL, bN, aT, Ex, aA, cF, c1, aG, dU, aW, d6, dB, aIY, bZ, g2, d7, d9, aF, dG, bM, aI5, if_false, bP, dO, d8, aD]
   exact ⟨ps.length - (i + 1), by omega, i + 1, rfl, by rw [hts, e] <;> rfl, by omega, by omega, by omega, hlow, x2, x12⟩
  .have d9 : decide (ps[i] < 0) = false := by simpa using h8
   have e : dC ps[i] = ps[i] := by unfold dC; rw [if_neg h8]
   simp (disch := omega) only [aC, aU, aIZ, DL, bN, aT, Ex, aA, cF, c1, aG, dU, aW, d6, dB, aIY, bZ, g2, d7, d9, aD, dG, bM, aI5, if_false, bP, dO, d8, aF]
   exact ⟨ps.length - (i + 1), by omega, i + 1, rfl, by rw [hts, e] <;> rfl, by omega, by omega, by omega, hlow, x2, x12⟩
 .have d6 : decide ((i : Int) < (ps.length : Int)) = false := by simp; omega
  unfold yP Bi JI
  simp (disch := omega) only [aC, aU, aIZ, bW, aA, bZ, cF, c1, aG, dU, aW, d6, c0, aD]
  refine (VO l (by omega) _).mono ?_
  rintro r w3 ⟨rfl, rfl⟩
  rw [aJw (by omega)] at hlo ⊢
  simp (disch := omega) only [cK, aA]
  refine ⟨?_, x2⟩
  rw [hyes]
  congr 1
  rw [Bool.eq_iff_iff, ZX, beq_iff_eq]
  exact ⟨fun h => ⟨hlo, h⟩, fun h => h.2⟩
def ayV (log : Int) (ps : List Int) (most : Int) : Int := if Ua log ps = false then 1 else if most < log then 12 else 0
theorem aCd {log most : Int} {sv : aLm} {ps : List Int} {w : aLl} (hs : Sl w sv (ps.map (Value.int .i64))) (hl : ps.length <= 9223372036854775807) :
 aR pg DM #[.agg #[.int .i64 log, sv], .int .i64 most] w (fun r w' => r = .int .i64 (ayV log ps most) /\ aS w w' cI) := by
 refine adP ?_
 unfold aaR HI
 refine gA fun w1 o1 x1 s1 => ?_
 have hs := hs.ext x1 (bU _)
 rw [show aI 145 = aI 145 from rfl]
 have l1 := gX o1 (off := 0) (by simp [Value.cells])
 simp only [Value.cells, aI4, aIX, aI6] at l1
 simp (disch := omega) only [aC, l1, cP, aA, bZ]
 refine (aGJ hs hl).mono ?_
 rintro r w2 ⟨rfl, x2⟩
 have o2 := o1.ext x2 (fun h => h)
 have c0 := o2.cell (off := 0)
 simp only [Value.cells, aI0] at c0
 unfold ayV
 cases hm : Ua log ps with
 | false =>
   simp (disch := omega) only [Bm, aJT, if_true, true_and, aA, aF]
   exact x1.seq x2
 | true =>
   by_cases h : most < log
   .have d : decide (most < log) = true := by simpa using h
    simp (disch := omega) only [Bm, aJx, aA, c0, aG, dO, d, aF, aD]
    exact ⟨by simp [h], x1.seq x2⟩
   .have d : decide (most < log) = false := by simpa using h
    simp (disch := omega) only [Bm, aJx, aA, c0, aG, dO, d, aD]
    exact ⟨by simp [h], x1.seq x2⟩
theorem aBt {log most : Int} {sv : aLm} {ps : List Int} {w : aLl} (hs : Sl w sv (ps.map (Value.int .i64))) (hl : ps.length <= 9223372036854775807) :
 aR pg Hf #[.agg #[.int .i64 log, sv], .int .i64 most] w (fun r w' => r = .int .i64 (ayV log ps most) /\ aS w w' cI) := by
 refine aiS ?_
 unfold akU KM
 refine gA fun w1 o1 x1 s1 => ?_
 have hs := hs.ext x1 (bU _)
 have l1 := nK o1 (off := 0) (by simp [Value.cells])
 simp only [Value.cells, aI4, aIX, aI6] at l1
 simp (disch := omega) only [aC, l1, bW, aA, bZ]
 refine (aFo hs hl).mono ?_
 rintro r w2 ⟨rfl, x2⟩
 have o2 := o1.ext x2 (fun h => h)
 have c0 := o2.cell (off := 0)
 simp only [Value.cells, aI0] at c0
 unfold ayV
 cases hm : Ua log ps with
 | false =>
   simp (disch := omega) only [Bm, aJT, if_true, true_and, aA, aF]
   exact x1.seq x2
 | true =>
   by_cases h : most < log
   .have d : decide (most < log) = true := by simpa using h
    simp (disch := omega) only [Bm, aJx, aA, c0, aG, dO, d, aF, aD]
    exact ⟨by simp [h], x1.seq x2⟩
   .have d : decide (most < log) = false := by simpa using h
    simp (disch := omega) only [Bm, aJx, aA, c0, aG, dO, d, aD]
    exact ⟨by simp [h], x1.seq x2⟩
theorem AtI.sub {a : Option Addr} {n c m c' k sz lo hi : Nat} (h : AtI (.slice a n c) lo hi) (hm : m <= n) : AtI (.slice (kL a c k sz) m c') lo hi := by
 intro M hM hin
 cases m with
 | zero => unfold inB at hin; split at hin <;> simp_all
 | succ m =>
   obtain ⟨n', rfl⟩ : ∃ n', n = n' + 1 := ⟨n - 1, by omega⟩
   have h1 := h M hM
   cases a with
   | none => unfold kL at hin; split at hin <;> exact hin
   | some x =>
     unfold kL at hin
     have h2 : M x.block := by
      split at hin
      .exact hin
      .rw [aJL] at hin
       have e : (x.add (k * sz)).block = x.block := by unfold Addr.add; split <;> rfl
       have h3 : M (x.add (k * sz)).block := hin
       rwa [e] at h3
     exact h1 h2
abbrev Bl (w : aLl) (v : aLm) (L : List Bool) : Prop := Sl w v (L.map Value.bool)
theorem aEj {w : aLl} {v : aLm} {L : List Bool} (h : Bl w v L) (h0 : 0 < L.length) : ∃ b off c, v = .slice (some ⟨b, off, none⟩) L.length c /\ L.length <= c /\ ∀ i, (h : i < L.length) -> w.cell? ⟨b, off + i, none⟩ = some (.bool L[i]) := by
 obtain ⟨b, off, c, rfl, hc, hcell⟩ := h.openV (by simpa using h0)
 refine ⟨b, off, c, by rw [aJb], by simpa using hc, fun i hi => ?_⟩
 have := hcell i (by simpa using hi)
 simpa using this
theorem Nk {w : aLl} {v : aLm} {L : List Bool} (h : Bl w v L) : ∃ a c, v = .slice a L.length c /\ L.length <= c := by
 obtain ⟨a, n, c, rfl, hn, hc, _⟩ := h
 rw [aJb] at hn
 subst hn
 exact ⟨a, c, rfl, hc⟩
theorem aEB (c : UInt8) : Qc c = gU c.toNat 8 := rfl
theorem aoX {x : ByteArray} {w : aLl} (hl : x.size <= 1000000) :
 aR pg Eh #[.string x] w (fun r w' => uD w' w.heap.size 1 r (8 * x.size) ((bK (nH x)).map Value.bool) /\ aS w w' cI) := by
 refine alU ?_
 have hll := mM x
 unfold apD L4 LK Mn ML KA Lm MP
 refine cC.rule (fun m (t : aLm × aLm) w' => ∃ (i : Nat) (v : aLm), m = x.size - i /\ t = (v, .int .i64 i) /\ i <= x.size /\ uD w' w.heap.size 1 v (8 * i) ((bK ((nH x).take i)).map Value.bool) /\ aS w w' (fun y => w.heap.size <= y)) x.size
  ⟨0, _, rfl, rfl, by omega, uD.nil _ _ _, aS.refl _ _⟩ ?_
 rintro m t w1 ⟨i, v, rfl, rfl, hi, o1, x1⟩
 unfold Ea Kt
 by_cases hlt : i < x.size
 .have d1 : decide ((i : Int) < (x.size : Int)) = true := by simp; omega
  obtain ⟨c, hc⟩ : ∃ c, c = (nH x)[i]'(by omega) := ⟨_, rfl⟩
  have hg : (x[i]'hlt).toNat = c.toNat := by rw [hc, Z3]
  have htk : bK ((nH x).take (i + 1)) = bK ((nH x).take i) ++ gU c.toNat 8 := by
   rw [aJE, aI7 (by omega), JN, <- hc, Option.toList, bK, bK, aJP, aEB]
  have hcl : c.toNat < 256 := aJz c
  generalize c.toNat = y at *
  unfold NO Oy WU OF
  simp (disch := omega) only [aC, pI, qD, aIY, hg, aA, aW, d1, aF]
  unfold Pr OJ
  refine cC.rule (fun m (t : aLm × aLm × aLm) w' => ∃ (k : Nat) (v : aLm), m = 8 - k /\ t = (v, .int .u8 (y / 2 ^ k : Nat), .int .i64 k) /\ k <= 8 /\ uD w' w.heap.size 1 v (8 * i + k) ((bK ((nH x).take i) ++ gU y k).map Value.bool) /\ aS w w' (fun y => w.heap.size <= y)) 8
   ⟨0, v, rfl, by simp, by omega, by simpa [FH] using o1, x1⟩ ?_
  rintro m t w2 ⟨k, v2, rfl, rfl, hk, o2, x2⟩
  unfold GH
  by_cases hk8 : k < 8
  .have d2 : decide ((k : Int) < 8) = true := by simp; omega
   obtain ⟨z, hz⟩ : ∃ z, z = y / 2 ^ k := ⟨_, rfl⟩
   have hz2 : y / 2 ^ (k + 1) = z / 2 := by rw [hz, aJp, aKQ]
   have hzl : z < 256 := by have := aK1 y (2 ^ k); omega
   have e1 : (z : Int).tmod 2 = ((z % 2 : Nat) : Int) := by rw [aJt (by omega)]; omega
   have e2 : (z : Int).tdiv 2 = ((z / 2 : Nat) : Int) := by rw [aJs (by omega)]; omega
   have hbit : y.testBit k = decide (z % 2 = 1) := by rw [aKg, hz]
   have e3 : (((z % 2 : Nat) : Int) == 1) = y.testBit k := by
    rw [hbit]
    have : z % 2 = 0 ∨ z % 2 = 1 := by omega
    rcases this with h | h <;> simp [h]
   have hbs := LO y k
   generalize y.testBit k = bt at *
   rw [<- hz]
   simp (disch := omega) only [aC, aW, d2, yV, e1, zX, e2, JG, bN, aT, aA, cK, e3, aF]
   refine aAR (cells := #[.bool bt]) (by decide) (by decide) (by kernel_rfl) fun w3 o3 x3 s3 => ?_
   refine YR (o2.ext x3 (fun _ _ h => h)) (o3.cl (off := 0) (l := [.bool bt]) (n := 1) rfl (fun i hi => by rw [aIZ])) (by simp [one]) (aJ7 x2.size x3.size) (by omega) fun v4 w4 o4 x4 => ?_
   refine ⟨8 - (k + 1), by omega, k + 1, v4, rfl, ?_, by omega, ?_, ?_⟩
   .rw [hz2] <;> rfl
   .rw [hbs, <- aJc, aJJ]
    exact o4
   .exact (x2.seq (x3.mono fun _ _ h => h.elim)).seq x4
  .have d2 : decide ((k : Int) < 8) = false := by simp; omega
   obtain rfl : k = 8 := by omega
   rw [<- htk] at o2
   unfold GG
   simp (disch := omega) only [aC, aW, d2, yV, zX, bN, aT, aA, cK, aD]
   exact ⟨x.size - (i + 1), by omega, i + 1, _, rfl, rfl, by omega, o2, x2⟩
 .have d1 : decide ((i : Int) < (x.size : Int)) = false := by simp; omega
  obtain rfl : i = x.size := by omega
  rw [aJw (by omega)] at o1
  unfold GU
  simp (disch := omega) only [aC, pI, aA, aW, d1, aD]
  exact ⟨o1, x1.mono fun b hb h => Nat.not_le_of_lt hb h⟩
theorem akA {L : List Bool} {v : aLm} {w : aLl} (h : Bl w v L) (hl : L.length <= 60) :
 aR pg Ar #[v] w (fun r w' => r = .int .u64 (wA L : Nat) /\ w' = w) := by
 refine adJ ?_
 obtain ⟨a, c, hv, hc⟩ := Nk h
 subst hv
 unfold acS Fx FK IZ IV Ja
 simp (disch := omega) only [aC, nZ, aA, dZ, aT]
 unfold HX IC
 refine cC.rule (fun m (t : aLm × aLm) w' => t = (.int .u64 (wA (L.drop m) : Nat), .int .i64 ((m : Int) - 1)) /\ m <= L.length /\ w' = w) L.length
  ⟨by rw [List.drop_length] <;> rfl, by omega, rfl⟩ ?_
 rintro m t w1 ⟨rfl, hm, rfl⟩
 unfold Cc I8
 cases m with
 | zero =>
   have d1 : decide ((0 : Int) <= ((0 : Nat) : Int) - 1) = false := rfl
   unfold BV
   simp (disch := omega) only [aC, oD, d1, pX, aA, bN, and_true, aD]
   simp
 | succ j =>
   have e0 : ((j + 1 : Nat) : Int) - 1 = (j : Int) := by omega
   have d1 : decide ((0 : Int) <= (j : Int)) = true := by simp
   obtain ⟨b, off, c', e, _, hcell⟩ := aEj h (by omega)
   cases e
   have g := hcell j (by omega)
   have hd : L.drop j = L[j] :: L.drop (j + 1) := aJC (by omega)
   have hlt := Z9 (L.drop j)
   rw [aJu] at hlt
   have hp : 2 ^ (L.length - j) <= 2 ^ 60 := aJa (by omega) (by omega)
   generalize L[j] = bt at *
   have hn : wA (L.drop j) = bt.toNat + 2 * wA (L.drop (j + 1)) := by rw [hd, wA]
   generalize wA (L.drop (j + 1)) = x at *
   cases bt with
   | true =>
     have hn : wA (L.drop j) = 1 + 2 * x := hn
     rw [e0]
     simp (disch := omega) only [aC, oD, d1, pX, iI, vH, aIY, aA, GW, bN, g, aG, aF]
     unfold zA
     simp (disch := omega) only [aC, dZ, aT, aA, and_true]
     exact ⟨j, by omega, by rw [hn]; simp; omega, by omega⟩
   | false =>
     have hn : wA (L.drop j) = 2 * x := by rw [hn]; simp
     rw [e0]
     simp (disch := omega) only [aC, oD, d1, pX, iI, vH, aIY, aA, GW, bN, g, aG, aD, aF]
     unfold zA
     simp (disch := omega) only [aC, dZ, aT, aA, and_true]
     exact ⟨j, by omega, by rw [hn]; simp; omega, by omega⟩
end Go.Proofs.YtaggdjhhmbnhoaaDoor
namespace Go.Pu
def uB : List UInt8 -> Nat
 | [] => 0
 | c :: l => c.toNat + 256 * uB l
theorem VJ : ∀ l : List UInt8, uB l < 256 ^ l.length
 | [] => by simp [uB]
 | c :: l => by
   have := VJ l
   have hc := c.toNat_lt
   rw [uB, aJo, aJp]; omega
theorem ajL (c : UInt8) : ∀ l : List UInt8, uB (l ++ [c]) = uB l + 256 ^ l.length * c.toNat
 | [] => by simp [uB]
 | d :: l => by
   rw [aJ9, uB, ajL c l, uB, aJo, aJp, Nat.mul_add, aKn, aJ8 (256 ^ l.length) 256, Nat.mul_assoc]
theorem aBW (i : Nat) : 256 ^ i = 2 ^ (8 * i) := by rw [Nat.pow_mul]
theorem aFQ (l : List UInt8) (c : UInt8) : uB l ||| (c.toNat * 2 ^ (8 * l.length)) = uB (l ++ [c]) := by
 have := VJ l
 rw [aBW] at this
 rw [aBp this, ajL, aBW]
def PW (x : Nat) : Nat -> List UInt8
 | 0 => []
 | n + 1 => UInt8.ofNat (x % 256) :: PW (x / 256) n
theorem Dn : ∀ (n x : Nat), (PW x n).length = n
 | 0, _ => rfl
 | n + 1, x => by rw [PW, aJo, Dn n]
theorem avH : ∀ (n x : Nat), PW x (n + 1) = PW x n ++ [UInt8.ofNat (x / 256 ^ n % 256)]
 | 0, x => by simp [PW]
 | n + 1, x => by
   rw [PW, avH n (x / 256), PW, aJ9, aKQ, aJp, aJ8 (256 ^ n) 256]
def aEN (f : Nat) : List UInt8 -> Except Int (Nat × List UInt8)
 | [] => .error 10
 | x :: r => .ok ((f - 128) * 256 + x.toNat, r)
def aE0 : List UInt8 -> Except Int (Nat × List UInt8)
 | x :: y :: r => .ok (x.toNat + 256 * y.toNat + 32512, r)
 | _ => .error 10
def Vr : List UInt8 -> Except Int (Nat × List UInt8)
 | [] => .error 10
 | f :: r => if f.toNat < 128 then .ok (f.toNat, r) else if f.toNat < 255 then aEN f.toNat r else aE0 r
def alV (n : Nat) : List UInt8 :=
 if n < 128 then [UInt8.ofNat n] else if n < 32512 then [UInt8.ofNat (n / 256 + 128), UInt8.ofNat (n % 256)] else UInt8.ofNat 255 :: PW (n - 32512) 2
theorem RH {n : Nat} (h : n < 256) : (UInt8.ofNat n).toNat = n := by rw [UInt8.toNat_ofNat']; omega
theorem aDf {n : Nat} (h : n <= 98047) (r : List UInt8) : Vr (alV n ++ r) = .ok (n, r) := by
 unfold alV
 split
 .show Vr (UInt8.ofNat n :: r) = _
  rw [Vr, RH (by omega), if_pos (by omega)]
 .split
  .show Vr (UInt8.ofNat (n / 256 + 128) :: UInt8.ofNat (n % 256) :: r) = _
   rw [Vr, RH (by omega), if_neg (by omega), if_pos (by omega)]
   show Except.ok ((n / 256 + 128 - 128) * 256 + (UInt8.ofNat (n % 256)).toNat, r) = _
   rw [RH (by omega)]
   congr 2; omega
  .show Vr (UInt8.ofNat 255 :: (PW (n - 32512) 2 ++ r)) = _
   rw [Vr, RH (by omega), if_neg (by omega), if_neg (by omega)]
   show Except.ok ((UInt8.ofNat ((n - 32512) % 256)).toNat + 256 * (UInt8.ofNat ((n - 32512) / 256 % 256)).toNat + 32512, r) = _
   rw [RH (by omega), RH (by omega)]
   congr 2; omega
end Go.Pu
namespace Go.Proofs.YtaggdjhhmbnhoaaDoor
open Go Go.En Go.Pu
set_option maxRecDepth 4000
def AtS (v : aLm) (S : Nat -> Prop) : Prop := ∀ M : Nat -> Prop, (∀ b, S b -> ¬ M b) -> ¬ inB v M
theorem AtI.toS {v : aLm} {lo hi : Nat} {S : Nat -> Prop} (h : AtI v lo hi) (hS : ∀ b, lo <= b -> b < hi -> S b) : AtS v S := fun M hM => h M fun b h1 h2 => hM b (hS b h1 h2)
theorem AtS.mono {v : aLm} {S T : Nat -> Prop} (h : AtS v S) (hT : ∀ b, S b -> T b) : AtS v T := fun M hM => h M fun b hb => hM b (hT b hb)
theorem AtS.toI {v : aLm} {S : Nat -> Prop} {lo hi : Nat} (h : AtS v S) (hS : ∀ b, S b -> lo <= b /\ b < hi) : AtI v lo hi := fun M hM => h M fun b hb => hM b (hS b hb).1 (hS b hb).2
theorem AtS.nil (S : Nat -> Prop) : AtS (.slice none 0 0) S := fun M _ h => h
theorem AtS.sub {a : Option Addr} {n c m c' k mx sz : Nat} {S : Nat -> Prop} (h : AtS (.slice a n c) S) (hm : m <= n) : AtS (.slice (kL a mx k sz) m c') S := by
 intro M hM hin
 cases m with
 | zero => unfold inB at hin; split at hin <;> simp_all
 | succ m =>
   obtain ⟨n', rfl⟩ : ∃ n', n = n' + 1 := ⟨n - 1, by omega⟩
   have h1 := h M hM
   cases a with
   | none => unfold kL at hin; split at hin <;> exact hin
   | some x =>
     unfold kL at hin
     have h2 : M x.block := by
      split at hin
      .exact hin
      .rw [aJL] at hin
       have e : (x.add (k * sz)).block = x.block := by unfold Addr.add; split <;> rfl
       have h3 : M (x.add (k * sz)).block := hin
       rwa [e] at h3
     exact h1 h2
theorem aId {w : aLl} {a : Option Addr} {n c : Nat} {l : List aLm} (h : Sl w (.slice a n c) l) {k : Nat} (hk : k <= n) : Sl w (.slice (kL a k 0 1) (k - 0) (k - 0)) (l.take k) := by
 obtain ⟨a', n', c', e, hn, hc, h⟩ := h
 cases e
 refine ⟨_, _, _, rfl, by rw [aJg]; omega, aI9 _, fun h0 => ?_⟩
 obtain ⟨b, off, rfl, h2⟩ := h (by omega)
 have hs : kL (some ⟨b, off, none⟩) k 0 1 = some ⟨b, off + 0 * 1, none⟩ := by unfold kL; rw [if_neg (by omega)] <;> rfl
 refine ⟨b, off, by rw [hs]; simp, fun i hi => ?_⟩
 rw [aJF (by omega)]
 exact h2 i (by omega)
def Rdr (w : aLl) (lo hi p : Nat) (l : List UInt8) (e : Int) : Prop := lo <= p /\ p < hi /\ ∃ v, cM w p [v, .int .i64 e] /\ Bs w v l /\ AtS v (fun b => lo <= b /\ b < hi /\ b ≠ p)
theorem Rdr.ext {w w' : aLl} {lo hi p : Nat} {l : List UInt8} {e : Int} {M : Nat -> Prop} (h : Rdr w lo hi p l e) (x : aS w w' M) (hM : ∀ b, lo <= b -> b < hi -> ¬ M b) : Rdr w' lo hi p l e := by
 obtain ⟨h0, h0', v, h1, h2, h3⟩ := h
 exact ⟨h0, h0', v, h1.ext x (hM _ h0 h0'), h2.ext x (h3 M fun b hb => hM b hb.1 hb.2.1), h3⟩
theorem Rdr.lt {w : aLl} {lo hi p : Nat} {l : List UInt8} {e : Int} (h : Rdr w lo hi p l e) : p < w.heap.size := by
 obtain ⟨_, _, v, h1, _⟩ := h; exact h1.lt
theorem Rdr.up {w : aLl} {lo hi hi' p : Nat} {l : List UInt8} {e : Int} (h : Rdr w lo hi p l e) (hh : hi <= hi') : Rdr w lo hi' p l e := by
 obtain ⟨h0, h0', v, h1, h2, h3⟩ := h
 exact ⟨h0, by omega, v, h1, h2, h3.mono fun b hb => ⟨hb.1, by omega, hb.2.2⟩⟩
theorem akN {v : aLm} {l : List UInt8} {w : aLl} (h : Bs w v l) (hl : l.length <= 1000000000) :
 aR pg tM #[v] w (fun r w' => ∃ p, r = .pointer (some ⟨p, 0, none⟩) /\ Rdr w' w.heap.size w'.heap.size p l 0 /\ aS w w' cI) := by
 refine Tc ?_
 unfold PJ Bu
 refine (VP h hl).mono ?_
 rintro r w1 ⟨ho, x1⟩
 have hat := uD.atI ho
 have hs := ho.sl
 obtain ⟨va, vc, rfl⟩ := ho.len
 simp (disch := omega) only [aC, oB, aA]
 refine gA fun w2 o2 x2 s2 => ?_
 have o2 : cM w2 w1.heap.size [.slice va l.length vc, .int .i64 0] := o2
 have hz := o2.lt
 exact ⟨w1.heap.size, rfl, ⟨x1.size, hz, _, o2, hs.ext x2 (bU _), hat.toS fun b h1 h2 => ⟨h1, by omega, by omega⟩⟩, x1.seq x2⟩
def Kl (l : List UInt8) (e : Int) (n : Nat) : List UInt8 × List UInt8 × Int := if e ≠ 0 then ([], l, e) else if l.length < n then ([], l, 10) else (l.take n, l.drop n, 0)
theorem azS {lo hi p n : Nat} {l : List UInt8} {e : Int} {w : aLl} (h : Rdr w lo hi p l e) (hl : l.length <= 1000000000) (hn : n <= 1000000000) :
 aR pg qT #[.pointer (some ⟨p, 0, none⟩), .int .i64 n, .bool true] w (fun r w' => Bs w' r (Kl l e n).1 /\ AtS r (fun b => lo <= b /\ b < hi /\ b ≠ p) /\ Rdr w' lo hi p (Kl l e n).2.1 (Kl l e n).2.2 /\ aS w w' (fun y => y = p)) := by
 refine PQ ?_
 unfold LU zN
 have h' := h
 obtain ⟨h0, h0', v, o, hb, hat⟩ := h'
 obtain ⟨va, vc, rfl, hvc⟩ := hb.len
 rw [aJb] at hb hat o hvc
 have c0 := o.cell (off := 0)
 have c1 := o.cell (off := 1)
 simp only [aI0, aI1] at c0 c1
 by_cases he : e = 0
 rotate_left
 .have n1 : (e != 0) = true := by simpa using he
  have ht : Kl l e n = ([], l, e) := by unfold Kl; rw [if_pos he]
  rw [ht]
  simp (disch := omega) only [aC, rI, Bm, aJx, aA, jU, aIZ, jT, fS, aD, iN, c1, aG, fB, n1, aF]
  exact ⟨Sl.nil _, AtS.nil _, h, aS.refl _ _⟩
 subst he
 have n1 : ((0 : Int) != 0) = false := rfl
 by_cases hsh : l.length < n
 .have d1 : decide ((l.length : Int) < (n : Int)) = true := by simp; omega
  have ht : Kl l 0 n = ([], l, 10) := by unfold Kl; rw [if_neg (by decide), if_pos hsh]
  rw [ht]
  simp (disch := omega) only [aC, rI, Bm, aJx, aA, jU, aIZ, jT, fS, aD, iN, c1, aG, fB, n1, c0, fH, dO, d1, aF]
  refine aaQ o rfl (by simp) fun w1 o1 x1 s1 => ?_
  simp only [aI2, aI3] at o1
  exact ⟨Sl.nil _, AtS.nil _, ⟨h0, h0', _, o1, hb.ext x1 (hat _ fun b hb => hb.2.2), hat⟩, x1⟩
 .have d1 : decide ((l.length : Int) < (n : Int)) = false := by simp; omega
  have ht : Kl l 0 n = (l.take n, l.drop n, 0) := by unfold Kl; rw [if_neg (by decide), if_neg hsh]
  rw [ht]
  simp (disch := omega) only [aC, rI, Bm, aJx, aA, jU, aIZ, jT, fS, aD, iN, c1, aG, fB, n1, c0, fH, dO, d1, sX, aIY, mF]
  refine Hx o rfl (by simp [one]) fun w1 o1 x1 s1 => ?_
  simp only [aI2, aI3] at o1
  have hbn : Bs w (.slice (kL va n 0 1) (n - 0) (n - 0)) (l.take n) := by
   have := aId hb (k := n) (by omega)
   rwa [<- aKX] at this
  have hbd : Bs w (.slice (kL va vc n 1) (l.length - n) (vc - n)) (l.drop n) := by
   have := hb.drop' (k := n) (by omega)
   rwa [<- aLf] at this
  have hn1 := hat.sub (mx := n) (k := 0) (sz := 1) (m := n - 0) (c' := n - 0) (by omega)
  have hn2 := hat.sub (mx := vc) (k := n) (sz := 1) (m := l.length - n) (c' := vc - n) (by omega)
  exact ⟨hbn.ext x1 (hn1 _ fun b hb => hb.2.2), hn1, ⟨h0, h0', _, o1, hbd.ext x1 (hn2 _ fun b hb => hb.2.2), hn2⟩, x1⟩
theorem arX {lo hi p : Nat} {l : List UInt8} {e : Int} {w : aLl} (h : Rdr w lo hi p l e) :
 aR pg oC #[.pointer (some ⟨p, 0, none⟩)] w (fun r w' => r = .int .i64 l.length /\ w' = w) := by
 refine P9 ?_
 unfold Mc zM
 obtain ⟨h0, h0', v, o, hb, hat⟩ := h
 obtain ⟨va, vc, rfl, hvc⟩ := hb.len
 rw [aJb] at hb hat o hvc
 have c0 := o.cell (off := 0)
 simp only [aI0, aI1] at c0
 simp (disch := omega) only [aC, iQ, aJm, rI, aA, jT, fS, and_true, c0, aG, fH, aD]
theorem VM {lo hi p : Nat} {l : List UInt8} {e : Int} {w : aLl} (h : Rdr w lo hi p l e) :
 aR pg mY #[.pointer (some ⟨p, 0, none⟩)] w (fun r w' => r = .int .i64 e /\ w' = w) := by
 refine Sr ?_
 unfold Nq AJ
 obtain ⟨h0, h0', v, o, hb, hat⟩ := h
 have c1 := o.cell (off := 1)
 simp only [aI0, aI1] at c1
 simp (disch := omega) only [aC, iQ, aJm, rI, aA, jU, aIZ, iN, and_true, c1, aG, aD]
theorem avG {lo hi p n : Nat} {l : List UInt8} {e : Int} {w : aLl} (h : Rdr w lo hi p l e) (hl : l.length <= 1000000000) (hn : n <= 1000000000) :
 aR pg pY #[.pointer (some ⟨p, 0, none⟩), .int .i64 n] w (fun r w' => Bs w' r (Kl l e n).1 /\ AtS r (fun b => lo <= b /\ b < hi /\ b ≠ p) /\ Rdr w' lo hi p (Kl l e n).2.1 (Kl l e n).2.2 /\ aS w w' (fun y => y = p)) := by
 refine NQ ?_
 unfold Jy xT
 have d1 : decide ((0 : Int) <= (n : Int)) = true := by simp
 simp (disch := omega) only [aC, iQ, aJm, oD, d1, aA, aD]
 refine (azS h hl hn).mono ?_
 rintro r w1 hr
 exact hr
theorem R2 {lo hi p n : Nat} {l : List UInt8} {e : Int} {w : aLl} (h : Rdr w lo hi p l e) (hl : l.length <= 1000000000) (hn : 1 <= n /\ n <= 8) :
 aR pg kW #[.pointer (some ⟨p, 0, none⟩), .int .i64 n] w (fun r w' => r = .int .u64 (uB (Kl l e n).1 : Nat) /\ Rdr w' lo hi p (Kl l e n).2.1 (Kl l e n).2.2 /\ aS w w' (fun y => y = p)) := by
 refine M3 ?_
 unfold Hz wN wZ xB wX wQ
 have d1 : decide ((1 : Int) <= (n : Int)) = true := by simp; omega
 have d2 : decide ((n : Int) <= 8) = true := by simp; omega
 simp (disch := omega) only [aC, iQ, aJm, oD, d1, aA, mU, bM, if_true, bP, ZH, d2, aD]
 refine (azS h hl (by omega)).mono ?_
 rintro r w1 ⟨hb, hat, hr, x1⟩
 obtain ⟨t, ht⟩ : ∃ t, t = (Kl l e n).1 := ⟨_, rfl⟩
 have htl : t.length <= 8 := by
  rw [ht]; unfold Kl
  split
  .simp
  .split
   .simp
   .simp; omega
 rw [<- ht] at hb ⊢
 obtain ⟨va, vc, rfl, hvc⟩ := hb.len
 rw [aJb] at hb hvc hat
 simp (disch := omega) only [aJb, fH, aA]
 unfold wP xA
 refine cC.rule (fun m s w' => ∃ i : Nat, m = t.length - i /\ i <= t.length /\ s = (.int .u64 (uB (t.take i) : Nat), .int .i64 i) /\ w' = w1) t.length ⟨0, rfl, by omega, rfl, rfl⟩ ?_
 rintro m s w2 ⟨i, rfl, hi, rfl, hw⟩
 rw [hw]; clear hw w2
 unfold rL
 by_cases hlt : i < t.length
 .have d3 : decide ((i : Int) < (t.length : Int)) = true := by simp; omega
  obtain ⟨c, hc⟩ : ∃ c, c = t[i]'hlt := ⟨_, rfl⟩
  have htk : t.take (i + 1) = t.take i ++ [c] := by rw [aJE, aI7 hlt, <- hc] <;> rfl
  have hor := aFQ (t.take i) c
  rw [<- htk, aJg, aJS (by omega)] at hor
  have hcl : c.toNat < 256 := aJz c
  obtain ⟨b, off, c', hv, hcc, hcell⟩ := hb.openV (by rw [aJb]; omega)
  have g1 := hcell i (by rw [aJb]; exact hlt)
  rw [aJb] at hv
  cases hv
  rw [aJB, <- hc] at g1
  simp only [KY] at g1
  generalize c.toNat = cx at *
  have hp : 2 ^ (8 * i) <= 2 ^ 56 := aJa (by omega) (by omega)
  have hm : cx * 2 ^ (8 * i) <= 255 * 2 ^ 56 := Nat.mul_le_mul (by omega) hp
  have hb0 := VJ (t.take i)
  have hb1 := VJ (t.take (i + 1))
  rw [aJg, aJS (by omega)] at hb0 hb1
  have hq : 256 ^ i <= 256 ^ 7 := aJa (by omega) (by omega)
  have e0 : ((8 : Int) * (i : Int)) = ((8 * i : Nat) : Int) := by omega
  have e5 : IntKind.u64.wrap ((cx : Int) * 2 ^ (min (8 * i) IntKind.u64.bits)) = ((cx * 2 ^ (8 * i) : Nat) : Int) := by
   rw [show min (8 * i) IntKind.u64.bits = 8 * i from aJS (by have : IntKind.u64.bits = 64 := rfl
                                                              omega)]
   have e : (cx : Int) * 2 ^ (8 * i) = ((cx * 2 ^ (8 * i) : Nat) : Int) := by simp
   rw [e]
   exact iI (by omega) (by omega)
  have e6 := aCs (a := uB (t.take i)) (b := cx * 2 ^ (8 * i)) (by omega) (by omega)
  rw [hor] at e6
  have e7 : IntKind.u64.wrap (cx : Int) = (cx : Int) := iI (by omega) (by omega)
  simp (disch := omega) only [aC, aW, d3, mJ, aIY, pX, e0, aT, bN, aA, jB, iI, kJ, g1, aG, nU, e7, mO, e5, ahI, e6, and_true, aF]
  exact ⟨t.length - (i + 1), by omega, i + 1, rfl, by omega, rfl⟩
 .have d3 : decide ((i : Int) < (t.length : Int)) = false := by simp; omega
  obtain rfl : i = t.length := by omega
  simp (disch := omega) only [aC, aW, d3, pX, aT, bN, aA, jB, iI, aD]
  unfold rG
  rw [aKA]
  exact ⟨rfl, hr, x1⟩
def m3 (L : List Int) : List T3 := L.map fun x => (x, 0, 0)
theorem aHw (L : List Int) (i : Nat) (h : i < L.length) (x : Int) : (m3 L).set i (x, ((m3 L)[i]'(by simpa [m3] using h)).2) = m3 (L.set i x) := by
 unfold m3; rw [aKD]; simp
theorem aoW {k : IntKind} {L : List Int} {i : Nat} (h : i < L.length) (x : Int) : (fe k (m3 L)).set (i * 3) (.int k x) = fe k (m3 (L.set i x)) := by
 rw [(aeE k (m3 L) i (by simpa [m3] using h) x).1, aHw L i h x]
theorem arH (n high s : Nat) (r : List Nat) (a : Nat) (arr : List Int) : place n high (s :: r) a arr = place n high r (adB n high n (adv n a)) (arr.set a s) := rfl
theorem atZ {ps : List Int} {i : Nat} (h : i < ps.length) : rF (ps.drop i) i = List.replicate ps[i].toNat i ++ rF (ps.drop (i + 1)) (i + 1) := by
 rw [aJC h, rF]
theorem aHf {w0 w : aLl} {N high j : Nat} (hN : 0 < N) (hN2 : N <= 32768) (hh : 0 < high) (hhN : high <= N) (hx : aS w0 w cI)
 {ov sv a b c d e : aLm} {k : aLm -> aLm -> aLm -> aLm -> aLm -> aLm -> aLm -> aLm -> aLm -> aLm -> aLl -> Prop}
 (hk : ∃ j', adB N high N (adv N (pos N j)) = pos N j' /\ k (.int .i64 N) ov (.int .i64 high) (.int .i64 (pos N j' : Nat)) sv a b c d e w) :
 G4 k (.int .i64 N) ov (.int .i64 high) (.int .i64 (pos N j : Nat)) sv a b c d e w := by
 obtain ⟨dd, h1, h2, h3⟩ := VZ hN hh (j + 1)
 obtain ⟨j', hj', hk⟩ := hk
 rw [JS, h3] at hj'
 rw [<- hj'] at hk
 unfold G4
 refine cC.rule (fun m t w' => ∃ q : Nat, m = dd - q /\ t = .int .i64 (pos N (j + q) : Nat) /\ q <= dd /\ w' = w) dd ⟨0, rfl, rfl, by omega, rfl⟩ ?_
 rintro m t w' ⟨q, rfl, rfl, hq, rfl⟩
 have hp := arB hN (j + q)
 have e1 : ((N : Int)).fdiv (2 ^ (min 1 IntKind.i64.bits)) = ((N / 2 : Nat) : Int) := by
  have : (2 : Int) ^ (min 1 IntKind.i64.bits) = ((2 : Nat) : Int) := by decide
  rw [this, UA]
 have e3 : ((N : Int)).fdiv (2 ^ (min 3 IntKind.i64.bits)) = ((N / 8 : Nat) : Int) := by
  have : (2 : Int) ^ (min 3 IntKind.i64.bits) = ((8 : Nat) : Int) := by decide
  rw [this, UA]
 have t1 : (1 : Int).toNat = 1 := rfl
 have t3 : (3 : Int).toNat = 3 := rfl
 have e4 : (((pos N (j + q) : Nat) : Int) + ((N / 2 : Nat) : Int) + ((N / 8 : Nat) : Int) + 3).tmod (N : Int) = ((pos N (j + q + 1) : Nat) : Int) := by
  rw [aJt (by omega), <- JS]
  unfold adv
  simp
 unfold GO
 by_cases hd : q = dd
 .subst hd
  have d1 : decide (((pos N (j + q + 1) : Nat) : Int) < (high : Int)) = true := by
   simp only [decide_eq_true_eq]
   rw [show j + 1 + q = j + q + 1 from by omega] at h2
   omega
  simp (disch := omega) only [aC, vY, t1, e1, t3, e3, aA, bN, aT, yV, e4, aW, d1, and_true, aF]
  rw [show j + 1 + q = j + q + 1 from by omega] at hk
  exact hk
 .have d1 : decide (((pos N (j + q + 1) : Nat) : Int) < (high : Int)) = false := by
   have := h1 q (by omega)
   rw [show j + 1 + q = j + q + 1 from by omega] at this
   simp only [decide_eq_false_iff_not]
   omega
  simp (disch := omega) only [aC, vY, t1, e1, t3, e3, aA, bN, aT, yV, e4, aW, d1, and_true, aD]
  exact ⟨dd - (q + 1), by omega, q + 1, rfl, rfl, by omega⟩
theorem azH {log : Nat} {sv : aLm} {ps : List Int} {w : aLl} (hm : TO log ps) (hs : Sl w sv (ps.map (Value.int .i64))) :
 aR pg Ew #[.agg #[.int .i64 log, sv]] w (fun r w' => ∃ b, r = .slice (some ⟨b, 0, none⟩) (2 ^ log) (2 ^ log) /\ w.heap.size <= b /\ cM w' b (fe .u8 (m3 (gZ 0 log ps))) /\ aS w w' cI) := by
 refine anD ?_
 have h5 := hm.log5
 have h15 := hm.log15
 have hlen := hm.len256
 obtain ⟨arr0, ht, hal, hsum, hfin⟩ := akJ hm 0
 rw [hfin]
 have hN1 : 2 ^ 5 <= 2 ^ log := aJa (by omega) h5
 have hN2 : 2 ^ log <= 2 ^ 15 := aJa (by omega) h15
 have hsh : IntKind.i64.wrap (1 * 2 ^ (min log IntKind.i64.bits)) = ((2 ^ log : Nat) : Int) := by
  have : ∀ k : Fin 16, IntKind.i64.wrap (1 * 2 ^ (min k.val IntKind.i64.bits)) = ((2 ^ k.val : Nat) : Int) := by decide
  exact this ⟨log, by omega⟩
 clear hfin
 generalize hN : 2 ^ log = N at *
 generalize hhigh : (rF ps 0).length = high at *
 unfold aqT Mg MD
 refine gA fun w1 o1 x1 s1 => ?_
 have hs1 := hs.ext x1 (bU _)
 have c0 := o1.cell (off := 0)
 have c1 := o1.cell (off := 1)
 simp only [Value.cells, aI0, aI1] at c0 c1
 obtain ⟨a, c, rfl, hc⟩ := hs.lenI
 simp (disch := omega) only [aC, cP, aA, bZ, c0, aG, mO, aIY, hsh]
 refine agL (by omega) (by omega) fun w2 o2 x2 s2 => ?_
 rw [aIY, aB3] at o2
 rw [aIY]
 have o2 : cM w2 w1.heap.size (fe .u8 (m3 (List.replicate N 0))) := by unfold m3; rw [aK7]; exact o2
 have x02 : aS w w2 cI := x1.seq x2
 have ob2 := o1.ext x2 (fun h => h)
 have c1 := ob2.cell (off := 1)
 simp only [Value.cells, aI0, aI1] at c1
 unfold MT Ms LF My Lx
 simp (disch := omega) only [aC, bC, aIZ, aA, cF, c1, aG, dU]
 have hw1 : w.heap.size <= w1.heap.size := x1.size
 refine cC.rule (fun m t w' => ∃ (i hg : Nat) (arr : List Int), m = ps.length - i /\ t = (.int .i64 hg, .int .i64 i) /\ i <= ps.length /\ (uL (ps.drop i) i).length <= hg /\ hg <= N /\ arr.length = N /\ Yu (ps.drop i) i hg arr = (high, arr0) /\ cM w' w1.heap.size (fe .u8 (m3 arr)) /\ aS w w' cI /\ cM w' w.heap.size (Value.cells (.agg #[.int .i64 log, .slice a ps.length c])).toList) ps.length
  ⟨0, N, _, rfl, rfl, by omega, by rw [aI4]; omega, by omega, by simp, by rw [aI4]; exact ht, o2, x02, ob2⟩ ?_
 rintro m t w3 ⟨i, hg, arr, rfl, rfl, hi, hng, hgN, harr, htop, o3, x3, ob3⟩
 by_cases hlt : i < ps.length
 .have d1 : decide ((i : Int) < (ps.length : Int)) = true := by simp; omega
  obtain ⟨b', off', c', e, _, hcell⟩ := (hs.ext x3 (bU _)).openI (by omega)
  cases e
  have g1 := hcell i hlt
  have hd : ps.drop i = ps[i] :: ps.drop (i + 1) := aJC hlt
  rw [hd, uL] at hng
  rw [hd, Yu] at htop
  unfold AS Ed DA
  by_cases hp : ps[i] = -1
  .have d2 : (ps[i] == -1) = true := by simpa using hp
   rw [if_pos hp] at hng htop
   simp only [aJo] at hng
   have e1 : (hg : Int) - 1 = ((hg - 1 : Nat) : Int) := by omega
   simp (disch := omega) only [aC, aW, d1, dB, aIY, dZ, e1, aT, jI, JG, bN, aA, iU, aIZ, eH, bZ, g1, aG, cK, d2, aF]
   refine ZM o3 rfl (by rw [lY]; simp [m3]; omega) fun w4 o4 x4 s4 => ?_
   rw [aoW (by omega)] at o4
   exact ⟨ps.length - (i + 1), by omega, i + 1, hg - 1, _, rfl, rfl, by omega, by omega, by omega, by simp [harr], htop, o4, x3.new x4 hw1, ob3.ext x4 (by omega)⟩
  .have d2 : (ps[i] == -1) = false := by simpa using hp
   rw [if_neg hp] at hng htop
   simp (disch := omega) only [aC, aW, d1, dB, aIY, dZ, aT, jI, JG, bN, aA, bZ, g1, aG, cK, d2, aD, aF]
   exact ⟨ps.length - (i + 1), by omega, i + 1, hg, arr, rfl, rfl, by omega, by omega, by omega, harr, htop, o3, x3, ob3⟩
 .have d1 : decide ((i : Int) < (ps.length : Int)) = false := by simp; omega
  rw [aKa (by omega), Yu] at htop
  obtain ⟨rfl, rfl⟩ : hg = high /\ arr = arr0 := by simpa using htop
  have c1 := ob3.cell (off := 1)
  simp only [Value.cells, aI0, aI1] at c1
  unfold AS Ed LD LC LW Kr MA KE Mo
  simp (disch := omega) only [aC, aW, d1, dZ, aT, jI, aA, bC, aIZ, cF, c1, aG, dU, aD]
  clear d1 hlt hi hng htop
  have hbig : cM w3 w1.heap.size (fe .u8 (m3 arr)) := o3
  refine cC.rule (fun m t w' => ∃ (s j : Nat) (ar : List Int), m = ps.length - s /\ t = (.int .i64 (pos N j : Nat), .int .i64 s) /\ s <= ps.length /\ ar.length = N /\ place N hg (rF (ps.drop s) s) (pos N j) ar = place N hg (rF ps 0) 0 arr /\ (rF (ps.drop s) s).length <= hg /\ cM w' w1.heap.size (fe .u8 (m3 ar)) /\ aS w w' cI) ps.length
   ⟨0, 0, arr, rfl, by rw [Vs] <;> rfl, by omega, harr, by rw [Vs, aI4], by rw [aI4, hhigh]; exact aI9 _, o3, x3⟩ ?_
  rintro m t w4 ⟨s, j, ar, rfl, rfl, hs4, har, hpl, hrl, o4, x4⟩
  by_cases hlt : s < ps.length
  .have d1 : decide ((s : Int) < (ps.length : Int)) = true := by simp; omega
   obtain ⟨b', off', c', e, _, hcell⟩ := (hs.ext x4 (bU _)).openI (by omega)
   cases e
   have g1 := hcell s hlt
   obtain ⟨q, hq⟩ : ∃ q, q = ps[s].toNat := ⟨_, rfl⟩
   have emax : (if (0 : Int) > ps[s] then (0 : Int) else ps[s]) = (q : Int) := by rw [hq]; split <;> omega
   rw [atZ hlt, <- hq] at hpl hrl
   have hqN : q <= N := by simp at hrl; omega
   unfold A1 Dx Li KW UP KB LN Vv Lf
   simp (disch := omega) only [aC, aW, d1, dB, aIY, aA, bZ, g1, aG, Vf, emax, aF]
   unfold Mr LV
   refine cC.rule (fun m t w' => ∃ (k j : Nat) (ar : List Int), m = q - k /\ t = (.int .i64 (pos N j : Nat), .int .i64 k) /\ k <= q /\ ar.length = N /\ place N hg (List.replicate (q - k) s ++ rF (ps.drop (s + 1)) (s + 1)) (pos N j) ar = place N hg (rF ps 0) 0 arr /\ cM w' w1.heap.size (fe .u8 (m3 ar)) /\ aS w w' cI) q
    ⟨0, j, ar, rfl, rfl, by omega, har, hpl, o4, x4⟩ ?_
   rintro m t w5 ⟨k, j5, ar5, rfl, rfl, hk, har5, hpl5, o5, x5⟩
   by_cases hkq : k < q
   .have d2 : decide ((k : Int) < (q : Int)) = true := by simp; omega
    have hp := arB (n := N) (by omega) j5
    have hhg : 0 < hg := by simp at hrl; omega
    unfold AY DC KK OG W0 Pe
    simp (disch := omega) only [aC, aW, d2, jI, JG, iU, aIY, aIZ, aA, eH, aF]
    refine ZM o5 rfl (by rw [lY]; simp [m3]; omega) fun w6 o6 x6 s6 => ?_
    rw [aoW (by omega)] at o6
    unfold Px
    rw [show q - k = (q - (k + 1)) + 1 from by omega, aJ3, aJ9, arH] at hpl5
    obtain ⟨d, _, hd2, hd3⟩ := VZ (n := N) (high := hg) (by omega) hhg (j5 + 1)
    have hsk : adB N hg N (adv N (pos N j5)) = pos N (j5 + 1 + d) := by rw [JS]; exact hd3
    refine aHf (w0 := w) (by omega) hN2 hhg hgN (x5.new x6 hw1) ⟨j5 + 1 + d, hsk, ?_⟩
    rw [hsk] at hpl5
    unfold GK
    simp (disch := omega) only [aC, bN, aT, aA]
    exact ⟨q - (k + 1), by omega, k + 1, j5 + 1 + d, _, rfl, rfl, by omega, by simp [har5], hpl5, o6, x5.new x6 hw1⟩
   .have d2 : decide ((k : Int) < (q : Int)) = false := by simp; omega
    rw [show q - k = 0 from by omega, List.replicate_zero, aJM] at hpl5
    unfold AY DC GZ
    simp (disch := omega) only [aC, aW, d2, bN, aT, aA, aD]
    exact ⟨ps.length - (s + 1), by omega, s + 1, j5, ar5, rfl, rfl, by omega, har5, hpl5, by simp at hrl; omega, o5, x5⟩
  .have d1 : decide ((s : Int) < (ps.length : Int)) = false := by simp; omega
   rw [aKa (by omega), rF, place] at hpl
   unfold A1 Dx GI
   simp (disch := omega) only [aC, aW, d1, aA, aD]
   exact ⟨_, rfl, hw1, by rw [<- hpl]; exact o4, x4⟩
def Es (log : Nat) (ps S : List Int) (i : Nat) : List T3 := (List.range (2 ^ log)).map fun j => if j < i then Ht log ps S j else (S.getD j 0, 0, 0)
def nxt (ps S : List Int) (i : Nat) : List Int := (List.range ps.length).map fun s => dC (ps.getD s 0) + ((S.take i).count (s : Int) : Nat)
theorem aCr {log : Nat} {ps S : List Int} (h : S.length = 2 ^ log) : Es log ps S 0 = m3 S := by
 unfold Es m3
 apply aJ2
 .simp [h]
 .intro i h1 h2
  simp only [aJb, aKH] at h1
  simp only [aJB, aJY, Nat.not_lt_zero, if_false, aJe]
  rw [aI7 (by omega)] <;> rfl
theorem aFu (log : Nat) (ps : List Int) : Es log ps (gZ 0 log ps) (2 ^ log) = lQ log ps := by
 unfold Es lQ
 refine aKp fun j hj => ?_
 rw [if_pos (aJN.1 hj)]
theorem FE (log : Nat) (ps S : List Int) (i : Nat) : (Es log ps S i).length = 2 ^ log := by simp [Es]
theorem aFC {log : Nat} {ps S : List Int} {i : Nat} (h : i < 2 ^ log) : (Es log ps S i)[i]'(by rw [FE]; exact h) = (S.getD i 0, 0, 0) := by
 unfold Es; simp
theorem aD6 {log : Nat} {ps S : List Int} {i : Nat} (_ : i < 2 ^ log) : (Es log ps S i).set i (Ht log ps S i) = Es log ps S (i + 1) := by
 unfold Es
 apply aJ2
 .simp
 .intro j h1 h2
  rw [aKW]
  simp only [aJB, aJY]
  by_cases hij : i = j
  .subst hij; simp
  .rw [if_neg hij]
   by_cases hj : j < i
   .rw [if_pos hj, if_pos (by omega)]
   .rw [if_neg hj, if_neg (by omega)]
theorem XA (ps S : List Int) (i : Nat) : (nxt ps S i).length = ps.length := by simp [nxt]
theorem aEL (ps S : List Int) : nxt ps S 0 = ps.map dC := by
 unfold nxt
 apply aJ2
 .simp
 .intro i h1 h2
  simp only [aJb, aKH] at h1
  simp only [aJB, aJY, aI6, List.count_nil, aJe]
  rw [aI7 h1]; simp
theorem axE {ps S : List Int} {i s : Nat} (h : s < ps.length) : (nxt ps S i)[s]'(by rw [XA]; exact h) = dC ps[s] + ((S.take i).count (s : Int) : Nat) := by
 unfold nxt
 simp only [aJB, aJY, aJe]
 rw [aI7 h] <;> rfl
theorem aGf {ps S : List Int} {i s : Nat} (h : i < S.length) (hs : s < ps.length) (e : S[i] = (s : Int)) : (nxt ps S i).set s (dC ps[s] + ((S.take i).count (s : Int) : Nat) + 1) = nxt ps S (i + 1) := by
 apply aJ2
 .simp [nxt]
 .intro j h1 h2
  have hj : j < ps.length := by simpa [nxt] using h2
  rw [aKW, axE hj, axE hj, aJE, aI7 h, aKb]
  simp only [Option.toList, e, aKJ]
  by_cases hij : s = j
  .subst hij; simp; omega
  .have : ((s : Int) == (j : Int)) = false := by simp; omega
   rw [if_neg hij, this]; simp
theorem aGu {k b : Nat} (hb : b <= 64) (h : k * 2 ^ b <= 9223372036854775807) : IntKind.i64.wrap ((k : Int) * 2 ^ (min b IntKind.i64.bits)) = ((k * 2 ^ b : Nat) : Int) := by
 have e : min b IntKind.i64.bits = b := by simp only [IntKind.bits]; omega
 rw [e]
 have : (k : Int) * 2 ^ b = ((k * 2 ^ b : Nat) : Int) := by simp
 rw [this]
 exact aT (by omega) (by omega)
section
variable {log : Nat} {ps S : List Int} {w0 w1 : aLl} {p1 p2 p4 b nb N : Nat} {sv : aLm}
theorem aBy (hm : TO log ps) (L : Lay log ps S) (hN : 2 ^ log = N) {i : Nat} (hlt : i < N) {w3 : aLl}
 (on3 : cM w3 nb ((nxt ps S i).map (Value.int .i64))) (ob3 : cM w3 b (fe .u8 (Es log ps S i)))
 (o13 : cM w3 p1 [.int .i64 log, sv]) (o43 : cM w3 p4 [.int .i64 log, .slice (some ⟨b, 0, none⟩) N N])
 (hne : p1 ≠ b /\ p4 ≠ b /\ nb ≠ b /\ p1 ≠ nb /\ p4 ≠ nb) {t2 : aLm} {kn : aLm -> aLm -> aLm -> aLm -> aLm -> aLm -> aLl -> Prop}
 (hk : ∀ w', cM w' nb ((nxt ps S (i + 1)).map (Value.int .i64)) -> cM w' b (fe .u8 (Es log ps S (i + 1))) -> aS w3 w' (fun y => y = nb ∨ y = b) →
  kn (.pointer (some ⟨p1, 0, none⟩)) t2 (.pointer (some ⟨p4, 0, none⟩)) (.slice (some ⟨nb, 0, none⟩) ps.length ps.length) (.int .i64 N) (.int .i64 ((i + 1 : Nat) : Int)) w') :
 J0 kn (.pointer (some ⟨p1, 0, none⟩)) t2 (.pointer (some ⟨p4, 0, none⟩)) (.slice (some ⟨nb, 0, none⟩) ps.length ps.length) (.int .i64 N) (.int .i64 i) w3 := by
 have h5 := hm.log5
 have h15 := hm.log15
 have hlen := hm.len256
 have hN2 : 2 ^ log <= 2 ^ 15 := aJa (by omega) h15
 have hSl : S.length = 2 ^ log := L.len
 have c40 := o43.cell (off := 0)
 have c41 := o43.cell (off := 1)
 have c10 := o13.cell (off := 0)
 simp only [aI0, aI1] at c40 c41 c10
 have hltN : i < 2 ^ log := by omega
 obtain ⟨s, hsl, hsS, hp1, hp2, hk', hcnt⟩ := Y7 hm L hltN
 obtain ⟨k, hkk⟩ : ∃ k, k = kAt ps S i := ⟨_, rfl⟩
 rw [<- hkk] at hk'
 have hk2 : k < 2 ^ (log + 1) := by rw [aJp]; omega
 obtain ⟨eb1, eb2, eb3, eb4⟩ := apU (log := log) (k := k) (by omega) hk2
 have hel : i < (Es log ps S i).length := by rw [FE]; exact hltN
 obtain ⟨f0, f1, f2⟩ := ajH .u8 (Es log ps S i) i hel
 rw [aFC hltN] at f0
 simp only at f0
 rw [hsS] at f0
 have g0 := ob3.cell (off := i * 3)
 rw [f0] at g0
 have hnx : ((nxt ps S i).map (Value.int .i64))[s]? = some (.int .i64 k) := by
  rw [aJq, aI7 (by rw [XA]; exact hsl), axE hsl, hk']
  simp; omega
 have gn := on3.cell (off := s)
 rw [hnx] at gn
 have hkb : k < 131072 := by
  have : 2 ^ (log + 1) <= 2 ^ 16 := aJa (by omega) (by omega)
  omega
 have hpn := nL (hm.low _ (aJh hsl))
 have hSi : S[i]'(by omega) = (s : Int) := by rw [<- hsS, aJe, aI7 (by omega)] <;> rfl
 have hns := aGf (ps := ps) (S := S) (i := i) (s := s) (by omega) hsl hSi
 have hkv : dC ps[s] + ((S.take i).count (s : Int) : Nat) + 1 = (k : Int) + 1 := by rw [hk']; omega
 rw [hkv] at hns
 have hent : Ht log ps S i = ES log (s : Int) k := by unfold Ht; rw [hsS, <- hkk]
 have hes := aD6 (log := log) (ps := ps) (S := S) (i := i) hltN
 rw [hent] at hes
 have hE0 : (Es log ps S i)[i]'hel = ((s : Int), 0, 0) := by rw [aFC hltN, hsS]
 clear hkk hcnt
 unfold J0 RK aaB Q5
 simp (disch := omega) only [aC, bR, aIZ, aA, cW, c41, aG, iU, aIY, rI, eH, kJ, g0, dB, bZ, gn, bN, aT]
 refine vP on3 rfl (by simp [XA]; omega) fun w4 on4 x4 s4 => ?_
 rw [<- aKD, hns] at on4
 unfold R1 Sh
 have o14 := dT (o13.ext x4 (by omega))
 have o44 := o43.ext x4 (by omega)
 have ob4 := ob3.ext x4 (by omega)
 have c10 := o14.cell (off := 0)
 simp only [aI0] at c10
 simp (disch := omega) only [aC, cP, jB, iI, dS, Result.ok.injEq, Next.value.injEq, and_true, rI, aA, gJ, true_and, bZ, c10, aG]
 refine (aFD k (by omega) _).mono ?_
 rintro r w5 ⟨rfl, rfl⟩
 obtain ⟨nbits, hnbits⟩ : ∃ x, x = log + 1 - bl k := ⟨_, rfl⟩
 have e2 : (log : Int) - (bl k : Int) + 1 = (nbits : Int) := by omega
 have e3 : IntKind.i64.wrap ((log : Int) - (bl k : Int)) = (log : Int) - (bl k : Int) := aT (by omega) (by omega)
 simp (disch := omega) only [c10, aG, dZ, e3, aA, bN, e2, aT, true_and]
 have ob4 := dT ob4
 refine vP ob4 rfl (by rw [lY, FE]; omega) fun w5 ob5 x5 s5 => ?_
 rw [(aeE .u8 (Es log ps S i) i hel _).2.1, hE0] at ob5
 unfold JB
 have o45 := dT ((dT o44).ext x5 (by omega))
 have ob5 := dT ob5
 have on5 := dT ((dT on4).ext x5 (by omega))
 have c41 := o45.cell (off := 1)
 simp only [aI0, aI1] at c41
 have hel5 : i < ((Es log ps S i).set i ((s : Int), (nbits : Int), 0)).length := by simpa using hel
 obtain ⟨-, f1, -⟩ := ajH .u8 _ i hel5
 simp only [aKS] at f1
 have g1 := ob5.cell (off := i * 3 + 1)
 rw [f1] at g1
 have hnb2 : k * 2 ^ nbits <= 2 ^ 16 := by
  rw [hnbits]
  have : 2 ^ (log + 1) <= 2 ^ 16 := aJa (by omega) (by omega)
  have := aJH (2 ^ (log + 1 - bl k)) (show k <= k + 1 by omega)
  omega
 have e4 := aGu (k := k) (b := nbits) (by omega) (by omega)
 have e5 : (((k * 2 ^ nbits : Nat) : Int) - (N : Int)) = (ES log (s : Int) k).2.2 := by
  unfold ES
  simp only
  rw [<- hnbits, <- hN]
  simp
 have e6 : IntKind.i64.wrap (((k * 2 ^ nbits : Nat) : Int) - (N : Int)) = ((k * 2 ^ nbits : Nat) : Int) - (N : Int) := aT (by omega) (by omega)
 rw [e5] at e6
 have e7 : (ES log (s : Int) k) = ((s : Int), (nbits : Int), (ES log (s : Int) k).2.2) := by unfold ES; rw [hnbits]
 generalize hq : k * 2 ^ nbits = q at *
 generalize hbase : (ES log (s : Int) k).2.2 = base at *
 simp (disch := omega) only [aC, rI, bR, aIZ, aA, gV, true_and, cW, c41, aG, fK, gJ, bZ, g1, mO, aIY, e4, dZ, e5, e6]
 refine vP ob5 rfl (by rw [lY]; simp [FE]; omega) fun w6 ob6 x6 s6 => ?_
 rw [(aeE .u8 _ i hel5 _).2.2] at ob6
 simp only [aKS, List.set_set] at ob6
 rw [<- e7, hes] at ob6
 have xx : aS w3 w6 (fun y => y = nb ∨ y = b) :=
  ((((x4.mono fun _ _ h => .inl h : aS w3 w4 (fun y => y = nb ∨ y = b)).seq (aS.dr _ _)).seq (x5.mono fun _ _ h => .inr h)).seq (aS.dr _ _)).seq (x6.mono fun _ _ h => .inr h)
 unfold JC
 simp (disch := omega) only [aC, bN, aT, aA]
 exact hk _ (on5.ext x6 (by omega)) ob6 xx
theorem aCU (hm : TO log ps) (L : Lay log ps S) (hN : 2 ^ log = N) {w3 : aLl}
 (on3 : cM w3 nb ((nxt ps S 0).map (Value.int .i64))) (ob3 : cM w3 b (fe .u8 (m3 S)))
 (o13 : cM w3 p1 [.int .i64 log, sv]) (o23 : cM w3 p2 [.int .i64 0, .slice none 0 0]) (o43 : cM w3 p4 [.int .i64 log, .slice (some ⟨b, 0, none⟩) N N])
 (hne : p1 ≠ b /\ p4 ≠ b /\ nb ≠ b /\ p1 ≠ nb /\ p4 ≠ nb /\ p2 ≠ b /\ p2 ≠ nb) (hlo : w0.heap.size <= p2 /\ w0.heap.size <= b /\ w0.heap.size <= nb) (hx : aS w0 w3 cI) {R : aLm -> aLl -> Prop}
 (hR : ∀ w', cM w' b (fe .u8 (Es log ps S N)) -> aS w0 w' cI -> R (.tuple #[.agg #[.int .i64 log, .slice (some ⟨b, 0, none⟩) N N], .int .i64 0]) w') :
 GB R (.pointer (some ⟨p1, 0, none⟩)) (.pointer (some ⟨p2, 0, none⟩)) (.pointer (some ⟨p4, 0, none⟩)) (.slice (some ⟨nb, 0, none⟩) ps.length ps.length) w3 := by
 have hN2 : 2 ^ log <= 2 ^ 15 := aJa (by omega) hm.log15
 have c41 := o43.cell (off := 1)
 simp only [aI0, aI1] at c41
 unfold GB NI Ok OO Ol
 simp (disch := omega) only [aC, bR, aIZ, aA, cW, c41, aG, fK]
 have ob0 : cM w3 b (fe .u8 (Es log ps S 0)) := by rw [aCr L.len]; exact ob3
 refine cC.rule (fun m t w' => ∃ i : Nat, m = N - i /\ t = .int .i64 i /\ i <= N /\ cM w' nb ((nxt ps S i).map (Value.int .i64)) /\ cM w' b (fe .u8 (Es log ps S i)) /\ aS w3 w' (fun y => y = nb ∨ y = b)) N
  ⟨0, rfl, rfl, by omega, on3, ob0, aS.refl _ _⟩ ?_
 rintro m t w4 ⟨i, rfl, rfl, hi, on4, ob4, x4⟩
 unfold GJ Ot
 have o44 := o43.ext x4 (by omega)
 have o24 := o23.ext x4 (by omega)
 by_cases hlt : i < N
 .have d1 : decide ((i : Int) < (N : Int)) = true := by simp only [decide_eq_true_eq]; omega
  simp (disch := omega) only [aC, aW, d1, aA, aF]
  refine aBy hm L hN hlt on4 ob4 (o13.ext x4 (by omega)) o44 ⟨hne.1, hne.2.1, hne.2.2.1, hne.2.2.2.1, hne.2.2.2.2.1⟩ fun w5 on5 ob5 x5 => ?_
  exact ⟨N - (i + 1), by omega, i + 1, rfl, rfl, by omega, on5, ob5, x4.trans x5 (fun _ _ h => h)⟩
 .have d1 : decide ((i : Int) < (N : Int)) = false := by simp only [decide_eq_false_iff_not]; omega
  have : i = N := by omega
  subst this
  have l4 := fZ (off := 0) o44 (by simp)
  simp only [aI4, aIX, aI6] at l4
  simp (disch := omega) only [aC, aW, d1, aA, aD]
  unfold JD
  simp (disch := omega) only [aC, l4, aA]
  refine eL o24 rfl (by simp [one]) (by simp) fun w5 o25 x5 s5 => ?_
  refine sL o25 (by simp [aV]) ?_
  simp only [aV, aI2, aI3, aI4, aIX, aI6]
  exact hR _ (ob4.ext x5 (by omega)) ((hx.trans x4 (fun y hy hh => by omega)).new x5 hlo.1)
theorem aBv (hm : TO log ps) (L : Lay log ps S) (hN : 2 ^ log = N) {w : aLl} (hs : Sl w0 sv (ps.map (Value.int .i64)))
 (o1 : cM w p1 [.int .i64 log, sv]) (o2 : cM w p2 [.int .i64 0, .slice none 0 0]) (o4 : cM w p4 [.int .i64 log, .slice (some ⟨b, 0, none⟩) N N]) (ob : cM w b (fe .u8 (m3 S)))
 (hlo : w0.heap.size <= p2 /\ w0.heap.size <= b) (hne : p1 ≠ b /\ p2 ≠ b /\ p4 ≠ b) (hx : aS w0 w cI) {R : aLm -> aLl -> Prop}
 (hR : ∀ w', cM w' b (fe .u8 (Es log ps S N)) -> aS w0 w' cI -> R (.tuple #[.agg #[.int .i64 log, .slice (some ⟨b, 0, none⟩) N N], .int .i64 0]) w') :
 BJ R (.pointer (some ⟨p1, 0, none⟩)) (.pointer (some ⟨p2, 0, none⟩)) (.pointer (some ⟨p4, 0, none⟩)) w := by
 have hlen := hm.len256
 have hN2 : 2 ^ log <= 2 ^ 15 := aJa (by omega) hm.log15
 obtain ⟨a, c, rfl, hc⟩ := hs.lenI
 have c1 := o1.cell (off := 1)
 simp only [aI0, aI1] at c1
 unfold BJ NH
 simp (disch := omega) only [aC, bC, aIZ, aA, cF, c1, aG, dU]
 refine atY (by omega) (by omega) fun w1 on x1 s1 => ?_
 rw [aIY] at on ⊢
 have l1 := o1.lt
 have l2 := o2.lt
 have l4 := o4.lt
 have lb := ob.lt
 have o1 := o1.ext x1 (fun h => h)
 have o2 := o2.ext x1 (fun h => h)
 have o4 := o4.ext x1 (fun h => h)
 have ob := ob.ext x1 (fun h => h)
 have x01 := hx.seq x1
 have c1 := o1.cell (off := 1)
 simp only [aI0, aI1] at c1
 have hwn : w0.heap.size <= w.heap.size := hx.size
 generalize w.heap.size = nb at *
 unfold Od NY PD OR PA
 simp (disch := omega) only [aC, bC, aIZ, aA, cF, c1, aG, dU]
 refine cC.rule (fun m t w' => ∃ i : Nat, m = ps.length - i /\ t = .int .i64 i /\ i <= ps.length /\ cM w' nb (((ps.take i).map dC ++ List.replicate (ps.length - i) 0).map (Value.int .i64)) /\ aS w0 w' cI /\ aS w1 w' (fun y => y = nb)) ps.length
  ⟨0, rfl, rfl, by omega, by simpa using on, x01, aS.refl _ _⟩ ?_
 rintro m t w2 ⟨i, rfl, rfl, hi, on2, x2, y2⟩
 by_cases hlt : i < ps.length
 .have d1 : decide ((i : Int) < (ps.length : Int)) = true := by simp; omega
  obtain ⟨b', off', c', e, _, hcell⟩ := (hs.ext x2 (bU _)).openI (by omega)
  cases e
  have g1 := hcell i hlt
  have hp := hm.low _ (aJh hlt)
  have hple := XE hm hlt
  have hpv : dC ps[i] = ps[i] ∨ ps[i] = -1 := by unfold dC; split <;> omega
  have hpn := nL hp
  have emax : (if (0 - ps[i]) > ps[i] then (0 - ps[i]) else ps[i]) = dC ps[i] := by unfold dC; split <;> split <;> omega
  unfold BN
  simp (disch := omega) only [aC, aW, d1, dB, aIY, aIZ, bN, aT, aA, bZ, g1, aG, arW, Vf, emax, aF]
  refine vP on2 rfl (by simp; omega) fun w3 on3 x3 s3 => ?_
  refine ⟨ps.length - (i + 1), by omega, i + 1, rfl, rfl, by omega, ?_, x2.new x3 hwn, y2.trans x3 (fun _ _ h => h)⟩
  rw [<- aKD] at on3
  have e : ((ps.take i).map dC ++ List.replicate (ps.length - i) 0).set i (dC ps[i]) = (ps.take (i + 1)).map dC ++ List.replicate (ps.length - (i + 1)) 0 := by
   rw [show ps.length - i = (ps.length - (i + 1)) + 1 from by omega, aJ3, aKE _ _ (by rw [aJb, aJg]; omega)]
   have : i - ((ps.take i).map dC).length = 0 := by rw [aJb, aJg]; omega
   rw [this, aI2, aJE, aI7 hlt, aJJ, aJc]
   rfl
  rw [e] at on3
  exact on3
 .have d1 : decide ((i : Int) < (ps.length : Int)) = false := by simp; omega
  have : i = ps.length := by omega
  subst this
  have on2 : cM w2 nb ((nxt ps S 0).map (Value.int .i64)) := by rw [aEL]; simpa using on2
  unfold BN
  simp (disch := omega) only [aC, aW, d1, bN, aT, aA, aD]
  exact aCU hm L hN on2 (ob.ext y2 (by omega)) (o1.ext y2 (by omega)) (o2.ext y2 (by omega)) (o4.ext y2 (by omega)) (by omega) (by omega) x2 hR
def Tbl (w : aLl) (base b log : Nat) (L : List T3) (v : aLm) : Prop := v = .agg #[.int .i64 log, .slice (some ⟨b, 0, none⟩) L.length L.length] /\ base <= b /\ cM w b (fe .u8 L)
theorem aCx {log most : Nat} {ps : List Int} (h : TO log ps) (hl : log <= most) : ayV log ps most = 0 := by
 unfold ayV; rw [h.b]; simp; omega
theorem aoF {w : aLl} (hm : TO log ps) (hs : Sl w sv (ps.map (Value.int .i64))) :
 aR pg uK #[.agg #[.int .i64 log, sv]] w (fun r w' => ∃ b v, r = .tuple #[v, .int .i64 0] /\ Tbl w' w.heap.size b log (lQ log ps) v /\ aS w w' cI) := by
 refine Uy ?_
 have hlen := hm.len256
 unfold ahJ G1 GL
 refine gA fun w1 o1 x1 s1 => ?_
 refine kD fun w2 o2 x2 s2 => ?_
 have o1 := o1.ext x2 (fun h => h)
 have l1 := gX (off := 0) o1 (by simp [Value.cells])
 simp only [Value.cells, aI4, aIX, aI6] at l1
 simp (disch := omega) only [aC, l1, eT, aA, cP, dS, Result.ok.injEq, Next.value.injEq, and_true, bZ, true_and]
 refine (aCd (most := 15) ((hs.ext x1 (bU _)).ext x2 (bU _)) (by omega)).mono ?_
 rintro r w3 ⟨rfl, x3⟩
 have hce := aCx (most := 15) hm hm.log15
 rw [show (((15 : Nat) : Int)) = 15 from rfl] at hce
 rw [hce]
 have e0 : ((0 : Int) != 0) = false := rfl
 have x03 : aS w w3 cI := (x1.seq x2).seq x3
 have o1 := dT (o1.ext x3 (fun h => h))
 have o2 := dT (o2.ext x3 (fun h => h))
 have c0 := o1.cell (off := 0)
 simp only [Value.cells, aI0] at c0
 have l1 := gX (off := 0) o1 (by simp [Value.cells])
 simp only [Value.cells, aI4, aIX, aI6] at l1
 have hz2 := o2.lt
 have fin : ∀ {b p4 : Nat} {w' : aLl}, cM w' w.heap.size [.int .i64 log, sv] -> cM w' w1.heap.size [.int .i64 0, .slice none 0 0] -> cM w' p4 [.int .i64 log, .slice (some ⟨b, 0, none⟩) (2 ^ log) (2 ^ log)] -> cM w' b (fe .u8 (m3 (gZ 0 log ps))) -> w2.heap.size <= b -> p4 ≠ b -> aS w w' cI →
     BJ (fun r w' => ∃ b v, r = .tuple #[v, .int .i64 0] /\ Tbl w' w.heap.size b log (lQ log ps) v /\ aS w w' cI) (.pointer (some ⟨w.heap.size, 0, none⟩)) (.pointer (some ⟨w1.heap.size, 0, none⟩)) (.pointer (some ⟨p4, 0, none⟩)) w' := by
  intro b p4 w' h1 h2 h3 h4 h5 h6 h7
  refine aBv hm (xJ hm 0) rfl hs h1 h2 h3 h4 (by omega) (by omega) h7 fun w'' ho hx => ?_
  rw [aFu] at ho
  exact ⟨b, _, rfl, ⟨by rw [kN], by omega, ho⟩, hx⟩
 simp (disch := omega) only [fB, e0, aA, aD]
 have hdr : (dr w3).heap.size = w3.heap.size := rfl
 have h23 := x3.size
 refine Ek ?_ ?_
 .simp (disch := omega) only [c0, aG, l1, aA, true_and]
  refine (azH hm ((hs.ext x03 (bU _)).dr)).mono ?_
  rintro r w4 ⟨b, rfl, hb, ob, x4⟩
  have o1 := o1.ext x4 (fun h => h)
  have c0 := o1.cell (off := 0)
  simp only [Value.cells, aI0] at c0
  simp (disch := omega) only [c0, aG, oP, Result.ok.injEq, Next.value.injEq, and_true, aA, true_and]
  refine kD fun w5 o5 x5 s5 => ?_
  have o1 := o1.ext x5 (fun h => h)
  have c0 := o1.cell (off := 0)
  simp only [Value.cells, aI0] at c0
  simp (disch := omega) only [c0, aG, true_and]
  have hlb := ob.lt
  refine eL o5 rfl (by simp [one]) (by simp) fun w6 o6 x6 s6 => ?_
  have h45 := x4.size
  refine fin (o1.ext x6 (by omega)) (((o2.ext x4 (fun h => h)).ext x5 (fun h => h)).ext x6 (by omega)) o6 ((ob.ext x5 (fun h => h)).ext x6 (by omega)) (by omega) (by omega) ?_
  exact (((x03.seq (aS.dr _ _)).seq x4).seq x5).new x6 (by omega)
 .simp (disch := omega) only [c0, aG, l1, aA, true_and]
  refine kD fun w4 o4 x4 s4 => ?_
  have o1 := o1.ext x4 (fun h => h)
  have c0 := o1.cell (off := 0)
  simp only [Value.cells, aI0] at c0
  have l1 := gX (off := 0) o1 (by simp [Value.cells])
  simp only [Value.cells, aI4, aIX, aI6] at l1
  simp (disch := omega) only [l1, c0, aG, and_true, true_and]
  refine (azH hm ((((hs.ext x03 (bU _)).dr).ext x4 (bU _)))).mono ?_
  rintro r w5 ⟨b, rfl, hb, ob, x5⟩
  have o1 := o1.ext x5 (fun h => h)
  have c0 := o1.cell (off := 0)
  simp only [Value.cells, aI0] at c0
  simp (disch := omega) only [c0, aG, oP, aA, true_and]
  refine eL (o4.ext x5 (fun h => h)) rfl (by simp [one]) (by simp) fun w6 o6 x6 s6 => ?_
  refine fin (o1.ext x6 (by omega)) (((o2.ext x4 (fun h => h)).ext x5 (fun h => h)).ext x6 (by omega)) o6 (ob.ext x6 (by omega)) (by omega) (by omega) ?_
  exact (((x03.seq (aS.dr _ _)).seq x4).seq x5).new x6 (by omega)
theorem aDc {log : Int} {w : aLl} (hm : Ua log ps = false) (hs : Sl w sv (ps.map (Value.int .i64))) (hl : ps.length <= 9223372036854775807) :
 aR pg uK #[.agg #[.int .i64 log, sv]] w (fun r w' => r = .tuple #[.agg #[.int .i64 0, .slice none 0 0], .int .i64 1] /\ aS w w' cI) := by
 refine Uy ?_
 unfold ahJ G1 GL
 refine gA fun w1 o1 x1 s1 => ?_
 refine kD fun w2 o2 x2 s2 => ?_
 have o1 := o1.ext x2 (fun h => h)
 have l1 := gX (off := 0) o1 (by simp [Value.cells])
 simp only [Value.cells, aI4, aIX, aI6] at l1
 simp (disch := omega) only [aC, l1, eT, aA, cP, dS, Result.ok.injEq, Next.value.injEq, and_true, bZ, true_and]
 refine (aCd (most := 15) ((hs.ext x1 (bU _)).ext x2 (bU _)) (by omega)).mono ?_
 rintro r w3 ⟨rfl, x3⟩
 have hce : ayV log ps 15 = 1 := by unfold ayV; rw [hm] <;> rfl
 rw [hce]
 have e0 : ((1 : Int) != 0) = true := rfl
 simp (disch := omega) only [fB, e0, aA, aF]
 refine eL (o2.ext x3 (fun h => h)) rfl (by simp [one]) (by simp) fun w6 o6 x6 s6 => ?_
 refine sL o6 (by simp [aV]) ⟨rfl, ?_⟩
 exact ((x1.seq x2).seq x3).new x6 (by omega)
end
end Go.Proofs.YtaggdjhhmbnhoaaDoor
namespace Go.Pu
def inE (sym s : Int) (e : Int × Int × Int) : Bool := decide (e.1 = sym /\ e.2.2 <= s /\ s < e.2.2 + 2 ^ e.2.1.toNat)
theorem aHD {log x j : Nat} (h1 : 2 ^ log <= x) (h2 : x < 2 ^ (log + 1)) (hj : j <= log) : bl (x / 2 ^ j) = log + 1 - j := by
 have hp := aJv j
 have a : 2 ^ (log - j) <= x / 2 ^ j := by
  rw [aKT hp, <- aKP]
  rw [show log - j + j = log from by omega]; exact h1
 have b : x / 2 ^ j < 2 ^ (log - j + 1) := by
  rw [aKt hp, <- aKP]
  rw [show log - j + 1 + j = log + 1 from by omega]; exact h2
 rw [aD9 a b]; omega
theorem aIn {log x k : Nat} (h1 : 2 ^ log <= x) (h2 : x < 2 ^ (log + 1)) (hk1 : 1 <= k) (hk2 : k < 2 ^ (log + 1)) :
 (k * 2 ^ (log + 1 - bl k) <= x /\ x < (k + 1) * 2 ^ (log + 1 - bl k)) ↔ ∃ j, j <= log /\ x / 2 ^ j = k := by
 have hb1 := HL (k := k) (by omega)
 have hb2 := tR hk2
 constructor
 .rintro ⟨a, b⟩
  refine ⟨log + 1 - bl k, by omega, ?_⟩
  have hp := aJv (log + 1 - bl k)
  apply Nat.le_antisymm
  .have := (aKt hp).2 b; omega
  .exact (aKT hp).2 a
 .rintro ⟨j, hj, rfl⟩
  rw [aHD h1 h2 hj, show log + 1 - (log + 1 - j) = j from by omega]
  have hp := aJv j
  exact ⟨aKY _ _, by rw [aJ8]; exact Nat.lt_mul_div_succ x hp⟩
theorem aIF {log x q : Nat} (h1 : 2 ^ log <= x) (h2 : x < 2 ^ (log + 1)) (hq1 : 1 <= q) (hq2 : q <= 2 ^ log) : ∃ j, j <= log /\ q <= x / 2 ^ j /\ x / 2 ^ j < 2 * q := by
 have key : ∀ j, j <= log -> x / 2 ^ j < 2 * q -> ∃ j, j <= log /\ q <= x / 2 ^ j /\ x / 2 ^ j < 2 * q := by
  intro j
  induction j with
  | zero =>
    intro _ h
    refine ⟨0, by omega, ?_, h⟩
    rw [Nat.pow_zero, Nat.div_one]; omega
  | succ j ih =>
    intro hj h
    by_cases hx : x / 2 ^ j < 2 * q
    .exact ih (by omega) hx
    .refine ⟨j + 1, hj, ?_, h⟩
     rw [aJp, <- aKQ]
     omega
 refine key log (aI9 _) ?_
 have : x / 2 ^ log < 2 := by
  rw [aKt (aJv _), aJ8, <- aJp]; exact h2
 omega
theorem aIf {x q i j : Nat} (hi1 : q <= x / 2 ^ i) (hi2 : x / 2 ^ i < 2 * q) (hj1 : q <= x / 2 ^ j) (hj2 : x / 2 ^ j < 2 * q) : x / 2 ^ i = x / 2 ^ j := by
 have half : ∀ {a b : Nat}, a < b -> x / 2 ^ b <= x / 2 ^ a / 2 := by
  intro a b h
  rw [aKQ, <- aJp]
  exact Nat.div_le_div_left (aJa (by omega) h) (aJv _)
 rcases aKy i j with h | h | h
 .have := half h; omega
 .rw [h]
 .have := half h; omega
theorem aGn {S : List Int} {v : Int} : ∀ (n c : Nat), c < (S.take n).count v -> ∃ i, ∃ h : i < S.length, i < n /\ S[i] = v /\ (S.take i).count v = c := by
 intro n
 induction n with
 | zero => intro c h; simp at h
 | succ n ih =>
   intro c h
   by_cases hn : n < S.length
   .rw [aJE, aI7 hn, aKb] at h
    simp only [Option.toList, aKJ] at h
    by_cases hc : c < (S.take n).count v
    .obtain ⟨i, h1, h2, h3, h4⟩ := ih c hc
     exact ⟨i, h1, by omega, h3, h4⟩
    .by_cases hv : S[n] = v
     .have : (S[n] == v) = true := by simpa using hv
      rw [this] at h
      simp only [if_true] at h
      exact ⟨n, hn, by omega, hv, by omega⟩
     .have : (S[n] == v) = false := by simpa using hv
      rw [this] at h
      simp at h; omega
   .rw [aJw (by omega)] at h
    have := ih c (by rw [aJw (by omega)]; exact h)
    obtain ⟨i, h1, h2, h3, h4⟩ := this
    exact ⟨i, h1, by omega, h3, h4⟩
theorem aDV {S : List Int} {v : Int} {i j : Nat} (hi : i < S.length) (hv : S[i] = v) (hij : i < j) : (S.take i).count v < (S.take j).count v := by
 obtain ⟨d, rfl⟩ : ∃ d, j = i + 1 + d := ⟨j - (i + 1), by omega⟩
 rw [List.take_add, aKb, aJE, aI7 hi, aKb]
 simp only [Option.toList, aKJ]
 have : (S[i] == v) = true := by simpa using hv
 rw [this]; simp; omega
theorem aiG {log : Nat} {ps : List Int} {i : Nat} (h : i < 2 ^ log) : (lQ log ps)[i]? = some (Ht log ps (gZ 0 log ps) i) := by
 unfold lQ
 rw [aJq, aKZ h] <;> rfl
theorem aCk {log : Nat} {ps : List Int} (hm : TO log ps) {sy i s : Nat} (hsy : sy < ps.length) (hi : i < 2 ^ log) (hs : s < 2 ^ log) :
 inE (sy : Int) s (Ht log ps (gZ 0 log ps) i) = true ↔
  ((gZ 0 log ps).getD i 0 = (sy : Int) /\ ∃ j, j <= log /\ (s + 2 ^ log) / 2 ^ j = (dC ps[sy]).toNat + ((gZ 0 log ps).take i).count (sy : Int)) := by
 have L := xJ hm 0
 obtain ⟨s', hs', hg, hp1, hp2, hk, hc⟩ := Y7 hm L hi
 generalize hS : gZ 0 log ps = S at *
 obtain ⟨k, hkk⟩ : ∃ k, k = kAt ps S i := ⟨_, rfl⟩
 rw [<- hkk] at hk
 have hk2 : k < 2 ^ (log + 1) := by rw [aJp]; omega
 obtain ⟨e1, e2, e3, e4⟩ := apU (log := log) (k := k) (by omega) hk2
 unfold inE Ht ES
 rw [hg, <- hkk]
 simp only [decide_eq_true_eq, aIY]
 have hpow : ((2 ^ log : Nat) : Int) = (2 : Int) ^ log := by simp
 have hpow2 : ((2 ^ (log + 1 - bl k) : Nat) : Int) = (2 : Int) ^ (log + 1 - bl k) := by simp
 rw [<- hpow, <- hpow2]
 have hx1 : 2 ^ log <= s + 2 ^ log := by omega
 have hx2 : s + 2 ^ log < 2 ^ (log + 1) := by rw [aJp]; omega
 have hki := aIn hx1 hx2 (k := k) (by omega) hk2
 constructor
 .rintro ⟨a, b, c⟩
  have hss : s' = sy := by omega
  subst hss
  refine ⟨rfl, ?_⟩
  rw [<- hk]
  refine hki.1 ⟨by omega, ?_⟩
  rw [aK5]; omega
 .rintro ⟨a, j, hj, hje⟩
  have hss : s' = sy := by omega
  subst hss
  rw [<- hk] at hje
  obtain ⟨b, c⟩ := hki.2 ⟨j, hj, hje⟩
  rw [aK5] at c
  exact ⟨rfl, by omega, by omega⟩
theorem aGy {log : Nat} {ps : List Int} (hm : TO log ps) {sy s : Nat} (hsy : sy < ps.length) (hp : ps[sy] ≠ 0) (hs : s < 2 ^ log) :
 ∃ i, ∃ hi : i < 2 ^ log, inE (sy : Int) s (Ht log ps (gZ 0 log ps) i) = true /\ ∀ j, j < 2 ^ log -> inE (sy : Int) s (Ht log ps (gZ 0 log ps) j) = true -> j = i := by
 have L := xJ hm 0
 have hl := hm.low _ (aJh hsy)
 have hq1 : 1 <= (dC ps[sy]).toNat := by unfold dC; split <;> omega
 have hq2 := XE hm hsy
 have hcnt := L.cnt sy hsy
 obtain ⟨j, hj, a, b⟩ := aIF (log := log) (x := s + 2 ^ log) (q := (dC ps[sy]).toNat) (by omega) (by rw [aJp]; omega) hq1 hq2
 have hfind := aGn (S := gZ 0 log ps) (v := (sy : Int)) (2 ^ log) ((s + 2 ^ log) / 2 ^ j - (dC ps[sy]).toNat) (by
  rw [aJw (by rw [L.len]; exact aI9 _), hcnt]; omega)
 obtain ⟨i, h1, h2, h3, h4⟩ := hfind
 have hgd : ∀ {i} (h : i < (gZ 0 log ps).length), (gZ 0 log ps).getD i 0 = (gZ 0 log ps)[i] := fun h => by rw [aJe, aI7 h] <;> rfl
 refine ⟨i, h2, (aCk hm hsy h2 hs).2 ⟨by rw [hgd h1, h3], j, hj, by rw [h4]; omega⟩, fun i' hi' h => ?_⟩
 obtain ⟨g, j', hj', e⟩ := (aCk hm hsy hi' hs).1 h
 have hi'l : i' < (gZ 0 log ps).length := by rw [L.len]; exact hi'
 rw [hgd hi'l] at g
 have hclt := WV hi'l
 rw [g, hcnt] at hclt
 have := aIf (x := s + 2 ^ log) (q := (dC ps[sy]).toNat) (i := j) (j := j') a b (by omega) (by omega)
 have hceq : ((gZ 0 log ps).take i').count (sy : Int) = ((gZ 0 log ps).take i).count (sy : Int) := by omega
 rcases aKy i' i with h | h | h
 .have := aDV hi'l g h; omega
 .exact h
 .have := aDV h1 h3 h; omega
end Go.Pu
namespace Go.Proofs.YtaggdjhhmbnhoaaDoor
open Go Go.En Go.Pu
set_option maxRecDepth 4000
theorem Tbl.ext {w w' : aLl} {base b log : Nat} {L : List T3} {v : aLm} {M : Nat -> Prop} (h : Tbl w base b log L v) (hx : aS w w' M) (hM : ¬ M b) : Tbl w' base b log L v := ⟨h.1, h.2.1, h.2.2.ext hx hM⟩
theorem aoA {k : IntKind} {L : List T3} {i : Nat} (h : i < L.length) : ((fe k L).drop (i * 3)).take 3 = [.int k L[i].1, .int .i64 L[i].2.1, .int .i64 L[i].2.2] := by
 obtain ⟨h0, h1, h2⟩ := ajH k L i h
 apply aLa
 intro j
 match j with
 | 0 => rw [aJF (by omega), aKe]; exact h0
 | 1 => rw [aJF (by omega), aKe]; exact h1
 | 2 => rw [aJF (by omega), aKe]; exact h2
 | j + 3 => rw [aJk (by rw [aJg]; omega), aJk (by simp)]
theorem Yz (log : Nat) (ps : List Int) {i : Nat} (h : i < 2 ^ log) : ((lQ log ps)[i]'(by rw [kN]; exact h)).1 = (gZ 0 log ps).getD i 0 := by
 unfold lQ Ht ES; simp
theorem aqI {log : Nat} {ps : List Int} (hm : TO log ps) {s : Nat} (hs : s < ps.length) (hp : ps[s] ≠ 0) : ∃ i, ∃ h : i < (lQ log ps).length, ((lQ log ps)[i]'h).1 = (s : Int) := by
 have L := xJ hm 0
 have hc := L.cnt s hs
 have hl := hm.low _ (aJh hs)
 have hpos : 0 < (gZ 0 log ps).count (s : Int) := by rw [hc]; unfold dC; split <;> omega
 obtain ⟨i, hi, e⟩ := aJy (List.count_pos_iff.1 hpos)
 have hi2 : i < 2 ^ log := by rw [<- L.len]; exact hi
 refine ⟨i, by rw [kN]; exact hi2, ?_⟩
 rw [Yz log ps hi2, aJe, aI7 hi, e] <;> rfl
def cn (S : List Int) (i : Nat) : List Int := (List.range 256).map fun (s : Nat) => (((S.take i).count (s : Int) : Nat) : Int)
theorem ajT (S : List Int) (i : Nat) : (cn S i).length = 256 := by simp [cn]
theorem aGo (S : List Int) : cn S 0 = List.replicate 256 0 := by
 unfold cn
 apply aJ2
 .simp
 .intro i h1 h2
  simp only [aJB, aJY, aI6, List.count_nil, aLc]; rfl
theorem aA5 {S : List Int} {i s : Nat} (h : s < 256) : (cn S i)[s]'(by rw [ajT]; exact h) = (((S.take i).count (s : Int) : Nat) : Int) := by simp [cn]
theorem aHb {S : List Int} {i s : Nat} (hi : i < S.length) (hs : s < 256) (e : S[i] = (s : Int)) : (cn S i).set s ((((S.take i).count (s : Int) : Nat) : Int) + 1) = cn S (i + 1) := by
 apply aJ2
 .simp [cn]
 .intro j h1 h2
  have hj : j < 256 := by simpa [cn] using h2
  rw [aKW, aA5 hj, aA5 hj, aJE, aI7 hi, aKb]
  simp only [Option.toList, e, aKJ]
  by_cases hij : s = j
  .subst hij; simp
  .have : ((s : Int) == (j : Int)) = false := by simp; omega
   rw [if_neg hij, this]; simp
theorem Q7 {k : IntKind} {L : List T3} {i : Nat} {e : T3} (h : L[i]? = some e) : (fe k L)[i * 3]? = some (.int k e.1) /\ (fe k L)[i * 3 + 1]? = some (.int .i64 e.2.1) /\ (fe k L)[i * 3 + 2]? = some (.int .i64 e.2.2) := by
 have hi : i < L.length := by
  rcases aJl i L.length with h' | h'
  .exact h'
  .rw [aJk h'] at h; cases h
 rw [aI7 hi] at h
 have := ajH k L i hi
 rw [aJj h] at this
 exact this
def Low (L : List T3) : Prop := ∀ e ∈ L, ∃ n : Nat, e.2.1 = (n : Int) /\ n <= 20 /\ 0 <= e.2.2 /\ e.2.2 <= 100000
theorem aBm {log : Nat} {ps : List Int} (hm : TO log ps) : Low (lQ log ps) := by
 intro e he
 obtain ⟨i, hi', rfl⟩ := aJy he
 have hi := hi'
 rw [kN] at hi
 have hat := aiG (ps := ps) hi
 rw [aI7 hi'] at hat
 rw [aJj hat]
 have L := xJ hm 0
 obtain ⟨s, hs, hg, hp1, hp2, hk, hc⟩ := Y7 hm L hi
 have hk2 : kAt ps (gZ 0 log ps) i < 2 ^ (log + 1) := by rw [aJp]; omega
 obtain ⟨e1, e2, e3, e4⟩ := apU (log := log) (k := kAt ps (gZ 0 log ps) i) (by omega) hk2
 have h15 := hm.log15
 have hb : 2 ^ (log + 1) <= 2 ^ 16 := aJa (by omega) (by omega)
 have hpow : ((2 ^ log : Nat) : Int) = (2 : Int) ^ log := by simp
 unfold Ht ES
 rw [<- hpow]
 rw [aK5] at e2
 have hA := aJ7 (aJ7 (Nat.le_add_right _ _) e2) hb
 generalize hX : kAt ps (gZ 0 log ps) i * 2 ^ (log + 1 - bl (kAt ps (gZ 0 log ps) i)) = X at *
 refine ⟨_, rfl, by omega, ?_, ?_⟩
 .show (0 : Int) <= (X : Int) - ((2 ^ log : Nat) : Int)
  omega
 .show (X : Int) - ((2 ^ log : Nat) : Int) <= 100000
  omega
theorem ayW (s : Int) (w : aLl) : aR pg De #[.int .u8 s] w (fun r w' => ∃ b, Tbl w' w.heap.size b 0 [(s, 0, 0)] r /\ aS w w' cI) := by
 refine awB ?_
 unfold aB2 Xz
 refine kD fun w1 o1 x1 s1 => ?_
 simp (disch := omega) only [aC, tJ, aA]
 refine anQ (cells := #[.int .u8 s, .int .i64 0, .int .i64 0]) (by decide) (by decide) (by kernel_rfl) fun w2 o2 x2 s2 => ?_
 simp (disch := omega) only [tA, aA]
 have l1 := o1.lt
 refine eL (o1.ext x2 (fun h => h)) rfl (by simp [one]) (by simp) fun w3 o3 x3 s3 => ?_
 refine sL o3 (by simp [aV]) ?_
 simp only [aV, aI2, aI3, aI4, aIX, aI6]
 exact ⟨w1.heap.size, ⟨rfl, by omega, o2.ext x3 (by omega)⟩, (x1.seq x2).new x3 (aI9 _)⟩
abbrev atA (w : aLl) (g : Nat) (zs : List Int) : Prop := ∀ i (h : i < zs.length), w.cell? ⟨g, i, none⟩ = some (.int .i64 zs[i])
theorem atA.ext {w w' : aLl} {g : Nat} {zs : List Int} {M : Nat -> Prop} (h : atA w g zs) (x : aS w w' M) (hM : ¬ M g) : atA w' g zs := fun i hi => by
 have hc := h i hi
 have hg : g < w.heap.size := by
  rcases aJl g w.heap.size with h | h
  .exact h
  .unfold World.cell? at hc
   rw [aKN h] at hc
   cases hc
 rw [<- hc]
 unfold World.cell?
 rw [x.keep g hg hM]
theorem atA.ld {w : aLl} {g : Nat} {zs : List Int} (h : atA w g zs) : ∀ j, j < (zs.map (Value.int .i64)).length -> w.cell? ⟨g, 0 + j, none⟩ = (zs.map (Value.int .i64))[j]? := fun j hj => by
 rw [aJb] at hj
 rw [aIZ, h j hj, aJq, aI7 hj] <;> rfl
theorem TX (zs : List Int) (i : Nat) (h : i < zs.length) : zs.getD i 0 = zs[i] := by
 rw [aJe, aI7 h] <;> rfl
theorem aBJ (xs cs : List aLm) (h : cs.length = xs.length) : aV cs 0 xs = xs := by
 have := Oa xs [] cs (by omega)
 rw [aJM, aKa (by omega), aJP, aJM] at this
 exact this
theorem Vx {w : aLl} {b n : Nat} {zs : List Int} (o : cM w b (zs.map (Value.int .i64))) (h : zs.length = n) : Sl w (.slice (some ⟨b, 0, none⟩) n n) (zs.map (Value.int .i64)) := by
 refine ⟨_, _, _, rfl, by rw [aJb, h], aI9 _, fun _ => ⟨_, _, rfl, fun i hi => ?_⟩⟩
 rw [o.cell, aIZ]
theorem MK (zs : List Int) (n : Nat) (hz : zs.length = n) (cs : List aLm) (h : cs.length = n) : aV cs 0 (zs.map (Value.int .i64)) = zs.map (Value.int .i64) := aBJ _ cs (by rw [h, aJb, hz])
theorem Uu (zs : List Int) : ∀ x ∈ (zs.map (Value.int .i64)).toArray.toList, one x = true := fun x hx => by
 rw [aKq] at hx
 obtain ⟨z, _, rfl⟩ := aJO.1 hx
 rfl
def zCL : List Int := [1, 1, 1, 1, 2, 2, 3, 3, 4, 6, 7, 8, 9, 10, 11, 12, 13, 14, 15, 16]
def zCM : List Int := [1, 1, 1, 1, 2, 2, 3, 3, 4, 4, 5, 7, 8, 9, 10, 11, 12, 13, 14, 15, 16]
def zTL : List Int := [4, 3, 2, 2, 2, 2, 2, 2, 2, 2, 2, 2, 2, 1, 1, 1, 2, 2, 2, 2, 2, 2, 2, 2, 2, 3, 2, 1, 1, 1, 1, 1, -1, -1, -1, -1]
def zTO : List Int := [1, 1, 1, 1, 1, 1, 2, 2, 2, 1, 1, 1, 1, 1, 1, 1, 1, 1, 1, 1, 1, 1, 1, 1, -1, -1, -1, -1, -1]
def zTM : List Int := [1, 4, 3, 2, 2, 2, 2, 2, 2, 1, 1, 1, 1, 1, 1, 1, 1, 1, 1, 1, 1, 1, 1, 1, 1, 1, 1, 1, 1, 1, 1, 1, 1, 1, 1, 1, 1, 1, 1, 1, 1, 1, 1, 1, 1, 1, -1, -1, -1, -1, -1, -1, -1]
structure vW (w : aLl) : Prop where
 cl : atA w 3 zCL
 cm : atA w 4 zCM
 tl : atA w 0 zTL
 to : atA w 1 zTO
 tm : atA w 2 zTM
theorem vW.ext {w w' : aLl} (h : vW w) (x : aS w w' cI) : vW w' :=
 ⟨h.cl.ext x (fun h => h), h.cm.ext x (fun h => h), h.tl.ext x (fun h => h), h.to.ext x (fun h => h), h.tm.ext x (fun h => h)⟩
def ayJ (a : Int) : Int := if a = 0 then 16 else if a = 2 then 32 else 0
def aHa (a : Int) : Int := if a = 2 then 3 else 0
def asR (a : Int) : List Int := if a = 0 then zCL else if a = 2 then zCM else []
def pP (a : Int) : Int := if a = 0 then 35 else if a = 1 then 31 else if a = 2 then 52 else -1
theorem aFF {a : Int} {w : aLl} (hg : vW w) :
 aR pg Dl #[.int .i64 a] w (fun r w' => ∃ v, r = .tuple #[.int .i64 (ayJ a), .int .u32 (aHa a), v] /\ Sl w' v ((asR a).map (Value.int .i64)) /\ aS w w' cI) := by
 refine aqH ?_
 unfold auV RA ayJ aHa asR
 by_cases h0 : a = 0
 .subst h0
  have n1 : ((0 : Int) == 0) = true := rfl
  have l1 := awZ (b := 3) (off := 0) (l := zCL.map (Value.int .i64)) rfl hg.cl.ld
  simp (disch := omega) only [aC, cK, n1, if_true, true_and, aA, l1, aF]
  refine aAj fun w2 o2 x2 s2 => ?_
  refine axA o2 rfl (Uu _) (by simp) fun w3 o3 x3 s3 => ?_
  have o3 : cM w3 w.heap.size (zCL.map (Value.int .i64)) := by
   rw [aKq, MK zCL 20 rfl] at o3
   .exact o3
   .rfl
  have x13 : aS w w3 cI := x2.new x3 (by omega)
  have hsh : xX ⟨w.heap.size, 0, none⟩ 20 0 1 = ⟨w.heap.size, 0, none⟩ := FI (by decide)
  simp (disch := omega) only [rY, hsh, aA, true_and]
  exact ⟨_, rfl, Vx (dT o3) rfl, x13.seq (aS.dr _ _)⟩
 .rw [if_neg h0, if_neg h0]
  have n1 : (a == 0) = false := beq_eq_false_iff_ne.2 h0
  by_cases h2 : a = 2
  .subst h2
   have n2 : ((2 : Int) == 2) = true := rfl
   have l1 := avW (b := 4) (off := 0) (l := zCM.map (Value.int .i64)) rfl hg.cm.ld
   simp (disch := omega) only [aC, cK, n1, if_true, true_and, n2, aA, aF, l1, aD]
   refine ayY fun w2 o2 x2 s2 => ?_
   refine axP o2 rfl (Uu _) (by simp) fun w3 o3 x3 s3 => ?_
   have o3 : cM w3 w.heap.size (zCM.map (Value.int .i64)) := by
    rw [aKq, MK zCM 21 rfl] at o3
    .exact o3
    .rfl
   have x13 : aS w w3 cI := x2.new x3 (by omega)
   have hsh : xX ⟨w.heap.size, 0, none⟩ 21 0 1 = ⟨w.heap.size, 0, none⟩ := FI (by decide)
   simp (disch := omega) only [rX, hsh, aA, true_and]
   exact ⟨_, rfl, Vx (dT o3) rfl, x13.seq (aS.dr _ _)⟩
  .rw [if_neg h2, if_neg h2, if_neg h2]
   have n2 : (a == 2) = false := beq_eq_false_iff_ne.2 h2
   simp (disch := omega) only [aC, cK, n1, true_and, n2, aA, aD]
   exact ⟨_, rfl, Sl.nil _, aS.refl _ _⟩
theorem awH {a : Int} {w : aLl} (hg : vW w) :
 aR pg yK #[.int .i64 a] w (fun r w' => r = .int .i64 (pP a) /\ aS w w' cI) := by
 refine anL ?_
 unfold arN OU
 by_cases h1 : a = 1
 .subst h1
  have n1 : ((1 : Int) == 1) = true := rfl
  simp (disch := omega) only [aC, cK, n1, aA, aF]
  exact ⟨rfl, aS.refl _ _⟩
 have n1 : (a == 1) = false := beq_eq_false_iff_ne.2 h1
 simp (disch := omega) only [aC, cK, n1, aA, aD]
 refine (aFF hg).mono ?_
 rintro r w1 ⟨v, rfl, hs, x1⟩
 obtain ⟨av, cv, rfl, _⟩ := hs.lenI
 have e : ayJ a + ((asR a).length : Int) - 1 = pP a /\ -10 <= ayJ a /\ ayJ a <= 100 /\ (asR a).length <= 100 := by
  unfold ayJ asR pP
  by_cases h0 : a = 0
  .subst h0; exact ⟨rfl, by decide, by decide, by decide⟩
  .by_cases h2 : a = 2
   .subst h2; exact ⟨rfl, by decide, by decide, by decide⟩
   .simp [h0, h1, h2]
 obtain ⟨e1, e2, e3, e4⟩ := e
 generalize ayJ a = p at *
 generalize (asR a).length = q at *
 simp (disch := omega) only [Kh, Ka, J3, aA, dU, bN, aT, dZ, e1, true_and]
 exact x1
end Go.Proofs.YtaggdjhhmbnhoaaDoor
namespace Go.Pu
open Go Go.En
structure agA (B : List Bool) (l : List UInt8) : Prop where
 len : l.length = (B.length + 7) / 8
 bits : bK l = B ++ List.replicate (8 * l.length - B.length) false
theorem aAi : agA [] [] := ⟨rfl, rfl⟩
theorem aBh : Qc 0 = List.replicate 8 false := by decide
theorem auU {B : List Bool} {l : List UInt8} (h : agA B l) (h8 : B.length % 8 = 0) : bK (l ++ [0]) = B ++ List.replicate (8 * (l.length + 1) - B.length) false /\ (l ++ [(0 : UInt8)]).length = (B.length + 1 + 7) / 8 := by
 have hl := h.len
 refine ⟨?_, by rw [aI8, aKl]; omega⟩
 rw [JN, h.bits, bK, bK, aBh, aJP, aJc]
 congr 1
 rw [show 8 * l.length - B.length = 0 from by omega, show 8 * (l.length + 1) - B.length = 8 from by omega]
 rfl
theorem aFa (c : UInt8) (r : Nat) (hr : r < 8) (y : Bool) (h : c.toNat.testBit r = false) : Qc (UInt8.ofNat (c.toNat + 2 ^ r * y.toNat)) = (Qc c).set r y /\ c.toNat + 2 ^ r * y.toNat < 256 /\ c.toNat ||| (y.toNat * 2 ^ r) = c.toNat + 2 ^ r * y.toNat := by
 have key : ∀ (c : Fin 256) (r : Fin 8) (y : Bool), c.val.testBit r.val = false -> Qc (UInt8.ofNat (c.val + 2 ^ r.val * y.toNat)) = (Qc (UInt8.ofNat c.val)).set r.val y /\ c.val + 2 ^ r.val * y.toNat < 256 /\ c.val ||| (y.toNat * 2 ^ r.val) = c.val + 2 ^ r.val * y.toNat := by decide +kernel
 have := key ⟨c.toNat, aJz c⟩ ⟨r, hr⟩ y h
 simpa using this
theorem avB : ∀ (l : List UInt8) (i r : Nat) (c : UInt8) (y : Bool) (hi : i < l.length), r < 8 -> Qc c = (Qc l[i]).set r y -> bK (l.set i c) = (bK l).set (8 * i + r) y
 | [], i, r, c, y, hi, hr, h => by simp at hi
 | x :: l, 0, r, c, y, hi, hr, h => by
   rw [aI2, bK, bK, h, aKx _ _ (by rw [yB]; omega)]
   simp
 | x :: l, i + 1, r, c, y, hi, hr, h => by
   rw [aI3, bK, bK, aKE _ _ (by rw [yB]; omega), yB, avB l i r c y (by simpa using hi) hr (by simpa using h)]
   congr 2
   omega
theorem azP {B : List Bool} {l : List UInt8} {y : Bool} (hb : bK l = B ++ List.replicate (8 * l.length - B.length) false) (hl : l.length = (B.length + 1 + 7) / 8) :
 ∃ hi : B.length / 8 < l.length, agA (B ++ [y]) (l.set (B.length / 8) (UInt8.ofNat ((l[B.length / 8]'hi).toNat + 2 ^ (B.length % 8) * y.toNat))) /\
   (l[B.length / 8]'hi).toNat + 2 ^ (B.length % 8) * y.toNat < 256 /\ (l[B.length / 8]'hi).toNat ||| (y.toNat * 2 ^ (B.length % 8)) = (l[B.length / 8]'hi).toNat + 2 ^ (B.length % 8) * y.toNat := by
 have hi : B.length / 8 < l.length := by omega
 have hbit := Ko l B.length (by omega)
 rw [hb, aJG (aI9 _), aKC, aKL, if_pos (by omega)] at hbit
 have hbit := (aJj hbit).symm
 obtain ⟨h1, h2, h3⟩ := aFa _ (B.length % 8) (by omega) y hbit
 refine ⟨hi, ⟨?_, ?_⟩, h2, h3⟩
 .rw [aKM, aI8, aKl]; exact hl
 .rw [avB l _ (B.length % 8) _ y hi (by omega) h1, hb, show 8 * (B.length / 8) + B.length % 8 = B.length from by omega, aKE _ _ (aI9 _), aKC, aKM, aI8, aKl, aJc]
  congr 1
  rw [show 8 * l.length - B.length = (8 * l.length - (B.length + 1)) + 1 from by omega, aJ3, aI2]
  rfl
theorem aEg {B : List Bool} {l : List UInt8} (h : agA (B ++ [true]) l) : afB l = some B.length /\ (bK l).take B.length = B := by
 have hl := h.len
 have hb := h.bits
 rw [aI8, aKl] at hl hb
 have h0 : 0 < l.length := by omega
 have htop : (bK l)[B.length]? = some true := by
  rw [hb, aJc, aJG (aI9 _), aKC] <;> rfl
 have hoff : ∀ j, B.length < j -> j < 8 * l.length -> (bK l)[j]? = some false := by
  intro j h1 h2
  rw [hb, aJc, aJG (by omega), List.singleton_append, List.getElem?_cons, if_neg (by omega), aKL, if_pos (by omega)]
 refine ⟨?_, by rw [hb, aJc, List.take_left'] <;> rfl⟩
 cases he : afB l with
 | none =>
   rw [Km h0] at he
   split at he
   .rename_i hz
    rw [Ko l _ (by omega)] at htop
    have e : B.length / 8 = l.length - 1 := by omega
    simp only [e, hz] at htop
    simp at htop
   .cases he
 | some k =>
   obtain ⟨_, h1, _, h2, h3⟩ := Qm he
   rcases aKy k B.length with h | h | h
   .rw [h3 _ h (by omega)] at htop; simp at htop
   .rw [h]
   .rw [hoff _ h h1] at h2; simp at h2
theorem aAA {x n : Nat} (h : x < 2 ^ n) : wA (gU x n) = x := by rw [arD, aJA h]
theorem aBi {B : List Bool} {x n : Nat} (h : x < 2 ^ n) : vZ (B ++ gU x n) n = x := by
 unfold vZ
 rw [aI8, dQ, show min n (B.length + n) = n from by omega, aKC, aJZ, aK9, aAA h]; simp
def sG (k : Nat) : List Nat := if k = 0 then [0, 1, 2, 3, 4, 5, 6, 7, 8, 9, 10, 11, 12, 13, 14, 15, 16, 18, 20, 22, 24, 28, 32, 40, 48, 64, 128, 256, 512, 1024, 2048, 4096, 8192, 16384, 32768, 65536]
 else if k = 1 then [1, 2, 4, 8, 16, 32, 64, 128, 256, 512, 1024, 2048, 4096, 8192, 16384, 32768, 65536, 131072, 262144, 524288, 1048576, 2097152, 4194304, 8388608, 16777216, 33554432, 67108864, 134217728, 268435456, 536870912, 1073741824, 2147483648]
 else [3, 4, 5, 6, 7, 8, 9, 10, 11, 12, 13, 14, 15, 16, 17, 18, 19, 20, 21, 22, 23, 24, 25, 26, 27, 28, 29, 30, 31, 32, 33, 34, 35, 37, 39, 41, 43, 47, 51, 59, 67, 83, 99, 131, 259, 515, 1027, 2051, 4099, 8195, 16387, 32771, 65539]
def lR (k : Nat) : List Nat := if k = 0 then [0, 0, 0, 0, 0, 0, 0, 0, 0, 0, 0, 0, 0, 0, 0, 0, 1, 1, 1, 1, 2, 2, 3, 3, 4, 6, 7, 8, 9, 10, 11, 12, 13, 14, 15, 16]
 else if k = 1 then List.range 32
 else [0, 0, 0, 0, 0, 0, 0, 0, 0, 0, 0, 0, 0, 0, 0, 0, 0, 0, 0, 0, 0, 0, 0, 0, 0, 0, 0, 0, 0, 0, 0, 0, 1, 1, 1, 1, 2, 2, 3, 3, 4, 4, 5, 7, 8, 9, 10, 11, 12, 13, 14, 15, 16]
abbrev lI (k : Nat) : Nat := (sG k).length
theorem azV {k : Nat} (h : k < 3) : (lR k).length = lI k := by
 rcases (show k = 0 ∨ k = 1 ∨ k = 2 by omega) with rfl | rfl | rfl <;> rfl
theorem atQ {k : Nat} (h : k < 3) (c : Nat) (hc : c + 1 < lI k) : (sG k).getD (c + 1) 0 = (sG k).getD c 0 + 2 ^ (lR k).getD c 0 := by
 have h0 : ∀ c, c < 53 -> c + 1 < lI 0 -> (sG 0).getD (c + 1) 0 = (sG 0).getD c 0 + 2 ^ (lR 0).getD c 0 := by decide +kernel
 have h1 : ∀ c, c < 53 -> c + 1 < lI 1 -> (sG 1).getD (c + 1) 0 = (sG 1).getD c 0 + 2 ^ (lR 1).getD c 0 := by decide +kernel
 have h2 : ∀ c, c < 53 -> c + 1 < lI 2 -> (sG 2).getD (c + 1) 0 = (sG 2).getD c 0 + 2 ^ (lR 2).getD c 0 := by decide +kernel
 have hl : lI k <= 53 := by rcases (show k = 0 ∨ k = 1 ∨ k = 2 by omega) with rfl | rfl | rfl <;> decide
 rcases (show k = 0 ∨ k = 1 ∨ k = 2 by omega) with rfl | rfl | rfl
 .exact h0 c (by omega) hc
 .exact h1 c (by omega) hc
 .exact h2 c (by omega) hc
theorem VK {k : Nat} (h : k < 3) (c : Nat) : (lR k).getD c 0 <= 31 := by
 have : ∀ x ∈ lR k, x <= 31 := by
  rcases (show k = 0 ∨ k = 1 ∨ k = 2 by omega) with rfl | rfl | rfl <;> decide
 rw [aJe]
 cases hc : (lR k)[c]? with
 | none => simp
 | some x => simpa using this x (aJX hc)
theorem aEl {k : Nat} (h : k < 3) (c : Nat) (hc : c < lI k) : (sG k).getD c 0 + 2 ^ (lR k).getD c 0 <= 4294967296 := by
 have h0 : ∀ c, c < 53 -> c < lI 0 -> (sG 0).getD c 0 + 2 ^ (lR 0).getD c 0 <= 4294967296 := by decide +kernel
 have h1 : ∀ c, c < 53 -> c < lI 1 -> (sG 1).getD c 0 + 2 ^ (lR 1).getD c 0 <= 4294967296 := by decide +kernel
 have h2 : ∀ c, c < 53 -> c < lI 2 -> (sG 2).getD c 0 + 2 ^ (lR 2).getD c 0 <= 4294967296 := by decide +kernel
 have hl : lI k <= 53 := by rcases (show k = 0 ∨ k = 1 ∨ k = 2 by omega) with rfl | rfl | rfl <;> decide
 rcases (show k = 0 ∨ k = 1 ∨ k = 2 by omega) with rfl | rfl | rfl
 .exact h0 c (by omega) hc
 .exact h1 c (by omega) hc
 .exact h2 c (by omega) hc
def sV (k v c : Nat) : Prop := c < lI k /\ (sG k).getD c 0 <= v /\ v < (sG k).getD c 0 + 2 ^ (lR k).getD c 0
theorem Qd {k : Nat} (h : k < 3) : ∀ {c d : Nat}, c < d -> d < lI k -> (sG k).getD c 0 + 2 ^ (lR k).getD c 0 <= (sG k).getD d 0
 | c, d + 1, hcd, hd => by
   have e := atQ h d (by omega)
   rcases aJl c d with h' | h'
   .have := Qd h h' (by omega)
    have := aJv ((lR k).getD d 0)
    omega
   .have : c = d := by omega
    subst this; omega
theorem sV.one {k v c d : Nat} (hk : k < 3) (hc : sV k v c) (hd : sV k v d) : c = d := by
 rcases aKy c d with h | h | h
 .have := Qd hk h hd.1; have := hc.2.2; have := hd.2.1; omega
 .exact h
 .have := Qd hk h hc.1; have := hd.2.2; have := hc.2.1; omega
theorem sV.lt {k v c : Nat} (hk : k < 3) (hc : sV k v c) : v < 4294967296 := by
 have := aEl hk c hc.1; have := hc.2.2; omega
structure Sq where
 ll : Nat
 ml : Nat
 of : Nat
deriving DecidableEq
def sAt (L : List (Int × Int × Int)) (s : Int) : Nat := if 0 <= s then (match L[s.toNat]? with | some e => e.1.toNat | none => 0) else 0
def bAt (L : List (Int × Int × Int)) (s : Int) : Nat := if 0 <= s then (match L[s.toNat]? with | some e => e.2.1.toNat | none => 0) else 0
def nAt (L : List (Int × Int × Int)) (s : Int) (x : Nat) : Int := if 0 <= s then (match L[s.toNat]? with | some e => e.2.2 + x | none => 0) else 0
def rdL (B : List Bool) (left : Int) (n : Nat) : Nat := vZ (B.take left.toNat) n
def vR (k : Nat) (L : List (Int × Int × Int)) (s : Int) (B : List Bool) (left : Int) : Nat × Int :=
 ((sG k).getD (sAt L s) 0 + rdL B left ((lR k).getD (sAt L s) 0), left - (lR k).getD (sAt L s) 0)
def nR (L : List (Int × Int × Int)) (s : Int) (B : List Bool) (left : Int) : Int × Int := (nAt L s (rdL B left (bAt L s)), left - bAt L s)
def sqR (L0 L1 L2 : List (Int × Int × Int)) (B : List Bool) : Nat -> Int -> Int -> Int -> Int -> List Sq × Int
 | 0, _, _, _, left => ([], left)
 | n + 1, s0, s1, s2, left =>
   let o := vR 1 L1 s1 B left
   let m := vR 2 L2 s2 B o.2
   let l := vR 0 L0 s0 B m.2
   if n = 0 then ([⟨l.1, m.1, o.1⟩], l.2)
   else
    let a := nR L0 s0 B l.2
    let c := nR L2 s2 B a.2
    let b := nR L1 s1 B c.2
    let r := sqR L0 L1 L2 B n a.1 b.1 c.1 b.2
    (⟨l.1, m.1, o.1⟩ :: r.1, r.2)
def ValB (k : Nat) (L : List (Int × Int × Int)) (s v : Nat) (u : List Bool) : Prop :=
 ∃ (c : Nat) (e : Int × Int × Int), sV k v c /\ L[s]? = some e /\ e.1 = c /\ u = gU (v - (sG k).getD c 0) ((lR k).getD c 0)
def StB (L : List (Int × Int × Int)) (s t : Nat) (u : List Bool) : Prop :=
 ∃ (e : Int × Int × Int) (n x : Nat), L[s]? = some e /\ e.2.1 = n /\ x < 2 ^ n /\ e.2.2 + (x : Int) = (t : Int) /\ u = gU x n
inductive Enc (L0 L1 L2 : List (Int × Int × Int)) : List Sq -> Nat -> Nat -> Nat -> List Bool -> Prop
 | one {q : Sq} {s0 s1 s2 : Nat} {v0 v1 v2 : List Bool} : ValB 0 L0 s0 q.ll v0 -> ValB 1 L1 s1 q.of v1 -> ValB 2 L2 s2 q.ml v2 -> Enc L0 L1 L2 [q] s0 s1 s2 (v0 ++ v2 ++ v1)
 | cons {q p : Sq} {r : List Sq} {s0 s1 s2 t0 t1 t2 : Nat} {B u0 u1 u2 v0 v1 v2 : List Bool} : Enc L0 L1 L2 (p :: r) t0 t1 t2 B -> StB L1 s1 t1 u1 -> StB L2 s2 t2 u2 -> StB L0 s0 t0 u0 →
  ValB 0 L0 s0 q.ll v0 -> ValB 1 L1 s1 q.of v1 -> ValB 2 L2 s2 q.ml v2 -> Enc L0 L1 L2 (q :: p :: r) s0 s1 s2 (B ++ u1 ++ u2 ++ u0 ++ v0 ++ v2 ++ v1)
theorem aqB {T B X u : List Bool} {x n : Nat} (hT : T.take (X ++ u).length = X ++ u) (hu : u = gU x n) (hx : x < 2 ^ n) : rdL T ((X ++ u).length : Nat) n = x /\ (((X ++ u).length : Nat) : Int) - n = ((X.length : Nat) : Int) /\ T.take X.length = X := by
 subst hu
 have hl : (X ++ gU x n).length = X.length + n := by rw [aI8, dQ]
 refine ⟨?_, by omega, ?_⟩
 .unfold rdL
  rw [aIY, hT, aBi hx]
 .have := congrArg (List.take X.length) hT
  rw [List.take_take, aJS (by omega), List.take_append_of_le_length (aI9 _), aJw (aI9 _)] at this
  exact this
theorem aiY {T X u : List Bool} {k : Nat} {L : List (Int × Int × Int)} {s v : Nat} (h : ValB k L s v u) (hT : T.take (X ++ u).length = X ++ u) : vR k L s T ((X ++ u).length : Nat) = (v, ((X.length : Nat) : Int)) /\ T.take X.length = X := by
 obtain ⟨c, e, hc, he, hec, hu⟩ := h
 have hs : sAt L s = c := by unfold sAt; rw [if_pos (by omega)]; simp [he, hec]
 obtain ⟨h1, h2, h3⟩ := aqB (B := []) hT hu (by have := hc.2.2; have := hc.2.1; omega)
 refine ⟨?_, h3⟩
 unfold vR
 rw [hs, h1, h2]
 have := hc.2.1
 congr 1
 omega
theorem aBl {T X u : List Bool} {L : List (Int × Int × Int)} {s t : Nat} (h : StB L s t u) (hT : T.take (X ++ u).length = X ++ u) : nR L s T ((X ++ u).length : Nat) = ((t : Int), ((X.length : Nat) : Int)) /\ T.take X.length = X := by
 obtain ⟨e, n, x, he, hn, hx, ht, hu⟩ := h
 have hb : bAt L s = n := by unfold bAt; rw [if_pos (by omega)]; simp [he, hn]
 obtain ⟨h1, h2, h3⟩ := aqB (B := []) hT hu hx
 refine ⟨?_, h3⟩
 unfold nR
 rw [hb, h1, h2]
 congr 1
 unfold nAt
 rw [if_pos (by omega)]
 simp only [aIY, he]
 exact ht
theorem aFv {L0 L1 L2 : List (Int × Int × Int)} {T : List Bool} {qs : List Sq} {s0 s1 s2 : Nat} {B : List Bool} (h : Enc L0 L1 L2 qs s0 s1 s2 B) : T.take B.length = B -> sqR L0 L1 L2 T qs.length s0 s1 s2 (B.length : Nat) = (qs, 0) := by
 induction h with
 | @one q s0 s1 s2 v0 v1 v2 h0 h1 h2 =>
   intro hT
   obtain ⟨a1, a2⟩ := aiY h1 hT
   obtain ⟨b1, b2⟩ := aiY h2 a2
   have b2' : T.take ([] ++ v0).length = [] ++ v0 := by simpa using b2
   obtain ⟨c1, c2⟩ := aiY h0 b2'
   rw [aJM] at c1
   show sqR L0 L1 L2 T (0 + 1) s0 s1 s2 _ = _
   rw [sqR]
   simp only [a1, b1, c1, if_true]
   rfl
 | @cons q p r s0 s1 s2 t0 t1 t2 B u0 u1 u2 v0 v1 v2 he g1 g2 g0 h0 h1 h2 ih =>
   intro hT
   obtain ⟨a1, a2⟩ := aiY h1 hT
   obtain ⟨b1, b2⟩ := aiY h2 a2
   obtain ⟨c1, c2⟩ := aiY h0 b2
   obtain ⟨d1, d2⟩ := aBl g0 c2
   obtain ⟨e1, e2⟩ := aBl g2 d2
   obtain ⟨f1, f2⟩ := aBl g1 e2
   have ih := ih f2
   show sqR L0 L1 L2 T ((r.length + 1) + 1) s0 s1 s2 _ = _
   rw [sqR, if_neg (by omega)]
   simp only [a1, b1, c1, d1, e1, f1]
   rw [show r.length + 1 = (p :: r).length from rfl, ih]
def Bn (k : Nat) : Nat := if k = 0 then 16 else 32
def Bt (k : Nat) : Nat := if k = 2 then 3 else 0
theorem Y4 {k : Nat} (h : k = 0 ∨ k = 2) : Bn k < lI k /\ lI k <= 53 := by rcases h with rfl | rfl <;> decide
theorem axM {k : Nat} (h : k = 0 ∨ k = 2) {c : Nat} (hc : c < Bn k) : (sG k).getD c 0 = Bt k + c /\ (lR k).getD c 0 = 0 := by
 have h0 : ∀ c, c < 32 -> c < Bn 0 -> (sG 0).getD c 0 = Bt 0 + c /\ (lR 0).getD c 0 = 0 := by decide +kernel
 have h2 : ∀ c, c < 32 -> c < Bn 2 -> (sG 2).getD c 0 = Bt 2 + c /\ (lR 2).getD c 0 = 0 := by decide +kernel
 have h32 : Bn k <= 32 := by rcases h with rfl | rfl <;> decide
 rcases h with rfl | rfl
 .exact h0 c (by omega) hc
 .exact h2 c (by omega) hc
theorem aHA {k : Nat} (h : k = 0 ∨ k = 2) : (sG k).getD (Bn k) 0 = Bt k + Bn k := by rcases h with rfl | rfl <;> decide
theorem aF9 {c : Nat} (hc : c < 32) : (sG 1).getD c 0 = 2 ^ c /\ (lR 1).getD c 0 = c := by
 have h0 : ∀ c, c < 32 -> (sG 1).getD c 0 = 2 ^ c /\ (lR 1).getD c 0 = c := by decide +kernel
 exact h0 c hc
def eS (k : Nat) : Nat -> Nat
 | 0 => (sG k).getD (Bn k) 0
 | i + 1 => eS k i + 2 ^ ((lR k).getD (Bn k + i) 0)
theorem auH {k : Nat} (h : k < 3) : ∀ i, Bn k + i < lI k -> eS k i = (sG k).getD (Bn k + i) 0
 | 0, _ => rfl
 | i + 1, hi => by
   rw [eS, auH h i (by omega), <- aKn, atQ h _ (by omega)]
theorem aH5 {k : Nat} (h : k = 0 ∨ k = 2) {c : Nat} (hc : c < lI k) : (sG k).getD c 0 + 2 ^ (lR k).getD c 0 <= 131075 := by
 have h0 : ∀ c, c < 53 -> c < lI 0 -> (sG 0).getD c 0 + 2 ^ (lR 0).getD c 0 <= 131075 := by decide +kernel
 have h2 : ∀ c, c < 53 -> c < lI 2 -> (sG 2).getD c 0 + 2 ^ (lR 2).getD c 0 <= 131075 := by decide +kernel
 have := (Y4 h).2
 rcases h with rfl | rfl
 .exact h0 c (by omega) hc
 .exact h2 c (by omega) hc
theorem aHY {k : Nat} (h : k = 0 ∨ k = 2) : ∀ {i : Nat}, Bn k + i <= lI k -> eS k i <= 131075
 | 0, _ => by rcases h with rfl | rfl <;> decide
 | i + 1, hi => by
   rw [eS, auH (by omega) i (by omega)]
   exact aH5 h (by omega)
theorem aGA {k : Nat} (h : k = 0 ∨ k = 2) {c : Nat} (hc : c < lI k) : (lR k).getD c 0 <= 16 := by
 have h0 : ∀ c, c < 53 -> c < lI 0 -> (lR 0).getD c 0 <= 16 := by decide +kernel
 have h2 : ∀ c, c < 53 -> c < lI 2 -> (lR 2).getD c 0 <= 16 := by decide +kernel
 have := (Y4 h).2
 rcases h with rfl | rfl
 .exact h0 c (by omega) hc
 .exact h2 c (by omega) hc
theorem aBs {k v : Nat} (h : k = 0 ∨ k = 2) (hv : v < Bt k) (c : Nat) : ¬ sV k v c := by
 intro hc
 have h0 : (sG k).getD 0 0 = Bt k := (axM h (c := 0) (by unfold Bn; split <;> omega)).1
 rcases aJU c with rfl | h1
 .have := hc.2.1; omega
 .have := Qd (show k < 3 by omega) h1 hc.1
  have := aJv ((lR k).getD 0 0)
  have := hc.2.1; omega
theorem azN (c : Nat) : ¬ sV 1 0 c := by
 intro hc
 have h1 : c < 32 := hc.1
 have := (aF9 h1).1
 have := aJv c
 have := hc.2.1
 omega
theorem aAg {k v : Nat} (h : k = 0 ∨ k = 2) (hv : eS k (lI k - Bn k) <= v) (c : Nat) : ¬ sV k v c := by
 intro hc
 have hp := (Y4 h).1
 have h1 := hc.1
 obtain ⟨m, hm⟩ : ∃ m, lI k - Bn k = m + 1 := ⟨lI k - Bn k - 1, by omega⟩
 rw [hm, eS, auH (by omega) m (by omega), show Bn k + m = lI k - 1 by omega] at hv
 rcases aJl c (lI k - 1) with h2 | h2
 .have := Qd (show k < 3 by omega) h2 (by omega)
  have := aJv ((lR k).getD (lI k - 1) 0)
  have := hc.2.2; omega
 .have : c = lI k - 1 := by omega
  subst this
  have := hc.2.2; omega
theorem axZ {v : Nat} (h0 : 0 < v) (hv : v < 4294967296) : sV 1 v (bl v - 1) := by
 have h1 := HL (k := v) (by omega)
 have h2 := Vg (k := v) (by omega)
 have h3 := W9 v
 have h4 : bl v <= 32 := tR (n := 32) hv
 have h5 := aF9 (c := bl v - 1) (by omega)
 refine ⟨show bl v - 1 < 32 by omega, by rw [h5.1]; exact h2, ?_⟩
 rw [h5.1, h5.2, <- Nat.two_mul, aJ8, <- aJp, show (bl v - 1).succ = bl v by omega]
 exact h3
theorem apK {k v : Nat} (h : k = 0 ∨ k = 2) (hl : Bt k <= v) (hv : v - Bt k < Bn k) : sV k v (v - Bt k) := by
 have hp := axM h hv
 have := (Y4 h).1
 exact ⟨by omega, by omega, by rw [hp.1, hp.2]; omega⟩
theorem auL {k v i : Nat} (h : k = 0 ∨ k = 2) (hi : Bn k + i < lI k) (hl : eS k i <= v) (hv : v < eS k i + 2 ^ ((lR k).getD (Bn k + i) 0)) : sV k v (Bn k + i) := by
 rw [auH (by omega) i hi] at hl hv
 exact ⟨hi, hl, hv⟩
end Go.Pu
namespace Go.Proofs.YtaggdjhhmbnhoaaDoor
open Go Go.En Go.Pu
set_option maxRecDepth 4000
theorem aF8 (x : Nat) (hx : x < 4294967296) (w : aLl) : aR pg uV #[.int .u32 x] w (fun r w' => r = .int .i64 (bl x : Nat) /\ w' = w) := by
 refine VG ?_
 unfold SW C7 CB
 have last : ∀ (y n : Nat), y < 256 -> n <= 64 -> n + bl y = bl x -> tG (fun r w' => r = .int .i64 (bl x : Nat) /\ w' = w) (.int .u32 y) (.int .i64 n) w := by
  intro y n hy hn e
  have hg := arE y hy
  have hs := Qr
  have hb : bl y <= 8 := tR (n := 8) (by omega)
  unfold tG
  change aC pg _ w fun t21 w => aC pg (IM 9 (.string axI) t21) w _
  simp (disch := omega) only [aC, rU, JG, aA, qD, aIY, hg, kX, aT, bN, and_true]
  rw [<- e] <;> rfl
 have step8 : ∀ (y n : Nat), y < 65536 -> n <= 32 -> n + bl y = bl x -> xP (fun r w' => r = .int .i64 (bl x : Nat) /\ w' = w) (.int .u32 y) (.int .i64 n) w := by
  intro y n hy hn e
  unfold xP CD
  by_cases h : 256 <= y
  .have d : decide ((256 : Int) <= (y : Int)) = true := by simp; omega
   have sh : ((y : Int)).fdiv (2 ^ (min 8 IntKind.u32.bits)) = ((y / 2 ^ 8 : Nat) : Int) := by
    rw [show min 8 IntKind.u32.bits = 8 from rfl, <- UA]; simp
   have hq : y / 2 ^ 8 < 256 := by omega
   have := Ug (x := y) (j := 8) (by omega)
   have e2 : (n : Int) + 8 = ((n + 8 : Nat) : Int) := by omega
   simp (disch := omega) only [aC, oD, d, vY, bN, e2, aT, aA, aF]
   rw [show (8 : Int).toNat = 8 from rfl, sh]
   exact last _ _ hq (by omega) (by rw [<- e, this]; omega)
  .have d : decide ((256 : Int) <= (y : Int)) = false := by simp; omega
   simp (disch := omega) only [aC, oD, d, vY, bN, aT, aA, aD]
   exact last _ _ (by omega) (by omega) e
 by_cases h : 65536 <= x
 .have d : decide ((65536 : Int) <= (x : Int)) = true := by simp; omega
  have sh : ((x : Int)).fdiv (2 ^ (min 16 IntKind.u32.bits)) = ((x / 2 ^ 16 : Nat) : Int) := by
   rw [show min 16 IntKind.u32.bits = 16 from rfl, <- UA]; simp
  have hq : x / 2 ^ 16 < 65536 := by omega
  have := Ug (x := x) (j := 16) (by omega)
  simp (disch := omega) only [aC, oD, d, vY, aA, aF]
  rw [show (16 : Int).toNat = 16 from rfl, sh]
  exact step8 _ 16 hq (by omega) (by rw [this]; omega)
 .have d : decide ((65536 : Int) <= (x : Int)) = false := by simp; omega
  simp (disch := omega) only [aC, oD, d, vY, aA, aD]
  exact step8 _ 0 (by omega) (by omega) (by omega)
theorem auI {k : Nat} (h : k = 0 ∨ k = 2) : ayJ (k : Int) = Bn k /\ aHa (k : Int) = Bt k /\ (asR (k : Int)).length = lI k - Bn k := by
 rcases h with rfl | rfl <;> exact ⟨rfl, rfl, rfl⟩
theorem azB {k : Nat} (h : k = 0 ∨ k = 2) {i : Nat} (hi : Bn k + i < lI k) : (asR (k : Int))[i]? = some (((lR k).getD (Bn k + i) 0 : Nat) : Int) := by
 have h0 : ∀ i, i < 53 -> Bn 0 + i < lI 0 -> (asR ((0 : Nat) : Int))[i]? = some (((lR 0).getD (Bn 0 + i) 0 : Nat) : Int) := by decide +kernel
 have h2 : ∀ i, i < 53 -> Bn 2 + i < lI 2 -> (asR ((2 : Nat) : Int))[i]? = some (((lR 2).getD (Bn 2 + i) 0 : Nat) : Int) := by decide +kernel
 have := (Y4 h).2
 rcases h with rfl | rfl
 .exact h0 i (by omega) hi
 .exact h2 i (by omega) hi
theorem aAz {k : Nat} (h : k < 3) : pP (k : Int) = ((lI k : Nat) : Int) - 1 := by
 rcases (show k = 0 ∨ k = 1 ∨ k = 2 by omega) with rfl | rfl | rfl <;> rfl
theorem ZF {n : Nat} (hn : n <= 31) : IntKind.u32.wrap (1 * 2 ^ (min n IntKind.u32.bits)) = ((2 ^ n : Nat) : Int) := by
 have hb : min n IntKind.u32.bits = n := aJS (by have : IntKind.u32.bits = 32 := rfl
                                                 omega)
 have hp : 2 ^ n <= 2 ^ 31 := aJa (by omega) hn
 rw [hb, Int.one_mul]
 have e : (2 : Int) ^ n = ((2 ^ n : Nat) : Int) := by simp
 rw [e]
 generalize 2 ^ n = y at *
 rw [show IntKind.u32.wrap (y : Int) = (y : Int) % 4294967296 from rfl]
 omega
theorem aEt {k c : Nat} {w : aLl} (hg : vW w) (hk : k < 3) (hc : c < lI k) :
 aR pg Et #[.int .i64 k, .int .i64 c] w (fun r w' => r = .tuple #[.int .u32 ((sG k).getD c 0 : Nat), .int .i64 ((lR k).getD c 0 : Nat), .int .i64 0] /\ aS w w' cI) := by
 refine anM ?_
 have hl53 : lI k <= 53 := by rcases (show k = 0 ∨ k = 1 ∨ k = 2 by omega) with rfl | rfl | rfl <;> decide
 unfold aoQ NJ PI
 simp (disch := omega) only [aC, aW, cK, mO, aIY, aA, oX, Qe, bM]
 refine (awH hg).mono ?_
 rintro r w1 ⟨rfl, x1⟩
 rw [aAz hk]
 have d1 : decide (((lI k : Nat) : Int) - 1 < 0) = false := by simp; omega
 have d2 : decide ((c : Int) < 0) = false := by simp
 have d3 : decide (((lI k : Nat) : Int) - 1 < (c : Int)) = false := by simp; omega
 by_cases h1 : k = 1
 .subst h1
  have n1 : (((1 : Nat) : Int) == 1) = true := rfl
  have hc32 : c < 32 := hc
  have hs := ZF (n := c) (by omega)
  have ho := aF9 hc32
  rw [ho.1, ho.2]
  simp (disch := omega) only [aW, d1, d2, dG, aI5, if_false, n1, hs, true_and, aF, bP, dO, d3, aA, aD]
  first | exact x1 | exact ⟨rfl, x1⟩
 have n1 : ((k : Int) == 1) = false := beq_eq_false_iff_ne.2 (by omega)
 have h02 : k = 0 ∨ k = 2 := by omega
 simp (disch := omega) only [aW, d1, d2, dG, aI5, if_false, n1, aD, bP, dO, d3, aA]
 refine (aFF (hg.ext x1)).mono ?_
 rintro r w2 ⟨mv, rfl, hs, x2⟩
 obtain ⟨rp, ra, rl⟩ := auI h02
 rw [rp, ra]
 have hpl := Y4 h02
 have hlow : Bt k <= 3 := by unfold Bt; split <;> omega
 have x12 := x1.seq x2
 by_cases hcp : c < Bn k
 .have d4 : decide ((c : Int) < ((Bn k : Nat) : Int)) = true := by simp; omega
  have hp := axM h02 hcp
  have e1 : IntKind.u32.wrap (c : Int) = c := by rw [show IntKind.u32.wrap (c : Int) = (c : Int) % 4294967296 from rfl]; omega
  have e2 : IntKind.u32.wrap (((Bt k : Nat) : Int) + (c : Int)) = ((Bt k + c : Nat) : Int) := by rw [show IntKind.u32.wrap (((Bt k : Nat) : Int) + (c : Int)) = (((Bt k : Nat) : Int) + (c : Int)) % 4294967296 from rfl]; omega
  rw [hp.1, hp.2]
  simp (disch := omega) only [Kh, Ka, J3, aA, bN, e2, aW, d4, oX, Qe, aF]
  first | exact x12 | exact ⟨rfl, x12⟩
 .have d4 : decide ((c : Int) < ((Bn k : Nat) : Int)) = false := by simp; omega
  obtain ⟨j, hj⟩ : ∃ j, c = Bn k + j := ⟨c - Bn k, by omega⟩
  have e1 : IntKind.u32.wrap ((Bn k : Nat) : Int) = ((Bn k : Nat) : Int) := by rw [show IntKind.u32.wrap ((Bn k : Nat) : Int) = ((Bn k : Nat) : Int) % 4294967296 from rfl]; omega
  have e2 : IntKind.u32.wrap (((Bt k : Nat) : Int) + ((Bn k : Nat) : Int)) = ((eS k 0 : Nat) : Int) := by
   rw [eS, aHA h02, show IntKind.u32.wrap (((Bt k : Nat) : Int) + ((Bn k : Nat) : Int)) = (((Bt k : Nat) : Int) + ((Bn k : Nat) : Int)) % 4294967296 from rfl]; omega
  have e3 : (c : Int) - ((Bn k : Nat) : Int) = (j : Int) := by omega
  simp (disch := omega) only [Kh, Ka, J3, aA, bN, Qe, aW, d4, oX, e1, e2, aD]
  unfold Ox Pd Pj
  obtain ⟨av, cv, rfl, hcv⟩ := hs.lenI
  have hs0 := hs
  obtain ⟨b, off, c', hv, hcc, hcell⟩ := hs.openI (by omega)
  cases hv
  have hget : ∀ i, Bn k + i < lI k -> w2.cell? ⟨b, off + i, none⟩ = some (.int .i64 ((lR k).getD (Bn k + i) 0 : Nat)) := by
   intro i hi
   have h1 := hcell i (by omega)
   have h2 := azB h02 hi
   rw [aI7 (by omega)] at h2
   rw [h1, aJj h2]
  have hsh : kL (some ⟨b, off, none⟩) cv 0 1 = some ⟨b, off, none⟩ := by unfold kL; split <;> simp [Addr.add]
  simp (disch := omega) only [aC, dZ, e3, aT, rl, aA, yC, hsh, aIY, aK6, dU]
  unfold NT NF
  refine cC.rule (fun m (t : aLm × aLm) w' => ∃ i : Nat, m = j - i /\ i <= j /\ t = (.int .u32 (eS k i : Nat), .int .i64 i) /\ w' = w2) j ⟨0, rfl, by omega, rfl, rfl⟩ ?_
  rintro m t w3 ⟨i, rfl, hi, rfl, hw⟩
  rw [hw]; clear hw w3
  unfold GY
  by_cases hlt : i < j
  .have d5 : decide ((i : Int) < (j : Int)) = true := by simp; omega
   have g1 := hget i (by omega)
   have ha := aGA h02 (c := Bn k + i) (by omega)
   have hsl := ZF (n := (lR k).getD (Bn k + i) 0) (by omega)
   have hle := aHY h02 (i := i + 1) (by omega)
   have hes : eS k (i + 1) = eS k i + 2 ^ ((lR k).getD (Bn k + i) 0) := rfl
   have e5 : IntKind.u32.wrap (((eS k i : Nat) : Int) + ((2 ^ ((lR k).getD (Bn k + i) 0) : Nat) : Int)) = ((eS k (i + 1) : Nat) : Int) := by
    rw [show IntKind.u32.wrap (((eS k i : Nat) : Int) + ((2 ^ ((lR k).getD (Bn k + i) 0) : Nat) : Int)) = (((eS k i : Nat) : Int) + ((2 ^ ((lR k).getD (Bn k + i) 0) : Nat) : Int)) % 4294967296 from rfl]
    omega
   generalize (lR k).getD (Bn k + i) 0 = nn at *
   simp (disch := omega) only [aC, aW, d5, dB, aIY, bN, aT, aA, bZ, g1, aG, mO, hsl, e5, and_true, aF]
   exact ⟨j - (i + 1), by omega, i + 1, rfl, by omega, rfl⟩
  .have d5 : decide ((i : Int) < (j : Int)) = false := by simp; omega
   obtain rfl : i = j := by omega
   have g1 := hget i (by omega)
   have g2 : (dr w2).cell? ⟨b, off + i, none⟩ = some (.int .i64 ((lR k).getD (Bn k + i) 0 : Nat)) := g1
   simp (disch := omega) only [aC, aW, d5, bN, aT, aA, aD]
   unfold Hi
   have hat := auH hk i (by omega)
   rw [<- hj] at hat g2
   simp (disch := omega) only [aC, dZ, e3, aT, true_and, aA, dB, aIY, bZ, g2, aG]
   exact ⟨by rw [hat], x12.seq (aS.dr _ _)⟩
end Go.Proofs.YtaggdjhhmbnhoaaDoor

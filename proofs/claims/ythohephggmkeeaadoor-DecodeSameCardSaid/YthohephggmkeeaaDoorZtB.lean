/- Parts of the proof of DecodeSame: merged and given short names by a program of ours. -/
import Derived.Test.YthohephggmkeeaaDoorZtA
set_option linter.unusedVariables false
set_option linter.unusedSimpArgs false
open Array renaming getElem?_modify → MR, getElem?_eq_none → MZ
open Bool renaming false_eq_true → LQ, not_false → LV, not_true → LW, and_eq_true → LY
open Int renaming toNat_natCast → LU, fdiv_eq_ediv_of_nonneg → Mr
open List renaming set_cons_zero → L2, getElem?_eq_getElem → L3, length_append → L4, set_cons_succ → L5, length_take → L6, length_drop → L7, length_replicate → L8, getElem?_cons_zero → LO, getElem?_cons_succ → LP, length_map → LZ, drop_of_length_le → M0, map_drop → M1, nil_append → MH, mem_cons → MJ, getElem?_map → MK, take_append_of_le_length → MM, append_nil → MW, getElem?_take_of_lt → MY, take_succ_cons → Ma, mem_cons_of_mem → Mb, length_cons → Mc, take_of_length_le → Mf, drop_zero → Mg, take_zero → Mh, append_assoc → Mi, getElem?_append_left → Mk, set_append_right → Mo, getD_eq_getElem?_getD → Mu, getElem?_append_right → My, cons_append → Mz
open Nat renaming zero_add → LX, sub_self → M8, mod_eq_of_lt → MA, pow_le_pow_right → MC, and_two_pow_sub_one_eq_mod → MD, mul_one → MF, min_eq_left → MI, lt_or_ge → MN, add_assoc → MS, add_mul → MT, le_refl → Md
open Option renaming isNone_some → LR, isNone_none → LS, map_some → Mm
open Option.some renaming inj → Ms
namespace Go.En
open Go
section
variable {P : Program} {w : Na} {t e : TypeId}
theorem GF {i : TypeInfo} {z : Nb} {n : Nat} {ps : List (Nat × Nb)} {cells : Array Nb} (hu : P.underlying t = some (.slice e)) (hi : P.info? e = some i) (hz : i.zero = some z)
 (h1 : ¬ n * i.size > 2 ^ 24) (h0 : ¬ n * i.size = 0) (hf : Instr.fill (fun j => some (j * i.size, i.size)) ((Array.range (n * i.size)).map (z.cells[· % z.cells.size]!)) ps = some cells)
 {K : Nb -> Na -> Prop} (hk : ∀ w', iA w' w.heap.size cells.toList -> gB w w' mZ -> w'.heap.size = w.heap.size + 1 -> K (.slice (some ⟨w.heap.size, 0, none⟩) n n) w') :
 dQ P (iD t n ps) w K := by
 have hz' : (zeroValue e).run P w = .ok z w := by simp [zeroValue, typeInfo, hi, hz]
 have : (iD t n ps).run P w = .ok (.value (.slice (some ⟨w.heap.size, 0, none⟩) n n)) (w.alloc (.cells cells.toList.toArray e)) := by
  unfold iD; rw [kI]
  simp only [Instr.buildSlice, underlying, pure_bind, Sem.run_bind, run_program, Result.andThen_ok, hu, Sem.run_pure, hG hi, h1, h0, if_false, hz', hf, newRow, run_newObj]
  rfl
 unfold dQ
 rw [this]
 exact hk _ (iA.alloc _ _ _) (gB.alloc _ _ _) (by simp)
theorem iA.mark {b : Nat} {cs : List Nb} (h : iA w b cs) : iA (w.freeze ⟨b, cs.length, none⟩ 1) b cs := by
 have hb := h.lt
 obtain ⟨T, lo, hi, h, k⟩ := h
 by_cases hlh : (lo == hi) = true
 .refine ⟨T, cs.length, cs.length + 1, ?_, .inl (Md _)⟩
  show (w.heap.modify b _)[b]? = _
  rw [MR, if_pos rfl, h]
  have hlh : lo = hi := by simpa using hlh
  simp [hlh]
 .refine ⟨T, min lo cs.length, max hi (cs.length + 1), ?_, .inl ?_⟩
  .show (w.heap.modify b _)[b]? = _
   rw [MR, if_pos rfl, h]
   have hlh : ¬ lo = hi := by simpa using hlh
   simp [hlh]
  .rcases k with k | k
   .omega
   .exfalso; apply hlh; rw [k]; simp
theorem gB.mark (w : Na) (a : Addr) : gB w (w.freeze a 1) (fun y => y = a.block) :=
 ⟨rfl, rfl, rfl, by show _ <= (w.heap.modify _ _).size; simp, fun b hb hn => by
  show (w.heap.modify a.block _)[b]? = _
  rw [MR]
  rw [if_neg (fun h => hn h.symm)]⟩
theorem Jn (hu : P.underlying t = some (.slice e)) (he : P.underlying e = some (.int .u8)) {b off n c : Nat} {cs : List Nb} (ho : iA w b cs)
 {K : Nb -> Na -> Prop} (hk : ∀ w', iA w' b cs -> gB w w' (fun y => y = b) -> w'.heap.size = w.heap.size -> K (.slice (some ⟨b, off, none⟩) n c) w') :
 dQ P (jF t t (.slice (some ⟨b, off, none⟩) n c)) w K := by
 obtain ⟨T, hs⟩ : ∃ T, w.shape? b = some (T, cs.length) := by
  obtain ⟨T, lo, hi, h, _⟩ := ho
  exact ⟨T, by unfold World.shape?; rw [h]; simp⟩
 have : (jF t t (.slice (some ⟨b, off, none⟩) n c)).run P w = .ok (.value (.slice (some ⟨b, off, none⟩) n c)) (w.freeze ⟨b, cs.length, none⟩ 1) := by
  unfold jF; rw [kI]
  simp [convert, underlying, hu, he, markStringish, shape, freeze, Sem.run, hs]
 unfold dQ
 rw [this]
 exact hk _ ho.mark (gB.mark w _) (by show (w.heap.modify _ _).size = _; simp)
end
section
variable {P : Program} {w : Na} {t e : TypeId}
def Grown (es : Array MapEntry) (clock : Nat) : Prop := (es.toList.map (·.born)).Pairwise (· < ·) /\ ∀ e ∈ es.toList, e.born < clock
def Mp {κ : Type} (w : Na) (m : Nat) (enc : κ -> Nb) (l : List (κ × Nb)) : Prop :=
 ∃ es clock, w.heap[m]? = some (.map es clock) /\ es.toList.map (fun e => (e.key, e.val)) = l.map (fun p => (enc p.1, p.2)) /\ Grown es clock /\ (l.map (·.1)).Nodup
theorem Mp.lt {κ : Type} {m : Nat} {enc : κ -> Nb} {l : List (κ × Nb)} (h : Mp w m enc l) : m < w.heap.size := by
 obtain ⟨es, c, h, _⟩ := h
 rcases MN m w.heap.size with h' | h'
 .exact h'
 .rw [MZ h'] at h; cases h
theorem Mp.ext {κ : Type} {w w' : Na} {m : Nat} {enc : κ -> Nb} {l : List (κ × Nb)} {M : Nat -> Prop} (h : Mp w m enc l) (hx : gB w w' M) (hM : ¬ M m) : Mp w' m enc l := by
 have := h.lt
 obtain ⟨es, c, h, k⟩ := h
 exact ⟨es, c, by rw [hx.keep m this hM]; exact h, k⟩
theorem Mp.dr {κ : Type} {w : Na} {m : Nat} {enc : κ -> Nb} {l : List (κ × Nb)} (h : Mp w m enc l) : Mp (dr w) m enc l := h
variable {κ : Type} [DecidableEq κ] {enc : κ -> Nb}
end
theorem iQ {w : Na} {b : Nat} {cs : List Nb} (h : iA w b cs) : iA (dr w) b cs := h.ext (gB.dr w mZ) (fun h => h)
theorem Sl.dr {w : Na} {v : Nb} {l : List Nb} (h : Sl w v l) : Sl (dr w) v l := h
theorem Sl.open {w : Na} {v : Nb} {l : List UInt8} (h : Bs w v l) (h0 : 0 < l.length) : ∃ b off c, v = .slice (some ⟨b, off, none⟩) l.length c /\ l.length <= c /\ ∀ i, (h : i < l.length) -> w.cell? ⟨b, off + i, none⟩ = some (pU l[i]) := by
 obtain ⟨a, n, c, rfl, hn, hc, h⟩ := h
 simp only [LZ] at hn
 subst hn
 obtain ⟨b, off, rfl, hh⟩ := h h0
 exact ⟨b, off, c, rfl, hc, fun i hi => by rw [hh i hi]; simp [hi]⟩
theorem Sl.len {w : Na} {v : Nb} {l : List Nb} (h : Sl w v l) : ∃ a c, v = .slice a l.length c /\ l.length <= c := by
 obtain ⟨a, n, c, rfl, rfl, hc, _⟩ := h
 exact ⟨a, c, rfl, hc⟩
theorem jV (v : Nb) : ¬ Co v mZ := by unfold Co mZ; split <;> simp
theorem Ei {b o m l : Nat} (h : l ≠ m) : iE (some ⟨b, o, none⟩) m l 1 = some ⟨b, o + l, none⟩ := by
 unfold iE; rw [if_neg (fun e => h e.symm)]; simp [vN]
theorem Dx.len {w : Na} {b sz n : Nat} {v : Nb} {l : List Nb} (h : Dx w b sz v n l) : ∃ a c, v = .slice a n c := by
 rcases h.2 with ⟨rfl, rfl⟩ | ⟨x, c, r, rfl, _⟩
 .exact ⟨_, _, rfl⟩
 .exact ⟨_, _, rfl⟩
theorem Sl.nil (w : Na) : Sl w (.slice none 0 0) [] := ⟨none, 0, 0, rfl, rfl, Md _, fun h => absurd h (by simp)⟩
theorem Sl.drop' {w : Na} {a : Option Addr} {n c : Nat} {l : List Nb} (h : Sl w (.slice a n c) l) {k : Nat} (hk : k <= n) : Sl w (.slice (iE a c k 1) (n - k) (c - k)) (l.drop k) := by
 have h' := h
 obtain ⟨a', n', c', e, hn, hc, hh⟩ := h'
 cases e
 by_cases h0 : n = 0
 .exact ⟨_, _, _, rfl, by rw [L7]; omega, by omega, fun h => by omega⟩
 .obtain ⟨b, off, rfl, _⟩ := hh (by omega)
  exact h.drop hk
theorem Sl.openV {w : Na} {v : Nb} {l : List Nb} (h : Sl w v l) (h0 : 0 < l.length) : ∃ b off c, v = .slice (some ⟨b, off, none⟩) l.length c /\ l.length <= c /\ ∀ i, (h : i < l.length) -> w.cell? ⟨b, off + i, none⟩ = some l[i] := by
 obtain ⟨a, n, c, rfl, hn, hc, h⟩ := h
 subst hn
 obtain ⟨b, off, rfl, hh⟩ := h h0
 exact ⟨b, off, c, rfl, hc, fun i hi => by rw [hh i hi]; simp [hi]⟩
theorem GC {P : Program} {w : Na} {t e : TypeId} {k k' : IntKind} {hi mx : Int} {i : TypeInfo} (hu : P.underlying t = some (.slice e)) (hi' : P.info? e = some i) (x : Option Addr) (n c : Nat) (h0 : 0 <= hi) (h1 : hi <= mx) (h2 : mx <= c) :
 (hP t (.slice x n c) none (some (.int k hi)) (some (.int k' mx))).run P w = .ok (.value (.slice (iE x mx.toNat 0 i.size) (hi.toNat - 0) (mx.toNat - 0))) w := by
 have h3 : (0 : Int) <= mx := by omega
 have h4 : hi <= (mx.toNat : Int) := by omega
 simp only [hP, kI, Instr.sliceAt, underlying, hu, Sem.run_bind, run_program, Result.andThen_ok, Sem.run_pure, Instr.slice, Instr.sliceBounds, pure_bind, kT h3 h2, kT h0 h4, hG hi', iE]
end Go.En
namespace Go.Proofs.YthohephggmkeeaaDoor
open Go Go.En
set_option maxRecDepth 4000
theorem cS {ty : TypeId} (x : Option Addr) (n c : Nat) (w : Na) : (pI .len #[22] ty [.slice x n c]).run pg w = .ok (.value (.int .i64 n)) w := Fa Tryd.underlying22 x n c
theorem cM {k : IntKind} (a : Int) (w : Na) : (jF 5 3 (.int k a)).run pg w = .ok (.value (.int .i64 (IntKind.i64.wrap a))) w := sQ Tryd.underlying5 Tryd.underlying3
theorem cC {k : IntKind} (a : Int) (w : Na) : (jF 23 3 (.int k a)).run pg w = .ok (.value (.int .i64 (IntKind.i64.wrap a))) w := sQ Tryd.underlying23 Tryd.underlying3
theorem BY : (pg).info? 5 = some Tryd.t5 := by kernel_rfl
theorem bW {k : IntKind} {hi : Int} (a : Option Addr) (n c : Nat) (w : Na) (h0 : 0 <= hi) (h1 : hi <= c) : (hP 22 (.slice a n c) none (some (.int k hi)) none).run pg w = .ok (.value (.slice (iE a c (0) 1) (hi.toNat - 0) (c - 0))) w := GZ Tryd.underlying22 BY _ n c h0 h1
theorem qZ {l : List UInt8} {v : Nb} {w : Na} (h : Bs w v l) : (jF 22 9 v).run pg w = .ok (.value (.string ⟨l.toArray⟩)) w := IN Tryd.underlying22 Tryd.underlying9 Tryd.underlying5 h
theorem cV {k : IntKind} {a : Int} (b o n c : Nat) (w : Na) (h0 : 0 <= a) (h1 : a < n) : (kG 22 (.slice (some ⟨b, o, none⟩) n c) (.int k a)).run pg w = .ok (.value (.pointer (some ⟨b, o + a.toNat, none⟩))) w := Bq rfl Tryd.underlying22 BY b o n c h0 h1
theorem dJ (x : Addr) (w : Na) : (fR 5 (.pointer (some x))).run pg w = Gz (w.cell? x) w (H4 pg 5 x w) := Fk Tryd.underlying5 rfl x w
theorem IC {b off : Nat} {cs : List Nb} {w : Na} {v : Nb} {K : Nb -> Na -> Prop} (ho : iA w b cs) (hv : one v = true) (h : off < cs.length) (hk : ∀ w', iA w' b (cs.set off v) -> gB w w' (fun x => x = b) -> w'.heap.size = w.heap.size -> K undef w') : dQ pg (fX 5 (.pointer (some ⟨b, off, none⟩)) v) w K := qM BY rfl ho hv h hk
theorem bV {ty : TypeId} (x : Option Addr) (n c : Nat) (w : Na) : (pI .len #[30] ty [.slice x n c]).run pg w = .ok (.value (.int .i64 n)) w := Fa Tryd.underlying30 x n c
theorem He : (pg).info? 22 = some Tryd.t22 := by kernel_rfl
theorem bU {k : IntKind} {a : Int} (b o n c : Nat) (w : Na) (h0 : 0 <= a) (h1 : a < n) : (kG 30 (.slice (some ⟨b, o, none⟩) n c) (.int k a)).run pg w = .ok (.value (.pointer (some ⟨b, o + a.toNat, none⟩))) w := Bq rfl Tryd.underlying30 He b o n c h0 h1
theorem cR (x : Addr) (w : Na) : (fR 22 (.pointer (some x))).run pg w = Gz (w.cell? x) w (H4 pg 22 x w) := Fk Tryd.underlying22 rfl x w
theorem tP {n : Nat} {ps : List (Nat × Nb)} {cells : Array Nb} {w : Na} (h1 : ¬ n * 1 > 2 ^ 24) (h0 : ¬ n * 1 = 0) (hf : Go.Instr.fill (fun j => some (j * 1, 1)) ((Array.range (n * 1)).map ((Tryd.t5.zero.get!).cells[· % (Tryd.t5.zero.get!).cells.size]!)) ps = some cells) {K : Nb -> Na -> Prop} (hk : ∀ w', iA w' w.heap.size cells.toList -> gB w w' mZ -> w'.heap.size = w.heap.size + 1 -> K (.slice (some ⟨w.heap.size, 0, none⟩) n n) w') : dQ pg (iD 22 n ps) w K := GF (i := Tryd.t5) Tryd.underlying22 BY rfl h1 h0 hf hk
theorem A5 {base n m : Nat} {ty : TypeId} {w : Na} {v x : Nb} {l news : List Nb} (h : Dx w base 1 v n l) (hx : Cl w 1 x m news) (hone : ∀ y ∈ news, one y = true) (hb : base <= w.heap.size) (hbytes : (n + m) * 1 <= 140737488355328) {K : Nb -> Na -> Prop} (hk : ∀ v' w', Dx w' base 1 v' (n + m) (l ++ news) -> gB w w' (fun y => base <= y) -> K v' w') : dQ pg (pI .append #[22, 22] ty [v, x]) w K := GD (i := Tryd.t5) Tryd.underlying22 Tryd.underlying22 BY rfl rfl rfl h hx hone hb (by omega) hbytes (by decide) hk
theorem cK {ty : TypeId} (x : Option Addr) (n c : Nat) (w : Na) : (pI .len #[34] ty [.slice x n c]).run pg w = .ok (.value (.int .i64 n)) w := Fa Tryd.underlying34 x n c
theorem Li : (pg).info? 23 = some Tryd.t23 := by kernel_rfl
theorem cO {k : IntKind} {a : Int} (b o n c : Nat) (w : Na) (h0 : 0 <= a) (h1 : a < n) : (kG 34 (.slice (some ⟨b, o, none⟩) n c) (.int k a)).run pg w = .ok (.value (.pointer (some ⟨b, o + a.toNat, none⟩))) w := Bq rfl Tryd.underlying34 Li b o n c h0 h1
theorem dC (x : Addr) (w : Na) : (fR 23 (.pointer (some x))).run pg w = Gz (w.cell? x) w (H4 pg 23 x w) := Fk Tryd.underlying23 rfl x w
theorem Dv {k : IntKind} {n : Int} {w : Na} {K : Nb -> Na -> Prop} (h0 : 0 <= n) (hn : 1 * n <= 2 ^ 48) (hk : ∀ w', iA w' w.heap.size (List.replicate n.toNat (.int .u8 0)) -> gB w w' mZ -> w'.heap.size = w.heap.size + 1 -> K (.slice (some ⟨w.heap.size, 0, none⟩) n.toNat n.toNat) w') : dQ pg (yY 22 (.int k n) (.int k n)) w K := I3 (i := Tryd.t5) Tryd.underlying22 BY rfl rfl rfl h0 hn (by omega) hk
theorem Ah {b off n c : Nat} {cs : List Nb} {w : Na} (ho : iA w b cs) {K : Nb -> Na -> Prop} (hk : ∀ w', iA w' b cs -> gB w w' (fun y => y = b) -> w'.heap.size = w.heap.size -> K (.slice (some ⟨b, off, none⟩) n c) w') : dQ pg (jF 22 22 (.slice (some ⟨b, off, none⟩) n c)) w K := Jn Tryd.underlying22 Tryd.underlying5 ho hk
theorem cN {k : IntKind} (a : Int) (w : Na) : (jF 3 5 (.int k a)).run pg w = .ok (.value (.int .u8 (IntKind.u8.wrap a))) w := sQ Tryd.underlying3 Tryd.underlying5
theorem Fi : (pg).info? 3 = some Tryd.t3 := by kernel_rfl
theorem dG {ty : TypeId} (x : Option Addr) (n c : Nat) (w : Na) : (pI .len #[37] ty [.slice x n c]).run pg w = .ok (.value (.int .i64 n)) w := Fa Tryd.underlying37 x n c
theorem cZ {k : IntKind} {a : Int} (b o n c : Nat) (w : Na) (h0 : 0 <= a) (h1 : a < n) : (kG 37 (.slice (some ⟨b, o, none⟩) n c) (.int k a)).run pg w = .ok (.value (.pointer (some ⟨b, o + a.toNat, none⟩))) w := Bq rfl Tryd.underlying37 Fi b o n c h0 h1
theorem dT (x : Addr) (w : Na) : (fR 3 (.pointer (some x))).run pg w = Gz (w.cell? x) w (H4 pg 3 x w) := Fk Tryd.underlying3 rfl x w
theorem dE {ox oy : Operand} (c d : Bool) (w : Na) : (fI .eql 4 ox oy (.bool c) (.bool d)).run pg w = .ok (.value (.bool (c == d))) w := Ks c d Tryd.underlying4
theorem cH {k : IntKind} (a : Int) (w : Na) : (jF 3 40 (.int k a)).run pg w = .ok (.value (.int .u64 (IntKind.u64.wrap a))) w := sQ Tryd.underlying3 Tryd.underlying40
theorem bH {k k' : IntKind} {lo hi : Int} (a : Option Addr) (n c : Nat) (w : Na) (h0 : 0 <= lo) (h1 : lo <= hi) (h2 : hi <= c) : (hP 22 (.slice a n c) (some (.int k lo)) (some (.int k' hi)) none).run pg w = .ok (.value (.slice (iE a c (lo.toNat) 1) (hi.toNat - lo.toNat) (c - lo.toNat))) w := Fo Tryd.underlying22 BY _ n c h0 h1 h2
theorem bO {k : IntKind} (a : Int) (w : Na) : (jF 40 5 (.int k a)).run pg w = .ok (.value (.int .u8 (IntKind.u8.wrap a))) w := sQ Tryd.underlying40 Tryd.underlying5
theorem aR (b o : Nat) (w : Na) : (fK 47 (.pointer (some ⟨b, o, none⟩)) 3).run pg w = .ok (.value (.pointer (some ⟨b, o + 3, none⟩))) w := jN (i := 3) Tryd.underlying47 rfl He (by decide) _
theorem aC (b o : Nat) (w : Na) : (fK 47 (.pointer (some ⟨b, o, none⟩)) 4).run pg w = .ok (.value (.pointer (some ⟨b, o + 4, none⟩))) w := jN (i := 4) Tryd.underlying47 rfl Fi (by decide) _
theorem aJ (b o : Nat) (w : Na) : (fK 47 (.pointer (some ⟨b, o, none⟩)) 5).run pg w = .ok (.value (.pointer (some ⟨b, o + 5, none⟩))) w := jN (i := 5) Tryd.underlying47 rfl Fi (by decide) _
theorem dD {ty : TypeId} (x : ByteArray) (w : Na) : (pI .len #[9] ty [.string x]).run pg w = .ok (.value (.int .i64 x.size)) w := Kp Tryd.underlying9 x
theorem aL (n0 : Int) (n1 : Int) (n2 : Int) (n3 : Int) (w : Na) : (hX 49 [(0, (.int .u64 n0)), (1, (.int .u64 n1)), (2, (.int .u64 n2)), (3, (.int .u64 n3))]).run pg w = .ok (.value (.agg #[(.int .u64 n0), (.int .u64 n1), (.int .u64 n2), (.int .u64 n3)])) w := by kernel_rfl
theorem JR : (pg).info? 49 = some Tryd.t49 := by kernel_rfl
theorem Ek : (pg).info? 40 = some Tryd.t40 := by kernel_rfl
theorem cG {k : IntKind} {a : Int} (b o : Nat) (w : Na) (h0 : 0 <= a) (h1 : a < 4) : (kG 49 (.pointer (some ⟨b, o, none⟩)) (.int k a)).run pg w = .ok (.value (.pointer (some ⟨b, o + a.toNat, none⟩))) w := Hu rfl Tryd.underlying49 Ek b o h0 (by simpa using h1)
theorem dF (x : Addr) (w : Na) : (fR 40 (.pointer (some x))).run pg w = Gz (w.cell? x) w (H4 pg 40 x w) := Fk Tryd.underlying40 rfl x w
theorem uP {b off : Nat} {cs : List Nb} {w : Na} {v : Nb} {K : Nb -> Na -> Prop} (ho : iA w b cs) (hv : one v = true) (h : off < cs.length) (hk : ∀ w', iA w' b (cs.set off v) -> gB w w' (fun x => x = b) -> w'.heap.size = w.heap.size -> K undef w') : dQ pg (fX 40 (.pointer (some ⟨b, off, none⟩)) v) w K := qM Ek rfl ho hv h hk
theorem dB {k : IntKind} {a : Int} (x : ByteArray) (w : Na) (h0 : 0 <= a) (h1 : a.toNat < x.size) : (Dc 9 (.string x) (.int k a)).run pg w = .ok (.value (.int .u8 (x[a.toNat]'h1).toNat)) w := J9 Tryd.underlying9 x h0 h1
theorem bN {k : IntKind} (a : Int) (w : Na) : (jF 5 40 (.int k a)).run pg w = .ok (.value (.int .u64 (IntKind.u64.wrap a))) w := sQ Tryd.underlying5 Tryd.underlying40
theorem aH (p0 : Option Addr) (n1 : Int) (n2 : Int) (w : Na) : (hX 47 [(0, (.pointer p0)), (1, (.int .u64 n1)), (2, (.int .i64 n2))]).run pg w = .ok (.value (.agg #[(.pointer p0), (.int .u64 n1), (.int .i64 n2), (.slice none 0 0), (.int .i64 0), (.int .i64 0)])) w := by kernel_rfl
theorem JP : (pg).info? 45 = some Tryd.t45 := by kernel_rfl
theorem bD (b o : Nat) (w : Na) : (fK 47 (.pointer (some ⟨b, o, none⟩)) 0).run pg w = .ok (.value (.pointer (some ⟨b, o, none⟩))) w := jN (i := 0) Tryd.underlying47 rfl JP (by decide) _
theorem aY (x : Addr) (w : Na) : (fR 45 (.pointer (some x))).run pg w = Gz (w.cell? x) w (H4 pg 45 x w) := Fk Tryd.underlying45 rfl x w
theorem cP {k : IntKind} {lo : Int} (x : ByteArray) (w : Na) (h0 : 0 <= lo) (h1 : lo <= x.size) : (hP 9 (.string x) (some (.int k lo)) none none).run pg w = .ok (.value (.string (x.extract lo.toNat x.size))) w := Gm Tryd.underlying9  x h0 h1
theorem aG (s0 : ByteArray) (w : Na) : (hX 58 [(0, (.string s0))]).run pg w = .ok (.value (.agg #[(.string s0), (.int .i64 0)])) w := by kernel_rfl
theorem aX (a0 : Option Addr) (l0 c0 : Nat) (w : Na) : (hX 63 [(0, (.slice a0 l0 c0))]).run pg w = .ok (.value (.agg #[(.slice a0 l0 c0), (.int .i64 0)])) w := by kernel_rfl
theorem aM {ox oy : Operand} (x : Option Addr) (w : Na) : (fI .eql 45 ox oy (.pointer x) (.pointer none)).run pg w = .ok (.value (.bool x.isNone)) w := Jb Tryd.underlying45 x
theorem aV (b o : Nat) (w : Na) : (fK 63 (.pointer (some ⟨b, o, none⟩)) 0).run pg w = .ok (.value (.pointer (some ⟨b, o, none⟩))) w := jN (i := 0) Tryd.underlying63 rfl He (by decide) _
theorem cU {k : IntKind} (a : Int) (w : Na) : (jF 3 35 (.int k a)).run pg w = .ok (.value (.int .u64 (IntKind.u64.wrap a))) w := sQ Tryd.underlying3 Tryd.underlying35
theorem I7 : (pg).info? 26 = some Tryd.t26 := by kernel_rfl
theorem aW (b o : Nat) (w : Na) : (fK 63 (.pointer (some ⟨b, o, none⟩)) 1).run pg w = .ok (.value (.pointer (some ⟨b, o + 1, none⟩))) w := jN (i := 1) Tryd.underlying63 rfl I7 (by decide) _
theorem cJ (x : Addr) (w : Na) : (fR 26 (.pointer (some x))).run pg w = Gz (w.cell? x) w (H4 pg 26 x w) := Fk Tryd.underlying26 rfl x w
theorem Hn : (pg).info? 67 = some Tryd.t67 := by kernel_rfl
theorem qD {w : Na} {K : Nb -> Na -> Prop} (hk : ∀ w', iA w' w.heap.size [(.int .u64 0), (.int .u64 0), (.bool false), (.bool false)] -> gB w w' mZ -> w'.heap.size = w.heap.size + 1 -> K (.pointer (some ⟨w.heap.size, 0, none⟩)) w') : dQ pg (pN 67) w K := Bt (i := Tryd.t67) Hn rfl hk
theorem iS {b off : Nat} {cs : List Nb} {w : Na} {xs : Array Nb} {K : Nb -> Na -> Prop} (ho : iA w b cs) (hs : xs.size = 4) (hv : ∀ x ∈ xs.toList, one x = true) (h : off + 4 <= cs.length) (hk : ∀ w', iA w' b (gE cs off xs.toList) -> gB w w' (fun x => x = b) -> w'.heap.size = w.heap.size -> K undef w') : dQ pg (fX 67 (.pointer (some ⟨b, off, none⟩)) (.agg xs)) w K := yP (v := .agg xs) Hn ho hs hv h hk
theorem bS {k : IntKind} {lo : Int} (a : Option Addr) (n c : Nat) (w : Na) (h0 : 0 <= lo) (h1 : lo <= n) : (hP 22 (.slice a n c) (some (.int k lo)) none none).run pg w = .ok (.value (.slice (iE a c (lo.toNat) 1) (n - lo.toNat) (c - lo.toNat))) w := G2 Tryd.underlying22 BY _ n c h0 h1
theorem Cd {b off : Nat} {cs : List Nb} {w : Na} {v : Nb} {K : Nb -> Na -> Prop} (ho : iA w b cs) (hv : one v = true) (h : off < cs.length) (hk : ∀ w', iA w' b (cs.set off v) -> gB w w' (fun x => x = b) -> w'.heap.size = w.heap.size -> K undef w') : dQ pg (fX 45 (.pointer (some ⟨b, off, none⟩)) v) w K := qM JP rfl ho hv h hk
theorem aD (b o : Nat) (w : Na) : (fK 67 (.pointer (some ⟨b, o, none⟩)) 0).run pg w = .ok (.value (.pointer (some ⟨b, o, none⟩))) w := jN (i := 0) Tryd.underlying67 rfl Ek (by decide) _
theorem aA (b o : Nat) (w : Na) : (fK 47 (.pointer (some ⟨b, o, none⟩)) 1).run pg w = .ok (.value (.pointer (some ⟨b, o + 1, none⟩))) w := jN (i := 1) Tryd.underlying47 rfl Ek (by decide) _
theorem Jv : (pg).info? 4 = some Tryd.t4 := by kernel_rfl
theorem aK (b o : Nat) (w : Na) : (fK 67 (.pointer (some ⟨b, o, none⟩)) 2).run pg w = .ok (.value (.pointer (some ⟨b, o + 2, none⟩))) w := jN (i := 2) Tryd.underlying67 rfl Jv (by decide) _
theorem dP (x : Addr) (w : Na) : (fR 4 (.pointer (some x))).run pg w = Gz (w.cell? x) w (H4 pg 4 x w) := Fk Tryd.underlying4 rfl x w
theorem aO (b o : Nat) (w : Na) : (fK 67 (.pointer (some ⟨b, o, none⟩)) 1).run pg w = .ok (.value (.pointer (some ⟨b, o + 1, none⟩))) w := jN (i := 1) Tryd.underlying67 rfl Ek (by decide) _
theorem aP (b o : Nat) (w : Na) : (fK 47 (.pointer (some ⟨b, o, none⟩)) 2).run pg w = .ok (.value (.pointer (some ⟨b, o + 2, none⟩))) w := jN (i := 2) Tryd.underlying47 rfl Fi (by decide) _
theorem bC (IB IP Ii : Nb) (w : Na) : (hX 80 [(2, (.agg #[IB, IP, Ii]))]).run pg w = .ok (.value (.agg #[(.slice none 0 0), (.int .i64 0), (.slice none 0 0), (.int .i64 0), (.slice none 0 0), (.int .i64 0), (.slice none 0 0), IB, IP, Ii])) w := by kernel_rfl
theorem Ho : (pg).info? 80 = some Tryd.t80 := by kernel_rfl
theorem AB {w : Na} {K : Nb -> Na -> Prop} (hk : ∀ w', iA w' w.heap.size [(.slice none 0 0), (.int .i64 0), (.slice none 0 0), (.int .i64 0), (.slice none 0 0), (.int .i64 0), (.slice none 0 0), (.int .u32 0), (.int .u32 0), (.int .u32 0)] -> gB w w' mZ -> w'.heap.size = w.heap.size + 1 -> K (.pointer (some ⟨w.heap.size, 0, none⟩)) w') : dQ pg (pN 80) w K := Bt (i := Tryd.t80) Ho rfl hk
theorem iH {b off : Nat} {cs : List Nb} {w : Na} {xs : Array Nb} {K : Nb -> Na -> Prop} (ho : iA w b cs) (hs : xs.size = 10) (hv : ∀ x ∈ xs.toList, one x = true) (h : off + 10 <= cs.length) (hk : ∀ w', iA w' b (gE cs off xs.toList) -> gB w w' (fun x => x = b) -> w'.heap.size = w.heap.size -> K undef w') : dQ pg (fX 80 (.pointer (some ⟨b, off, none⟩)) (.agg xs)) w K := yP (v := .agg xs) Ho ho hs hv h hk
theorem sX {b off : Nat} {cs : List Nb} {w : Na} (ho : iA w b cs) (h : off + 10 <= cs.length) : (fR 80 (.pointer (some ⟨b, off, none⟩))).run pg w = .ok (.value (.agg ((cs.drop off).take 10).toArray)) w := Ff Tryd.underlying80 rfl Ho ho h
theorem aQ (b o : Nat) (w : Na) : (fK 67 (.pointer (some ⟨b, o, none⟩)) 3).run pg w = .ok (.value (.pointer (some ⟨b, o + 3, none⟩))) w := jN (i := 3) Tryd.underlying67 rfl Jv (by decide) _
theorem Dw {b off : Nat} {cs : List Nb} {w : Na} {v : Nb} {K : Nb -> Na -> Prop} (ho : iA w b cs) (hv : one v = true) (h : off < cs.length) (hk : ∀ w', iA w' b (cs.set off v) -> gB w w' (fun x => x = b) -> w'.heap.size = w.heap.size -> K undef w') : dQ pg (fX 22 (.pointer (some ⟨b, off, none⟩)) v) w K := qM He rfl ho hv h hk
theorem Fg {b off : Nat} {cs : List Nb} {w : Na} {v : Nb} {K : Nb -> Na -> Prop} (ho : iA w b cs) (hv : one v = true) (h : off < cs.length) (hk : ∀ w', iA w' b (cs.set off v) -> gB w w' (fun x => x = b) -> w'.heap.size = w.heap.size -> K undef w') : dQ pg (fX 3 (.pointer (some ⟨b, off, none⟩)) v) w K := qM Fi rfl ho hv h hk
theorem cD {k : IntKind} (a : Int) (w : Na) : (jF 40 3 (.int k a)).run pg w = .ok (.value (.int .i64 (IntKind.i64.wrap a))) w := sQ Tryd.underlying40 Tryd.underlying3
theorem aE (b o : Nat) (w : Na) : (fK 58 (.pointer (some ⟨b, o, none⟩)) 1).run pg w = .ok (.value (.pointer (some ⟨b, o + 1, none⟩))) w := jN (i := 1) Tryd.underlying58 rfl I7 (by decide) _
theorem Fe {b off : Nat} {cs : List Nb} {w : Na} {v : Nb} {K : Nb -> Na -> Prop} (ho : iA w b cs) (hv : one v = true) (h : off < cs.length) (hk : ∀ w', iA w' b (cs.set off v) -> gB w w' (fun x => x = b) -> w'.heap.size = w.heap.size -> K undef w') : dQ pg (fX 26 (.pointer (some ⟨b, off, none⟩)) v) w K := qM I7 rfl ho hv h hk
theorem bZ {ox oy : Operand} (x : Option Addr) (n c : Nat) (w : Na) : (fI .eql 22 ox oy (.slice x n c) (.slice none 0 0)).run pg w = .ok (.value (.bool x.isNone)) w := Jx Tryd.underlying22 x n c
theorem bT {k k' : IntKind} {hi mx : Int} (a : Option Addr) (n c : Nat) (w : Na) (h0 : 0 <= hi) (h1 : hi <= mx) (h2 : mx <= c) : (hP 22 (.slice a n c) none (some (.int k hi)) (some (.int k' mx))).run pg w = .ok (.value (.slice (iE a mx.toNat 0 1) (hi.toNat - 0) (mx.toNat - 0))) w := GC Tryd.underlying22 BY a n c h0 h1 h2
theorem lV {b off : Nat} {cs : List Nb} {w : Na} (ho : iA w b cs) (h : off + 4 <= cs.length) {K : Nb -> Prop} (hk : K (.agg ((cs.drop off).take 4).toArray)) : Er pg 67 (.pointer (some ⟨b, off, none⟩)) w K := DU Tryd.underlying67 rfl Hn ho h hk
theorem bF  (w : Na) : (hX 67 []).run pg w = .ok (.value (.agg #[(.int .u64 0), (.int .u64 0), (.bool false), (.bool false)])) w := by kernel_rfl
theorem bB (b0 : Bool) (w : Na) : (hX 67 [(3, (.bool b0))]).run pg w = .ok (.value (.agg #[(.int .u64 0), (.int .u64 0), (.bool false), (.bool b0)])) w := by kernel_rfl
theorem aZ (n0 : Int) (n1 : Int) (n2 : Int) (n3 : Int) (w : Na) : (hX 87 [(0, (.int .i64 n0)), (1, (.int .i64 n1)), (2, (.int .i64 n2)), (3, (.int .i64 n3))]).run pg w = .ok (.value (.agg #[(.int .i64 n0), (.int .i64 n1), (.int .i64 n2), (.int .i64 n3)])) w := by kernel_rfl
theorem cX {k : IntKind} {a : Int} (cs : Array Nb) (w : Na) (h0 : 0 <= a) (h1 : a < 4) : (Dc 87 (.agg cs) (.int k a)).run pg w = Gz cs[a.toNat]? w (J8 pg 87 cs k a w) := IK Tryd.underlying87 Tryd.underlying3 rfl Fi rfl cs h0 (by simpa using h1)
theorem Jr {b off : Nat} {cs : List Nb} {w : Na} {v : Nb} {K : Nb -> Na -> Prop} (ho : iA w b cs) (hv : one v = true) (h : off < cs.length) (hk : ∀ w', iA w' b (cs.set off v) -> gB w w' (fun x => x = b) -> w'.heap.size = w.heap.size -> K undef w') : dQ pg (fX 4 (.pointer (some ⟨b, off, none⟩)) v) w K := qM Jv rfl ho hv h hk
theorem C2 {b off : Nat} {cs : List Nb} {w : Na} (ho : iA w b cs) (h : off + 4 <= cs.length) : (fR 67 (.pointer (some ⟨b, off, none⟩))).run pg w = .ok (.value (.agg ((cs.drop off).take 4).toArray)) w := Ff Tryd.underlying67 rfl Hn ho h
theorem Ja : (pg).info? 72 = some Tryd.t72 := by kernel_rfl
theorem C7 {b off : Nat} {cs : List Nb} {w : Na} (ho : iA w b cs) (h : off + 3 <= cs.length) {K : Nb -> Prop} (hk : K (.agg ((cs.drop off).take 3).toArray)) : Er pg 72 (.pointer (some ⟨b, off, none⟩)) w K := DU Tryd.underlying72 rfl Ja ho h hk
theorem DP {w : Na} {K : Nb -> Na -> Prop} (hk : ∀ w', iA w' w.heap.size [(.int .u32 0), (.int .u32 0), (.int .u32 0)] -> gB w w' mZ -> w'.heap.size = w.heap.size + 1 -> K (.pointer (some ⟨w.heap.size, 0, none⟩)) w') : dQ pg (pN 72) w K := Bt (i := Tryd.t72) Ja rfl hk
theorem aI (n0 : Int) (n1 : Int) (n2 : Int) (w : Na) : (hX 72 [(0, (.int .u32 n0)), (1, (.int .u32 n1)), (2, (.int .u32 n2))]).run pg w = .ok (.value (.agg #[(.int .u32 n0), (.int .u32 n1), (.int .u32 n2)])) w := by kernel_rfl
theorem CY {b off : Nat} {cs : List Nb} {w : Na} {xs : Array Nb} {K : Nb -> Na -> Prop} (ho : iA w b cs) (hs : xs.size = 3) (hv : ∀ x ∈ xs.toList, one x = true) (h : off + 3 <= cs.length) (hk : ∀ w', iA w' b (gE cs off xs.toList) -> gB w w' (fun x => x = b) -> w'.heap.size = w.heap.size -> K undef w') : dQ pg (fX 72 (.pointer (some ⟨b, off, none⟩)) (.agg xs)) w K := yP (v := .agg xs) Ja ho hs hv h hk
theorem kC {b off : Nat} {cs : List Nb} {w : Na} (ho : iA w b cs) (h : off + 10 <= cs.length) {K : Nb -> Prop} (hk : K (.agg ((cs.drop off).take 10).toArray)) : Er pg 80 (.pointer (some ⟨b, off, none⟩)) w K := DU Tryd.underlying80 rfl Ho ho h hk
theorem bJ  (w : Na) : (hX 80 []).run pg w = .ok (.value (.agg #[(.slice none 0 0), (.int .i64 0), (.slice none 0 0), (.int .i64 0), (.slice none 0 0), (.int .i64 0), (.slice none 0 0), (.int .u32 0), (.int .u32 0), (.int .u32 0)])) w := by kernel_rfl
theorem Iz : (pg).info? 90 = some Tryd.t90 := by kernel_rfl
theorem vS {w : Na} {K : Nb -> Na -> Prop} (hk : ∀ w', iA w' w.heap.size [(.bool false), (.int .i64 0), (.int .i64 0)] -> gB w w' mZ -> w'.heap.size = w.heap.size + 1 -> K (.pointer (some ⟨w.heap.size, 0, none⟩)) w') : dQ pg (pN 90) w K := Bt (i := Tryd.t90) Iz rfl hk
theorem qH {b off : Nat} {cs : List Nb} {w : Na} {xs : Array Nb} {K : Nb -> Na -> Prop} (ho : iA w b cs) (hs : xs.size = 3) (hv : ∀ x ∈ xs.toList, one x = true) (h : off + 3 <= cs.length) (hk : ∀ w', iA w' b (gE cs off xs.toList) -> gB w w' (fun x => x = b) -> w'.heap.size = w.heap.size -> K undef w') : dQ pg (fX 90 (.pointer (some ⟨b, off, none⟩)) (.agg xs)) w K := yP (v := .agg xs) Iz ho hs hv h hk
theorem aT (b o : Nat) (w : Na) : (fK 90 (.pointer (some ⟨b, o, none⟩)) 2).run pg w = .ok (.value (.pointer (some ⟨b, o + 2, none⟩))) w := jN (i := 2) Tryd.underlying90 rfl Fi (by decide) _
theorem aS (b o : Nat) (w : Na) : (fK 90 (.pointer (some ⟨b, o, none⟩)) 1).run pg w = .ok (.value (.pointer (some ⟨b, o + 1, none⟩))) w := jN (i := 1) Tryd.underlying90 rfl Fi (by decide) _
theorem aU (b o : Nat) (w : Na) : (fK 90 (.pointer (some ⟨b, o, none⟩)) 0).run pg w = .ok (.value (.pointer (some ⟨b, o, none⟩))) w := jN (i := 0) Tryd.underlying90 rfl Jv (by decide) _
theorem Lt : (pg).info? 9 = some Tryd.t9 := by kernel_rfl
theorem aF (b o : Nat) (w : Na) : (fK 58 (.pointer (some ⟨b, o, none⟩)) 0).run pg w = .ok (.value (.pointer (some ⟨b, o, none⟩))) w := jN (i := 0) Tryd.underlying58 rfl Lt (by decide) _
theorem dA (x : Addr) (w : Na) : (fR 9 (.pointer (some x))).run pg w = Gz (w.cell? x) w (H4 pg 9 x w) := Fk Tryd.underlying9 rfl x w
theorem cL {k : IntKind} {hi : Int} (x : ByteArray) (w : Na) (h0 : 0 <= hi) (h1 : hi <= x.size) : (hP 9 (.string x) none (some (.int k hi)) none).run pg w = .ok (.value (.string (x.extract 0 hi.toNat))) w := F9 Tryd.underlying9  x h0 h1
theorem AH {b off : Nat} {cs : List Nb} {w : Na} (ho : iA w b cs) (h : off + 3 <= cs.length) {K : Nb -> Prop} (hk : K (.agg ((cs.drop off).take 3).toArray)) : Er pg 90 (.pointer (some ⟨b, off, none⟩)) w K := DU Tryd.underlying90 rfl Iz ho h hk
theorem bP  (w : Na) : (hX 90 []).run pg w = .ok (.value (.agg #[(.bool false), (.int .i64 0), (.int .i64 0)])) w := by kernel_rfl
theorem aN (b0 : Bool) (n1 : Int) (n2 : Int) (w : Na) : (hX 90 [(0, (.bool b0)), (1, (.int .i64 n1)), (2, (.int .i64 n2))]).run pg w = .ok (.value (.agg #[(.bool b0), (.int .i64 n1), (.int .i64 n2)])) w := by kernel_rfl
theorem cW {k : IntKind} (a : Int) (w : Na) : (jF 35 3 (.int k a)).run pg w = .ok (.value (.int .i64 (IntKind.i64.wrap a))) w := sQ Tryd.underlying35 Tryd.underlying3
theorem A9 {ty : TypeId} {w : Na} {b off dl c : Nat} {cs : List Nb} (ho : iA w b cs) (hl : off + dl <= cs.length) {v : Nb} {l : List Nb} (h : Sl w v l) (hv : ∀ x ∈ l, one x = true) {K : Nb -> Na -> Prop} (hk : ∀ w', iA w' b (gE cs off (l.take (min l.length dl))) -> gB w w' (fun x => x = b) -> w'.heap.size = w.heap.size -> K (.int .i64 (min l.length dl : Nat)) w') : dQ pg (pI .copy #[22, 22] ty [.slice (some ⟨b, off, none⟩) dl c, v]) w K := IZ Tryd.underlying22 BY rfl ho hl h hv hk
theorem bX {k : IntKind} (a : Int) (w : Na) : (jF 35 70 (.int k a)).run pg w = .ok (.value (.int .u32 (IntKind.u32.wrap a))) w := sQ Tryd.underlying35 Tryd.underlying70
theorem bY {k : IntKind} (a : Int) (w : Na) : (jF 70 35 (.int k a)).run pg w = .ok (.value (.int .u64 (IntKind.u64.wrap a))) w := sQ Tryd.underlying70 Tryd.underlying35
theorem cB (IB IP Ii KY : Nb) (w : Na) : (hX 138 [(0, (.agg #[IB, IP, Ii, KY]))]).run pg w = .ok (.value (.agg #[IB, IP, Ii, KY, (.int .u8 0), (.int .u8 0), (.int .u8 0), (.int .u8 0), (.int .u8 0), (.int .u8 0), (.int .u8 0), (.int .u8 0), (.int .u8 0), (.int .u8 0), (.int .u8 0), (.int .u8 0), (.int .u8 0), (.int .u8 0), (.int .u8 0), (.int .u8 0), (.int .u8 0), (.int .u8 0), (.int .u8 0), (.int .u8 0), (.int .u8 0), (.int .u8 0), (.int .u8 0), (.int .u8 0), (.int .u8 0), (.int .u8 0), (.int .u8 0), (.int .u8 0), (.int .u8 0), (.int .u8 0), (.int .u8 0), (.int .u8 0), (.int .i64 0), (.int .u64 0)])) w := by kernel_rfl
theorem bQ {ox oy : Operand} (x : Option Addr) (w : Na) : (fI .eql 106 ox oy (.pointer x) (.pointer none)).run pg w = .ok (.value (.bool x.isNone)) w := Jb Tryd.underlying106 x
theorem bR (b o : Nat) (w : Na) : (fK 138 (.pointer (some ⟨b, o, none⟩)) 3).run pg w = .ok (.value (.pointer (some ⟨b, o + 37, none⟩))) w := jN (i := 3) Tryd.underlying138 rfl Ek (by decide) _
theorem Ky : (pg).info? 136 = some Tryd.t136 := by kernel_rfl
theorem bG (b o : Nat) (w : Na) : (fK 138 (.pointer (some ⟨b, o, none⟩)) 1).run pg w = .ok (.value (.pointer (some ⟨b, o + 4, none⟩))) w := jN (i := 1) Tryd.underlying138 rfl Ky (by decide) _
theorem cA (b o : Nat) (w : Na) : (fK 138 (.pointer (some ⟨b, o, none⟩)) 2).run pg w = .ok (.value (.pointer (some ⟨b, o + 36, none⟩))) w := jN (i := 2) Tryd.underlying138 rfl Fi (by decide) _
theorem bE {k : IntKind} {lo : Int} (b o : Nat) (w : Na) (h0 : 0 <= lo) (h1 : lo <= 32) : (hP 136 (.pointer (some ⟨b, o, none⟩)) (some (.int k lo)) none none).run pg w = .ok (.value (.slice (some (sU ⟨b, o, none⟩ 32 (lo.toNat) 1)) (32 - lo.toNat) (32 - lo.toNat))) w := FX Tryd.underlying136 BY _ h0 (by simpa using h1)
theorem cF (b o : Nat) (w : Na) : (fK 138 (.pointer (some ⟨b, o, none⟩)) 0).run pg w = .ok (.value (.pointer (some ⟨b, o, none⟩))) w := jN (i := 0) Tryd.underlying138 rfl JR (by decide) _
theorem bA {k k' : IntKind} {lo hi : Int} (b o : Nat) (w : Na) (h0 : 0 <= lo) (h1 : lo <= hi) (h2 : hi <= 32) : (hP 136 (.pointer (some ⟨b, o, none⟩)) (some (.int k lo)) (some (.int k' hi)) none).run pg w = .ok (.value (.slice (some (sU ⟨b, o, none⟩ 32 (lo.toNat) 1)) (hi.toNat - lo.toNat) (32 - lo.toNat))) w := Eu Tryd.underlying136 BY _ h0 h1 (by simpa using h2)
theorem bM {k : IntKind} {hi : Int} (b o : Nat) (w : Na) (h0 : 0 <= hi) (h1 : hi <= 32) : (hP 136 (.pointer (some ⟨b, o, none⟩)) none (some (.int k hi)) none).run pg w = .ok (.value (.slice (some (sU ⟨b, o, none⟩ 32 (0) 1)) (hi.toNat - 0) (32 - 0))) w := Gp Tryd.underlying136 BY _ h0 (by simpa using h1)
theorem bL {k : IntKind} (a : Int) (w : Na) : (jF 70 40 (.int k a)).run pg w = .ok (.value (.int .u64 (IntKind.u64.wrap a))) w := sQ Tryd.underlying70 Tryd.underlying40
theorem bK {k : IntKind} (a : Int) (w : Na) : (jF 40 70 (.int k a)).run pg w = .ok (.value (.int .u32 (IntKind.u32.wrap a))) w := sQ Tryd.underlying40 Tryd.underlying70
theorem DY {b off : Nat} {cs : List Nb} {w : Na} (ho : iA w b cs) (h : off + 4 <= cs.length) : (fR 49 (.pointer (some ⟨b, off, none⟩))).run pg w = .ok (.value (.agg ((cs.drop off).take 4).toArray)) w := Ff Tryd.underlying49 rfl JR ho h
theorem cI {k : IntKind} {a : Int} (cs : Array Nb) (w : Na) (h0 : 0 <= a) (h1 : a < 4) : (Dc 49 (.agg cs) (.int k a)).run pg w = Gz cs[a.toNat]? w (J8 pg 49 cs k a w) := IK Tryd.underlying49 Tryd.underlying40 rfl Ek rfl cs h0 (by simpa using h1)
end Go.Proofs.YthohephggmkeeaaDoor
namespace Go.Pu
def B6 (p : Int) : Int := if p < 0 then 1 else p
def fits : Int -> List Int -> Bool
 | left, [] => left == 0
 | left, p :: r => if p < -1 ∨ left < B6 p then false else fits (left - B6 p) r
def Fx (ps : List Int) : Int := (ps.map B6).sum
def JT (log : Int) (ps : List Int) : Bool := decide (5 <= log /\ log <= 15 /\ 1 <= ps.length /\ ps.length <= 256 /\ ps.getLast? ≠ some 0)
def KU (log : Int) (ps : List Int) : Bool := JT log ps && fits (2 ^ log.toNat) ps
theorem EJ (p : Int) (ps : List Int) : Fx (p :: ps) = B6 p + Fx ps := by simp [Fx]
theorem Ey {p : Int} (h : -1 <= p) : 0 <= B6 p := by unfold B6; split <;> omega
theorem FW {ps : List Int} (h : ∀ p ∈ ps, -1 <= p) : 0 <= Fx ps := by
 induction ps with
 | nil => simp [Fx]
 | cons p r ih =>
   rw [EJ]
   have := Ey (h p (by simp))
   have := ih fun q hq => h q (Mb _ hq)
   omega
theorem FI : ∀ {ps : List Int} {left : Int}, fits left ps = true ↔ (∀ p ∈ ps, -1 <= p) /\ Fx ps = left
 | [], left => by simp [fits, Fx]; constructor <;> intro h <;> omega
 | p :: r, left => by
   rw [fits, EJ]
   by_cases h : p < -1 ∨ left < B6 p
   .rw [if_pos h]
    constructor
    .intro h; cases h
    .rintro ⟨h1, h2⟩
     have hp := h1 p (by simp)
     have := FW (ps := r) fun q hq => h1 q (Mb _ hq)
     omega
   .rw [if_neg h, FI]
    constructor
    .rintro ⟨h1, h2⟩
     exact ⟨fun q hq => by rcases MJ.1 hq with rfl | hq; · omega
                           .exact h1 q hq, by omega⟩
    .rintro ⟨h1, h2⟩
     exact ⟨fun q hq => h1 q (Mb _ hq), by omega⟩
structure Lz (log : Nat) (ps : List Int) : Prop where
 log5 : 5 <= log
 log15 : log <= 15
 len1 : 1 <= ps.length
 len256 : ps.length <= 256
 last : ps.getLast? ≠ some 0
 low : ∀ p ∈ ps, -1 <= p
 sum : Fx ps = 2 ^ log
theorem Lz.b {log : Nat} {ps : List Int} (h : Lz log ps) : KU log ps = true := by
 unfold KU JT
 simp only [LY, decide_eq_true_eq]
 have h1 := h.log5
 have h2 := h.log15
 refine ⟨⟨by omega, by omega, h.len1, h.len256, h.last⟩, ?_⟩
 rw [FI, LU]
 exact ⟨h.low, h.sum⟩
def pos (n j : Nat) : Nat := (j * (n / 2 + n / 8 + 3)) % n
end Go.Pu
namespace Go.En
open Go
section
variable {P : Program} {w : Na} {t e : TypeId}
theorem F0 {i : TypeInfo} (hu : P.underlying t = some (.slice e)) (hi : P.info? e = some i)
 {K : Nb -> Na -> Prop} (hk : ∀ w', iA w' w.heap.size [] -> gB w w' mZ -> w'.heap.size = w.heap.size + 1 -> K (.slice (some ⟨w.heap.size, 0, none⟩) 0 0) w') :
 dQ P (iD t 0 []) w K := by
 have : (iD t 0 []).run P w = .ok (.value (.slice (some ⟨w.heap.size, 0, none⟩) 0 0)) (w.alloc (.cells ([] : List Nb).toArray e)) := by
  unfold iD; rw [kI]
  have h1 : ¬ (0 > 2 ^ 24) := by omega
  have e : ∀ f : Nat -> Nb, Array.map f (Array.range 0) = #[] := fun f => by simp
  simp only [Instr.buildSlice, underlying, pure_bind, Sem.run_bind, run_program, Result.andThen_ok, hu, Sem.run_pure, hG hi, Nat.zero_mul, h1, if_false, if_true, newRow, run_newObj, Instr.fill, e]
  rfl
 unfold dQ
 rw [this]
 exact hk _ (iA.alloc _ _ _) (gB.alloc _ _ _) (by simp)
def At (v : Nb) (b : Nat) : Prop := ∀ M : Nat -> Prop, ¬ M b -> ¬ Co v M
theorem At.nil (c b : Nat) (a : Option Addr) : At (.slice a 0 c) b := fun M h => by unfold Co; split <;> simp_all
theorem At.at (b o n c : Nat) : At (.slice (some ⟨b, o, none⟩) n c) b := fun M h => by
 unfold Co; split
 .rename_i x m _ e
  obtain ⟨rfl, _⟩ : (⟨b, o, none⟩ : Addr) = x /\ _ := by simpa using e
  exact h
 .simp
end
end Go.En
namespace Go.Proofs.YthohephggmkeeaaDoor
open Go Go.En Go.Pu
set_option maxRecDepth 4000
theorem J5 {w : Na} {v : Nb} {l : List UInt8} (h : Bs w v l) (h0 : 0 < l.length) : ∃ b off c, v = .slice (some ⟨b, off, none⟩) l.length c /\ l.length <= c /\ ∀ i, (h : i < l.length) -> w.cell? ⟨b, off + i, none⟩ = some (.int .u8 (l[i].toNat : Nat)) := by
 obtain ⟨b, off, c, rfl, hc, hcell⟩ := h.openV (by simpa using h0)
 refine ⟨b, off, c, by rw [LZ], by simpa using hc, fun i hi => ?_⟩
 have := hcell i (by simpa using hi)
 simpa [pU] using this
theorem JO {v : Nb} {l : List UInt8} {w : Na} (h : Bs w v l) (hl : l.length <= 1000000000) :
 fO pg lQ #[v] w (fun r w' => Dx w' w.heap.size 1 r l.length (l.map pU) /\ gB w w' mZ) := by
 refine Ag ?_
 have h1 := h
 obtain ⟨a, n, c, rfl, hn, hc, hh⟩ := h
 rw [LZ] at hn
 unfold wO oJ
 cases a with
 | none =>
   have h0 : l = [] := by
    cases l with
    | nil => rfl
    | cons x l => obtain ⟨b, off, h, _⟩ := hh (by simp at hn; omega); cases h
   subst h0
   simp (disch := omega) only [dQ, bZ, LS, cQ, dI]
   exact ⟨Dx.nil _ _ _, gB.refl _ _⟩
 | some x =>
   simp (disch := omega) only [dQ, bZ, LR, cQ, cY]
   refine F0 Tryd.underlying22 BY fun w1 o1 x1 s1 => ?_
   have hcl1 := (h1.ext x1 (jV _)).cl
   rw [LZ] at hcl1
   have hos : Dx w1 w.heap.size 1 (.slice (some ⟨w.heap.size, 0, none⟩) 0 0) 0 [] := ⟨rfl, .inr ⟨_, 0, [], rfl, Md _, o1, rfl, Md _⟩⟩
   refine A5 hos hcl1 (Gr _) x1.size (by omega) fun v3 w3 o3 x3 => ?_
   rw [LX, MH] at o3
   exact ⟨o3, x1.trans x3 fun b hb h => Nat.not_le_of_lt hb h⟩
def Kf (v : Nb) (lo hi : Nat) : Prop := ∀ M : Nat -> Prop, (∀ b, lo <= b -> b < hi -> ¬ M b) -> ¬ Co v M
theorem Dx.atI {w : Na} {base sz n : Nat} {v : Nb} {l : List Nb} (h : Dx w base sz v n l) : Kf v base w.heap.size := by
 intro M hM
 rcases h.2 with ⟨rfl, rfl⟩ | ⟨b, c, rest, rfl, h2, h3, h4, h5⟩
 .exact fun h => h
 .exact At.at b 0 n c M (hM b h2 h3.lt)
end Go.Proofs.YthohephggmkeeaaDoor
namespace Go.Pu
open Go Go.En
def KT (c : UInt8) : List Bool := (List.range 8).map c.toNat.testBit
def JX : List UInt8 -> List Bool
 | [] => []
 | c :: l => KT c ++ JX l
theorem Kn {x i : Nat} (h : x < 2 ^ i) (b : Nat) : x ||| (b * 2 ^ i) = x + 2 ^ i * b := by
 rw [Nat.or_comm, Nat.mul_comm b, <- Nat.two_pow_add_eq_or_of_lt h b, Nat.add_comm]
theorem Jy {a b : Nat} (ha : a < 2 ^ 64) (hb : b < 2 ^ 64) : KD .u64 (a : Int) (b : Int) = ((a ||| b : Nat) : Int) := by
 have h := Nat.or_lt_two_pow ha hb
 unfold KD
 have e : IntKind.u64.bits = 64 := rfl
 rw [e, BitVec.ofInt_natCast, BitVec.ofInt_natCast, BitVec.toNat_or, BitVec.toNat_ofNat, BitVec.toNat_ofNat, MA ha, MA hb]
 exact dY (by omega) (by have : ((a ||| b : Nat) : Int) < ((2 ^ 64 : Nat) : Int) := by exact_mod_cast h
                         omega)
end Go.Pu
namespace Go.Proofs.YthohephggmkeeaaDoor
open Go Go.En Go.Pu
set_option maxRecDepth 4000
def Lu (w : Na) (lo hi : Nat) (l : List UInt8) (st : Nat) : Prop := ∃ v, iA w hi [v, .int .i64 st] /\ Bs w v l /\ Kf v lo hi
theorem Lu.ext {w w' : Na} {lo hi st : Nat} {l : List UInt8} {M : Nat -> Prop} (h : Lu w lo hi l st) (hx : gB w w' M) (hM : ∀ b, lo <= b -> b <= hi -> ¬ M b) (hlh : lo <= hi) : Lu w' lo hi l st := by
 obtain ⟨v, h1, h2, h3⟩ := h
 exact ⟨v, h1.ext hx (hM _ hlh (Md _)), h2.ext hx (h3 M fun b hb hh => hM b hb (by omega)), h3⟩
theorem Kf.sub {a : Option Addr} {n c m c' k sz lo hi : Nat} (h : Kf (.slice a n c) lo hi) (hm : m <= n) : Kf (.slice (iE a c k sz) m c') lo hi := by
 intro M hM hin
 cases m with
 | zero => unfold Co at hin; split at hin <;> simp_all
 | succ m =>
   obtain ⟨n', rfl⟩ : ∃ n', n = n' + 1 := ⟨n - 1, by omega⟩
   have h1 := h M hM
   cases a with
   | none => unfold iE at hin; split at hin <;> exact hin
   | some x =>
     unfold iE at hin
     have h2 : M x.block := by
      split at hin
      .exact hin
      .rw [Mm] at hin
       have e : (x.add (k * sz)).block = x.block := by unfold Addr.add; split <;> rfl
       have h3 : M (x.add (k * sz)).block := hin
       rwa [e] at h3
     exact h1 h2
end Go.Proofs.YthohephggmkeeaaDoor
namespace Go.Pu
def lK : List UInt8 -> Nat
 | [] => 0
 | c :: l => c.toNat + 256 * lK l
theorem wE : ∀ l : List UInt8, lK l < 256 ^ l.length
 | [] => by simp [lK]
 | c :: l => by
   have := wE l
   have hc := c.toNat_lt
   rw [lK, Mc, Nat.pow_succ]; omega
theorem EM (c : UInt8) : ∀ l : List UInt8, lK (l ++ [c]) = lK l + 256 ^ l.length * c.toNat
 | [] => by simp [lK]
 | d :: l => by
   rw [Mz, lK, EM c l, lK, Mc, Nat.pow_succ, Nat.mul_add, MS, Nat.mul_comm (256 ^ l.length) 256, Nat.mul_assoc]
theorem Ic (i : Nat) : 256 ^ i = 2 ^ (8 * i) := by rw [Nat.pow_mul]
theorem JN (l : List UInt8) (c : UInt8) : lK l ||| (c.toNat * 2 ^ (8 * l.length)) = lK (l ++ [c]) := by
 have := wE l
 rw [Ic] at this
 rw [Kn this, EM, Ic]
end Go.Pu
namespace Go.Proofs.YthohephggmkeeaaDoor
open Go Go.En Go.Pu
set_option maxRecDepth 4000
def G3 (v : Nb) (S : Nat -> Prop) : Prop := ∀ M : Nat -> Prop, (∀ b, S b -> ¬ M b) -> ¬ Co v M
theorem Kf.toS {v : Nb} {lo hi : Nat} {S : Nat -> Prop} (h : Kf v lo hi) (hS : ∀ b, lo <= b -> b < hi -> S b) : G3 v S := fun M hM => h M fun b h1 h2 => hM b (hS b h1 h2)
theorem G3.mono {v : Nb} {S T : Nat -> Prop} (h : G3 v S) (hT : ∀ b, S b -> T b) : G3 v T := fun M hM => h M fun b hb => hM b (hT b hb)
theorem G3.nil (S : Nat -> Prop) : G3 (.slice none 0 0) S := fun M _ h => h
theorem G3.sub {a : Option Addr} {n c m c' k mx sz : Nat} {S : Nat -> Prop} (h : G3 (.slice a n c) S) (hm : m <= n) : G3 (.slice (iE a mx k sz) m c') S := by
 intro M hM hin
 cases m with
 | zero => unfold Co at hin; split at hin <;> simp_all
 | succ m =>
   obtain ⟨n', rfl⟩ : ∃ n', n = n' + 1 := ⟨n - 1, by omega⟩
   have h1 := h M hM
   cases a with
   | none => unfold iE at hin; split at hin <;> exact hin
   | some x =>
     unfold iE at hin
     have h2 : M x.block := by
      split at hin
      .exact hin
      .rw [Mm] at hin
       have e : (x.add (k * sz)).block = x.block := by unfold Addr.add; split <;> rfl
       have h3 : M (x.add (k * sz)).block := hin
       rwa [e] at h3
     exact h1 h2
theorem KL {w : Na} {a : Option Addr} {n c : Nat} {l : List Nb} (h : Sl w (.slice a n c) l) {k : Nat} (hk : k <= n) : Sl w (.slice (iE a k 0 1) (k - 0) (k - 0)) (l.take k) := by
 obtain ⟨a', n', c', e, hn, hc, h⟩ := h
 cases e
 refine ⟨_, _, _, rfl, by rw [L6]; omega, Md _, fun h0 => ?_⟩
 obtain ⟨b, off, rfl, h2⟩ := h (by omega)
 have hs : iE (some ⟨b, off, none⟩) k 0 1 = some ⟨b, off + 0 * 1, none⟩ := by unfold iE; rw [if_neg (by omega)] <;> rfl
 refine ⟨b, off, by rw [hs]; simp, fun i hi => ?_⟩
 rw [MY (by omega)]
 exact h2 i (by omega)
def As (w : Na) (lo hi p : Nat) (l : List UInt8) (e : Int) : Prop := lo <= p /\ p < hi /\ ∃ v, iA w p [v, .int .i64 e] /\ Bs w v l /\ G3 v (fun b => lo <= b /\ b < hi /\ b ≠ p)
theorem As.ext {w w' : Na} {lo hi p : Nat} {l : List UInt8} {e : Int} {M : Nat -> Prop} (h : As w lo hi p l e) (x : gB w w' M) (hM : ∀ b, lo <= b -> b < hi -> ¬ M b) : As w' lo hi p l e := by
 obtain ⟨h0, h0', v, h1, h2, h3⟩ := h
 exact ⟨h0, h0', v, h1.ext x (hM _ h0 h0'), h2.ext x (h3 M fun b hb => hM b hb.1 hb.2.1), h3⟩
theorem As.lt {w : Na} {lo hi p : Nat} {l : List UInt8} {e : Int} (h : As w lo hi p l e) : p < w.heap.size := by
 obtain ⟨_, _, v, h1, _⟩ := h; exact h1.lt
theorem tV {v : Nb} {l : List UInt8} {w : Na} (h : Bs w v l) (hl : l.length <= 1000000000) :
 fO pg iC #[v] w (fun r w' => ∃ p, r = .pointer (some ⟨p, 0, none⟩) /\ As w' w.heap.size w'.heap.size p l 0 /\ gB w w' mZ) := by
 refine AM ?_
 unfold zC pL
 refine (JO h hl).mono ?_
 rintro r w1 ⟨ho, x1⟩
 have hat := Dx.atI ho
 have hs := ho.sl
 obtain ⟨va, vc, rfl⟩ := ho.len
 simp (disch := omega) only [dQ, aX, cQ]
 refine DV fun w2 o2 x2 s2 => ?_
 have o2 : iA w2 w1.heap.size [.slice va l.length vc, .int .i64 0] := o2
 have hz := o2.lt
 exact ⟨w1.heap.size, rfl, ⟨x1.size, hz, _, o2, hs.ext x2 (jV _), hat.toS fun b h1 h2 => ⟨h1, by omega, by omega⟩⟩, x1.seq x2⟩
def sE (l : List UInt8) (e : Int) (n : Nat) : List UInt8 × List UInt8 × Int := if e ≠ 0 then ([], l, e) else if l.length < n then ([], l, 10) else (l.take n, l.drop n, 0)
theorem Gi {lo hi p n : Nat} {l : List UInt8} {e : Int} {w : Na} (h : As w lo hi p l e) (hl : l.length <= 1000000000) (hn : n <= 1000000000) :
 fO pg jO #[.pointer (some ⟨p, 0, none⟩), .int .i64 n, .bool true] w (fun r w' => Bs w' r (sE l e n).1 /\ G3 r (fun b => lo <= b /\ b < hi /\ b ≠ p) /\ As w' lo hi p (sE l e n).2.1 (sE l e n).2.2 /\ gB w w' (fun y => y = p)) := by
 refine yT ?_
 unfold vK nG
 have h' := h
 obtain ⟨h0, h0', v, o, hb, hat⟩ := h'
 obtain ⟨va, vc, rfl, hvc⟩ := hb.len
 rw [LZ] at hb hat o hvc
 have c0 := o.cell (off := 0)
 have c1 := o.cell (off := 1)
 simp only [LO, LP] at c0 c1
 by_cases he : e = 0
 rotate_left
 .have n1 : (e != 0) = true := by simpa using he
  have ht : sE l e n = ([], l, e) := by unfold sE; rw [if_pos he]
  rw [ht]
  simp (disch := omega) only [dQ, eA, eC, LW, cQ, aW, LX, aV, cR, cY, cJ, c1, dH, eB, n1, dI]
  exact ⟨Sl.nil _, G3.nil _, h, gB.refl _ _⟩
 subst he
 have n1 : ((0 : Int) != 0) = false := rfl
 by_cases hsh : l.length < n
 .have d1 : decide ((l.length : Int) < (n : Int)) = true := by simp; omega
  have ht : sE l 0 n = ([], l, 10) := by unfold sE; rw [if_neg (by decide), if_pos hsh]
  rw [ht]
  simp (disch := omega) only [dQ, eA, eC, LW, cQ, aW, LX, aV, cR, cY, cJ, c1, dH, eB, n1, c0, cS, eF, d1, dI]
  refine Fe o rfl (by simp) fun w1 o1 x1 s1 => ?_
  simp only [L2, L5] at o1
  exact ⟨Sl.nil _, G3.nil _, ⟨h0, h0', _, o1, hb.ext x1 (hat _ fun b hb => hb.2.2), hat⟩, x1⟩
 .have d1 : decide ((l.length : Int) < (n : Int)) = false := by simp; omega
  have ht : sE l 0 n = (l.take n, l.drop n, 0) := by unfold sE; rw [if_neg (by decide), if_neg hsh]
  rw [ht]
  simp (disch := omega) only [dQ, eA, eC, LW, cQ, aW, LX, aV, cR, cY, cJ, c1, dH, eB, n1, c0, cS, eF, d1, bT, LU, bS]
  refine Dw o rfl (by simp [one]) fun w1 o1 x1 s1 => ?_
  simp only [L2, L5] at o1
  have hbn : Bs w (.slice (iE va n 0 1) (n - 0) (n - 0)) (l.take n) := by
   have := KL hb (k := n) (by omega)
   rwa [<- List.map_take] at this
  have hbd : Bs w (.slice (iE va vc n 1) (l.length - n) (vc - n)) (l.drop n) := by
   have := hb.drop' (k := n) (by omega)
   rwa [<- M1] at this
  have hn1 := hat.sub (mx := n) (k := 0) (sz := 1) (m := n - 0) (c' := n - 0) (by omega)
  have hn2 := hat.sub (mx := vc) (k := n) (sz := 1) (m := l.length - n) (c' := vc - n) (by omega)
  exact ⟨hbn.ext x1 (hn1 _ fun b hb => hb.2.2), hn1, ⟨h0, h0', _, o1, hbd.ext x1 (hn2 _ fun b hb => hb.2.2), hn2⟩, x1⟩
theorem Bh {lo hi p : Nat} {l : List UInt8} {e : Int} {w : Na} (h : As w lo hi p l e) :
 fO pg hU #[.pointer (some ⟨p, 0, none⟩)] w (fun r w' => r = .int .i64 l.length /\ w' = w) := by
 refine zL ?_
 unfold uW nL
 obtain ⟨h0, h0', v, o, hb, hat⟩ := h
 obtain ⟨va, vc, rfl, hvc⟩ := hb.len
 rw [LZ] at hb hat o hvc
 have c0 := o.cell (off := 0)
 simp only [LO, LP] at c0
 simp (disch := omega) only [dQ, aM, LR, eA, cQ, aV, cR, and_true, c0, dH, cS, cY]
theorem wK {lo hi p : Nat} {l : List UInt8} {e : Int} {w : Na} (h : As w lo hi p l e) :
 fO pg fZ #[.pointer (some ⟨p, 0, none⟩)] w (fun r w' => r = .int .i64 e /\ w' = w) := by
 refine Au ?_
 unfold wH oD
 obtain ⟨h0, h0', v, o, hb, hat⟩ := h
 have c1 := o.cell (off := 1)
 simp only [LO, LP] at c1
 simp (disch := omega) only [dQ, aM, LR, eA, cQ, aW, LX, cJ, and_true, c1, dH, cY]
theorem Di {lo hi p n : Nat} {l : List UInt8} {e : Int} {w : Na} (h : As w lo hi p l e) (hl : l.length <= 1000000000) (hn : n <= 1000000000) :
 fO pg iK #[.pointer (some ⟨p, 0, none⟩), .int .i64 n] w (fun r w' => Bs w' r (sE l e n).1 /\ G3 r (fun b => lo <= b /\ b < hi /\ b ≠ p) /\ As w' lo hi p (sE l e n).2.1 (sE l e n).2.2 /\ gB w w' (fun y => y = p)) := by
 refine xU ?_
 unfold uG mN
 have d1 : decide ((0 : Int) <= (n : Int)) = true := by simp
 simp (disch := omega) only [dQ, aM, LR, eJ, d1, cQ, cY]
 refine (Gi h hl hn).mono ?_
 rintro r w1 hr
 exact hr
theorem oL {lo hi p n : Nat} {l : List UInt8} {e : Int} {w : Na} (h : As w lo hi p l e) (hl : l.length <= 1000000000) (hn : 1 <= n /\ n <= 8) :
 fO pg fT #[.pointer (some ⟨p, 0, none⟩), .int .i64 n] w (fun r w' => r = .int .u64 (lK (sE l e n).1 : Nat) /\ As w' lo hi p (sE l e n).2.1 (sE l e n).2.2 /\ gB w w' (fun y => y = p)) := by
 refine vW ?_
 unfold tM mD lX mA lT lU
 have d1 : decide ((1 : Int) <= (n : Int)) = true := by simp; omega
 have d2 : decide ((n : Int) <= 8) = true := by simp; omega
 simp (disch := omega) only [dQ, aM, LR, eJ, d1, cQ, dR, dS, if_true, dN, eM, d2, cY]
 refine (Gi h hl (by omega)).mono ?_
 rintro r w1 ⟨hb, hat, hr, x1⟩
 obtain ⟨t, ht⟩ : ∃ t, t = (sE l e n).1 := ⟨_, rfl⟩
 have htl : t.length <= 8 := by
  rw [ht]; unfold sE
  split
  .simp
  .split
   .simp
   .simp; omega
 rw [<- ht] at hb ⊢
 obtain ⟨va, vc, rfl, hvc⟩ := hb.len
 rw [LZ] at hb hvc hat
 simp (disch := omega) only [LZ, cS, cQ]
 unfold mE lZ
 refine iR.rule (fun m s w' => ∃ i : Nat, m = t.length - i /\ i <= t.length /\ s = (.int .u64 (lK (t.take i) : Nat), .int .i64 i) /\ w' = w1) t.length ⟨0, rfl, by omega, rfl, rfl⟩ ?_
 rintro m s w2 ⟨i, rfl, hi, rfl, hw⟩
 rw [hw]; clear hw w2
 unfold jT
 by_cases hlt : i < t.length
 .have d3 : decide ((i : Int) < (t.length : Int)) = true := by simp; omega
  obtain ⟨c, hc⟩ : ∃ c, c = t[i]'hlt := ⟨_, rfl⟩
  have htk : t.take (i + 1) = t.take i ++ [c] := by rw [List.take_add_one, L3 hlt, <- hc] <;> rfl
  have hor := JN (t.take i) c
  rw [<- htk, L6, MI (by omega)] at hor
  have hcl : c.toNat < 256 := UInt8.toNat_lt c
  obtain ⟨b, off, c', hv, hcc, hcell⟩ := hb.openV (by rw [LZ]; omega)
  have g1 := hcell i (by rw [LZ]; exact hlt)
  rw [LZ] at hv
  cases hv
  rw [List.getElem_map, <- hc] at g1
  simp only [pU] at g1
  generalize c.toNat = cx at *
  have hp : 2 ^ (8 * i) <= 2 ^ 56 := MC (by omega) (by omega)
  have hm : cx * 2 ^ (8 * i) <= 255 * 2 ^ 56 := Nat.mul_le_mul (by omega) hp
  have hb0 := wE (t.take i)
  have hb1 := wE (t.take (i + 1))
  rw [L6, MI (by omega)] at hb0 hb1
  have hq : 256 ^ i <= 256 ^ 7 := MC (by omega) (by omega)
  have e0 : ((8 : Int) * (i : Int)) = ((8 * i : Nat) : Int) := by omega
  have e5 : IntKind.u64.wrap ((cx : Int) * 2 ^ (min (8 * i) IntKind.u64.bits)) = ((cx * 2 ^ (8 * i) : Nat) : Int) := by
   rw [show min (8 * i) IntKind.u64.bits = 8 * i from MI (by have : IntKind.u64.bits = 64 := rfl
                                                             omega)]
   have e : (cx : Int) * 2 ^ (8 * i) = ((cx * 2 ^ (8 * i) : Nat) : Int) := by simp
   rw [e]
   exact dY (by omega) (by omega)
  have e6 := Jy (a := lK (t.take i)) (b := cx * 2 ^ (8 * i)) (by omega) (by omega)
  rw [hor] at e6
  have e7 : IntKind.u64.wrap (cx : Int) = (cx : Int) := dY (by omega) (by omega)
  simp (disch := omega) only [dQ, eI, d3, cV, LU, eK, e0, dZ, eE, cQ, cU, dY, dJ, g1, dH, bN, e7, eL, e5, fL, e6, and_true, dI]
  exact ⟨t.length - (i + 1), by omega, i + 1, rfl, by omega, rfl⟩
 .have d3 : decide ((i : Int) < (t.length : Int)) = false := by simp; omega
  obtain rfl : i = t.length := by omega
  simp (disch := omega) only [dQ, eI, d3, eK, dZ, eE, cQ, cU, dY, cY]
  unfold jU
  rw [List.take_length]
  exact ⟨rfl, hr, x1⟩
def DT (s : List UInt8 × Int) (n : Nat) : List UInt8 × Int := ((sE s.1 s.2 n).2.1, (sE s.1 s.2 n).2.2)
def Fl (s : List UInt8 × Int) (n : Nat) : Nat := lK (sE s.1 s.2 n).1
structure FH where
 window : Nat
 size : Nat
 known : Bool
 sum : Bool
def HO (w : Nat) : Nat := 2 ^ (10 + w / 8) + 2 ^ (10 + w / 8) / 8 * (w % 8)
def BD (d : Nat) : Bool := d / 32 % 2 == 1
def G1 (d : Nat) : Nat := if d % 4 = 3 then 4 else d % 4
def Cn (d : Nat) : Nat := if d / 64 = 0 then (if BD d then 1 else 0) else 2 ^ (d / 64)
def G7 (s : List UInt8 × Int) (n : Nat) : List UInt8 × Int := if 0 < n then DT s n else s
def Es (s : List UInt8 × Int) (n : Nat) : Nat := if 0 < n then Fl s n else 0
def Kc (s1 : List UInt8 × Int) (d : Nat) : List UInt8 × Int := if BD d then s1 else DT s1 1
def DQ (L : Nat) (s4 : List UInt8 × Int) (dict : Nat) (h : FH) : Except Int (FH × Nat) :=
 if s4.2 ≠ 0 then .error s4.2 else if dict ≠ 0 then .error 14 else .ok (h, L - s4.1.length)
def Jh (d x : Nat) : Nat := if Cn d = 2 then x + 256 else x
def Eb (L : Nat) (s1 : List UInt8 × Int) (d : Nat) : Except Int (FH × Nat) :=
 DQ L (G7 (G7 (Kc s1 d) (G1 d)) (Cn d)) (Es (Kc s1 d) (G1 d))
  ⟨if BD d then Jh d (Es (G7 (Kc s1 d) (G1 d)) (Cn d)) else HO (Fl s1 1), Jh d (Es (G7 (Kc s1 d) (G1 d)) (Cn d)), decide (0 < Cn d), d / 4 % 2 == 1⟩
def AJ (l : List UInt8) : Except Int (FH × Nat) :=
 if (DT (l, 0) 1).2 ≠ 0 then .error (DT (l, 0) 1).2 else if Fl (l, 0) 1 / 8 % 2 = 1 then .error 11 else Eb l.length (DT (l, 0) 1) (Fl (l, 0) 1)
def Lo (h : FH) : Nb := .agg #[.int .u64 (h.window : Nat), .int .u64 (h.size : Nat), .bool h.known, .bool h.sum]
def Je : Except Int (FH × Nat) -> Nb
 | .error e => .tuple #[Lo ⟨0, 0, false, false⟩, .int .i64 0, .int .i64 e]
 | .ok (h, n) => .tuple #[Lo h, .int .i64 (n : Nat), .int .i64 0]
def yU (h : FH) : List Nb := [.int .u64 (h.window : Nat), .int .u64 (h.size : Nat), .bool h.known, .bool h.sum]
theorem FO {RR : Nb -> Na -> Prop} {v : Nb} {L lo hi pr ph pt dict : Nat} {l : List UInt8} {e : Int} {h : FH} {z : FH} {w : Na} (hr : As w lo hi pr l e) (hl : l.length <= 1000000) (hv : ∃ a c, v = .slice a L c) (hL : l.length <= L) (hL2 : L <= 1000000) (oh : iA w ph (yU h)) (ot : iA w pt (yU z)) (hne : ph ≠ pt) (hpt : ¬ (lo <= pt /\ pt < hi))
 (hk : ∀ w', gB w w' (fun y => y = pt) -> RR (Je (DQ L (l, e) dict h)) w') :
 pY RR v (.pointer (some ⟨pt, 0, none⟩)) (.pointer (some ⟨pr, 0, none⟩)) (.pointer (some ⟨ph, 0, none⟩)) (.int .u64 (dict : Nat)) w := by
 unfold pY
 obtain ⟨a, c, rfl⟩ := hv
 refine (wK hr).mono ?_
 rintro r w1 ⟨rfl, rfl⟩
 unfold DQ at hk
 by_cases he : e = 0
 .subst he
  have n0 : ((0 : Int) != 0) = false := rfl
  simp only [ne_eq, not_true, if_false] at hk
  by_cases hd : dict = 0
  .subst hd
   have n1 : (((0 : Nat) : Int) != 0) = false := rfl
   simp only [ne_eq, not_true, if_false] at hk
   have hq := C2 (off := 0) (iQ oh) (by simp [yU])
   simp only [yU, Mg, Ma, Mh] at hq
   simp (disch := omega) only [dQ, fJ, cQ, stepR_skip, eE, eT, eK, fC, fB, eX, fL, fA, dK, eL, eN, eY, eB, eI, eM, eF, eJ, fD, eZ, eC, dS, eS, eQ, eA, gP, gQ, gT, gU, gV, gR, gW, gS, gO, dH, Result.ok.injEq, Next.value.injEq, true_and, and_true, dZ, dY, eP, eU, eH, fM, LU, dR, dV, dW, dU, dN, dM, dO, dL, dI, cY, if_true, if_false, LQ, LX, LR, LS, LW, LV, LP, LO, cS, cM, cC, bW, cV, dJ, bV, bU, cR, cK, cO, dC, cN, dG, cZ, dT, dE, cH, bH, bO, aR, aC, aJ, dD, aL, cG, dF, dB, bN, aH, bD, aY, cP, aG, aX, aM, aV, cU, aW, cJ, bS, aD, aA, aK, dP, aO, aP, bC, aQ, cD, aE, bZ, bT, bF, bB, aZ, cX, aI, bJ, aT, aS, aU, aF, dA, cL, bP, aN, cW, bX, bY, cB, bQ, bR, bG, cA, bE, cF, bA, bM, bL, bK, cI, n0, n1, hq]
   refine (Bh (hr.ext (gB.dr w1 mZ) (fun _ _ _ h => h))).mono ?_
   rintro r w2 ⟨rfl, rfl⟩
   have e1 : (L : Int) - (l.length : Int) = ((L - l.length : Nat) : Int) := by omega
   simp (disch := omega) only [dQ, fJ, cQ, stepR_skip, eE, eT, eK, fC, fB, eX, fL, fA, dK, eL, eN, eY, eB, eI, eM, eF, eJ, fD, eZ, eC, dS, eS, eQ, eA, gP, gQ, gT, gU, gV, gR, gW, gS, gO, dH, Result.ok.injEq, Next.value.injEq, true_and, and_true, dZ, dY, eP, eU, eH, fM, LU, dR, dV, dW, dU, dN, dM, dO, dL, dI, cY, if_true, if_false, LQ, LX, LR, LS, LW, LV, LP, LO, cS, cM, cC, bW, cV, dJ, bV, bU, cR, cK, cO, dC, cN, dG, cZ, dT, dE, cH, bH, bO, aR, aC, aJ, dD, aL, cG, dF, dB, bN, aH, bD, aY, cP, aG, aX, aM, aV, cU, aW, cJ, bS, aD, aA, aK, dP, aO, aP, bC, aQ, cD, aE, bZ, bT, bF, bB, aZ, cX, aI, bJ, aT, aS, aU, aF, dA, cL, bP, aN, cW, bX, bY, cB, bQ, bR, bG, cA, bE, cF, bA, bM, bL, bK, cI, hq, e1]
   refine iS (iQ ot) rfl (by simp [one]) (by simp [yU]) fun w3 o3 x3 s3 => ?_
   try simp (disch := omega) only [dQ, fJ, cQ, stepR_skip, eE, eT, eK, fC, fB, eX, fL, fA, dK, eL, eN, eY, eB, eI, eM, eF, eJ, fD, eZ, eC, dS, eS, eQ, eA, gP, gQ, gT, gU, gV, gR, gW, gS, gO, dH, Result.ok.injEq, Next.value.injEq, true_and, and_true, dZ, dY, eP, eU, eH, fM, LU, dR, dV, dW, dU, dN, dM, dO, dL, dI, cY, if_true, if_false, LQ, LX, LR, LS, LW, LV, LP, LO, cS, cM, cC, bW, cV, dJ, bV, bU, cR, cK, cO, dC, cN, dG, cZ, dT, dE, cH, bH, bO, aR, aC, aJ, dD, aL, cG, dF, dB, bN, aH, bD, aY, cP, aG, aX, aM, aV, cU, aW, cJ, bS, aD, aA, aK, dP, aO, aP, bC, aQ, cD, aE, bZ, bT, bF, bB, aZ, cX, aI, bJ, aT, aS, aU, aF, dA, cL, bP, aN, cW, bX, bY, cB, bQ, bR, bG, cA, bE, cF, bA, bM, bL, bK, cI, e1]
   refine lV o3 (by simp [gE, yU]) ?_
   simp only [gE, yU, L2, L5, Mg, Ma, Mh]
   exact hk w3 ((gB.dr w1 _).seq x3)
  .have n1 : ((dict : Int) != 0) = true := by simp; omega
   rw [if_pos hd] at hk
   simp (disch := omega) only [dQ, fJ, cQ, stepR_skip, eE, eT, eK, fC, fB, eX, fL, fA, dK, eL, eN, eY, eB, eI, eM, eF, eJ, fD, eZ, eC, dS, eS, eQ, eA, gP, gQ, gT, gU, gV, gR, gW, gS, gO, dH, Result.ok.injEq, Next.value.injEq, true_and, and_true, dZ, dY, eP, eU, eH, fM, LU, dR, dV, dW, dU, dN, dM, dO, dL, dI, cY, if_true, if_false, LQ, LX, LR, LS, LW, LV, LP, LO, cS, cM, cC, bW, cV, dJ, bV, bU, cR, cK, cO, dC, cN, dG, cZ, dT, dE, cH, bH, bO, aR, aC, aJ, dD, aL, cG, dF, dB, bN, aH, bD, aY, cP, aG, aX, aM, aV, cU, aW, cJ, bS, aD, aA, aK, dP, aO, aP, bC, aQ, cD, aE, bZ, bT, bF, bB, aZ, cX, aI, bJ, aT, aS, aU, aF, dA, cL, bP, aN, cW, bX, bY, cB, bQ, bR, bG, cA, bE, cF, bA, bM, bL, bK, cI, n0, n1]
   refine iS ot rfl (by simp [one]) (by simp [yU]) fun w3 o3 x3 s3 => ?_
   refine lV o3 (by simp [gE, yU]) ?_
   simp only [gE, yU, L2, L5, Mg, Ma, Mh]
   exact hk w3 x3
 .have n0 : (e != 0) = true := by simp [he]
  rw [if_pos he] at hk
  simp (disch := omega) only [dQ, fJ, cQ, stepR_skip, eE, eT, eK, fC, fB, eX, fL, fA, dK, eL, eN, eY, eB, eI, eM, eF, eJ, fD, eZ, eC, dS, eS, eQ, eA, gP, gQ, gT, gU, gV, gR, gW, gS, gO, dH, Result.ok.injEq, Next.value.injEq, true_and, and_true, dZ, dY, eP, eU, eH, fM, LU, dR, dV, dW, dU, dN, dM, dO, dL, dI, cY, if_true, if_false, LQ, LX, LR, LS, LW, LV, LP, LO, cS, cM, cC, bW, cV, dJ, bV, bU, cR, cK, cO, dC, cN, dG, cZ, dT, dE, cH, bH, bO, aR, aC, aJ, dD, aL, cG, dF, dB, bN, aH, bD, aY, cP, aG, aX, aM, aV, cU, aW, cJ, bS, aD, aA, aK, dP, aO, aP, bC, aQ, cD, aE, bZ, bT, bF, bB, aZ, cX, aI, bJ, aT, aS, aU, aF, dA, cL, bP, aN, cW, bX, bY, cB, bQ, bR, bG, cA, bE, cF, bA, bM, bL, bK, cI, n0]
  refine (wK hr).mono ?_
  rintro r w2 ⟨rfl, rfl⟩
  refine iS ot rfl (by simp [one]) (by simp [yU]) fun w3 o3 x3 s3 => ?_
  refine lV o3 (by simp [gE, yU]) ?_
  simp only [gE, yU, L2, L5, Mg, Ma, Mh]
  exact hk w3 x3
theorem FL {RR : Nb -> Na -> Prop} {v : Nb} {L lo hi pr ph pt dict : Nat} {l : List UInt8} {e : Int} {h : FH} {z : FH} {o : Bool} {w : Na} (hr : As w lo hi pr l e) (hl : l.length <= 1000000) (hv : ∃ a c, v = .slice a L c) (hL : l.length <= L) (hL2 : L <= 1000000) (oh : iA w ph (yU h)) (ot : iA w pt (yU z)) (hne : ph ≠ pt) (hpt : ¬ (lo <= pt /\ pt < hi)) (hph : ¬ (lo <= ph /\ ph < hi))
 (hk : ∀ w', gB w w' (fun y => y = pt ∨ y = ph) -> RR (Je (DQ L (l, e) dict ⟨if o then h.size else h.window, h.size, h.known, h.sum⟩)) w') :
 tC RR v (.pointer (some ⟨pt, 0, none⟩)) (.pointer (some ⟨pr, 0, none⟩)) (.pointer (some ⟨ph, 0, none⟩)) (.bool o) (.int .u64 (dict : Nat)) w := by
 unfold tC yD
 cases o with
 | false =>
   simp (disch := omega) only [dQ, fJ, cQ, stepR_skip, eE, eT, eK, fC, fB, eX, fL, fA, dK, eL, eN, eY, eB, eI, eM, eF, eJ, fD, eZ, eC, dS, eS, eQ, eA, gP, gQ, gT, gU, gV, gR, gW, gS, gO, dH, Result.ok.injEq, Next.value.injEq, true_and, and_true, dZ, dY, eP, eU, eH, fM, LU, dR, dV, dW, dU, dN, dM, dO, dL, dI, cY, if_true, if_false, LQ, LX, LR, LS, LW, LV, LP, LO, cS, cM, cC, bW, cV, dJ, bV, bU, cR, cK, cO, dC, cN, dG, cZ, dT, dE, cH, bH, bO, aR, aC, aJ, dD, aL, cG, dF, dB, bN, aH, bD, aY, cP, aG, aX, aM, aV, cU, aW, cJ, bS, aD, aA, aK, dP, aO, aP, bC, aQ, cD, aE, bZ, bT, bF, bB, aZ, cX, aI, bJ, aT, aS, aU, aF, dA, cL, bP, aN, cW, bX, bY, cB, bQ, bR, bG, cA, bE, cF, bA, bM, bL, bK, cI]
   exact FO hr hl hv hL hL2 oh ot hne hpt fun w' x => hk w' (x.mono fun _ _ h => .inl h)
 | true =>
   have c1 := oh.cell (off := 1)
   simp only [yU, LO, LP] at c1
   simp (disch := omega) only [dQ, fJ, cQ, stepR_skip, eE, eT, eK, fC, fB, eX, fL, fA, dK, eL, eN, eY, eB, eI, eM, eF, eJ, fD, eZ, eC, dS, eS, eQ, eA, gP, gQ, gT, gU, gV, gR, gW, gS, gO, dH, Result.ok.injEq, Next.value.injEq, true_and, and_true, dZ, dY, eP, eU, eH, fM, LU, dR, dV, dW, dU, dN, dM, dO, dL, dI, cY, if_true, if_false, LQ, LX, LR, LS, LW, LV, LP, LO, cS, cM, cC, bW, cV, dJ, bV, bU, cR, cK, cO, dC, cN, dG, cZ, dT, dE, cH, bH, bO, aR, aC, aJ, dD, aL, cG, dF, dB, bN, aH, bD, aY, cP, aG, aX, aM, aV, cU, aW, cJ, bS, aD, aA, aK, dP, aO, aP, bC, aQ, cD, aE, bZ, bT, bF, bB, aZ, cX, aI, bJ, aT, aS, aU, aF, dA, cL, bP, aN, cW, bX, bY, cB, bQ, bR, bG, cA, bE, cF, bA, bM, bL, bK, cI, c1]
   refine uP oh rfl (by simp [yU]) fun w1 o1 x1 s1 => ?_
   refine FO (h := ⟨h.size, h.size, h.known, h.sum⟩) (hr.ext x1 fun y h1 h2 h3 => hph (h3 ▸ ⟨h1, h2⟩)) hl hv hL hL2 o1 (ot.ext x1 (fun e => hne e.symm)) hne hpt fun w' x => hk w' ((x1.mono fun _ _ h => .inr h).seq (x.mono fun _ _ h => .inl h))
theorem FT {RR : Nb -> Na -> Prop} {v : Nb} {L lo hi pr ph pt dict n : Nat} {l : List UInt8} {e : Int} {h : FH} {z : FH} {o : Bool} {w : Na} (hn : n = 2 -> h.size < 65536) (hr : As w lo hi pr l e) (hl : l.length <= 1000000) (hv : ∃ a c, v = .slice a L c) (hL : l.length <= L) (hL2 : L <= 1000000) (oh : iA w ph (yU h)) (ot : iA w pt (yU z)) (hne : ph ≠ pt) (hpt : ¬ (lo <= pt /\ pt < hi)) (hph : ¬ (lo <= ph /\ ph < hi))
 (hk : ∀ w', gB w w' (fun y => y = pt ∨ y = ph) -> RR (Je (DQ L (l, e) dict ⟨if o then (if n = 2 then h.size + 256 else h.size) else h.window, if n = 2 then h.size + 256 else h.size, h.known, h.sum⟩)) w') :
 tH RR v (.pointer (some ⟨pt, 0, none⟩)) (.pointer (some ⟨pr, 0, none⟩)) (.pointer (some ⟨ph, 0, none⟩)) (.bool o) (.int .u64 (dict : Nat)) (.int .i64 (n : Nat)) w := by
 unfold tH wY
 by_cases h2 : n = 2
 .have n1 : ((n : Int) == 2) = true := by rw [h2] <;> rfl
  simp only [h2, if_true] at hk
  have hs := hn h2
  have c1 := oh.cell (off := 1)
  simp only [yU, LO, LP] at c1
  have e1 : (h.size : Int) + 256 = ((h.size + 256 : Nat) : Int) := by omega
  simp (disch := omega) only [dQ, fJ, cQ, stepR_skip, eE, eT, eK, fC, fB, eX, fL, fA, dK, eL, eN, eY, eB, eI, eM, eF, eJ, fD, eZ, eC, dS, eS, eQ, eA, gP, gQ, gT, gU, gV, gR, gW, gS, gO, dH, Result.ok.injEq, Next.value.injEq, true_and, and_true, dZ, dY, eP, eU, eH, fM, LU, dR, dV, dW, dU, dN, dM, dO, dL, dI, cY, if_true, if_false, LQ, LX, LR, LS, LW, LV, LP, LO, cS, cM, cC, bW, cV, dJ, bV, bU, cR, cK, cO, dC, cN, dG, cZ, dT, dE, cH, bH, bO, aR, aC, aJ, dD, aL, cG, dF, dB, bN, aH, bD, aY, cP, aG, aX, aM, aV, cU, aW, cJ, bS, aD, aA, aK, dP, aO, aP, bC, aQ, cD, aE, bZ, bT, bF, bB, aZ, cX, aI, bJ, aT, aS, aU, aF, dA, cL, bP, aN, cW, bX, bY, cB, bQ, bR, bG, cA, bE, cF, bA, bM, bL, bK, cI, n1, c1, e1]
  refine uP oh rfl (by simp [yU]) fun w1 o1 x1 s1 => ?_
  refine FL (h := ⟨h.window, h.size + 256, h.known, h.sum⟩) (hr.ext x1 fun y h1 h2 h3 => hph (h3 ▸ ⟨h1, h2⟩)) hl hv hL hL2 o1 (ot.ext x1 (fun e => hne e.symm)) hne hpt hph fun w' x => hk w' ((x1.mono fun _ _ h => .inr h).seq x)
 .have n1 : ((n : Int) == 2) = false := by simp; omega
  simp only [if_neg h2] at hk
  simp (disch := omega) only [dQ, fJ, cQ, stepR_skip, eE, eT, eK, fC, fB, eX, fL, fA, dK, eL, eN, eY, eB, eI, eM, eF, eJ, fD, eZ, eC, dS, eS, eQ, eA, gP, gQ, gT, gU, gV, gR, gW, gS, gO, dH, Result.ok.injEq, Next.value.injEq, true_and, and_true, dZ, dY, eP, eU, eH, fM, LU, dR, dV, dW, dU, dN, dM, dO, dL, dI, cY, if_true, if_false, LQ, LX, LR, LS, LW, LV, LP, LO, cS, cM, cC, bW, cV, dJ, bV, bU, cR, cK, cO, dC, cN, dG, cZ, dT, dE, cH, bH, bO, aR, aC, aJ, dD, aL, cG, dF, dB, bN, aH, bD, aY, cP, aG, aX, aM, aV, cU, aW, cJ, bS, aD, aA, aK, dP, aO, aP, bC, aQ, cD, aE, bZ, bT, bF, bB, aZ, cX, aI, bJ, aT, aS, aU, aF, dA, cL, bP, aN, cW, bX, bY, cB, bQ, bR, bG, cA, bE, cF, bA, bM, bL, bK, cI, n1]
  exact FL hr hl hv hL hL2 oh ot hne hpt hph hk
theorem Ix {RR : Nb -> Na -> Prop} {v : Nb} {L lo hi pr ph pt dict n : Nat} {s : List UInt8 × Int} {h : FH} {z : FH} {o : Bool} {w : Na} (hn8 : n <= 8) (hn : n = 2 -> h.size < 65536) (hk0 : h.known = false) (hs0 : h.size = 0) (hr : As w lo hi pr s.1 s.2) (hl : s.1.length <= 1000000) (hv : ∃ a c, v = .slice a L c) (hL : s.1.length <= L) (hL2 : L <= 1000000) (oh : iA w ph (yU h)) (ot : iA w pt (yU z)) (hne : ph ≠ pt) (hpt : ¬ (lo <= pt /\ pt < hi)) (hph : ¬ (lo <= ph /\ ph < hi)) (hpr : lo <= pr /\ pr < hi)
 (hk : ∀ w', gB w w' (fun y => y = pt ∨ y = ph ∨ y = pr) -> RR (Je (DQ L (G7 s n) dict ⟨if o then (if n = 2 then Es s n + 256 else Es s n) else h.window, if n = 2 then Es s n + 256 else Es s n, decide (0 < n), h.sum⟩)) w') :
 qA RR v (.pointer (some ⟨pt, 0, none⟩)) (.pointer (some ⟨pr, 0, none⟩)) (.pointer (some ⟨ph, 0, none⟩)) (.bool o) (.int .u64 (dict : Nat)) (.int .i64 (n : Nat)) w := by
 unfold qA xJ
 by_cases h0 : 0 < n
 .have d1 : decide ((n : Int) > 0) = true := decide_eq_true (by omega)
  have d2 : decide ((0 : Int) < (n : Int)) = true := decide_eq_true (by omega)
  unfold G7 Es at hk
  simp only [if_pos h0, decide_eq_true h0] at hk
  have hlt : Fl s n < 256 ^ n := by
   unfold Fl sE
   split
   .simp [lK]; exact Nat.pow_pos (by omega)
   .split
    .simp [lK]; exact Nat.pow_pos (by omega)
    .have := wE (s.1.take n)
     rw [L6, MI (by omega)] at this
     exact this
  have hle : (DT s n).1.length <= s.1.length := by
   unfold DT sE
   split
   .exact Md _
   .split
    .exact Md _
    .simp only [L7]; omega
  simp (disch := omega) only [dQ, fJ, cQ, stepR_skip, eE, eT, eK, fC, fB, eX, fL, fA, dK, eL, eN, eY, eB, eI, eM, eF, eJ, fD, eZ, eC, dS, eS, eQ, eA, gP, gQ, gT, gU, gV, gR, gW, gS, gO, dH, Result.ok.injEq, Next.value.injEq, true_and, and_true, dZ, dY, eP, eU, eH, fM, LU, dR, dV, dW, dU, dN, dM, dO, dL, dI, cY, if_true, if_false, LQ, LX, LR, LS, LW, LV, LP, LO, cS, cM, cC, bW, cV, dJ, bV, bU, cR, cK, cO, dC, cN, dG, cZ, dT, dE, cH, bH, bO, aR, aC, aJ, dD, aL, cG, dF, dB, bN, aH, bD, aY, cP, aG, aX, aM, aV, cU, aW, cJ, bS, aD, aA, aK, dP, aO, aP, bC, aQ, cD, aE, bZ, bT, bF, bB, aZ, cX, aI, bJ, aT, aS, aU, aF, dA, cL, bP, aN, cW, bX, bY, cB, bQ, bR, bG, cA, bE, cF, bA, bM, bL, bK, cI, d1, d2]
  refine (oL hr (by omega) ⟨h0, hn8⟩).mono ?_
  rintro r w1 ⟨rfl, hr1, x1⟩
  have oh1 := oh.ext x1 (fun e => hph (e ▸ hpr))
  have ot1 := ot.ext x1 (fun e => hpt (e ▸ hpr))
  refine uP oh1 rfl (by simp [yU]) fun w2 o2 x2 s2 => ?_
  refine Jr (off := 2) o2 rfl (by simp [yU]) fun w3 o3 x3 s3 => ?_
  have x23 := x2.seq x3
  refine FT (h := ⟨h.window, Fl s n, true, h.sum⟩) (l := (DT s n).1) (e := (DT s n).2) (fun h2 => by rw [h2] at hlt; rw [h2]; simpa using hlt) (hr1.ext x23 fun y h1 h2 h3 => hph (h3 ▸ ⟨h1, h2⟩)) (by omega) hv (by omega) hL2 o3 (ot1.ext x23 (fun e => hne e.symm)) hne hpt hph fun w' x => hk w' (((x1.mono fun _ _ h => .inr (.inr h)).seq (x23.mono fun _ _ h => .inr (.inl h))).seq (x.mono fun _ _ h => h.elim .inl fun h => .inr (.inl h)))
 .have d1 : decide ((n : Int) > 0) = false := decide_eq_false (by omega)
  have d2 : decide ((0 : Int) < (n : Int)) = false := decide_eq_false (by omega)
  unfold G7 Es at hk
  simp only [if_neg h0, decide_eq_false h0] at hk
  simp (disch := omega) only [dQ, fJ, cQ, stepR_skip, eE, eT, eK, fC, fB, eX, fL, fA, dK, eL, eN, eY, eB, eI, eM, eF, eJ, fD, eZ, eC, dS, eS, eQ, eA, gP, gQ, gT, gU, gV, gR, gW, gS, gO, dH, Result.ok.injEq, Next.value.injEq, true_and, and_true, dZ, dY, eP, eU, eH, fM, LU, dR, dV, dW, dU, dN, dM, dO, dL, dI, cY, if_true, if_false, LQ, LX, LR, LS, LW, LV, LP, LO, cS, cM, cC, bW, cV, dJ, bV, bU, cR, cK, cO, dC, cN, dG, cZ, dT, dE, cH, bH, bO, aR, aC, aJ, dD, aL, cG, dF, dB, bN, aH, bD, aY, cP, aG, aX, aM, aV, cU, aW, cJ, bS, aD, aA, aK, dP, aO, aP, bC, aQ, cD, aE, bZ, bT, bF, bB, aZ, cX, aI, bJ, aT, aS, aU, aF, dA, cL, bP, aN, cW, bX, bY, cB, bQ, bR, bG, cA, bE, cF, bA, bM, bL, bK, cI, d1, d2]
  refine FT (h := h) (l := s.1) (e := s.2) hn hr hl hv hL hL2 oh ot hne hpt hph fun w' x => ?_
  have := hk w' (x.mono fun _ _ h => h.elim .inl fun h => .inr (.inl h))
  rw [hs0, hk0]
  exact this
theorem Gn {RR : Nb -> Na -> Prop} {v : Nb} {L lo hi pr ph pt dict d : Nat} {s : List UInt8 × Int} {h : FH} {z : FH} {w : Na} (hd : d < 256) (hk0 : h.known = false) (hs0 : h.size = 0) (hr : As w lo hi pr s.1 s.2) (hl : s.1.length <= 1000000) (hv : ∃ a c, v = .slice a L c) (hL : s.1.length <= L) (hL2 : L <= 1000000) (oh : iA w ph (yU h)) (ot : iA w pt (yU z)) (hne : ph ≠ pt) (hpt : ¬ (lo <= pt /\ pt < hi)) (hph : ¬ (lo <= ph /\ ph < hi)) (hpr : lo <= pr /\ pr < hi)
 (hk : ∀ w', gB w w' (fun y => y = pt ∨ y = ph ∨ y = pr) -> RR (Je (DQ L (G7 s (Cn d)) dict ⟨if BD d then Jh d (Es s (Cn d)) else h.window, Jh d (Es s (Cn d)), decide (0 < Cn d), h.sum⟩)) w') :
 pW RR v (.pointer (some ⟨pt, 0, none⟩)) (.pointer (some ⟨pr, 0, none⟩)) (.int .i64 (d : Nat)) (.pointer (some ⟨ph, 0, none⟩)) (.bool (BD d)) (.int .u64 (dict : Nat)) w := by
 unfold pW yA
 have main : ∀ n : Nat, n = Cn d -> qA RR v (.pointer (some ⟨pt, 0, none⟩)) (.pointer (some ⟨pr, 0, none⟩)) (.pointer (some ⟨ph, 0, none⟩)) (.bool (BD d)) (.int .u64 (dict : Nat)) (.int .i64 (n : Nat)) w := by
  rintro n rfl
  refine Ix (h := h) (s := s) ?_ (fun _ => by omega) hk0 hs0 hr hl hv hL hL2 oh ot hne hpt hph hpr fun w' x => ?_
  .unfold Cn
   have : d / 64 = 0 ∨ d / 64 = 1 ∨ d / 64 = 2 ∨ d / 64 = 3 := by omega
   rcases this with h | h | h | h <;> rw [h] <;> simp
   split <;> omega
  .have := hk w' x
   unfold Jh at this
   exact this
 have h4 : d / 64 = 0 ∨ d / 64 = 1 ∨ d / 64 = 2 ∨ d / 64 = 3 := by omega
 have e6 : (d : Int).fdiv (2 ^ min (Int.toNat 6) IntKind.i64.bits) = ((d / 64 : Nat) : Int) := by
  have : (2 : Int) ^ min (Int.toNat 6) IntKind.i64.bits = 64 := by decide
  rw [this, Mr _ (by omega)]; omega
 rcases h4 with h4 | h4 | h4 | h4 <;> rw [h4] at e6
 .cases ho : BD d with
  | true =>
    have e : 1 = Cn d := by unfold Cn; rw [h4, ho] <;> rfl
    have := main 1 e
    rw [ho] at this
    simp (disch := omega) only [dQ, fJ, cQ, stepR_skip, eE, eT, eK, fC, fB, eX, fL, fA, dK, eL, eN, eY, eB, eI, eM, eF, eJ, fD, eZ, eC, dS, eS, eQ, eA, gP, gQ, gT, gU, gV, gR, gW, gS, gO, dH, Result.ok.injEq, Next.value.injEq, true_and, and_true, dZ, dY, eP, eU, eH, fM, LU, dR, dV, dW, dU, dN, dM, dO, dL, dI, cY, if_true, if_false, LQ, LX, LR, LS, LW, LV, LP, LO, cS, cM, cC, bW, cV, dJ, bV, bU, cR, cK, cO, dC, cN, dG, cZ, dT, dE, cH, bH, bO, aR, aC, aJ, dD, aL, cG, dF, dB, bN, aH, bD, aY, cP, aG, aX, aM, aV, cU, aW, cJ, bS, aD, aA, aK, dP, aO, aP, bC, aQ, cD, aE, bZ, bT, bF, bB, aZ, cX, aI, bJ, aT, aS, aU, aF, dA, cL, bP, aN, cW, bX, bY, cB, bQ, bR, bG, cA, bE, cF, bA, bM, bL, bK, cI, e6, h4]
    exact this
  | false =>
    have e : 0 = Cn d := by unfold Cn; rw [h4, ho] <;> rfl
    have := main 0 e
    rw [ho] at this
    simp (disch := omega) only [dQ, fJ, cQ, stepR_skip, eE, eT, eK, fC, fB, eX, fL, fA, dK, eL, eN, eY, eB, eI, eM, eF, eJ, fD, eZ, eC, dS, eS, eQ, eA, gP, gQ, gT, gU, gV, gR, gW, gS, gO, dH, Result.ok.injEq, Next.value.injEq, true_and, and_true, dZ, dY, eP, eU, eH, fM, LU, dR, dV, dW, dU, dN, dM, dO, dL, dI, cY, if_true, if_false, LQ, LX, LR, LS, LW, LV, LP, LO, cS, cM, cC, bW, cV, dJ, bV, bU, cR, cK, cO, dC, cN, dG, cZ, dT, dE, cH, bH, bO, aR, aC, aJ, dD, aL, cG, dF, dB, bN, aH, bD, aY, cP, aG, aX, aM, aV, cU, aW, cJ, bS, aD, aA, aK, dP, aO, aP, bC, aQ, cD, aE, bZ, bT, bF, bB, aZ, cX, aI, bJ, aT, aS, aU, aF, dA, cL, bP, aN, cW, bX, bY, cB, bQ, bR, bG, cA, bE, cF, bA, bM, bL, bK, cI, e6, h4]
    exact this
 .have e : 2 = Cn d := by unfold Cn; rw [h4] <;> rfl
  simp (disch := omega) only [dQ, fJ, cQ, stepR_skip, eE, eT, eK, fC, fB, eX, fL, fA, dK, eL, eN, eY, eB, eI, eM, eF, eJ, fD, eZ, eC, dS, eS, eQ, eA, gP, gQ, gT, gU, gV, gR, gW, gS, gO, dH, Result.ok.injEq, Next.value.injEq, true_and, and_true, dZ, dY, eP, eU, eH, fM, LU, dR, dV, dW, dU, dN, dM, dO, dL, dI, cY, if_true, if_false, LQ, LX, LR, LS, LW, LV, LP, LO, cS, cM, cC, bW, cV, dJ, bV, bU, cR, cK, cO, dC, cN, dG, cZ, dT, dE, cH, bH, bO, aR, aC, aJ, dD, aL, cG, dF, dB, bN, aH, bD, aY, cP, aG, aX, aM, aV, cU, aW, cJ, bS, aD, aA, aK, dP, aO, aP, bC, aQ, cD, aE, bZ, bT, bF, bB, aZ, cX, aI, bJ, aT, aS, aU, aF, dA, cL, bP, aN, cW, bX, bY, cB, bQ, bR, bG, cA, bE, cF, bA, bM, bL, bK, cI, e6, h4]
  cases ho : BD d <;> (simp (disch := omega) only [dQ, fJ, cQ, stepR_skip, eE, eT, eK, fC, fB, eX, fL, fA, dK, eL, eN, eY, eB, eI, eM, eF, eJ, fD, eZ, eC, dS, eS, eQ, eA, gP, gQ, gT, gU, gV, gR, gW, gS, gO, dH, Result.ok.injEq, Next.value.injEq, true_and, and_true, dZ, dY, eP, eU, eH, fM, LU, dR, dV, dW, dU, dN, dM, dO, dL, dI, cY, if_true, if_false, LQ, LX, LR, LS, LW, LV, LP, LO, cS, cM, cC, bW, cV, dJ, bV, bU, cR, cK, cO, dC, cN, dG, cZ, dT, dE, cH, bH, bO, aR, aC, aJ, dD, aL, cG, dF, dB, bN, aH, bD, aY, cP, aG, aX, aM, aV, cU, aW, cJ, bS, aD, aA, aK, dP, aO, aP, bC, aQ, cD, aE, bZ, bT, bF, bB, aZ, cX, aI, bJ, aT, aS, aU, aF, dA, cL, bP, aN, cW, bX, bY, cB, bQ, bR, bG, cA, bE, cF, bA, bM, bL, bK, cI]; rw [<- ho]; exact main 2 e)
 .have e : 4 = Cn d := by unfold Cn; rw [h4] <;> rfl
  simp (disch := omega) only [dQ, fJ, cQ, stepR_skip, eE, eT, eK, fC, fB, eX, fL, fA, dK, eL, eN, eY, eB, eI, eM, eF, eJ, fD, eZ, eC, dS, eS, eQ, eA, gP, gQ, gT, gU, gV, gR, gW, gS, gO, dH, Result.ok.injEq, Next.value.injEq, true_and, and_true, dZ, dY, eP, eU, eH, fM, LU, dR, dV, dW, dU, dN, dM, dO, dL, dI, cY, if_true, if_false, LQ, LX, LR, LS, LW, LV, LP, LO, cS, cM, cC, bW, cV, dJ, bV, bU, cR, cK, cO, dC, cN, dG, cZ, dT, dE, cH, bH, bO, aR, aC, aJ, dD, aL, cG, dF, dB, bN, aH, bD, aY, cP, aG, aX, aM, aV, cU, aW, cJ, bS, aD, aA, aK, dP, aO, aP, bC, aQ, cD, aE, bZ, bT, bF, bB, aZ, cX, aI, bJ, aT, aS, aU, aF, dA, cL, bP, aN, cW, bX, bY, cB, bQ, bR, bG, cA, bE, cF, bA, bM, bL, bK, cI, e6, h4]
  cases ho : BD d <;> (simp (disch := omega) only [dQ, fJ, cQ, stepR_skip, eE, eT, eK, fC, fB, eX, fL, fA, dK, eL, eN, eY, eB, eI, eM, eF, eJ, fD, eZ, eC, dS, eS, eQ, eA, gP, gQ, gT, gU, gV, gR, gW, gS, gO, dH, Result.ok.injEq, Next.value.injEq, true_and, and_true, dZ, dY, eP, eU, eH, fM, LU, dR, dV, dW, dU, dN, dM, dO, dL, dI, cY, if_true, if_false, LQ, LX, LR, LS, LW, LV, LP, LO, cS, cM, cC, bW, cV, dJ, bV, bU, cR, cK, cO, dC, cN, dG, cZ, dT, dE, cH, bH, bO, aR, aC, aJ, dD, aL, cG, dF, dB, bN, aH, bD, aY, cP, aG, aX, aM, aV, cU, aW, cJ, bS, aD, aA, aK, dP, aO, aP, bC, aQ, cD, aE, bZ, bT, bF, bB, aZ, cX, aI, bJ, aT, aS, aU, aF, dA, cL, bP, aN, cW, bX, bY, cB, bQ, bR, bG, cA, bE, cF, bA, bM, bL, bK, cI]; rw [<- ho]; exact main 4 e)
 .have e : 8 = Cn d := by unfold Cn; rw [h4] <;> rfl
  simp (disch := omega) only [dQ, fJ, cQ, stepR_skip, eE, eT, eK, fC, fB, eX, fL, fA, dK, eL, eN, eY, eB, eI, eM, eF, eJ, fD, eZ, eC, dS, eS, eQ, eA, gP, gQ, gT, gU, gV, gR, gW, gS, gO, dH, Result.ok.injEq, Next.value.injEq, true_and, and_true, dZ, dY, eP, eU, eH, fM, LU, dR, dV, dW, dU, dN, dM, dO, dL, dI, cY, if_true, if_false, LQ, LX, LR, LS, LW, LV, LP, LO, cS, cM, cC, bW, cV, dJ, bV, bU, cR, cK, cO, dC, cN, dG, cZ, dT, dE, cH, bH, bO, aR, aC, aJ, dD, aL, cG, dF, dB, bN, aH, bD, aY, cP, aG, aX, aM, aV, cU, aW, cJ, bS, aD, aA, aK, dP, aO, aP, bC, aQ, cD, aE, bZ, bT, bF, bB, aZ, cX, aI, bJ, aT, aS, aU, aF, dA, cL, bP, aN, cW, bX, bY, cB, bQ, bR, bG, cA, bE, cF, bA, bM, bL, bK, cI, e6, h4]
  cases ho : BD d <;> (simp (disch := omega) only [dQ, fJ, cQ, stepR_skip, eE, eT, eK, fC, fB, eX, fL, fA, dK, eL, eN, eY, eB, eI, eM, eF, eJ, fD, eZ, eC, dS, eS, eQ, eA, gP, gQ, gT, gU, gV, gR, gW, gS, gO, dH, Result.ok.injEq, Next.value.injEq, true_and, and_true, dZ, dY, eP, eU, eH, fM, LU, dR, dV, dW, dU, dN, dM, dO, dL, dI, cY, if_true, if_false, LQ, LX, LR, LS, LW, LV, LP, LO, cS, cM, cC, bW, cV, dJ, bV, bU, cR, cK, cO, dC, cN, dG, cZ, dT, dE, cH, bH, bO, aR, aC, aJ, dD, aL, cG, dF, dB, bN, aH, bD, aY, cP, aG, aX, aM, aV, cU, aW, cJ, bS, aD, aA, aK, dP, aO, aP, bC, aQ, cD, aE, bZ, bT, bF, bB, aZ, cX, aI, bJ, aT, aS, aU, aF, dA, cL, bP, aN, cW, bX, bY, cB, bQ, bR, bG, cA, bE, cF, bA, bM, bL, bK, cI]; rw [<- ho]; exact main 8 e)
theorem J0 {d : Nat} (h : d < 256) : uN .i64 (d : Int) 3 = ((d % 4 : Nat) : Int) /\ (uN .i64 (d : Int) 4 != 0) = (d / 4 % 2 == 1) /\ (uN .i64 (d : Int) 8 != 0) = (d / 8 % 2 == 1) /\ (uN .i64 (d : Int) 32 != 0) = (d / 32 % 2 == 1) := by
 have : ∀ k : Fin 256, uN .i64 (k.val : Int) 3 = ((k.val % 4 : Nat) : Int) /\ (uN .i64 (k.val : Int) 4 != 0) = (k.val / 4 % 2 == 1) /\ (uN .i64 (k.val : Int) 8 != 0) = (k.val / 8 % 2 == 1) /\ (uN .i64 (k.val : Int) 32 != 0) = (k.val / 32 % 2 == 1) := by decide +kernel
 exact this ⟨d, h⟩
theorem Ls (x : Nat) (h : x < 256) : IntKind.u64.wrap (IntKind.u64.wrap (1 * 2 ^ min (10 + ((x / 8 : Nat) : Int)).toNat IntKind.u64.bits) + IntKind.u64.wrap (IntKind.u64.wrap ((IntKind.u64.wrap (1 * 2 ^ min (10 + ((x / 8 : Nat) : Int)).toNat IntKind.u64.bits)).tdiv 8) * uN IntKind.u64 (x : Int) 7)) = ((HO x : Nat) : Int) := by
 have : ∀ k : Fin 256, IntKind.u64.wrap (IntKind.u64.wrap (1 * 2 ^ min (10 + ((k.val / 8 : Nat) : Int)).toNat IntKind.u64.bits) + IntKind.u64.wrap (IntKind.u64.wrap ((IntKind.u64.wrap (1 * 2 ^ min (10 + ((k.val / 8 : Nat) : Int)).toNat IntKind.u64.bits)).tdiv 8) * uN IntKind.u64 (k.val : Int) 7)) = ((HO k.val : Nat) : Int) := by decide +kernel
 exact this ⟨x, h⟩
theorem H6 {x : Nat} {w : Na} (h : x < 256) : fO pg rV #[.int .u64 (x : Nat)] w (fun r w' => r = .int .u64 (HO x : Nat) /\ w' = w) := by
 refine CM ?_
 unfold CB uC
 have e0 : (x : Int).fdiv (2 ^ min (Int.toNat 3) IntKind.u64.bits) = ((x / 8 : Nat) : Int) := by
  have : (2 : Int) ^ min (Int.toNat 3) IntKind.u64.bits = 8 := by decide
  rw [this, Mr _ (by omega)]; omega
 simp (disch := omega) only [dQ, fJ, cQ, stepR_skip, eE, eT, eK, fC, fB, eX, fL, fA, dK, eL, eN, eY, eB, eI, eM, eF, eJ, fD, eZ, eC, dS, eS, eQ, eA, gP, gQ, gT, gU, gV, gR, gW, gS, gO, dH, Result.ok.injEq, Next.value.injEq, true_and, and_true, dZ, dY, eP, eU, eH, fM, LU, dR, dV, dW, dU, dN, dM, dO, dL, dI, cY, if_true, if_false, LQ, LX, LR, LS, LW, LV, LP, LO, cS, cM, cC, bW, cV, dJ, bV, bU, cR, cK, cO, dC, cN, dG, cZ, dT, dE, cH, bH, bO, aR, aC, aJ, dD, aL, cG, dF, dB, bN, aH, bD, aY, cP, aG, aX, aM, aV, cU, aW, cJ, bS, aD, aA, aK, dP, aO, aP, bC, aQ, cD, aE, bZ, bT, bF, bB, aZ, cX, aI, bJ, aT, aS, aU, aF, dA, cL, bP, aN, cW, bX, bY, cB, bQ, bR, bG, cA, bE, cF, bA, bM, bL, bK, cI, e0]
 rw [Ls x h]
theorem EU {RR : Nb -> Na -> Prop} {v : Nb} {L lo hi pr ph pt d : Nat} {s : List UInt8 × Int} {h : FH} {z : FH} {w : Na} (hd : d < 256) (hk0 : h.known = false) (hs0 : h.size = 0) (hr : As w lo hi pr s.1 s.2) (hl : s.1.length <= 1000000) (hv : ∃ a c, v = .slice a L c) (hL : s.1.length <= L) (hL2 : L <= 1000000) (oh : iA w ph (yU h)) (ot : iA w pt (yU z)) (hne : ph ≠ pt) (hpt : ¬ (lo <= pt /\ pt < hi)) (hph : ¬ (lo <= ph /\ ph < hi)) (hpr : lo <= pr /\ pr < hi)
 (hk : ∀ w', gB w w' (fun y => y = pt ∨ y = ph ∨ y = pr) -> RR (Je (DQ L (G7 (G7 s (G1 d)) (Cn d)) (Es s (G1 d)) ⟨if BD d then Jh d (Es (G7 s (G1 d)) (Cn d)) else h.window, Jh d (Es (G7 s (G1 d)) (Cn d)), decide (0 < Cn d), h.sum⟩)) w') :
 rU RR v (.pointer (some ⟨pt, 0, none⟩)) (.pointer (some ⟨pr, 0, none⟩)) (.int .i64 (d : Nat)) (.pointer (some ⟨ph, 0, none⟩)) (.bool (BD d)) w := by
 unfold rU uX
 obtain ⟨b3, _⟩ := J0 hd
 have main : ∀ n : Nat, n <= 8 -> 0 < n -> G1 d = n -> fO pg fT #[.pointer (some ⟨pr, 0, none⟩), .int .i64 n] w (fun t50 w1 => pW RR v (.pointer (some ⟨pt, 0, none⟩)) (.pointer (some ⟨pr, 0, none⟩)) (.int .i64 (d : Nat)) (.pointer (some ⟨ph, 0, none⟩)) (.bool (BD d)) t50 w1) := by
  intro n hn h0 e
  rw [e] at hk
  unfold G7 at hk
  unfold Es at hk
  rw [if_pos h0, if_pos h0] at hk
  have hle : (DT s n).1.length <= s.1.length := by
   unfold DT sE
   split
   .exact Md _
   .split
    .exact Md _
    .simp only [L7]; omega
  refine (oL hr (by omega) ⟨h0, hn⟩).mono ?_
  rintro r w1 ⟨rfl, hr1, x1⟩
  exact Gn (s := DT s n) (dict := Fl s n) hd hk0 hs0 hr1 (by omega) hv (by omega) hL2 (oh.ext x1 (fun e => hph (e ▸ hpr))) (ot.ext x1 (fun e => hpt (e ▸ hpr))) hne hpt hph hpr fun w' x => hk w' ((x1.mono fun _ _ h => .inr (.inr h)).seq x)
 have h4 : d % 4 = 0 ∨ d % 4 = 1 ∨ d % 4 = 2 ∨ d % 4 = 3 := by omega
 rcases h4 with h4 | h4 | h4 | h4 <;> rw [h4] at b3
 .have e : G1 d = 0 := by unfold G1; rw [h4] <;> rfl
  have n1 : decide ((0 : Int) > 0) = false := rfl
  simp (disch := omega) only [dQ, fJ, cQ, stepR_skip, eE, eT, eK, fC, fB, eX, fL, fA, dK, eL, eN, eY, eB, eI, eM, eF, eJ, fD, eZ, eC, dS, eS, eQ, eA, gP, gQ, gT, gU, gV, gR, gW, gS, gO, dH, Result.ok.injEq, Next.value.injEq, true_and, and_true, dZ, dY, eP, eU, eH, fM, LU, dR, dV, dW, dU, dN, dM, dO, dL, dI, cY, if_true, if_false, LQ, LX, LR, LS, LW, LV, LP, LO, cS, cM, cC, bW, cV, dJ, bV, bU, cR, cK, cO, dC, cN, dG, cZ, dT, dE, cH, bH, bO, aR, aC, aJ, dD, aL, cG, dF, dB, bN, aH, bD, aY, cP, aG, aX, aM, aV, cU, aW, cJ, bS, aD, aA, aK, dP, aO, aP, bC, aQ, cD, aE, bZ, bT, bF, bB, aZ, cX, aI, bJ, aT, aS, aU, aF, dA, cL, bP, aN, cW, bX, bY, cB, bQ, bR, bG, cA, bE, cF, bA, bM, bL, bK, cI, b3, n1]
  refine Gn (s := s) (dict := 0) hd hk0 hs0 hr hl hv hL hL2 oh ot hne hpt hph hpr fun w' x => ?_
  have := hk w' x
  rw [e] at this
  exact this
 .have n1 : decide ((1 : Int) > 0) = true := rfl
  have n2 : decide ((0 : Int) < 1) = true := rfl
  simp (disch := omega) only [dQ, fJ, cQ, stepR_skip, eE, eT, eK, fC, fB, eX, fL, fA, dK, eL, eN, eY, eB, eI, eM, eF, eJ, fD, eZ, eC, dS, eS, eQ, eA, gP, gQ, gT, gU, gV, gR, gW, gS, gO, dH, Result.ok.injEq, Next.value.injEq, true_and, and_true, dZ, dY, eP, eU, eH, fM, LU, dR, dV, dW, dU, dN, dM, dO, dL, dI, cY, if_true, if_false, LQ, LX, LR, LS, LW, LV, LP, LO, cS, cM, cC, bW, cV, dJ, bV, bU, cR, cK, cO, dC, cN, dG, cZ, dT, dE, cH, bH, bO, aR, aC, aJ, dD, aL, cG, dF, dB, bN, aH, bD, aY, cP, aG, aX, aM, aV, cU, aW, cJ, bS, aD, aA, aK, dP, aO, aP, bC, aQ, cD, aE, bZ, bT, bF, bB, aZ, cX, aI, bJ, aT, aS, aU, aF, dA, cL, bP, aN, cW, bX, bY, cB, bQ, bR, bG, cA, bE, cF, bA, bM, bL, bK, cI, b3, n1, n2]
  exact main 1 (by omega) (by omega) (by unfold G1; rw [h4] <;> rfl)
 .have n1 : decide ((2 : Int) > 0) = true := rfl
  have n2 : decide ((0 : Int) < 2) = true := rfl
  simp (disch := omega) only [dQ, fJ, cQ, stepR_skip, eE, eT, eK, fC, fB, eX, fL, fA, dK, eL, eN, eY, eB, eI, eM, eF, eJ, fD, eZ, eC, dS, eS, eQ, eA, gP, gQ, gT, gU, gV, gR, gW, gS, gO, dH, Result.ok.injEq, Next.value.injEq, true_and, and_true, dZ, dY, eP, eU, eH, fM, LU, dR, dV, dW, dU, dN, dM, dO, dL, dI, cY, if_true, if_false, LQ, LX, LR, LS, LW, LV, LP, LO, cS, cM, cC, bW, cV, dJ, bV, bU, cR, cK, cO, dC, cN, dG, cZ, dT, dE, cH, bH, bO, aR, aC, aJ, dD, aL, cG, dF, dB, bN, aH, bD, aY, cP, aG, aX, aM, aV, cU, aW, cJ, bS, aD, aA, aK, dP, aO, aP, bC, aQ, cD, aE, bZ, bT, bF, bB, aZ, cX, aI, bJ, aT, aS, aU, aF, dA, cL, bP, aN, cW, bX, bY, cB, bQ, bR, bG, cA, bE, cF, bA, bM, bL, bK, cI, b3, n1, n2]
  exact main 2 (by omega) (by omega) (by unfold G1; rw [h4] <;> rfl)
 .have n1 : decide ((4 : Int) > 0) = true := rfl
  have n2 : decide ((0 : Int) < 4) = true := rfl
  simp (disch := omega) only [dQ, fJ, cQ, stepR_skip, eE, eT, eK, fC, fB, eX, fL, fA, dK, eL, eN, eY, eB, eI, eM, eF, eJ, fD, eZ, eC, dS, eS, eQ, eA, gP, gQ, gT, gU, gV, gR, gW, gS, gO, dH, Result.ok.injEq, Next.value.injEq, true_and, and_true, dZ, dY, eP, eU, eH, fM, LU, dR, dV, dW, dU, dN, dM, dO, dL, dI, cY, if_true, if_false, LQ, LX, LR, LS, LW, LV, LP, LO, cS, cM, cC, bW, cV, dJ, bV, bU, cR, cK, cO, dC, cN, dG, cZ, dT, dE, cH, bH, bO, aR, aC, aJ, dD, aL, cG, dF, dB, bN, aH, bD, aY, cP, aG, aX, aM, aV, cU, aW, cJ, bS, aD, aA, aK, dP, aO, aP, bC, aQ, cD, aE, bZ, bT, bF, bB, aZ, cX, aI, bJ, aT, aS, aU, aF, dA, cL, bP, aN, cW, bX, bY, cB, bQ, bR, bG, cA, bE, cF, bA, bM, bL, bK, cI, b3, n1, n2]
  exact main 4 (by omega) (by omega) (by unfold G1; rw [h4] <;> rfl)
theorem IY (s : List UInt8 × Int) (n : Nat) : (DT s n).1.length <= s.1.length := by
 unfold DT sE
 split
 .exact Md _
 .split
  .exact Md _
  .simp only [L7]; omega
theorem D2 (s : List UInt8 × Int) (n : Nat) : Fl s n < 256 ^ n := by
 unfold Fl sE
 split
 .simp [lK]; exact Nat.pow_pos (by omega)
 .split
  .simp [lK]; exact Nat.pow_pos (by omega)
  .have := wE (s.1.take n)
   rw [L6, MI (by omega)] at this
   exact this
theorem Gh {v : Nb} {l : List UInt8} {w : Na} (hb : Bs w v l) (hl : l.length <= 1000000) : fO pg uO #[v] w (fun r w' => r = Je (AJ l) /\ gB w w' mZ) := by
 refine DH ?_
 unfold D0 uR uT
 refine qD fun w1 o1 x1 s1 => ?_
 obtain ⟨pt, hpt⟩ : ∃ p, p = w.heap.size := ⟨_, rfl⟩
 rw [<- hpt] at o1 ⊢
 have hz1 := o1.lt
 have hb1 := hb.ext x1 (jV _)
 obtain ⟨va, vc, hv, _⟩ := hb.len
 rw [LZ] at hv
 refine (tV hb1 (by omega)).mono ?_
 rintro r w2 ⟨pr, rfl, hr, x2⟩
 have o2 := o1.ext x2 (fun h => h)
 have hpr : w1.heap.size <= pr /\ pr < w2.heap.size := ⟨hr.1, hr.2.1⟩
 refine (oL (n := 1) hr (by omega) ⟨by omega, by omega⟩).mono ?_
 rintro r w3 ⟨rfl, hr3, x3⟩
 have e1 : (lK (sE l 0 1).1) = Fl (l, 0) 1 := rfl
 have e2 : (sE l 0 1).2.1 = (DT (l, 0) 1).1 := rfl
 have e3 : (sE l 0 1).2.2 = (DT (l, 0) 1).2 := rfl
 rw [e2, e3] at hr3
 rw [e1]
 have o3 := o2.ext x3 (by intro h; omega)
 obtain ⟨d, hd⟩ : ∃ d, d = Fl (l, 0) 1 := ⟨_, rfl⟩
 obtain ⟨s, hs⟩ : ∃ s, s = DT (l, 0) 1 := ⟨_, rfl⟩
 have hdl : d < 256 := by have := D2 (l, 0) 1; omega
 have hsl : s.1.length <= l.length := by have := IY (l, 0) 1; rw [hs]; exact this
 rw [<- hd]
 rw [<- hs] at hr3
 have hfr : AJ l = if s.2 ≠ 0 then .error s.2 else if d / 8 % 2 = 1 then .error 11 else Eb l.length s d := by unfold AJ; rw [<- hd, <- hs]
 rw [hfr]
 obtain ⟨b3, b4, b8, b32⟩ := J0 hdl
 have wd : IntKind.i64.wrap (d : Int) = d := dZ (by omega) (by omega)
 simp (disch := omega) only [dQ, fJ, cQ, stepR_skip, eE, eT, eK, fC, fB, eX, fL, fA, dK, eL, eN, eY, eB, eI, eM, eF, eJ, fD, eZ, eC, dS, eS, eQ, eA, gP, gQ, gT, gU, gV, gR, gW, gS, gO, dH, Result.ok.injEq, Next.value.injEq, true_and, and_true, dZ, dY, eP, eU, eH, fM, LU, dR, dV, dW, dU, dN, dM, dO, dL, dI, cY, if_true, if_false, LQ, LX, LR, LS, LW, LV, LP, LO, cS, cM, cC, bW, cV, dJ, bV, bU, cR, cK, cO, dC, cN, dG, cZ, dT, dE, cH, bH, bO, aR, aC, aJ, dD, aL, cG, dF, dB, bN, aH, bD, aY, cP, aG, aX, aM, aV, cU, aW, cJ, bS, aD, aA, aK, dP, aO, aP, bC, aQ, cD, aE, bZ, bT, bF, bB, aZ, cX, aI, bJ, aT, aS, aU, aF, dA, cL, bP, aN, cW, bX, bY, cB, bQ, bR, bG, cA, bE, cF, bA, bM, bL, bK, cI, wd]
 refine (wK hr3).mono ?_
 rintro r w4 ⟨rfl, h4⟩
 rw [h4]; clear h4 w4
 have x03 : gB w w3 mZ := x1.trans (x2.trans x3 fun y hy h => by have := x2.size; omega) fun y hy h => h
 by_cases he : s.2 = 0
 rotate_left
 .have n0 : (s.2 != 0) = true := by simp [he]
  rw [if_pos he]
  simp (disch := omega) only [dQ, fJ, cQ, stepR_skip, eE, eT, eK, fC, fB, eX, fL, fA, dK, eL, eN, eY, eB, eI, eM, eF, eJ, fD, eZ, eC, dS, eS, eQ, eA, gP, gQ, gT, gU, gV, gR, gW, gS, gO, dH, Result.ok.injEq, Next.value.injEq, true_and, and_true, dZ, dY, eP, eU, eH, fM, LU, dR, dV, dW, dU, dN, dM, dO, dL, dI, cY, if_true, if_false, LQ, LX, LR, LS, LW, LV, LP, LO, cS, cM, cC, bW, cV, dJ, bV, bU, cR, cK, cO, dC, cN, dG, cZ, dT, dE, cH, bH, bO, aR, aC, aJ, dD, aL, cG, dF, dB, bN, aH, bD, aY, cP, aG, aX, aM, aV, cU, aW, cJ, bS, aD, aA, aK, dP, aO, aP, bC, aQ, cD, aE, bZ, bT, bF, bB, aZ, cX, aI, bJ, aT, aS, aU, aF, dA, cL, bP, aN, cW, bX, bY, cB, bQ, bR, bG, cA, bE, cF, bA, bM, bL, bK, cI, n0]
  refine (wK hr3).mono ?_
  rintro r w4 ⟨rfl, h4⟩
  rw [h4]; clear h4 w4
  refine iS o3 rfl (by simp [one]) (by simp) fun w5 o5 x5 s5 => ?_
  refine lV o5 (by simp [gE]) ?_
  simp only [gE, L2, L5, Mg, Ma, Mh]
  exact ⟨rfl, x03.trans x5 fun y hy h => by omega⟩
 have n0 : (s.2 != 0) = false := by simp [he]
 rw [if_neg (by simpa using he)]
 by_cases h8 : d / 8 % 2 = 1
 .have n8 : (d / 8 % 2 == 1) = true := by simp [h8]
  rw [if_pos h8]
  rw [n8] at b8
  simp (disch := omega) only [dQ, fJ, cQ, stepR_skip, eE, eT, eK, fC, fB, eX, fL, fA, dK, eL, eN, eY, eB, eI, eM, eF, eJ, fD, eZ, eC, dS, eS, eQ, eA, gP, gQ, gT, gU, gV, gR, gW, gS, gO, dH, Result.ok.injEq, Next.value.injEq, true_and, and_true, dZ, dY, eP, eU, eH, fM, LU, dR, dV, dW, dU, dN, dM, dO, dL, dI, cY, if_true, if_false, LQ, LX, LR, LS, LW, LV, LP, LO, cS, cM, cC, bW, cV, dJ, bV, bU, cR, cK, cO, dC, cN, dG, cZ, dT, dE, cH, bH, bO, aR, aC, aJ, dD, aL, cG, dF, dB, bN, aH, bD, aY, cP, aG, aX, aM, aV, cU, aW, cJ, bS, aD, aA, aK, dP, aO, aP, bC, aQ, cD, aE, bZ, bT, bF, bB, aZ, cX, aI, bJ, aT, aS, aU, aF, dA, cL, bP, aN, cW, bX, bY, cB, bQ, bR, bG, cA, bE, cF, bA, bM, bL, bK, cI, n0, b8]
  refine iS o3 rfl (by simp [one]) (by simp) fun w5 o5 x5 s5 => ?_
  refine lV o5 (by simp [gE]) ?_
  simp only [gE, L2, L5, Mg, Ma, Mh]
  exact ⟨rfl, x03.trans x5 fun y hy h => by omega⟩
 have n8 : (d / 8 % 2 == 1) = false := by simp [h8]
 rw [if_neg h8]
 rw [n8] at b8
 obtain ⟨RR, hRR⟩ : ∃ RR : Nb -> Na -> Prop, RR = fun r w' => r = Je (Eb l.length s d) /\ gB w w' mZ := ⟨_, rfl⟩
 rw [<- hRR]
 have e32 : (d / 32 % 2 == 1) = BD d := rfl
 rw [e32] at b32
 simp (disch := omega) only [dQ, fJ, cQ, stepR_skip, eE, eT, eK, fC, fB, eX, fL, fA, dK, eL, eN, eY, eB, eI, eM, eF, eJ, fD, eZ, eC, dS, eS, eQ, eA, gP, gQ, gT, gU, gV, gR, gW, gS, gO, dH, Result.ok.injEq, Next.value.injEq, true_and, and_true, dZ, dY, eP, eU, eH, fM, LU, dR, dV, dW, dU, dN, dM, dO, dL, dI, cY, if_true, if_false, LQ, LX, LR, LS, LW, LV, LP, LO, cS, cM, cC, bW, cV, dJ, bV, bU, cR, cK, cO, dC, cN, dG, cZ, dT, dE, cH, bH, bO, aR, aC, aJ, dD, aL, cG, dF, dB, bN, aH, bD, aY, cP, aG, aX, aM, aV, cU, aW, cJ, bS, aD, aA, aK, dP, aO, aP, bC, aQ, cD, aE, bZ, bT, bF, bB, aZ, cX, aI, bJ, aT, aS, aU, aF, dA, cL, bP, aN, cW, bX, bY, cB, bQ, bR, bG, cA, bE, cF, bA, bM, bL, bK, cI, n0, b8, b4]
 refine qD fun w5 o5 x5 s5 => ?_
 obtain ⟨ph, hph⟩ : ∃ p, p = w3.heap.size := ⟨_, rfl⟩
 rw [<- hph] at o5 ⊢
 have hz3 := x2.size
 have hz4 := x3.size
 refine iS o5 rfl (by simp [one]) (by simp) fun w6 o6 x6 s6 => ?_
 simp only [gE, L2, L5] at o6
 have x36 : gB w3 w6 mZ := x5.new x6 (by omega)
 have x06 : gB w w6 mZ := x03.trans x36 fun y hy h => h
 have hr6 := hr3.ext x36 (fun _ _ _ h => h)
 have o36 := o3.ext x36 (fun h => h)
 have oh6 : iA w6 ph (yU ⟨0, 0, false, d / 4 % 2 == 1⟩) := o6
 have ot6 : iA w6 pt (yU ⟨0, 0, false, false⟩) := o36
 rw [b32]
 cases ho : BD d with
 | true =>
   simp (disch := omega) only [dQ, fJ, cQ, stepR_skip, eE, eT, eK, fC, fB, eX, fL, fA, dK, eL, eN, eY, eB, eI, eM, eF, eJ, fD, eZ, eC, dS, eS, eQ, eA, gP, gQ, gT, gU, gV, gR, gW, gS, gO, dH, Result.ok.injEq, Next.value.injEq, true_and, and_true, dZ, dY, eP, eU, eH, fM, LU, dR, dV, dW, dU, dN, dM, dO, dL, dI, cY, if_true, if_false, LQ, LX, LR, LS, LW, LV, LP, LO, cS, cM, cC, bW, cV, dJ, bV, bU, cR, cK, cO, dC, cN, dG, cZ, dT, dE, cH, bH, bO, aR, aC, aJ, dD, aL, cG, dF, dB, bN, aH, bD, aY, cP, aG, aX, aM, aV, cU, aW, cJ, bS, aD, aA, aK, dP, aO, aP, bC, aQ, cD, aE, bZ, bT, bF, bB, aZ, cX, aI, bJ, aT, aS, aU, aF, dA, cL, bP, aN, cW, bX, bY, cB, bQ, bR, bG, cA, bE, cF, bA, bM, bL, bK, cI]
   rw [<- ho]
   refine EU (L := l.length) (s := s) hdl rfl rfl hr6 (by omega) ⟨_, _, hv⟩ hsl (by omega) oh6 ot6 (by omega) (by omega) (by omega) hpr fun w' x => ?_
   rw [hRR]
   refine ⟨?_, x06.trans x fun y hy h => by omega⟩
   unfold Eb Kc
   rw [ho]
   rfl
 | false =>
   simp (disch := omega) only [dQ, fJ, cQ, stepR_skip, eE, eT, eK, fC, fB, eX, fL, fA, dK, eL, eN, eY, eB, eI, eM, eF, eJ, fD, eZ, eC, dS, eS, eQ, eA, gP, gQ, gT, gU, gV, gR, gW, gS, gO, dH, Result.ok.injEq, Next.value.injEq, true_and, and_true, dZ, dY, eP, eU, eH, fM, LU, dR, dV, dW, dU, dN, dM, dO, dL, dI, cY, if_true, if_false, LQ, LX, LR, LS, LW, LV, LP, LO, cS, cM, cC, bW, cV, dJ, bV, bU, cR, cK, cO, dC, cN, dG, cZ, dT, dE, cH, bH, bO, aR, aC, aJ, dD, aL, cG, dF, dB, bN, aH, bD, aY, cP, aG, aX, aM, aV, cU, aW, cJ, bS, aD, aA, aK, dP, aO, aP, bC, aQ, cD, aE, bZ, bT, bF, bB, aZ, cX, aI, bJ, aT, aS, aU, aF, dA, cL, bP, aN, cW, bX, bY, cB, bQ, bR, bG, cA, bE, cF, bA, bM, bL, bK, cI]
   refine (oL (n := 1) hr6 (by omega) ⟨by omega, by omega⟩).mono ?_
   rintro r w7 ⟨rfl, hr7, x7⟩
   have e1 : (lK (sE s.1 s.2 1).1) = Fl s 1 := rfl
   have e2 : (sE s.1 s.2 1).2.1 = (DT s 1).1 := rfl
   have e3 : (sE s.1 s.2 1).2.2 = (DT s 1).2 := rfl
   rw [e2, e3] at hr7
   rw [e1]
   refine (H6 (by have := D2 s 1; omega)).mono ?_
   rintro r w8 ⟨rfl, h4⟩
   rw [h4]; clear h4 w8
   have oh7 := oh6.ext x7 (by intro h; omega)
   have ot7 := ot6.ext x7 (by intro h; omega)
   refine uP (off := 0) oh7 rfl (by simp [yU]) fun w9 o9 x9 s9 => ?_
   simp only [yU, L2, L5] at o9
   have oh9 : iA w9 ph (yU ⟨HO (Fl s 1), 0, false, d / 4 % 2 == 1⟩) := o9
   have x69 : gB w6 w9 (fun y => y = pr ∨ y = ph) := (x7.mono fun _ _ h => .inl h).seq (x9.mono fun _ _ h => .inr h)
   have hle := IY s 1
   rw [<- ho]
   refine EU (L := l.length) (s := DT s 1) hdl rfl rfl (hr7.ext x9 fun y h1 h2 h => by omega) (by omega) ⟨_, _, hv⟩ (by omega) (by omega) oh9 (ot7.ext x9 (by omega)) (by omega) (by omega) (by omega) hpr fun w' x => ?_
   rw [hRR]
   refine ⟨?_, (x06.trans x69 fun y hy h => by omega).trans x fun y hy h => by omega⟩
   unfold Eb Kc
   rw [ho]
   rfl
theorem KS (n : Nat) : n &&& 3 = n % 4 := MD n 2
theorem Le (n : Nat) : n &&& 1 = n % 2 := MD n 1
theorem Kh {x : Nat} (h : x < 2 ^ 62) : uN .i64 (x : Int) 3 = ((x % 4 : Nat) : Int) := by
 unfold uN
 have e1 : (BitVec.ofInt IntKind.i64.bits (x : Int) &&& BitVec.ofInt IntKind.i64.bits 3).toNat = x % 4 := by
  rw [BitVec.toNat_and]
  simp only [IntKind.bits, BitVec.toNat_ofInt]
  have h1 : ((x : Int) % ((2 ^ 64 : Nat) : Int)).toNat = x := by omega
  have h2 : ((3 : Int) % ((2 ^ 64 : Nat) : Int)).toNat = 3 := by decide
  rw [h1, h2, KS]
 rw [e1]
 exact dZ (by omega) (by omega)
theorem Kb {x : Nat} (h : x < 2 ^ 62) : uN .i64 (x : Int) 1 = ((x % 2 : Nat) : Int) := by
 unfold uN
 have e1 : (BitVec.ofInt IntKind.i64.bits (x : Int) &&& BitVec.ofInt IntKind.i64.bits 1).toNat = x % 2 := by
  rw [BitVec.toNat_and]
  simp only [IntKind.bits, BitVec.toNat_ofInt]
  have h1 : ((x : Int) % ((2 ^ 64 : Nat) : Int)).toNat = x := by omega
  have h2 : ((1 : Int) % ((2 ^ 64 : Nat) : Int)).toNat = 1 := by decide
  rw [h1, h2, Le]
 rw [e1]
 exact dZ (by omega) (by omega)
def LB (x : Nat) : Nb := .agg #[.bool (x % 2 == 1), .int .i64 (x / 2 % 4 : Nat), .int .i64 (x / 8 : Nat)]
def Lr (l : List UInt8) : Nb := if lK l / 2 % 4 = 3 then .tuple #[.agg #[.bool false, .int .i64 0, .int .i64 0], .int .i64 11] else .tuple #[LB (lK l), .int .i64 0]
theorem FV {v : Nb} {l : List UInt8} {w : Na} (hb : Bs w v l) (hl : l.length = 3) : fO pg nT #[v] w (fun r w' => r = Lr l /\ gB w w' mZ) := by
 refine A7 ?_
 unfold AE qR
 refine vS fun w1 o1 x1 s1 => ?_
 obtain ⟨pt, hpt⟩ : ∃ p, p = w.heap.size := ⟨_, rfl⟩
 rw [<- hpt] at o1 ⊢
 have hz1 := o1.lt
 have hb1 := hb.ext x1 (jV _)
 refine (tV hb1 (by omega)).mono ?_
 rintro r w2 ⟨pr, rfl, hr, x2⟩
 have o2 := o1.ext x2 (fun h => h)
 have hpr : w1.heap.size <= pr /\ pr < w2.heap.size := ⟨hr.1, hr.2.1⟩
 refine (oL (n := 3) hr (by omega) ⟨by omega, by omega⟩).mono ?_
 rintro r w3 ⟨rfl, hr3, x3⟩
 have o3 := o2.ext x3 (by intro h; omega)
 have e1 : sE l 0 3 = (l, [], 0) := by
  unfold sE
  rw [if_neg (by decide), if_neg (by omega), Mf (by omega), M0 (by omega)]
 rw [e1] at hr3 ⊢
 have hlt : lK l < 2 ^ 24 := by have := wE l; rw [hl] at this; omega
 unfold Lr
 obtain ⟨x, hx⟩ : ∃ x, x = lK l := ⟨_, rfl⟩
 rw [<- hx] at hlt ⊢
 have wd : IntKind.i64.wrap (x : Int) = x := dZ (by omega) (by omega)
 have s1 : (x : Int).fdiv (2 ^ min (Int.toNat 1) IntKind.i64.bits) = ((x / 2 : Nat) : Int) := by
  have : (2 : Int) ^ min (Int.toNat 1) IntKind.i64.bits = 2 := by decide
  rw [this, Mr _ (by omega)]; omega
 have s3 : (x : Int).fdiv (2 ^ min (Int.toNat 3) IntKind.i64.bits) = ((x / 8 : Nat) : Int) := by
  have : (2 : Int) ^ min (Int.toNat 3) IntKind.i64.bits = 8 := by decide
  rw [this, Mr _ (by omega)]; omega
 have a3 := Kh (x := x / 2) (by omega)
 have a1 := Kb (x := x) (by omega)
 have n0 : ((0 : Int) != 0) = false := rfl
 have x03 : gB w w3 mZ := x1.trans (x2.trans x3 fun y hy h => by have := x2.size; omega) fun y hy h => h
 simp (disch := omega) only [dQ, fJ, cQ, stepR_skip, eE, eT, eK, fC, fB, eX, fL, fA, dK, eL, eN, eY, eB, eI, eM, eF, eJ, fD, eZ, eC, dS, eS, eQ, eA, gP, gQ, gT, gU, gV, gR, gW, gS, gO, dH, Result.ok.injEq, Next.value.injEq, true_and, and_true, dZ, dY, eP, eU, eH, fM, LU, dR, dV, dW, dU, dN, dM, dO, dL, dI, cY, if_true, if_false, LQ, LX, LR, LS, LW, LV, LP, LO, cS, cM, cC, bW, cV, dJ, bV, bU, cR, cK, cO, dC, cN, dG, cZ, dT, dE, cH, bH, bO, aR, aC, aJ, dD, aL, cG, dF, dB, bN, aH, bD, aY, cP, aG, aX, aM, aV, cU, aW, cJ, bS, aD, aA, aK, dP, aO, aP, bC, aQ, cD, aE, bZ, bT, bF, bB, aZ, cX, aI, bJ, aT, aS, aU, aF, dA, cL, bP, aN, cW, bX, bY, cB, bQ, bR, bG, cA, bE, cF, bA, bM, bL, bK, cI, wd]
 refine (wK hr3).mono ?_
 rintro r w4 ⟨rfl, h4⟩
 rw [h4]; clear h4 w4
 by_cases h3 : x / 2 % 4 = 3
 .have d1 : decide (((x / 2 % 4 : Nat) : Int) > 2) = true := decide_eq_true (by omega)
  have d2 : decide ((2 : Int) < ((x / 2 % 4 : Nat) : Int)) = true := decide_eq_true (by omega)
  rw [if_pos h3]
  simp (disch := omega) only [dQ, fJ, cQ, stepR_skip, eE, eT, eK, fC, fB, eX, fL, fA, dK, eL, eN, eY, eB, eI, eM, eF, eJ, fD, eZ, eC, dS, eS, eQ, eA, gP, gQ, gT, gU, gV, gR, gW, gS, gO, dH, Result.ok.injEq, Next.value.injEq, true_and, and_true, dZ, dY, eP, eU, eH, fM, LU, dR, dV, dW, dU, dN, dM, dO, dL, dI, cY, if_true, if_false, LQ, LX, LR, LS, LW, LV, LP, LO, cS, cM, cC, bW, cV, dJ, bV, bU, cR, cK, cO, dC, cN, dG, cZ, dT, dE, cH, bH, bO, aR, aC, aJ, dD, aL, cG, dF, dB, bN, aH, bD, aY, cP, aG, aX, aM, aV, cU, aW, cJ, bS, aD, aA, aK, dP, aO, aP, bC, aQ, cD, aE, bZ, bT, bF, bB, aZ, cX, aI, bJ, aT, aS, aU, aF, dA, cL, bP, aN, cW, bX, bY, cB, bQ, bR, bG, cA, bE, cF, bA, bM, bL, bK, cI, n0, s1, a3, d1, d2]
  refine qH o3 rfl (by simp [one]) (by simp) fun w5 o5 x5 s5 => ?_
  refine AH o5 (by simp [gE]) ?_
  simp only [gE, L2, L5, Mg, Ma, Mh]
  exact ⟨trivial, x03.trans x5 fun y hy h => by omega⟩
 .have d1 : decide (((x / 2 % 4 : Nat) : Int) > 2) = false := decide_eq_false (by omega)
  have d2 : decide ((2 : Int) < ((x / 2 % 4 : Nat) : Int)) = false := decide_eq_false (by omega)
  have e5 : (((x % 2 : Nat) : Int) == 1) = (x % 2 == 1) := by
   have : x % 2 = 0 ∨ x % 2 = 1 := by omega
   rcases this with h | h <;> rw [h] <;> rfl
  rw [if_neg h3]
  simp (disch := omega) only [dQ, fJ, cQ, stepR_skip, eE, eT, eK, fC, fB, eX, fL, fA, dK, eL, eN, eY, eB, eI, eM, eF, eJ, fD, eZ, eC, dS, eS, eQ, eA, gP, gQ, gT, gU, gV, gR, gW, gS, gO, dH, Result.ok.injEq, Next.value.injEq, true_and, and_true, dZ, dY, eP, eU, eH, fM, LU, dR, dV, dW, dU, dN, dM, dO, dL, dI, cY, if_true, if_false, LQ, LX, LR, LS, LW, LV, LP, LO, cS, cM, cC, bW, cV, dJ, bV, bU, cR, cK, cO, dC, cN, dG, cZ, dT, dE, cH, bH, bO, aR, aC, aJ, dD, aL, cG, dF, dB, bN, aH, bD, aY, cP, aG, aX, aM, aV, cU, aW, cJ, bS, aD, aA, aK, dP, aO, aP, bC, aQ, cD, aE, bZ, bT, bF, bB, aZ, cX, aI, bJ, aT, aS, aU, aF, dA, cL, bP, aN, cW, bX, bY, cB, bQ, bR, bG, cA, bE, cF, bA, bM, bL, bK, cI, n0, s1, a3, d1, d2, a1, s3, e5]
  refine qH o3 rfl (by simp [one]) (by simp) fun w5 o5 x5 s5 => ?_
  refine AH o5 (by simp [gE]) ?_
  simp only [gE, L2, L5, Mg, Ma, Mh]
  exact ⟨rfl, x03.trans x5 fun y hy h => by omega⟩
end Go.Proofs.YthohephggmkeeaaDoor
namespace Go.Proofs.YthohephggmkeeaaDoor
open Go Go.En Go.Pu
theorem I9 {x n m : Nat} (h : m = n) : (x : Int).fdiv (2 ^ m) = ((x / 2 ^ n : Nat) : Int) := by
 subst h
 rw [Mr _ (by exact_mod_cast Nat.zero_le _)]
 push_cast
 rfl
theorem J3 {x n : Nat} (h : n <= 64) : (x : Int).fdiv (2 ^ min n IntKind.u64.bits) = ((x / 2 ^ n : Nat) : Int) := I9 (by have : IntKind.u64.bits = 64 := rfl; omega)
theorem Gt {x n : Nat} (hx : x < 2 ^ 63) (hn : n <= 62) : uN .u64 (x : Int) ((2 ^ n - 1 : Nat) : Int) = ((x % 2 ^ n : Nat) : Int) := by
 have hp : 2 ^ n <= 2 ^ 62 := MC (by omega) hn
 unfold uN
 have e : IntKind.u64.bits = 64 := rfl
 rw [e, BitVec.ofInt_natCast, BitVec.ofInt_natCast, BitVec.toNat_and, BitVec.toNat_ofNat, BitVec.toNat_ofNat, MA (by omega), MA (by omega), MD]
 have := Nat.mod_le x (2 ^ n)
 exact dY (by omega) (by omega)
end Go.Proofs.YthohephggmkeeaaDoor
namespace Go.Proofs.YthohephggmkeeaaDoor
open Go Go.En Go.Pu
set_option maxRecDepth 4000
theorem Jq {n : Nat} {w : Na} (hn : n <= 131072) :
 fO pg nO #[.int .u64 1, .int .u64 n] w (fun r w' => r = .tuple #[.int .u64 0, .int .u64 n] /\ gB w w' mZ) := by
 refine Bm ?_
 unfold AG qO
 have a1 : uN .u64 1 4294967295 = 1 := by decide
 have a2 : uN .u64 (n : Int) 4294967295 = n := by
  have := Gt (x := n) (n := 32) (by omega) (by omega)
  rw [MA (by omega)] at this
  exact this
 have a0 : uN .u64 0 4294967295 = 0 := by decide
 have s1 : (1 : Int).fdiv (2 ^ min 32 IntKind.u64.bits) = 0 := by decide
 have s0 : (0 : Int).fdiv (2 ^ min 32 IntKind.u64.bits) = 0 := by decide
 have s2 : (n : Int).fdiv (2 ^ min 32 IntKind.u64.bits) = 0 := by
  rw [J3 (by omega), Nat.div_eq_of_lt (by omega)] <;> rfl
 have t32 : (32 : Int).toNat = 32 := rfl
 have w0 : IntKind.u64.wrap 0 = 0 := rfl
 have w1 : IntKind.u64.wrap (n : Int) = n := dY (by omega) (by omega)
 simp (disch := omega) only [dQ, fJ, cQ, stepR_skip, eE, eT, eK, fC, fB, eX, fL, fA, dK, eL, eN, eY, eB, eI, eM, eF, eJ, fD, eZ, eC, dS, eS, eQ, eA, gP, gQ, gT, gU, gV, gR, gW, gS, gO, dH, Result.ok.injEq, Next.value.injEq, true_and, and_true, dZ, dY, eP, eU, eH, fM, LU, dR, dV, dW, dU, dN, dM, dO, dL, dI, cY, if_true, if_false, LQ, LX, LR, LS, LW, LV, LP, LO, cS, cM, cC, bW, cV, dJ, bV, bU, cR, cK, cO, dC, cN, dG, cZ, dT, dE, cH, bH, bO, aR, aC, aJ, dD, aL, cG, dF, dB, bN, aH, bD, aY, cP, aG, aX, aM, aV, cU, aW, cJ, bS, aD, aA, aK, dP, aO, aP, bC, aQ, cD, aE, bZ, bT, bF, bB, aZ, cX, aI, bJ, aT, aS, aU, aF, dA, cL, bP, aN, cW, bX, bY, cB, bQ, bR, bG, cA, bE, cF, bA, bM, bL, bK, cI, a1, a2, a0, s1, s2, s0, t32, w0, w1, Int.one_mul, Int.zero_mul, Int.mul_zero, Int.add_zero, Int.zero_add]
 exact gB.refl _ _
theorem Lg {n : Nat} {w : Na} (hn : n <= 131072) :
 fO pg qK #[.int .u64 1, .int .u64 n] w (fun r w' => r = .tuple #[.int .u64 0, .int .u64 n] /\ gB w w' mZ) := by
 refine B4 ?_
 unfold BQ sO
 simp (disch := omega) only [dQ, fJ, cQ, stepR_skip, eE, eT, eK, fC, fB, eX, fL, fA, dK, eL, eN, eY, eB, eI, eM, eF, eJ, fD, eZ, eC, dS, eS, eQ, eA, gP, gQ, gT, gU, gV, gR, gW, gS, gO, dH, Result.ok.injEq, Next.value.injEq, true_and, and_true, dZ, dY, eP, eU, eH, fM, LU, dR, dV, dW, dU, dN, dM, dO, dL, dI, cY, if_true, if_false, LQ, LX, LR, LS, LW, LV, LP, LO, cS, cM, cC, bW, cV, dJ, bV, bU, cR, cK, cO, dC, cN, dG, cZ, dT, dE, cH, bH, bO, aR, aC, aJ, dD, aL, cG, dF, dB, bN, aH, bD, aY, cP, aG, aX, aM, aV, cU, aW, cJ, bS, aD, aA, aK, dP, aO, aP, bC, aQ, cD, aE, bZ, bT, bF, bB, aZ, cX, aI, bJ, aT, aS, aU, aF, dA, cL, bP, aN, cW, bX, bY, cB, bQ, bR, bG, cA, bE, cF, bA, bM, bL, bK, cI]
 refine (Jq hn).mono ?_
 rintro r w1 ⟨rfl, x1⟩
 simp (disch := omega) only [dQ, fJ, cQ, stepR_skip, eE, eT, eK, fC, fB, eX, fL, fA, dK, eL, eN, eY, eB, eI, eM, eF, eJ, fD, eZ, eC, dS, eS, eQ, eA, gP, gQ, gT, gU, gV, gR, gW, gS, gO, dH, Result.ok.injEq, Next.value.injEq, true_and, and_true, dZ, dY, eP, eU, eH, fM, LU, dR, dV, dW, dU, dN, dM, dO, dL, dI, cY, if_true, if_false, LQ, LX, LR, LS, LW, LV, LP, LO, cS, cM, cC, bW, cV, dJ, bV, bU, cR, cK, cO, dC, cN, dG, cZ, dT, dE, cH, bH, bO, aR, aC, aJ, dD, aL, cG, dF, dB, bN, aH, bD, aY, cP, aG, aX, aM, aV, cU, aW, cJ, bS, aD, aA, aK, dP, aO, aP, bC, aQ, cD, aE, bZ, bT, bF, bB, aZ, cX, aI, bJ, aT, aS, aU, aF, dA, cL, bP, aN, cW, bX, bY, cB, bQ, bR, bG, cA, bE, cF, bA, bM, bL, bK, cI]
 exact x1
theorem KB {z v : Nb} {i n : Nat} (hi : i <= n) : gE (List.replicate i v ++ List.replicate (n - i) z) i ((List.replicate i v).take (min i (n - i))) = List.replicate (i + min i (n - i)) v ++ List.replicate (n - (i + min i (n - i))) z := by
 have e : (List.replicate i v).take (min i (n - i)) = List.replicate (min i (n - i)) v := by
  rw [List.take_replicate]; congr 1; omega
 rw [e]
 generalize hm : min i (n - i) = m
 have hm2 : i + m <= n := by omega
 clear hm e
 induction m generalizing i with
 | zero => simp [gE]
 | succ m ih =>
   rw [List.replicate_succ]
   simp only [gE]
   rw [show (List.replicate i v ++ List.replicate (n - i) z).set i v = List.replicate (i + 1) v ++ List.replicate (n - (i + 1)) z from ?_]
   .rw [ih (i := i + 1) (by omega) (by omega), show i + 1 + m = i + (m + 1) from by omega]
   .rw [Mo _ _ (by simp), L8, M8, show n - i = (n - (i + 1)) + 1 from by omega, List.replicate_succ, L2, List.replicate_succ', Mi]
    rfl
theorem HK {c : UInt8} {n p : Nat} {w3 : Na} {RR : Nb -> Na -> Prop} (hn : n <= 131072) (o3 : iA w3 p (List.replicate (min 1 n) (pU c) ++ List.replicate (n - min 1 n) (.int .u8 0)))
 (hk : ∀ w4, iA w4 p (List.replicate n (pU c)) -> gB w3 w4 (fun y => y = p) -> RR (.slice (some ⟨p, 0, none⟩) n n) w4) :
 kP RR (.slice (some ⟨p, 0, none⟩) n n) (.int .i64 (min 1 n : Nat)) w3 := by
 unfold kP nH nK
 refine iR.rule (fun m (t : Nb) w' => ∃ i : Nat, m = n - i /\ t = .int .i64 i /\ i <= n /\ (1 <= i ∨ n = 0) /\ iA w' p (List.replicate i (pU c) ++ List.replicate (n - i) (.int .u8 0)) /\ gB w3 w' (fun y => y = p)) (n - min 1 n)
  ⟨min 1 n, rfl, rfl, by omega, by omega, o3, gB.refl _ _⟩ ?_
 rintro m t w4 ⟨i, rfl, rfl, hi, h0, o4, x4⟩
 unfold kM
 by_cases hlt : i < n
 .have d5 : decide ((i : Int) < (n : Int)) = true := by simp; omega
  have q1 : (i : Int).toNat = i := LU _
  have s1 : iE (some (⟨p, 0, none⟩ : Addr)) n i 1 = some ⟨p, 0 + i, none⟩ := Ei (by omega)
  have s2 : iE (some (⟨p, 0, none⟩ : Addr)) n 0 1 = some ⟨p, 0 + 0, none⟩ := Ei (by omega)
  simp (disch := omega) only [dQ, fJ, cQ, stepR_skip, eE, eT, eK, fC, fB, eX, fL, fA, dK, eL, eN, eY, eB, eI, eM, eF, eJ, fD, eZ, eC, dS, eS, eQ, eA, gP, gQ, gT, gU, gV, gR, gW, gS, gO, dH, Result.ok.injEq, Next.value.injEq, true_and, and_true, dZ, dY, eP, eU, eH, fM, LU, dR, dV, dW, dU, dN, dM, dO, dL, dI, cY, if_true, if_false, LQ, LX, LR, LS, LW, LV, LP, LO, cS, cM, cC, bW, cV, dJ, bV, bU, cR, cK, cO, dC, cN, dG, cZ, dT, dE, cH, bH, bO, aR, aC, aJ, dD, aL, cG, dF, dB, bN, aH, bD, aY, cP, aG, aX, aM, aV, cU, aW, cJ, bS, aD, aA, aK, dP, aO, aP, bC, aQ, cD, aE, bZ, bT, bF, bB, aZ, cX, aI, bJ, aT, aS, aU, aF, dA, cL, bP, aN, cW, bX, bY, cB, bQ, bR, bG, cA, bE, cF, bA, bM, bL, bK, cI, d5, q1, s1, s2, Nat.sub_zero]
  have hs : Bs (dr w4) (.slice (some ⟨p, 0, none⟩) i n) (List.replicate i c) := by
   have := (iQ o4).bs (off := 0) (c := n) (l := List.replicate i c) (by simp; omega) (fun j hj => by
    rw [L8] at hj
    rw [LX, Mk (by simp; omega)]
    simp [List.getElem?_replicate, hj])
   rw [L8] at this
   exact this
  refine A9 (off := i) (dl := n - i) (iQ o4) (by simp) hs (by simp [one, pU]) fun w5 o5 x5 s5 => ?_
  have hm5 : (List.map pU (List.replicate i c)).length = i := by simp
  rw [hm5, List.map_replicate, KB hi] at o5
  rw [hm5]
  have e5 : (i : Int) + ((min i (n - i) : Nat) : Int) = ((i + min i (n - i) : Nat) : Int) := by omega
  have wi5 : IntKind.i64.wrap ((i + min i (n - i) : Nat) : Int) = ((i + min i (n - i) : Nat) : Int) := dZ (by omega) (by omega)
  simp (disch := omega) only [dQ, fJ, cQ, stepR_skip, eE, eT, eK, fC, fB, eX, fL, fA, dK, eL, eN, eY, eB, eI, eM, eF, eJ, fD, eZ, eC, dS, eS, eQ, eA, gP, gQ, gT, gU, gV, gR, gW, gS, gO, dH, Result.ok.injEq, Next.value.injEq, true_and, and_true, dZ, dY, eP, eU, eH, fM, LU, dR, dV, dW, dU, dN, dM, dO, dL, dI, cY, if_true, if_false, LQ, LX, LR, LS, LW, LV, LP, LO, cS, cM, cC, bW, cV, dJ, bV, bU, cR, cK, cO, dC, cN, dG, cZ, dT, dE, cH, bH, bO, aR, aC, aJ, dD, aL, cG, dF, dB, bN, aH, bD, aY, cP, aG, aX, aM, aV, cU, aW, cJ, bS, aD, aA, aK, dP, aO, aP, bC, aQ, cD, aE, bZ, bT, bF, bB, aZ, cX, aI, bJ, aT, aS, aU, aF, dA, cL, bP, aN, cW, bX, bY, cB, bQ, bR, bG, cA, bE, cF, bA, bM, bL, bK, cI, e5, wi5]
  exact ⟨n - (i + min i (n - i)), by omega, i + min i (n - i), rfl, rfl, by omega, by omega, o5, x4.seq ((gB.dr w4 _).seq x5)⟩
 .have d5 : decide ((i : Int) < (n : Int)) = false := by simp; omega
  have hin : i = n := by omega
  rw [hin, M8, List.replicate_zero, MW] at o4
  simp (disch := omega) only [dQ, fJ, cQ, stepR_skip, eE, eT, eK, fC, fB, eX, fL, fA, dK, eL, eN, eY, eB, eI, eM, eF, eJ, fD, eZ, eC, dS, eS, eQ, eA, gP, gQ, gT, gU, gV, gR, gW, gS, gO, dH, Result.ok.injEq, Next.value.injEq, true_and, and_true, dZ, dY, eP, eU, eH, fM, LU, dR, dV, dW, dU, dN, dM, dO, dL, dI, cY, if_true, if_false, LQ, LX, LR, LS, LW, LV, LP, LO, cS, cM, cC, bW, cV, dJ, bV, bU, cR, cK, cO, dC, cN, dG, cZ, dT, dE, cH, bH, bO, aR, aC, aJ, dD, aL, cG, dF, dB, bN, aH, bD, aY, cP, aG, aX, aM, aV, cU, aW, cJ, bS, aD, aA, aK, dP, aO, aP, bC, aQ, cD, aE, bZ, bT, bF, bB, aZ, cX, aI, bJ, aT, aS, aU, aF, dA, cL, bP, aN, cW, bX, bY, cB, bQ, bR, bG, cA, bE, cF, bA, bM, bL, bK, cI, d5]
  unfold kN
  exact hk w4 o4 x4
theorem IS {v : Nb} {c : UInt8} {n : Nat} {w : Na} (h : Bs w v [c]) (hn : n <= 131072) :
 fO pg kW #[v, .int .i64 n] w (fun r w' => Dx w' w.heap.size 1 r n (List.replicate n (pU c)) /\ gB w w' mZ) := by
 refine zG ?_
 obtain ⟨RR, hRR⟩ : ∃ RR : Nb -> Na -> Prop, RR = fun r w' => Dx w' w.heap.size 1 r n (List.replicate n (pU c)) /\ gB w w' mZ := ⟨_, rfl⟩
 rw [<- hRR]
 obtain ⟨b, off, cap, rfl, hc, hcell⟩ := J5 h (by simp)
 have hl1 : ([c] : List UInt8).length = 1 := rfl
 rw [hl1] at *
 have d0 : decide ((n : Int) < 0) = false := decide_eq_false (by omega)
 have e1 : ((1 : Nat) : Int) = 1 := rfl
 have wn : IntKind.u64.wrap (n : Int) = n := dY (by omega) (by omega)
 have w1 : IntKind.u64.wrap 1 = 1 := rfl
 unfold vG mP mI
 simp (disch := omega) only [dQ, fJ, cQ, stepR_skip, eE, eT, eK, fC, fB, eX, fL, fA, dK, eL, eN, eY, eB, eI, eM, eF, eJ, fD, eZ, eC, dS, eS, eQ, eA, gP, gQ, gT, gU, gV, gR, gW, gS, gO, dH, Result.ok.injEq, Next.value.injEq, true_and, and_true, dZ, dY, eP, eU, eH, fM, LU, dR, dV, dW, dU, dN, dM, dO, dL, dI, cY, if_true, if_false, LQ, LX, LR, LS, LW, LV, LP, LO, cS, cM, cC, bW, cV, dJ, bV, bU, cR, cK, cO, dC, cN, dG, cZ, dT, dE, cH, bH, bO, aR, aC, aJ, dD, aL, cG, dF, dB, bN, aH, bD, aY, cP, aG, aX, aM, aV, cU, aW, cJ, bS, aD, aA, aK, dP, aO, aP, bC, aQ, cD, aE, bZ, bT, bF, bB, aZ, cX, aI, bJ, aT, aS, aU, aF, dA, cL, bP, aN, cW, bX, bY, cB, bQ, bR, bG, cA, bE, cF, bA, bM, bL, bK, cI, d0]
 unfold nI nA
 simp (disch := omega) only [dQ, fJ, cQ, stepR_skip, eE, eT, eK, fC, fB, eX, fL, fA, dK, eL, eN, eY, eB, eI, eM, eF, eJ, fD, eZ, eC, dS, eS, eQ, eA, gP, gQ, gT, gU, gV, gR, gW, gS, gO, dH, Result.ok.injEq, Next.value.injEq, true_and, and_true, dZ, dY, eP, eU, eH, fM, LU, dR, dV, dW, dU, dN, dM, dO, dL, dI, cY, if_true, if_false, LQ, LX, LR, LS, LW, LV, LP, LO, cS, cM, cC, bW, cV, dJ, bV, bU, cR, cK, cO, dC, cN, dG, cZ, dT, dE, cH, bH, bO, aR, aC, aJ, dD, aL, cG, dF, dB, bN, aH, bD, aY, cP, aG, aX, aM, aV, cU, aW, cJ, bS, aD, aA, aK, dP, aO, aP, bC, aQ, cD, aE, bZ, bT, bF, bB, aZ, cX, aI, bJ, aT, aS, aU, aF, dA, cL, bP, aN, cW, bX, bY, cB, bQ, bR, bG, cA, bE, cF, bA, bM, bL, bK, cI, e1, wn, w1]
 refine (Lg hn).mono ?_
 rintro r w1 ⟨rfl, x1⟩
 have d1 : decide ((0 : Int) > 0) = false := rfl
 have d2 : decide ((n : Int) > 9223372036854775807) = false := decide_eq_false (by omega)
 have d3 : decide ((9223372036854775807 : Int) < (n : Int)) = false := decide_eq_false (by omega)
 have d4 : decide ((0 : Int) < 0) = false := rfl
 simp (disch := omega) only [dQ, fJ, cQ, stepR_skip, eE, eT, eK, fC, fB, eX, fL, fA, dK, eL, eN, eY, eB, eI, eM, eF, eJ, fD, eZ, eC, dS, eS, eQ, eA, gP, gQ, gT, gU, gV, gR, gW, gS, gO, dH, Result.ok.injEq, Next.value.injEq, true_and, and_true, dZ, dY, eP, eU, eH, fM, LU, dR, dV, dW, dU, dN, dM, dO, dL, dI, cY, if_true, if_false, LQ, LX, LR, LS, LW, LV, LP, LO, cS, cM, cC, bW, cV, dJ, bV, bU, cR, cK, cO, dC, cN, dG, cZ, dT, dE, cH, bH, bO, aR, aC, aJ, dD, aL, cG, dF, dB, bN, aH, bD, aY, cP, aG, aX, aM, aV, cU, aW, cJ, bS, aD, aA, aK, dP, aO, aP, bC, aQ, cD, aE, bZ, bT, bF, bB, aZ, cX, aI, bJ, aT, aS, aU, aF, dA, cL, bP, aN, cW, bX, bY, cB, bQ, bR, bG, cA, bE, cF, bA, bM, bL, bK, cI, d1, d2, d3, d4]
 unfold nJ nM
 have wi : IntKind.i64.wrap (n : Int) = n := dZ (by omega) (by omega)
 simp (disch := omega) only [dQ, fJ, cQ, stepR_skip, eE, eT, eK, fC, fB, eX, fL, fA, dK, eL, eN, eY, eB, eI, eM, eF, eJ, fD, eZ, eC, dS, eS, eQ, eA, gP, gQ, gT, gU, gV, gR, gW, gS, gO, dH, Result.ok.injEq, Next.value.injEq, true_and, and_true, dZ, dY, eP, eU, eH, fM, LU, dR, dV, dW, dU, dN, dM, dO, dL, dI, cY, if_true, if_false, LQ, LX, LR, LS, LW, LV, LP, LO, cS, cM, cC, bW, cV, dJ, bV, bU, cR, cK, cO, dC, cN, dG, cZ, dT, dE, cH, bH, bO, aR, aC, aJ, dD, aL, cG, dF, dB, bN, aH, bD, aY, cP, aG, aX, aM, aV, cU, aW, cJ, bS, aD, aA, aK, dP, aO, aP, bC, aQ, cD, aE, bZ, bT, bF, bB, aZ, cX, aI, bJ, aT, aS, aU, aF, dA, cL, bP, aN, cW, bX, bY, cB, bQ, bR, bG, cA, bE, cF, bA, bM, bL, bK, cI, wi]
 refine Dv (by omega) (by omega) fun w2 o2 x2 s2 => ?_
 simp only [LU] at o2 ⊢
 have z1 := x1.size
 have z2 := x2.size
 have x02 := x1.seq x2
 have h2 := h.ext x02 (jV _)
 obtain ⟨p, hp⟩ : ∃ p, p = w1.heap.size := ⟨_, rfl⟩
 rw [<- hp] at o2 ⊢
 refine A9 (off := 0) o2 (by simp) h2 (by simp [one, pU]) fun w3 o3 x3 s3 => ?_
 have hmn : min (List.map pU [c]).length n = min 1 n := rfl
 rw [hmn] at o3 ⊢
 have hs3 : gE (List.replicate n (Value.int .u8 0)) 0 ((List.map pU [c]).take (min 1 n)) = List.replicate (min 1 n) (pU c) ++ List.replicate (n - min 1 n) (.int .u8 0) := by
  rcases Nat.eq_zero_or_pos n with rfl | hp
  .rfl
  .rw [show min 1 n = 1 from by omega]
   obtain ⟨m, rfl⟩ : ∃ m, n = m + 1 := ⟨n - 1, by omega⟩
   rfl
 rw [hs3] at o3
 have x13 : gB w1 w3 mZ := x2.new x3 (by omega)
 have x03 := x1.seq x13
 refine HK hn o3 fun w4 o4 x4 => ?_
 have z4 := x4.size
 have x04 : gB w w4 mZ := x03.trans x4 fun y hy h => by omega
 rw [hRR]
 exact ⟨⟨by rw [L8, MF], .inr ⟨p, n, [], rfl, by omega, by rw [MW]; exact o4, by rw [MW, L8, MF], Md _⟩⟩, x04⟩
end Go.Proofs.YthohephggmkeeaaDoor
namespace Go.Pu
open Go Go.En
structure Lq (B : List Bool) (l : List UInt8) : Prop where
 len : l.length = (B.length + 7) / 8
 bits : JX l = B ++ List.replicate (8 * l.length - B.length) false
end Go.Pu
namespace Go.Proofs.YthohephggmkeeaaDoor
open Go Go.En Go.Pu
set_option maxRecDepth 4000
theorem IF {w w' : Na} {S M : Nat -> Prop} {sz n : Nat} {v : Nb} {l : List Nb} (h : yG w S sz v n l) (hx : gB w w' M) (hM : ∀ b, S b -> ¬ M b) : yG w' S sz v n l := by
 refine ⟨h.1, ?_⟩
 rcases h.2 with h2 | ⟨b, c, rest, h1, h2, h3, h4, h5⟩
 .exact .inl h2
 .exact .inr ⟨b, c, rest, h1, h2, h3.ext hx (hM b h2), h4, h5⟩
def Wr (w : Na) (lo p : Nat) (B : List Bool) : Prop := lo <= p /\ ∃ v bytes, iA w p [v, .int .i64 B.length] /\ yG w (fun b => lo <= b /\ b ≠ p) 1 v bytes.length (bytes.map pU) /\ Lq B bytes
theorem Wr.ext {w w' : Na} {lo p : Nat} {B : List Bool} {M : Nat -> Prop} (h : Wr w lo p B) (hx : gB w w' M) (hM : ∀ b, lo <= b -> ¬ M b) : Wr w' lo p B := by
 obtain ⟨h0, v, bytes, h1, h2, h3⟩ := h
 exact ⟨h0, v, bytes, h1.ext hx (hM _ h0), IF h2 hx fun b hb => hM b hb.1, h3⟩
def Cw (w : Na) (p : Nat) (S : Nat -> Prop) (l : List UInt8) : Prop := ¬ S p /\ ∃ v, iA w p [v] /\ yG w S 1 v l.length (l.map pU)
theorem Cw.ext {w w' : Na} {p : Nat} {S M : Nat -> Prop} {l : List UInt8} (h : Cw w p S l) (x : gB w w' M) (hp : ¬ M p) (hM : ∀ b, S b -> ¬ M b) : Cw w' p S l := by
 obtain ⟨h0, v, h1, h2⟩ := h
 exact ⟨h0, v, h1.ext x hp, IF h2 x hM⟩
theorem Cw.lt {w : Na} {p : Nat} {S : Nat -> Prop} {l : List UInt8} (h : Cw w p S l) : p < w.heap.size := by
 obtain ⟨_, v, h1, _⟩ := h; exact h1.lt
theorem GS {w : Na} {S : Nat -> Prop} {n : Nat} {v : Nb} {l : List Nb} (o3 : yG w S 1 v n l) : Sl w v l := by
 have : Dx w 0 1 v n l := ⟨o3.1, by
  rcases o3.2 with h | ⟨b, c, rest, g1, g2, g3⟩
  .exact .inl h
  .exact .inr ⟨b, c, rest, g1, by omega, g3⟩⟩
 exact this.sl
end Go.Proofs.YthohephggmkeeaaDoor
namespace Go.En
open Go
theorem yG.ext {w w' : Na} {S M : Nat -> Prop} {sz n : Nat} {v : Nb} {l : List Nb} (h : yG w S sz v n l) (hx : gB w w' M) (hM : ∀ b, S b -> ¬ M b) : yG w' S sz v n l := by
 refine ⟨h.1, ?_⟩
 rcases h.2 with h2 | ⟨b, c, rest, h1, h2, h3, h4, h5⟩
 .exact .inl h2
 .exact .inr ⟨b, c, rest, h1, h2, h3.ext hx (hM b h2), h4, h5⟩
theorem Dx.ne {w : Na} {base p sz n : Nat} {v : Nb} {l : List Nb} (h : Dx w base sz v n l) (hp : w.heap.size <= p) : yG w (fun b => base <= b /\ b ≠ p) sz v n l := by
 refine ⟨h.1, ?_⟩
 rcases h.2 with h2 | ⟨b, c, rest, h1, h2, h3, h4, h5⟩
 .exact .inl h2
 .have := h3.lt
  exact .inr ⟨b, c, rest, h1, ⟨h2, by omega⟩, h3, h4, h5⟩
theorem yG.len {w : Na} {S : Nat -> Prop} {sz n : Nat} {v : Nb} {l : List Nb} (h : yG w S sz v n l) : ∃ a c, v = .slice a n c := by
 rcases h.2 with ⟨h1, rfl⟩ | ⟨b, c, rest, h1, _⟩
 .exact ⟨_, _, h1⟩
 .exact ⟨_, _, h1⟩
end Go.En
namespace Go.Proofs.YthohephggmkeeaaDoor
open Go Go.En Go.Pu
set_option maxRecDepth 4000
theorem zN {w : Na} {S T : Nat -> Prop} {sz n : Nat} {v : Nb} {l : List Nb} (h : yG w S sz v n l) (hT : ∀ b, S b -> b < w.heap.size -> T b) : yG w T sz v n l := by
 refine ⟨h.1, ?_⟩
 rcases h.2 with h2 | ⟨b, c, rest, h1, h2, h3, h4, h5⟩
 .exact .inl h2
 .exact .inr ⟨b, c, rest, h1, hT b h2 h3.lt, h3, h4, h5⟩
def tZ : Nb := .slice none 0 0
theorem Ed {p pr lo hi n : Nat} {cs : List Nb} {l : List UInt8} {w : Na} (o : iA w p cs) (c0 : cs[0]? = some (.pointer (some ⟨pr, 0, none⟩))) (hr : As w lo hi pr l 0) (hl : l.length <= 1000000) (hn : n <= 1000000) :
 fO pg iT #[.pointer (some ⟨p, 0, none⟩), .int .i64 (n : Nat)] w (fun r w' => (l.length < n /\ r = .tuple #[tZ, .int .i64 10] /\ w' = w) ∨ (n <= l.length /\ ∃ v, r = .tuple #[v, .int .i64 0] /\ Bs w' v (l.take n) /\ G3 v (fun b => lo <= b /\ b < hi /\ b ≠ pr) /\ As w' lo hi pr (l.drop n) 0 /\ gB w w' (fun y => y = pr))) := by
 refine yL ?_
 unfold vJ mV
 have c := o.cell (off := 0)
 rw [c0] at c
 simp (disch := omega) only [dQ, fJ, cQ, stepR_skip, eE, eT, eK, fC, fB, eX, fL, fA, dK, eL, eN, eY, eB, eI, eM, eF, eJ, fD, eZ, eC, dS, eS, eQ, eA, gP, gQ, gT, gU, gV, gR, gW, gS, gO, dH, Result.ok.injEq, Next.value.injEq, true_and, and_true, dZ, dY, eP, eU, eH, fM, LU, dR, dV, dW, dU, dN, dM, dO, dL, dI, cY, if_true, if_false, LQ, LX, LR, LS, LW, LV, LP, LO, cS, cM, cC, bW, cV, dJ, bV, bU, cR, cK, cO, dC, cN, dG, cZ, dT, dE, cH, bH, bO, aR, aC, aJ, dD, aL, cG, dF, dB, bN, aH, bD, aY, cP, aG, aX, aM, aV, cU, aW, cJ, bS, aD, aA, aK, dP, aO, aP, bC, aQ, cD, aE, bZ, bT, bF, bB, aZ, cX, aI, bJ, aT, aS, aU, aF, dA, cL, bP, aN, cW, bX, bY, cB, bQ, bR, bG, cA, bE, cF, bA, bM, bL, bK, cI, c]
 refine (Bh hr).mono ?_
 rintro r w1 ⟨rfl, h1⟩
 rw [h1]; clear h1 w1
 by_cases h : l.length < n
 .have d1 : decide ((n : Int) > (l.length : Int)) = true := decide_eq_true (by omega)
  have d2 : decide ((l.length : Int) < (n : Int)) = true := decide_eq_true (by omega)
  simp (disch := omega) only [dQ, fJ, cQ, stepR_skip, eE, eT, eK, fC, fB, eX, fL, fA, dK, eL, eN, eY, eB, eI, eM, eF, eJ, fD, eZ, eC, dS, eS, eQ, eA, gP, gQ, gT, gU, gV, gR, gW, gS, gO, dH, Result.ok.injEq, Next.value.injEq, true_and, and_true, dZ, dY, eP, eU, eH, fM, LU, dR, dV, dW, dU, dN, dM, dO, dL, dI, cY, if_true, if_false, LQ, LX, LR, LS, LW, LV, LP, LO, cS, cM, cC, bW, cV, dJ, bV, bU, cR, cK, cO, dC, cN, dG, cZ, dT, dE, cH, bH, bO, aR, aC, aJ, dD, aL, cG, dF, dB, bN, aH, bD, aY, cP, aG, aX, aM, aV, cU, aW, cJ, bS, aD, aA, aK, dP, aO, aP, bC, aQ, cD, aE, bZ, bT, bF, bB, aZ, cX, aI, bJ, aT, aS, aU, aF, dA, cL, bP, aN, cW, bX, bY, cB, bQ, bR, bG, cA, bE, cF, bA, bM, bL, bK, cI, d1, d2]
  exact .inl ⟨h, rfl⟩
 .have d1 : decide ((n : Int) > (l.length : Int)) = false := decide_eq_false (by omega)
  have d2 : decide ((l.length : Int) < (n : Int)) = false := decide_eq_false (by omega)
  simp (disch := omega) only [dQ, fJ, cQ, stepR_skip, eE, eT, eK, fC, fB, eX, fL, fA, dK, eL, eN, eY, eB, eI, eM, eF, eJ, fD, eZ, eC, dS, eS, eQ, eA, gP, gQ, gT, gU, gV, gR, gW, gS, gO, dH, Result.ok.injEq, Next.value.injEq, true_and, and_true, dZ, dY, eP, eU, eH, fM, LU, dR, dV, dW, dU, dN, dM, dO, dL, dI, cY, if_true, if_false, LQ, LX, LR, LS, LW, LV, LP, LO, cS, cM, cC, bW, cV, dJ, bV, bU, cR, cK, cO, dC, cN, dG, cZ, dT, dE, cH, bH, bO, aR, aC, aJ, dD, aL, cG, dF, dB, bN, aH, bD, aY, cP, aG, aX, aM, aV, cU, aW, cJ, bS, aD, aA, aK, dP, aO, aP, bC, aQ, cD, aE, bZ, bT, bF, bB, aZ, cX, aI, bJ, aT, aS, aU, aF, dA, cL, bP, aN, cW, bX, bY, cB, bQ, bR, bG, cA, bE, cF, bA, bM, bL, bK, cI, d1, d2, c]
  refine (Di hr (by omega) (by omega)).mono ?_
  have ht : sE l 0 n = (l.take n, l.drop n, 0) := by unfold sE; rw [if_neg (by decide), if_neg h]
  rw [ht]
  rintro r w1 ⟨h1, h2, h3, h4⟩
  exact .inr ⟨by omega, r, rfl, h1, h2, h3, h4⟩
def gZ : List Nb := [tZ, .int .i64 0, tZ, .int .i64 0, tZ, .int .i64 0, tZ, .int .u32 0, .int .u32 0, .int .u32 0]
def gL : List Nb := [tZ, .int .i64 0, tZ, .int .i64 0, tZ, .int .i64 0, tZ, .int .u32 1, .int .u32 4, .int .u32 8]
def KV : Nb := .agg #[.slice none 0 0, .int .i64 0, .slice none 0 0, .int .i64 0, .slice none 0 0, .int .i64 0, .slice none 0 0, .int .u32 0, .int .u32 0, .int .u32 0]
def La : Nb := .agg #[.slice none 0 0, .int .i64 0, .slice none 0 0, .int .i64 0, .slice none 0 0, .int .i64 0, .slice none 0 0, .int .u32 1, .int .u32 4, .int .u32 8]
def bx (l : List UInt8) : Nat := lK (l.take 3)
def wQ (l : List UInt8) : Nat := bx l / 2 % 4
def zY (l : List UInt8) : Nat := bx l / 8
def CA (l : List UInt8) : Nat := if wQ l = 1 then 1 else zY l
def Gl (l : List UInt8) : List UInt8 := if wQ l = 1 then List.replicate (zY l) ((l.drop 3).headD 0) else (l.drop 3).take (zY l)
def DO (l all : List UInt8) (win room : Nat) : Option (Except Int (List UInt8 × List UInt8 × Bool)) :=
 if l.length < 3 then some (.error 10) else if wQ l = 3 then some (.error 11) else if min win 131072 < zY l then some (.error 12)
 else if wQ l = 2 then none else if l.length - 3 < CA l then some (.error 10)
 else if room < all.length + (Gl l).length then some (.error 12) else some (.ok (all ++ Gl l, l.drop (3 + CA l), bx l % 2 == 1))
theorem Hq {RR : Nb -> Na -> Prop} {p pg6 pt9 px most n : Nat} {L : Bool} {vo va x1 x2 : Nb} {N : Nat} {cs : List Nb} {w : Na}
 (o : iA w p cs) (k2 : cs[2]? = some (.int .i64 (most : Nat))) (k3 : cs[3]? = some vo) (hvo : ∃ a c, vo = .slice a n c) (hva : ∃ a c, va = .slice a N c) (og : iA w pg6 gL) (ot : iA w pt9 gZ) (hne : pg6 ≠ pt9) (hpx : px ≠ pt9)
 (ox : iA w px [.bool L, x1, x2]) (hn : n <= 2000000) (hN : N <= 4000000) (hmost : most <= 2000000)
 (hk : ∀ w', gB w w' (fun y => y = pt9) -> RR (if most < n + N then .tuple #[tZ, KV, .bool false, .int .i64 12] else .tuple #[va, La, .bool L, .int .i64 0]) w') :
 iJ RR (.pointer (some ⟨p, 0, none⟩)) va (.pointer (some ⟨pg6, 0, none⟩)) (.pointer (some ⟨pt9, 0, none⟩)) (.pointer (some ⟨px, 0, none⟩)) w := by
 unfold iJ
 obtain ⟨a, c, rfl⟩ := hvo
 obtain ⟨a', c', rfl⟩ := hva
 have e2 := (iQ o).cell (off := 2)
 have e3 := (iQ o).cell (off := 3)
 have f2 := o.cell (off := 2)
 have f3 := o.cell (off := 3)
 have g2 := (iQ (iQ o)).cell (off := 2)
 have g3 := (iQ (iQ o)).cell (off := 3)
 rw [k2] at e2 f2 g2
 rw [k3] at e3 f3 g3
 by_cases h : most < n + N
 .have d1 : decide ((n : Int) + (N : Int) > (most : Int)) = true := decide_eq_true (by omega)
  have d2 : decide ((most : Int) < (n : Int) + (N : Int)) = true := decide_eq_true (by omega)
  rw [if_pos h] at hk
  simp (disch := omega) only [dQ, fJ, cQ, stepR_skip, eE, eT, eK, fC, fB, eX, fL, fA, dK, eL, eN, eY, eB, eI, eM, eF, eJ, fD, eZ, eC, dS, eS, eQ, eA, gP, gQ, gT, gU, gV, gR, gW, gS, gO, dH, Result.ok.injEq, Next.value.injEq, true_and, and_true, dZ, dY, eP, eU, eH, fM, LU, dR, dV, dW, dU, dN, dM, dO, dL, dI, cY, if_true, if_false, LQ, LX, LR, LS, LW, LV, LP, LO, cS, cM, cC, bW, cV, dJ, bV, bU, cR, cK, cO, dC, cN, dG, cZ, dT, dE, cH, bH, bO, aR, aC, aJ, dD, aL, cG, dF, dB, bN, aH, bD, aY, cP, aG, aX, aM, aV, cU, aW, cJ, bS, aD, aA, aK, dP, aO, aP, bC, aQ, cD, aE, bZ, bT, bF, bB, aZ, cX, aI, bJ, aT, aS, aU, aF, dA, cL, bP, aN, cW, bX, bY, cB, bQ, bR, bG, cA, bE, cF, bA, bM, bL, bK, cI, e2, e3, f2, f3, g2, g3, d1, d2]
  refine iH (iQ ot) rfl (by simp [one]) (by simp [gZ]) fun w1 o1 x1 s1 => ?_
  refine kC o1 (by simp [gE, gZ]) ?_
  simp only [gE, gZ, L2, L5, Mg, Ma, Mh]
  exact hk w1 ((gB.dr w _).seq x1)
 .have d1 : decide ((n : Int) + (N : Int) > (most : Int)) = false := decide_eq_false (by omega)
  have d2 : decide ((most : Int) < (n : Int) + (N : Int)) = false := decide_eq_false (by omega)
  rw [if_neg h] at hk
  have hg := sX (off := 0) (iQ og) (by simp [gL])
  have hg2 := sX (off := 0) (iQ (iQ og)) (by simp [gL])
  simp only [gL, Mg, Ma, Mh] at hg hg2
  have b0 := (iQ ox).cell (off := 0)
  have b1 := (iQ (iQ ox)).cell (off := 0)
  simp only [LO] at b0 b1
  simp (disch := omega) only [dQ, fJ, cQ, stepR_skip, eE, eT, eK, fC, fB, eX, fL, fA, dK, eL, eN, eY, eB, eI, eM, eF, eJ, fD, eZ, eC, dS, eS, eQ, eA, gP, gQ, gT, gU, gV, gR, gW, gS, gO, dH, Result.ok.injEq, Next.value.injEq, true_and, and_true, dZ, dY, eP, eU, eH, fM, LU, dR, dV, dW, dU, dN, dM, dO, dL, dI, cY, if_true, if_false, LQ, LX, LR, LS, LW, LV, LP, LO, cS, cM, cC, bW, cV, dJ, bV, bU, cR, cK, cO, dC, cN, dG, cZ, dT, dE, cH, bH, bO, aR, aC, aJ, dD, aL, cG, dF, dB, bN, aH, bD, aY, cP, aG, aX, aM, aV, cU, aW, cJ, bS, aD, aA, aK, dP, aO, aP, bC, aQ, cD, aE, bZ, bT, bF, bB, aZ, cX, aI, bJ, aT, aS, aU, aF, dA, cL, bP, aN, cW, bX, bY, cB, bQ, bR, bG, cA, bE, cF, bA, bM, bL, bK, cI, e2, e3, f2, f3, g2, g3, d1, d2, hg, hg2, b0, b1]
  refine iH (iQ (iQ ot)) rfl (by simp [one, tZ]) (by simp [gZ]) fun w1 o1 x1 s1 => ?_
  have ox1 := (iQ (iQ ox)).ext x1 hpx
  have b2 := ox1.cell (off := 0)
  simp only [LO] at b2
  try simp (disch := omega) only [dQ, fJ, cQ, stepR_skip, eE, eT, eK, fC, fB, eX, fL, fA, dK, eL, eN, eY, eB, eI, eM, eF, eJ, fD, eZ, eC, dS, eS, eQ, eA, gP, gQ, gT, gU, gV, gR, gW, gS, gO, dH, Result.ok.injEq, Next.value.injEq, true_and, and_true, dZ, dY, eP, eU, eH, fM, LU, dR, dV, dW, dU, dN, dM, dO, dL, dI, cY, if_true, if_false, LQ, LX, LR, LS, LW, LV, LP, LO, cS, cM, cC, bW, cV, dJ, bV, bU, cR, cK, cO, dC, cN, dG, cZ, dT, dE, cH, bH, bO, aR, aC, aJ, dD, aL, cG, dF, dB, bN, aH, bD, aY, cP, aG, aX, aM, aV, cU, aW, cJ, bS, aD, aA, aK, dP, aO, aP, bC, aQ, cD, aE, bZ, bT, bF, bB, aZ, cX, aI, bJ, aT, aS, aU, aF, dA, cL, bP, aN, cW, bX, bY, cB, bQ, bR, bG, cA, bE, cF, bA, bM, bL, bK, cI, b2]
  refine kC o1 (by simp [gE, gZ]) ?_
  simp only [gE, gZ, L2, L5, Mg, Ma, Mh]
  exact hk w1 (((gB.dr w _).seq (gB.dr _ _)).seq x1)
theorem Ll {S : Nat -> Prop} {v x : Nb} {l m : List UInt8} {w : Na} (h : yG w S 1 v l.length (l.map pU)) (hx : Bs w x m) (hb : ∀ b, w.heap.size <= b -> S b) (hn : l.length + m.length <= 100000000) {K : Nb -> Na -> Prop}
 (hk : ∀ v' w', yG w' S 1 v' (l ++ m).length ((l ++ m).map pU) -> gB w w' S -> K v' w') : dQ pg (pI .append #[22, 22] 22 [v, x]) w K := by
 have hcl : Cl w 1 x m.length (m.map pU) := by have := hx.cl; rwa [LZ] at this
 refine Ds (m := m.length) (news := m.map pU) (i := Tryd.t5) Tryd.underlying22 Tryd.underlying22 BY rfl rfl rfl h hcl (Gr _) hb (by omega) (by rw [show Tryd.t5.bytes = 1 from rfl]; omega) (by decide) fun v3 w3 o3 x3 => ?_
 refine hk v3 w3 ?_ x3
 rw [L4, List.map_append]
 exact o3
theorem HE {RR : Nb -> Na -> Prop} {p pr pg6 pt9 px lo hi most n k sz need wv bv : Nat} {L : Bool} {A : Nat -> Prop} {vo va : Nb} {all l made : List UInt8} {cs : List Nb} {w : Na}
 (o : iA w p cs) (k0 : cs[0]? = some (.pointer (some ⟨pr, 0, none⟩))) (k2 : cs[2]? = some (.int .i64 (most : Nat))) (k3 : cs[3]? = some vo) (hvo : ∃ a c, vo = .slice a n c) (og : iA w pg6 gL) (ot : iA w pt9 gZ) (ox : iA w px [.bool L, .int .i64 (k : Nat), .int .i64 (sz : Nat)])
 (hr : As w lo hi pr l 0) (ha : yG w A 1 va all.length (all.map pU)) (hA : ∀ b, A b -> b ≠ p /\ ¬ (lo <= b /\ b < hi) /\ b ≠ pg6 /\ b ≠ pt9 /\ b ≠ px) (hAn : ∀ b, w.heap.size <= b -> A b)
 (hne : pg6 ≠ pt9) (hpx : px ≠ pt9) (q1 : ¬ (lo <= p /\ p < hi)) (q2 : ¬ (lo <= pg6 /\ pg6 < hi)) (q3 : ¬ (lo <= pt9 /\ pt9 < hi)) (q4 : ¬ (lo <= px /\ px < hi)) (hk01 : k = 0 ∨ k = 1) (hsz : sz <= 131072) (hn : n <= 2000000) (hl : l.length <= 1000000) (hall : all.length <= 2000000) (hmost : most <= 2000000)
 (hneed : need = if k = 1 then 1 else sz) (hmade : made = if k = 1 then List.replicate sz (l.headD 0) else l.take sz)
 (hk1 : l.length < need -> ∀ w', gB w w' (fun y => y = pt9) -> RR (.tuple #[tZ, KV, .bool false, .int .i64 10]) w')
 (hk2 : need <= l.length -> most < n + (all.length + made.length) -> ∀ w', gB w w' (fun y => A y ∨ y = pr ∨ y = pt9) -> RR (.tuple #[tZ, KV, .bool false, .int .i64 12]) w')
 (hk3 : need <= l.length -> ¬ most < n + (all.length + made.length) -> ∀ w' va', yG w' A 1 va' (all ++ made).length ((all ++ made).map pU) -> As w' lo hi pr (l.drop need) 0 -> gB w w' (fun y => A y ∨ y = pr ∨ y = pt9) -> RR (.tuple #[va', La, .bool L, .int .i64 0]) w') :
 jJ RR (.pointer (some ⟨p, 0, none⟩)) va (.int .u64 (wv : Nat)) (.pointer (some ⟨pg6, 0, none⟩)) (.pointer (some ⟨pt9, 0, none⟩)) (.int .i64 (bv : Nat)) (.pointer (some ⟨px, 0, none⟩)) (.int .i64 (need : Nat)) w := by
 have hneed2 : need <= 131072 := by rw [hneed]; split <;> omega
 unfold jJ nD
 refine (Ed o k0 hr hl (by omega)).mono ?_
 rintro r w1 (⟨h1, rfl, h2⟩ | ⟨h1, v, rfl, hb1, hat, hr1, x1⟩)
 .rw [h2]; clear h2 w1
  have n1 : ((10 : Int) != 0) = true := rfl
  unfold tZ
  simp (disch := omega) only [dQ, fJ, cQ, stepR_skip, eE, eT, eK, fC, fB, eX, fL, fA, dK, eL, eN, eY, eB, eI, eM, eF, eJ, fD, eZ, eC, dS, eS, eQ, eA, gP, gQ, gT, gU, gV, gR, gW, gS, gO, dH, Result.ok.injEq, Next.value.injEq, true_and, and_true, dZ, dY, eP, eU, eH, fM, LU, dR, dV, dW, dU, dN, dM, dO, dL, dI, cY, if_true, if_false, LQ, LX, LR, LS, LW, LV, LP, LO, cS, cM, cC, bW, cV, dJ, bV, bU, cR, cK, cO, dC, cN, dG, cZ, dT, dE, cH, bH, bO, aR, aC, aJ, dD, aL, cG, dF, dB, bN, aH, bD, aY, cP, aG, aX, aM, aV, cU, aW, cJ, bS, aD, aA, aK, dP, aO, aP, bC, aQ, cD, aE, bZ, bT, bF, bB, aZ, cX, aI, bJ, aT, aS, aU, aF, dA, cL, bP, aN, cW, bX, bY, cB, bQ, bR, bG, cA, bE, cF, bA, bM, bL, bK, cI, n1]
  refine iH ot rfl (by simp [one]) (by simp [gZ]) fun w1 o1 x1 s1 => ?_
  refine kC o1 (by simp [gE, gZ]) ?_
  simp only [gE, gZ, L2, L5, Mg, Ma, Mh]
  exact hk1 h1 w1 x1
 have n1 : ((0 : Int) != 0) = false := rfl
 have hpr : lo <= pr /\ pr < hi := ⟨hr.1, hr.2.1⟩
 have ox1 := ox.ext x1 (fun e => q4 (e ▸ hpr))
 have og1 := og.ext x1 (fun e => q2 (e ▸ hpr))
 have ot1 := ot.ext x1 (fun e => q3 (e ▸ hpr))
 have o1 := o.ext x1 (fun e => q1 (e ▸ hpr))
 have ha1 := ha.ext x1 (fun b hb e => (hA b hb).2.1 (e ▸ hpr))
 have z1 := x1.size
 have c1 := ox1.cell (off := 1)
 have c2 := ox1.cell (off := 2)
 simp only [LO, LP] at c1 c2
 have fin : ∀ (m' : List UInt8) (v' : Nb) (w2 : Na), m' = made -> yG w2 A 1 v' (all ++ m').length ((all ++ m').map pU) -> gB w1 w2 A -> iJ RR (.pointer (some ⟨p, 0, none⟩)) v' (.pointer (some ⟨pg6, 0, none⟩)) (.pointer (some ⟨pt9, 0, none⟩)) (.pointer (some ⟨px, 0, none⟩)) w2 := by
  rintro m' v' w2 rfl o2 x2
  have hlen := o2.len
  refine Hq (n := n) (N := (all ++ m').length) (L := L) (o1.ext x2 fun h => (hA p h).1 rfl) k2 k3 hvo hlen (og1.ext x2 fun h => (hA _ h).2.2.1 rfl) (ot1.ext x2 fun h => (hA _ h).2.2.2.1 rfl) hne hpx (ox1.ext x2 fun h => (hA _ h).2.2.2.2 rfl) (by omega) ?_ hmost fun w' x => ?_
  .have : m'.length <= 131072 := by
    rw [hmade]; split
    .rw [L8]; exact hsz
    .rw [L6]; omega
   rw [L4]; omega
  .rw [L4]
   have xx : gB w w' (fun y => A y ∨ y = pr ∨ y = pt9) := (((x1.mono fun _ _ h => .inr (.inl h)).seq (x2.mono fun _ _ h => .inl h))).seq (x.mono fun _ _ h => .inr (.inr h))
   by_cases hm : most < n + (all.length + m'.length)
   .rw [if_pos hm]; exact hk2 h1 hm w' xx
   .rw [if_neg hm]
    refine hk3 h1 hm w' v' (o2.ext x fun b hb e => (hA b hb).2.2.2.1 e) ((hr1.ext x2 fun b h1 h2 h3 => (hA b h3).2.1 ⟨h1, h2⟩).ext x fun b h1 h2 h3 => q3 (h3 ▸ ⟨h1, h2⟩)) xx
 rcases hk01 with rfl | rfl
 .have e0 : (((0 : Nat) : Int) == 0) = true := rfl
  simp only [show ¬ ((0 : Nat) = 1) from by decide, if_false] at hneed hmade
  simp (disch := omega) only [dQ, fJ, cQ, stepR_skip, eE, eT, eK, fC, fB, eX, fL, fA, dK, eL, eN, eY, eB, eI, eM, eF, eJ, fD, eZ, eC, dS, eS, eQ, eA, gP, gQ, gT, gU, gV, gR, gW, gS, gO, dH, Result.ok.injEq, Next.value.injEq, true_and, and_true, dZ, dY, eP, eU, eH, fM, LU, dR, dV, dW, dU, dN, dM, dO, dL, dI, cY, if_true, if_false, LQ, LX, LR, LS, LW, LV, LP, LO, cS, cM, cC, bW, cV, dJ, bV, bU, cR, cK, cO, dC, cN, dG, cZ, dT, dE, cH, bH, bO, aR, aC, aJ, dD, aL, cG, dF, dB, bN, aH, bD, aY, cP, aG, aX, aM, aV, cU, aW, cJ, bS, aD, aA, aK, dP, aO, aP, bC, aQ, cD, aE, bZ, bT, bF, bB, aZ, cX, aI, bJ, aT, aS, aU, aF, dA, cL, bP, aN, cW, bX, bY, cB, bQ, bR, bG, cA, bE, cF, bA, bM, bL, bK, cI, n1, c1, e0]
  refine Ll ha1 hb1 (fun b hb => hAn b (by omega)) (by rw [L6]; omega) fun v' w2 o2 x2 => ?_
  exact fin _ v' w2 (by rw [hmade, hneed]) o2 x2
 .have e0 : (((1 : Nat) : Int) == 0) = false := rfl
  have e1 : (((1 : Nat) : Int) == 1) = true := rfl
  simp only [if_true] at hneed hmade
  subst hneed
  simp (disch := omega) only [dQ, fJ, cQ, stepR_skip, eE, eT, eK, fC, fB, eX, fL, fA, dK, eL, eN, eY, eB, eI, eM, eF, eJ, fD, eZ, eC, dS, eS, eQ, eA, gP, gQ, gT, gU, gV, gR, gW, gS, gO, dH, Result.ok.injEq, Next.value.injEq, true_and, and_true, dZ, dY, eP, eU, eH, fM, LU, dR, dV, dW, dU, dN, dM, dO, dL, dI, cY, if_true, if_false, LQ, LX, LR, LS, LW, LV, LP, LO, cS, cM, cC, bW, cV, dJ, bV, bU, cR, cK, cO, dC, cN, dG, cZ, dT, dE, cH, bH, bO, aR, aC, aJ, dD, aL, cG, dF, dB, bN, aH, bD, aY, cP, aG, aX, aM, aV, cU, aW, cJ, bS, aD, aA, aK, dP, aO, aP, bC, aQ, cD, aE, bZ, bT, bF, bB, aZ, cX, aI, bJ, aT, aS, aU, aF, dA, cL, bP, aN, cW, bX, bY, cB, bQ, bR, bG, cA, bE, cF, bA, bM, bL, bK, cI, n1, c1, e0, e1, c2]
  obtain ⟨c, t, hct⟩ : ∃ c t, l = c :: t := by
   cases l with
   | nil => simp at h1
   | cons c t => exact ⟨c, t, rfl⟩
  have e4 : l.take 1 = [c] := by rw [hct] <;> rfl
  rw [e4] at hb1
  refine (IS hb1 hsz).mono ?_
  rintro r w2 ⟨o2, x2⟩
  have z2 := x2.size
  have hbr : Bs w2 r (List.replicate sz c) := by
   unfold Bs
   rw [List.map_replicate]
   exact o2.sl
  refine Ll (ha1.ext x2 fun _ _ h => h) hbr (fun b hb => hAn b (by omega)) (by rw [L8]; omega) fun v' w3 o3 x3 => ?_
  exact fin _ v' w3 (by rw [hmade, hct] <;> rfl) o3 ((x2.mono fun _ _ h => h.elim).seq x3)
def JW (lo hi pr : Nat) (A : Nat -> Prop) (w : Na) (r : Nb) (w' : Na) : Except Int (List UInt8 × List UInt8 × Bool) -> Prop
 | .error e => r = .tuple #[tZ, KV, .bool false, .int .i64 e] /\ gB w w' (fun y => A y ∨ y = pr)
 | .ok (a, l, b) => ∃ v, r = .tuple #[v, La, .bool b, .int .i64 0] /\ yG w' A 1 v a.length (a.map pU) /\ As w' lo hi pr l 0 /\ gB w w' (fun y => A y ∨ y = pr)
theorem Ip {p pr lo hi most n win : Nat} {A : Nat -> Prop} {vo va : Nb} {all l : List UInt8} {cs : List Nb} {w : Na} {m : Except Int (List UInt8 × List UInt8 × Bool)}
 (o : iA w p cs) (k0 : cs[0]? = some (.pointer (some ⟨pr, 0, none⟩))) (k2 : cs[2]? = some (.int .i64 (most : Nat))) (k3 : cs[3]? = some vo) (hvo : ∃ a c, vo = .slice a n c)
 (hr : As w lo hi pr l 0) (ha : yG w A 1 va all.length (all.map pU)) (hA : ∀ b, A b -> b ≠ p /\ ¬ (lo <= b /\ b < hi)) (hAn : ∀ b, w.heap.size <= b -> A b) (hhi : hi <= w.heap.size)
 (q1 : ¬ (lo <= p /\ p < hi)) (hn : n <= most) (hl : l.length <= 1000000) (hall : all.length <= 2000000) (hmost : most <= 2000000)
 (hm : DO l all win (most - n) = some m) :
 fO pg lF #[.pointer (some ⟨p, 0, none⟩), va, La, .int .u64 (win : Nat)] w (fun r w' => JW lo hi pr A w r w' m) := by
 refine zJ ?_
 obtain ⟨RR, hRR⟩ : ∃ RR : Nb -> Na -> Prop, RR = fun r w' => JW lo hi pr A w r w' m := ⟨_, rfl⟩
 rw [<- hRR]
 unfold vC mY nB
 refine DV fun w1 o1 x1 s1 => ?_
 have o1 : iA w1 w.heap.size gL := o1
 obtain ⟨p6, hp6⟩ : ∃ p, p = w.heap.size := ⟨_, rfl⟩
 rw [<- hp6] at o1 ⊢
 refine AB fun w2 o2 x2 s2 => ?_
 have o2 : iA w2 w1.heap.size gZ := o2
 obtain ⟨p9, hp9⟩ : ∃ p, p = w1.heap.size := ⟨_, rfl⟩
 rw [<- hp9] at o2 ⊢
 have z1 := o1.lt
 have z2 := o2.lt
 have x12 := x1.seq x2
 have og2 := o1.ext x2 (fun h => h)
 have hmn : (if (131072 : Int) < (win : Int) then (131072 : Int) else (win : Int)) = ((min win 131072 : Nat) : Int) := by
  split <;> omega
 have hw : IntKind.i64.wrap ((min win 131072 : Nat) : Int) = ((min win 131072 : Nat) : Int) := dZ (by omega) (by omega)
 simp (disch := omega) only [dQ, fJ, cQ, stepR_skip, eE, eT, eK, fC, fB, eX, fL, fA, dK, eL, eN, eY, eB, eI, eM, eF, eJ, fD, eZ, eC, dS, eS, eQ, eA, gP, gQ, gT, gU, gV, gR, gW, gS, gO, dH, Result.ok.injEq, Next.value.injEq, true_and, and_true, dZ, dY, eP, eU, eH, fM, LU, dR, dV, dW, dU, dN, dM, dO, dL, dI, cY, if_true, if_false, LQ, LX, LR, LS, LW, LV, LP, LO, cS, cM, cC, bW, cV, dJ, bV, bU, cR, cK, cO, dC, cN, dG, cZ, dT, dE, cH, bH, bO, aR, aC, aJ, dD, aL, cG, dF, dB, bN, aH, bD, aY, cP, aG, aX, aM, aV, cU, aW, cJ, bS, aD, aA, aK, dP, aO, aP, bC, aQ, cD, aE, bZ, bT, bF, bB, aZ, cX, aI, bJ, aT, aS, aU, aF, dA, cL, bP, aN, cW, bX, bY, cB, bQ, bR, bG, cA, bE, cF, bA, bM, bL, bK, cI, hmn, hw]
 refine (Ed (n := 3) (o.ext x12 (fun h => h)) k0 (hr.ext x12 (fun _ _ _ h => h)) hl (by omega)).mono ?_
 unfold DO at hm
 rintro r w3 (⟨h1, rfl, h2⟩ | ⟨h1, v, rfl, hb1, hat, hr1, x3⟩)
 .rw [h2]; clear h2 w3
  rw [if_pos h1] at hm
  cases hm
  have n1 : ((10 : Int) != 0) = true := rfl
  unfold tZ
  simp (disch := omega) only [dQ, fJ, cQ, stepR_skip, eE, eT, eK, fC, fB, eX, fL, fA, dK, eL, eN, eY, eB, eI, eM, eF, eJ, fD, eZ, eC, dS, eS, eQ, eA, gP, gQ, gT, gU, gV, gR, gW, gS, gO, dH, Result.ok.injEq, Next.value.injEq, true_and, and_true, dZ, dY, eP, eU, eH, fM, LU, dR, dV, dW, dU, dN, dM, dO, dL, dI, cY, if_true, if_false, LQ, LX, LR, LS, LW, LV, LP, LO, cS, cM, cC, bW, cV, dJ, bV, bU, cR, cK, cO, dC, cN, dG, cZ, dT, dE, cH, bH, bO, aR, aC, aJ, dD, aL, cG, dF, dB, bN, aH, bD, aY, cP, aG, aX, aM, aV, cU, aW, cJ, bS, aD, aA, aK, dP, aO, aP, bC, aQ, cD, aE, bZ, bT, bF, bB, aZ, cX, aI, bJ, aT, aS, aU, aF, dA, cL, bP, aN, cW, bX, bY, cB, bQ, bR, bG, cA, bE, cF, bA, bM, bL, bK, cI, n1]
  refine iH o2 rfl (by simp [one]) (by simp [gZ]) fun w3 o3 x3 s3 => ?_
  refine kC o3 (by simp [gE, gZ]) ?_
  simp only [gE, gZ, L2, L5, Mg, Ma, Mh]
  rw [hRR]
  exact ⟨rfl, (x12.mono fun _ _ h => h.elim).trans x3 fun y hy h => by omega⟩
 rw [if_neg (by omega)] at hm
 have n0 : ((0 : Int) != 0) = false := rfl
 have hpr : lo <= pr /\ pr < hi := ⟨hr.1, hr.2.1⟩
 have og3 := og2.ext x3 (by intro h; omega)
 have ot3 := o2.ext x3 (by intro h; omega)
 have o3 := (o.ext x12 (fun h => h)).ext x3 (fun e => q1 (e ▸ hpr))
 have ha3 := (ha.ext x12 (fun _ _ h => h)).ext x3 (fun b hb e => (hA b hb).2 (e ▸ hpr))
 simp (disch := omega) only [dQ, fJ, cQ, stepR_skip, eE, eT, eK, fC, fB, eX, fL, fA, dK, eL, eN, eY, eB, eI, eM, eF, eJ, fD, eZ, eC, dS, eS, eQ, eA, gP, gQ, gT, gU, gV, gR, gW, gS, gO, dH, Result.ok.injEq, Next.value.injEq, true_and, and_true, dZ, dY, eP, eU, eH, fM, LU, dR, dV, dW, dU, dN, dM, dO, dL, dI, cY, if_true, if_false, LQ, LX, LR, LS, LW, LV, LP, LO, cS, cM, cC, bW, cV, dJ, bV, bU, cR, cK, cO, dC, cN, dG, cZ, dT, dE, cH, bH, bO, aR, aC, aJ, dD, aL, cG, dF, dB, bN, aH, bD, aY, cP, aG, aX, aM, aV, cU, aW, cJ, bS, aD, aA, aK, dP, aO, aP, bC, aQ, cD, aE, bZ, bT, bF, bB, aZ, cX, aI, bJ, aT, aS, aU, aF, dA, cL, bP, aN, cW, bX, bY, cB, bQ, bR, bG, cA, bE, cF, bA, bM, bL, bK, cI, n0]
 refine (FV hb1 (by rw [L6]; omega)).mono ?_
 rintro r w4 ⟨rfl, x4⟩
 have e0 : lK (l.take 3) = bx l := rfl
 unfold Lr
 rw [e0]
 have ek : bx l / 2 % 4 = wQ l := rfl
 rw [ek]
 have og4 := og3.ext x4 (fun h => h)
 have ot4 := ot3.ext x4 (fun h => h)
 have zz3 := x3.size
 have zz4 := x4.size
 by_cases h3 : wQ l = 3
 .rw [if_pos h3]
  rw [if_pos h3] at hm
  cases hm
  have n1 : ((11 : Int) != 0) = true := rfl
  simp (disch := omega) only [dQ, fJ, cQ, stepR_skip, eE, eT, eK, fC, fB, eX, fL, fA, dK, eL, eN, eY, eB, eI, eM, eF, eJ, fD, eZ, eC, dS, eS, eQ, eA, gP, gQ, gT, gU, gV, gR, gW, gS, gO, dH, Result.ok.injEq, Next.value.injEq, true_and, and_true, dZ, dY, eP, eU, eH, fM, LU, dR, dV, dW, dU, dN, dM, dO, dL, dI, cY, if_true, if_false, LQ, LX, LR, LS, LW, LV, LP, LO, cS, cM, cC, bW, cV, dJ, bV, bU, cR, cK, cO, dC, cN, dG, cZ, dT, dE, cH, bH, bO, aR, aC, aJ, dD, aL, cG, dF, dB, bN, aH, bD, aY, cP, aG, aX, aM, aV, cU, aW, cJ, bS, aD, aA, aK, dP, aO, aP, bC, aQ, cD, aE, bZ, bT, bF, bB, aZ, cX, aI, bJ, aT, aS, aU, aF, dA, cL, bP, aN, cW, bX, bY, cB, bQ, bR, bG, cA, bE, cF, bA, bM, bL, bK, cI, n1]
  refine vS fun w5 o5 x5 s5 => ?_
  refine qH o5 rfl (by simp [one]) (by simp) fun w6 o6 x6 s6 => ?_
  have x46 : gB w4 w6 mZ := x5.new x6 (by omega)
  have ot6 := ot4.ext x46 (fun h => h)
  try simp (disch := omega) only [dQ, fJ, cQ, stepR_skip, eE, eT, eK, fC, fB, eX, fL, fA, dK, eL, eN, eY, eB, eI, eM, eF, eJ, fD, eZ, eC, dS, eS, eQ, eA, gP, gQ, gT, gU, gV, gR, gW, gS, gO, dH, Result.ok.injEq, Next.value.injEq, true_and, and_true, dZ, dY, eP, eU, eH, fM, LU, dR, dV, dW, dU, dN, dM, dO, dL, dI, cY, if_true, if_false, LQ, LX, LR, LS, LW, LV, LP, LO, cS, cM, cC, bW, cV, dJ, bV, bU, cR, cK, cO, dC, cN, dG, cZ, dT, dE, cH, bH, bO, aR, aC, aJ, dD, aL, cG, dF, dB, bN, aH, bD, aY, cP, aG, aX, aM, aV, cU, aW, cJ, bS, aD, aA, aK, dP, aO, aP, bC, aQ, cD, aE, bZ, bT, bF, bB, aZ, cX, aI, bJ, aT, aS, aU, aF, dA, cL, bP, aN, cW, bX, bY, cB, bQ, bR, bG, cA, bE, cF, bA, bM, bL, bK, cI, n1]
  refine iH ot6 rfl (by simp [one]) (by simp [gZ]) fun w7 o7 x7 s7 => ?_
  refine kC o7 (by simp [gE, gZ]) ?_
  simp only [gE, gZ, L2, L5, Mg, Ma, Mh]
  rw [hRR]
  exact ⟨rfl, ((x12.mono fun _ _ h => h.elim).seq ((x3.mono fun _ _ h => .inr h).seq ((x4.seq x46).mono fun _ _ h => h.elim))).trans x7 fun y hy h => by omega⟩
 rw [if_neg h3]
 rw [if_neg h3] at hm
 unfold LB
 rw [ek]
 have es : bx l / 8 = zY l := rfl
 rw [es]
 simp (disch := omega) only [dQ, fJ, cQ, stepR_skip, eE, eT, eK, fC, fB, eX, fL, fA, dK, eL, eN, eY, eB, eI, eM, eF, eJ, fD, eZ, eC, dS, eS, eQ, eA, gP, gQ, gT, gU, gV, gR, gW, gS, gO, dH, Result.ok.injEq, Next.value.injEq, true_and, and_true, dZ, dY, eP, eU, eH, fM, LU, dR, dV, dW, dU, dN, dM, dO, dL, dI, cY, if_true, if_false, LQ, LX, LR, LS, LW, LV, LP, LO, cS, cM, cC, bW, cV, dJ, bV, bU, cR, cK, cO, dC, cN, dG, cZ, dT, dE, cH, bH, bO, aR, aC, aJ, dD, aL, cG, dF, dB, bN, aH, bD, aY, cP, aG, aX, aM, aV, cU, aW, cJ, bS, aD, aA, aK, dP, aO, aP, bC, aQ, cD, aE, bZ, bT, bF, bB, aZ, cX, aI, bJ, aT, aS, aU, aF, dA, cL, bP, aN, cW, bX, bY, cB, bQ, bR, bG, cA, bE, cF, bA, bM, bL, bK, cI, n0]
 refine vS fun w5 o5 x5 s5 => ?_
 obtain ⟨px, hpx⟩ : ∃ p, p = w4.heap.size := ⟨_, rfl⟩
 rw [<- hpx] at o5 ⊢
 refine qH o5 rfl (by simp [one]) (by simp) fun w6 o6 x6 s6 => ?_
 simp only [gE, L2, L5] at o6
 have x46 : gB w4 w6 mZ := x5.new x6 (by omega)
 have c1 := o6.cell (off := 1)
 have c2 := o6.cell (off := 2)
 simp only [LO, LP] at c1 c2
 have og6 := og4.ext x46 (fun h => h)
 have ot6 := ot4.ext x46 (fun h => h)
 have z5 := o5.lt
 by_cases hb : min win 131072 < zY l
 .rw [if_pos hb] at hm
  cases hm
  have d1 : decide (((zY l : Nat) : Int) > ((min win 131072 : Nat) : Int)) = true := decide_eq_true (by omega)
  have d2 : decide (((min win 131072 : Nat) : Int) < ((zY l : Nat) : Int)) = true := decide_eq_true (by omega)
  simp (disch := omega) only [dQ, fJ, cQ, stepR_skip, eE, eT, eK, fC, fB, eX, fL, fA, dK, eL, eN, eY, eB, eI, eM, eF, eJ, fD, eZ, eC, dS, eS, eQ, eA, gP, gQ, gT, gU, gV, gR, gW, gS, gO, dH, Result.ok.injEq, Next.value.injEq, true_and, and_true, dZ, dY, eP, eU, eH, fM, LU, dR, dV, dW, dU, dN, dM, dO, dL, dI, cY, if_true, if_false, LQ, LX, LR, LS, LW, LV, LP, LO, cS, cM, cC, bW, cV, dJ, bV, bU, cR, cK, cO, dC, cN, dG, cZ, dT, dE, cH, bH, bO, aR, aC, aJ, dD, aL, cG, dF, dB, bN, aH, bD, aY, cP, aG, aX, aM, aV, cU, aW, cJ, bS, aD, aA, aK, dP, aO, aP, bC, aQ, cD, aE, bZ, bT, bF, bB, aZ, cX, aI, bJ, aT, aS, aU, aF, dA, cL, bP, aN, cW, bX, bY, cB, bQ, bR, bG, cA, bE, cF, bA, bM, bL, bK, cI, n0, c1, c2, d1, d2]
  refine iH ot6 rfl (by simp [one]) (by simp [gZ]) fun w7 o7 x7 s7 => ?_
  refine kC o7 (by simp [gE, gZ]) ?_
  simp only [gE, gZ, L2, L5, Mg, Ma, Mh]
  rw [hRR]
  exact ⟨rfl, ((x12.mono fun _ _ h => h.elim).seq ((x3.mono fun _ _ h => .inr h).seq ((x4.seq x46).mono fun _ _ h => h.elim))).trans x7 fun y hy h => by omega⟩
 rw [if_neg hb] at hm
 have d1 : decide (((zY l : Nat) : Int) > ((min win 131072 : Nat) : Int)) = false := decide_eq_false (by omega)
 have d2 : decide (((min win 131072 : Nat) : Int) < ((zY l : Nat) : Int)) = false := decide_eq_false (by omega)
 have hk2' : wQ l ≠ 2 := by
  intro h
  rw [if_pos h] at hm
  cases hm
 rw [if_neg hk2'] at hm
 have hk01 : wQ l = 0 ∨ wQ l = 1 := by
  have : wQ l < 4 := Nat.mod_lt _ (by omega)
  omega
 have x02 : gB w w2 mZ := x12
 have x06 : gB w w6 (fun y => y = pr) := ((x02.mono fun _ _ h => h.elim).seq x3).seq ((x4.seq x46).mono fun _ _ h => h.elim)
 have ha' : yG w (fun b => A b /\ b ≠ p6 /\ b ≠ p9 /\ b ≠ px) 1 va all.length (all.map pU) := zN ha fun b hb h1 => by
  have := x1.size
  have := x2.size
  exact ⟨hb, by omega, by omega, by omega⟩
 have ha6 := ha'.ext x06 fun b hb e => (hA b hb.1).2 (e ▸ hpr)
 have hr6 := (hr1.ext x4 fun _ _ _ h => h).ext x46 fun _ _ _ h => h
 have o6' := (o3.ext x4 fun h => h).ext x46 fun h => h
 have e8 : (l.drop 3).headD 0 = (l.drop 3).headD 0 := rfl
 have hld : (l.drop 3).length = l.length - 3 := L7
 have main : jJ RR (.pointer (some ⟨p, 0, none⟩)) va (.int .u64 (win : Nat)) (.pointer (some ⟨p6, 0, none⟩)) (.pointer (some ⟨p9, 0, none⟩)) (.int .i64 (min win 131072 : Nat)) (.pointer (some ⟨px, 0, none⟩)) (.int .i64 (CA l : Nat)) w6 := by
  have hz0 := o.lt
  refine HE (made := Gl l) (L := bx l % 2 == 1) (A := fun b => A b /\ b ≠ p6 /\ b ≠ p9 /\ b ≠ px) o6' k0 k2 k3 hvo og6 ot6 o6 hr6 ha6 ?_ ?_ (by omega) (by omega) q1 (by omega) (by omega) (by omega) hk01 (by omega) (by omega) (by omega) hall hmost rfl rfl ?_ ?_ ?_
  .intro b hb
   exact ⟨(hA b hb.1).1, (hA b hb.1).2, hb.2.1, hb.2.2.1, hb.2.2.2⟩
  .intro b hb
   exact ⟨hAn b (by omega), by omega, by omega, by omega⟩
  .intro h w' x
   rw [if_pos (by omega)] at hm
   cases hm
   rw [hRR]
   exact ⟨rfl, (x06.mono fun _ _ h => .inr h).trans x fun y hy h => by omega⟩
  .intro h h2 w' h5
   rw [if_neg (by omega), if_pos (by omega)] at hm
   cases hm
   rw [hRR]
   refine ⟨rfl, (x06.mono fun _ _ h => .inr h).trans h5 fun y hy h => ?_⟩
   rcases h with h | h | h
   .exact .inl h.1
   .exact .inr h
   .omega
  .intro h h2 w' va' h3 h4 h5
   rw [if_neg (by omega), if_neg (by omega)] at hm
   cases hm
   rw [hRR]
   rw [List.drop_drop] at h4
   refine ⟨va', rfl, zN h3 fun b hb _ => hb.1, h4, (x06.mono fun _ _ h => .inr h).trans h5 fun y hy h => ?_⟩
   rcases h with h | h | h
   .exact .inl h.1
   .exact .inr h
   .omega
 rcases hk01 with h | h
 .have e1 : CA l = zY l := by unfold CA; rw [if_neg (by omega)]
  have e2 : (((wQ l : Nat) : Int) == 1) = false := by rw [h] <;> rfl
  rw [e1] at main
  simp (disch := omega) only [dQ, fJ, cQ, stepR_skip, eE, eT, eK, fC, fB, eX, fL, fA, dK, eL, eN, eY, eB, eI, eM, eF, eJ, fD, eZ, eC, dS, eS, eQ, eA, gP, gQ, gT, gU, gV, gR, gW, gS, gO, dH, Result.ok.injEq, Next.value.injEq, true_and, and_true, dZ, dY, eP, eU, eH, fM, LU, dR, dV, dW, dU, dN, dM, dO, dL, dI, cY, if_true, if_false, LQ, LX, LR, LS, LW, LV, LP, LO, cS, cM, cC, bW, cV, dJ, bV, bU, cR, cK, cO, dC, cN, dG, cZ, dT, dE, cH, bH, bO, aR, aC, aJ, dD, aL, cG, dF, dB, bN, aH, bD, aY, cP, aG, aX, aM, aV, cU, aW, cJ, bS, aD, aA, aK, dP, aO, aP, bC, aQ, cD, aE, bZ, bT, bF, bB, aZ, cX, aI, bJ, aT, aS, aU, aF, dA, cL, bP, aN, cW, bX, bY, cB, bQ, bR, bG, cA, bE, cF, bA, bM, bL, bK, cI, n0, c1, c2, d1, d2, e2]
  exact main
 .have e1 : CA l = 1 := by unfold CA; rw [if_pos (by omega)]
  have e2 : (((wQ l : Nat) : Int) == 1) = true := by rw [h] <;> rfl
  rw [e1] at main
  simp (disch := omega) only [dQ, fJ, cQ, stepR_skip, eE, eT, eK, fC, fB, eX, fL, fA, dK, eL, eN, eY, eB, eI, eM, eF, eJ, fD, eZ, eC, dS, eS, eQ, eA, gP, gQ, gT, gU, gV, gR, gW, gS, gO, dH, Result.ok.injEq, Next.value.injEq, true_and, and_true, dZ, dY, eP, eU, eH, fM, LU, dR, dV, dW, dU, dN, dM, dO, dL, dI, cY, if_true, if_false, LQ, LX, LR, LS, LW, LV, LP, LO, cS, cM, cC, bW, cV, dJ, bV, bU, cR, cK, cO, dC, cN, dG, cZ, dT, dE, cH, bH, bO, aR, aC, aJ, dD, aL, cG, dF, dB, bN, aH, bD, aY, cP, aG, aX, aM, aV, cU, aW, cJ, bS, aD, aA, aK, dP, aO, aP, bC, aQ, cD, aE, bZ, bT, bF, bB, aZ, cX, aI, bJ, aT, aS, aU, aF, dA, cL, bP, aN, cW, bX, bY, cB, bQ, bR, bG, cA, bE, cF, bA, bM, bL, bK, cI, n0, c1, c2, d1, d2, e2]
  exact main
end Go.Proofs.YthohephggmkeeaaDoor
namespace Go.Proofs.YthohephggmkeeaaDoor
open Go Go.En
set_option maxRecDepth 4000
def GX (x : Int) (k : Nat) : Int := KD .u64 (IntKind.u64.wrap (x * 2 ^ k)) (x.fdiv (2 ^ (64 - k)))
def Hx (v x : Int) : Int := IntKind.u64.wrap (GX (IntKind.u64.wrap (v + IntKind.u64.wrap (x * 14029467366897019727))) 31 * 11400714785074694791)
theorem Lb : ∀ k : Fin 64, uN .u64 (k.val : Int) 63 = (k.val : Int) := by decide
theorem KN : ∀ k : Fin 64, IntKind.u64.wrap (64 - (k.val : Int)) = 64 - (k.val : Int) := by decide
theorem Cs (x : Int) (k : Nat) (hk : k < 64) (w : Na) :
 fO pg gM #[.int .u64 x, .int .i64 (k : Int)] w (fun v w' => v = .int .u64 (GX x k) /\ w' = w) := by
 refine uM ?_
 have h1 := Lb ⟨k, hk⟩
 have h2 := KN ⟨k, hk⟩
 simp only at h1 h2
 have e1 : min k IntKind.u64.bits = k := by simp only [IntKind.bits]; omega
 have e2 : min (64 - (k : Int)).toNat IntKind.u64.bits = 64 - k := by simp only [IntKind.bits]; omega
 simp (disch := omega) only [rP, kS, dQ, fJ, cQ, stepR_skip, eE, eT, eK, fC, fB, eX, fL, fA, dK, eL, eN, eY, eB, eI, eM, eF, eJ, fD, eZ, eC, dS, eS, eQ, eA, gP, gQ, gT, gU, gV, gR, gW, gS, gO, dH, Result.ok.injEq, Next.value.injEq, true_and, and_true, dZ, dY, eP, eU, eH, fM, LU, dR, dV, dW, dU, dN, dM, dO, dL, dI, cY, if_true, if_false, LQ, LX, LR, LS, LW, LV, LP, LO, cS, cM, cC, bW, cV, dJ, bV, bU, cR, cK, cO, dC, cN, dG, cZ, dT, dE, cH, bH, bO, aR, aC, aJ, dD, aL, cG, dF, dB, bN, aH, bD, aY, cP, aG, aX, aM, aV, cU, aW, cJ, bS, aD, aA, aK, dP, aO, aP, bC, aQ, cD, aE, bZ, bT, bF, bB, aZ, cX, aI, bJ, aT, aS, aU, aF, dA, cL, bP, aN, cW, bX, bY, cB, bQ, bR, bG, cA, bE, cF, bA, bM, bL, bK, cI, h1, h2, e1, e2, GX]
theorem C6 (v x : Int) (w : Na) :
 fO pg rD #[.int .u64 v, .int .u64 x] w (fun r w' => r = .int .u64 (Hx v x) /\ w' = w) := by
 refine Ea ?_
 simp (disch := omega) only [EW, Am, dQ, fJ, cQ, stepR_skip, eE, eT, eK, fC, fB, eX, fL, fA, dK, eL, eN, eY, eB, eI, eM, eF, eJ, fD, eZ, eC, dS, eS, eQ, eA, gP, gQ, gT, gU, gV, gR, gW, gS, gO, dH, Result.ok.injEq, Next.value.injEq, true_and, and_true, dZ, dY, eP, eU, eH, fM, LU, dR, dV, dW, dU, dN, dM, dO, dL, dI, cY, if_true, if_false, LQ, LX, LR, LS, LW, LV, LP, LO, cS, cM, cC, bW, cV, dJ, bV, bU, cR, cK, cO, dC, cN, dG, cZ, dT, dE, cH, bH, bO, aR, aC, aJ, dD, aL, cG, dF, dB, bN, aH, bD, aY, cP, aG, aX, aM, aV, cU, aW, cJ, bS, aD, aA, aK, dP, aO, aP, bC, aQ, cD, aE, bZ, bT, bF, bB, aZ, cX, aI, bJ, aT, aS, aU, aF, dA, cL, bP, aN, cW, bX, bY, cB, bQ, bR, bG, cA, bE, cF, bA, bM, bL, bK, cI]
 refine (Cs _ 31 (by omega) w).mono ?_
 rintro r w' ⟨rfl, rfl⟩
 simp (disch := omega) only [dQ, fJ, cQ, stepR_skip, eE, eT, eK, fC, fB, eX, fL, fA, dK, eL, eN, eY, eB, eI, eM, eF, eJ, fD, eZ, eC, dS, eS, eQ, eA, gP, gQ, gT, gU, gV, gR, gW, gS, gO, dH, Result.ok.injEq, Next.value.injEq, true_and, and_true, dZ, dY, eP, eU, eH, fM, LU, dR, dV, dW, dU, dN, dM, dO, dL, dI, cY, if_true, if_false, LQ, LX, LR, LS, LW, LV, LP, LO, cS, cM, cC, bW, cV, dJ, bV, bU, cR, cK, cO, dC, cN, dG, cZ, dT, dE, cH, bH, bO, aR, aC, aJ, dD, aL, cG, dF, dB, bN, aH, bD, aY, cP, aG, aX, aM, aV, cU, aW, cJ, bS, aD, aA, aK, dP, aO, aP, bC, aQ, cD, aE, bZ, bT, bF, bB, aZ, cX, aI, bJ, aT, aS, aU, aF, dA, cL, bP, aN, cW, bX, bY, cB, bQ, bR, bG, cA, bE, cF, bA, bM, bL, bK, cI, Hx]
def sG : List UInt8 -> Int
 | [] => 0
 | c :: l => (c.toNat : Int) + 256 * sG l
theorem Cv : ∀ l, 0 <= sG l
 | [] => by simp [sG]
 | c :: l => by have := Cv l; simp only [sG]; omega
theorem GG (l : List UInt8) (c : UInt8) : sG (l ++ [c]) = sG l + (c.toNat : Int) * 256 ^ l.length := by
 induction l with
 | nil => simp [sG]
 | cons a l ih => simp only [Mz, sG, ih, Mc, Int.pow_succ, Int.mul_add]; rw [Int.mul_comm (256 : Int) (_ * _), Int.mul_assoc]; omega
theorem FP : ∀ l : List UInt8, sG l < 256 ^ l.length
 | [] => by simp [sG]
 | c :: l => by
   have := FP l
   have hc : c.toNat < 256 := c.toNat_lt
   simp only [sG, Mc, Int.pow_succ]; omega
theorem DI {α : Type} {l : List α} {k : Nat} (h : k < l.length) : l.take (k + 1) = l.take k ++ [l[k]] := by
 rw [List.take_succ_eq_append_getElem h]
theorem Ie {x : Int} {c k : Nat} (hk : k < 8) (hx0 : 0 <= x) (hx : x < 256 ^ k) (hc : c < 256) :
 KD .u64 x (IntKind.u64.wrap ((c : Int) * 2 ^ (8 * k))) = x + (c : Int) * 256 ^ k := by
 obtain ⟨m, rfl⟩ := Int.eq_ofNat_of_zero_le hx0
 have e256 : (256 : Nat) ^ k = 2 ^ (8 * k) := by rw [show (256 : Nat) = 2 ^ 8 from rfl, <- Nat.pow_mul]
 have hm : m < 2 ^ (8 * k) := by rw [<- e256]; exact_mod_cast hx
 have hle : c * 2 ^ (8 * k) + 2 ^ (8 * k) <= 2 ^ 64 := by
  have h1 : (c + 1) * 2 ^ (8 * k) <= 256 * 2 ^ (8 * k) := Nat.mul_le_mul_right _ (by omega)
  have h2 : (256 : Nat) * 2 ^ (8 * k) = 2 ^ (8 * k + 8) := by rw [Nat.pow_add, Nat.mul_comm]
  have h3 : (2 : Nat) ^ (8 * k + 8) <= 2 ^ 64 := MC (by omega) (by omega)
  rw [MT] at h1; omega
 have hpos : 0 < 2 ^ (8 * k) := Nat.pow_pos (by omega)
 have w : IntKind.u64.wrap ((c : Int) * 2 ^ (8 * k)) = ((c * 2 ^ (8 * k) : Nat) : Int) := by
  have : ((c : Int) * 2 ^ (8 * k)) = ((c * 2 ^ (8 * k) : Nat) : Int) := by push_cast; rfl
  rw [this]; exact dY (by omega) (by omega)
 rw [w]
 have b1 : (BitVec.ofInt 64 (m : Int) ||| BitVec.ofInt 64 ((c * 2 ^ (8 * k) : Nat) : Int)).toNat = m + c * 2 ^ (8 * k) := by
  rw [BitVec.toNat_or]
  simp only [BitVec.toNat_ofInt]
  have e1 : (((m : Int) % ((2 ^ 64 : Nat) : Int)).toNat) = m := by omega
  have e2 : ((((c * 2 ^ (8 * k) : Nat) : Int) % ((2 ^ 64 : Nat) : Int)).toNat) = c * 2 ^ (8 * k) := by omega
  rw [e1, e2, Nat.or_comm, Nat.mul_comm c, <- Nat.two_pow_add_eq_or_of_lt hm]
  omega
 show IntKind.u64.wrap ((BitVec.ofInt 64 (m : Int) ||| BitVec.ofInt 64 ((c * 2 ^ (8 * k) : Nat) : Int)).toNat : Int) = _
 rw [b1]
 have : ((m + c * 2 ^ (8 * k) : Nat) : Int) = (m : Int) + (c : Int) * 256 ^ k := by
  rw [<- e256]; push_cast; rfl
 rw [<- this]
 exact dY (by omega) (by omega)
theorem B3 (v : Nb) (l : List UInt8) (w : Na) (h : Bs w v l) (hl : l.length <= 8) :
 fO pg pF #[v] w (fun r w' => r = .int .u64 (sG l) /\ w' = w) := by
 obtain ⟨a, n, c, rfl, hn, hc, hcell⟩ := h
 rw [LZ] at hn
 subst hn
 refine DG ?_
 simp (disch := omega) only [DX, tL, xX, xK, xC, xW, xB, xL, xH, dQ, fJ, cQ, stepR_skip, eE, eT, eK, fC, fB, eX, fL, fA, dK, eL, eN, eY, eB, eI, eM, eF, eJ, fD, eZ, eC, dS, eS, eQ, eA, gP, gQ, gT, gU, gV, gR, gW, gS, gO, dH, Result.ok.injEq, Next.value.injEq, true_and, and_true, dZ, dY, eP, eU, eH, fM, LU, dR, dV, dW, dU, dN, dM, dO, dL, dI, cY, if_true, if_false, LQ, LX, LR, LS, LW, LV, LP, LO, cS, cM, cC, bW, cV, dJ, bV, bU, cR, cK, cO, dC, cN, dG, cZ, dT, dE, cH, bH, bO, aR, aC, aJ, dD, aL, cG, dF, dB, bN, aH, bD, aY, cP, aG, aX, aM, aV, cU, aW, cJ, bS, aD, aA, aK, dP, aO, aP, bC, aQ, cD, aE, bZ, bT, bF, bB, aZ, cX, aI, bJ, aT, aS, aU, aF, dA, cL, bP, aN, cW, bX, bY, cB, bQ, bR, bG, cA, bE, cF, bA, bM, bL, bK, cI]
 refine iR.rule (fun n t w' => ∃ k : Nat, n = l.length - k /\ k <= l.length /\ t = (.int .u64 (sG (l.take k)), .int .i64 (k : Int)) /\ w' = w) l.length ⟨0, rfl, Nat.zero_le _, rfl, rfl⟩ ?_
 rintro n t w' ⟨k, rfl, hk, rfl, rfl⟩
 by_cases hlt : k < l.length
 .obtain ⟨b, off, rfl, hcell'⟩ := hcell (by omega)
  have hcl := hcell' k hlt
  rw [MK, L3 hlt, Mm] at hcl
  have hb : (l[k].toNat) < 256 := l[k].toNat_lt
  have hd : decide ((k : Int) < (l.length : Int)) = true := by simpa using hlt
  have e1 : min (8 * (k : Int)).toNat IntKind.u64.bits = 8 * k := by simp only [IntKind.bits]; omega
  simp (disch := omega) only [qB, dQ, fJ, cQ, stepR_skip, eE, eT, eK, fC, fB, eX, fL, fA, dK, eL, eN, eY, eB, eI, eM, eF, eJ, fD, eZ, eC, dS, eS, eQ, eA, gP, gQ, gT, gU, gV, gR, gW, gS, gO, dH, Result.ok.injEq, Next.value.injEq, true_and, and_true, dZ, dY, eP, eU, eH, fM, LU, dR, dV, dW, dU, dN, dM, dO, dL, dI, cY, if_true, if_false, LQ, LX, LR, LS, LW, LV, LP, LO, cS, cM, cC, bW, cV, dJ, bV, bU, cR, cK, cO, dC, cN, dG, cZ, dT, dE, cH, bH, bO, aR, aC, aJ, dD, aL, cG, dF, dB, bN, aH, bD, aY, cP, aG, aX, aM, aV, cU, aW, cJ, bS, aD, aA, aK, dP, aO, aP, bC, aQ, cD, aE, bZ, bT, bF, bB, aZ, cX, aI, bJ, aT, aS, aU, aF, dA, cL, bP, aN, cW, bX, bY, cB, bQ, bR, bG, cA, bE, cF, bA, bM, bL, bK, cI, hd, dI, hcl, pU, e1]
  have hlen : (l.take k).length = k := by simp; omega
  have hx := FP (l.take k)
  rw [hlen] at hx
  refine ⟨l.length - (k + 1), by omega, k + 1, rfl, by omega, ?_⟩
  rw [Ie (by omega) (Cv _) hx hb, DI hlt, GG, hlen]
  rfl
 .have hd : decide ((k : Int) < (l.length : Int)) = false := by simpa using hlt
  simp (disch := omega) only [qB, dQ, fJ, cQ, stepR_skip, eE, eT, eK, fC, fB, eX, fL, fA, dK, eL, eN, eY, eB, eI, eM, eF, eJ, fD, eZ, eC, dS, eS, eQ, eA, gP, gQ, gT, gU, gV, gR, gW, gS, gO, dH, Result.ok.injEq, Next.value.injEq, true_and, and_true, dZ, dY, eP, eU, eH, fM, LU, dR, dV, dW, dU, dN, dM, dO, dL, dI, cY, if_true, if_false, LQ, LX, LR, LS, LW, LV, LP, LO, cS, cM, cC, bW, cV, dJ, bV, bU, cR, cK, cO, dC, cN, dG, cZ, dT, dE, cH, bH, bO, aR, aC, aJ, dD, aL, cG, dF, dB, bN, aH, bD, aY, cP, aG, aX, aM, aV, cU, aW, cJ, bS, aD, aA, aK, dP, aO, aP, bC, aQ, cD, aE, bZ, bT, bF, bB, aZ, cX, aI, bJ, aT, aS, aU, aF, dA, cL, bP, aN, cW, bX, bY, cB, bQ, bR, bG, cA, bE, cF, bA, bM, bL, bK, cI, hd, cY]
  rw [Mf (by omega)]
def Lj : List Int := [IntKind.u64.wrap (11400714785074694791 + 14029467366897019727), 14029467366897019727, 0, IntKind.u64.wrap (0 - 11400714785074694791)]
def Be (vs : List Int) (s : List UInt8) (i : Nat) : List Int := vs.mapIdx fun j v => if j < i then Hx v (sG ((s.drop (8 * j)).take 8)) else v
def BF : Nat -> List UInt8 -> List Int
 | 0, _ => Lj
 | k + 1, L => Be (BF k L) ((L.drop (32 * k)).take 32) 4
theorem mF (vs : List Int) (s : List UInt8) (i : Nat) : (Be vs s i).length = vs.length := by simp [Be]
theorem nW : ∀ k L, (BF k L).length = 4
 | 0, _ => rfl
 | k + 1, L => by rw [BF, mF, nW k L]
theorem Ht (vs : List Int) (s : List UInt8) : Be vs s 0 = vs := by
 apply List.ext_getElem
 .simp [Be]
 .intro i h1 h2; simp [Be]
theorem Iv (vs : List Int) (s : List UInt8) (i : Nat) (h : i < vs.length) : (Be vs s i)[i]? = some vs[i] := by
 rw [L3 (by rw [mF]; exact h)]; simp [Be]
theorem IW (vs : List Int) (s : List UInt8) (i : Nat) (h : i < vs.length) : (Be vs s i).set i (Hx vs[i] (sG ((s.drop (8 * i)).take 8))) = Be vs s (i + 1) := by
 apply List.ext_getElem
 .simp [Be]
 .intro j h1 h2
  rw [List.getElem_set]
  simp only [Be, List.getElem_mapIdx]
  by_cases hij : i = j
  .subst hij; simp
  .simp only [hij, if_false]
   by_cases hj : j < i
   .rw [if_pos hj, if_pos (by omega)]
   .rw [if_neg hj, if_neg (by omega)]
theorem Dq : ∀ k (L M : List UInt8), 32 * k <= L.length -> BF k (L ++ M) = BF k L
 | 0, _, _, _ => rfl
 | k + 1, L, M, h => by
   rw [BF, BF, Dq k L M (by omega)]
   congr 1
   rw [List.drop_append_of_le_length (by omega), MM (by rw [L7]; omega)]
def fW (vs : List Int) (kept : List UInt8) (n all : Nat) : List Nb := vs.map (Value.int .u64) ++ (kept.map pU ++ [.int .i64 (n : Int), .int .u64 (all : Int)])
theorem kD {vs : List Int} {kept : List UInt8} {n all : Nat} (h1 : vs.length = 4) (h2 : kept.length = 32) : (fW vs kept n all).length = 38 := by
 simp [fW, h1, h2]
theorem Dy {vs : List Int} {kept : List UInt8} {n all : Nat} (i : Nat) (h : i < vs.length) : (fW vs kept n all)[i]? = some (.int .u64 vs[i]) := by
 unfold fW; rw [Mk (by simpa using h)]; simp [h]
theorem Bk {vs : List Int} {kept : List UInt8} {n all : Nat} (h1 : vs.length = 4) (i : Nat) (h : i < kept.length) : (fW vs kept n all)[4 + i]? = some (pU kept[i]) := by
 unfold fW
 rw [My (by simp [h1]), LZ, h1, Nat.add_sub_cancel_left, Mk (by simpa using h)]; simp [h]
theorem wD {vs : List Int} {kept : List UInt8} {n all : Nat} (h1 : vs.length = 4) (h2 : kept.length = 32) : (fW vs kept n all)[36]? = some (.int .i64 (n : Int)) := by
 unfold fW
 rw [My (by simp [h1]), LZ, h1, My (by simp [h2]), LZ, h2] <;> rfl
theorem tG {vs : List Int} {kept : List UInt8} {n all : Nat} (h1 : vs.length = 4) (h2 : kept.length = 32) : (fW vs kept n all)[37]? = some (.int .u64 (all : Int)) := by
 unfold fW
 rw [My (by simp [h1]), LZ, h1, My (by simp [h2]), LZ, h2] <;> rfl
theorem DJ {vs : List Int} {kept : List UInt8} {n all : Nat} (i : Nat) (x : Int) (h : i < vs.length) : (fW vs kept n all).set i (.int .u64 x) = fW (vs.set i x) kept n all := by
 unfold fW; rw [List.set_append_left _ _ (by simpa using h), List.map_set]
theorem AI {vs : List Int} {kept : List UInt8} {n all : Nat} (h1 : vs.length = 4) (h2 : kept.length = 32) (m : Nat) : (fW vs kept n all).set 36 (.int .i64 (m : Int)) = fW vs kept m all := by
 unfold fW
 rw [Mo _ _ (by simp [h1]), LZ, h1, Mo _ _ (by simp [h2]), LZ, h2] <;> rfl
theorem CI {vs : List Int} {kept : List UInt8} {n all : Nat} (h1 : vs.length = 4) (h2 : kept.length = 32) (m : Nat) : (fW vs kept n all).set 37 (.int .u64 (m : Int)) = fW vs kept n m := by
 unfold fW
 rw [Mo _ _ (by simp [h1]), LZ, h1, Mo _ _ (by simp [h2]), LZ, h2] <;> rfl
def Al (l : List UInt8) (o : Nat) (x : List UInt8) : List UInt8 := l.take o ++ x ++ l.drop (o + x.length)
theorem ED {l : List UInt8} {o : Nat} {x : List UInt8} (h : o + x.length <= l.length) : (Al l o x).length = l.length := by
 simp [Al]; omega
theorem HX {l : List UInt8} {o : Nat} {c : UInt8} {x : List UInt8} (h : o + (x.length + 1) <= l.length) : Al (l.set o c) (o + 1) x = Al l o (c :: x) := by
 unfold Al
 rw [List.take_set, List.drop_set_of_lt (by omega)]
 have e : (l.take (o + 1)).set o c = l.take o ++ [c] := by
  rw [List.take_succ_eq_append_getElem (by omega), Mo _ _ (by simp; omega)]
  simp only [L6]
  rw [show o - min o l.length = 0 from by omega] <;> rfl
 rw [e]
 simp only [Mi, List.singleton_append, Mc, Mz, MH]
 rw [show o + 1 + x.length = o + (x.length + 1) from by omega]
theorem D6 {vs : List Int} {n all : Nat} (h1 : vs.length = 4) : ∀ (x kept : List UInt8) (o : Nat), o + x.length <= kept.length →
 gE (fW vs kept n all) (4 + o) (x.map pU) = fW vs (Al kept o x) n all := by
 intro x
 induction x with
 | nil => intro kept o _; simp [gE, Al]
 | cons c x ih =>
   intro kept o h
   rw [Mc] at h
   have e : (fW vs kept n all).set (4 + o) (pU c) = fW vs (kept.set o c) n all := by
    unfold fW
    rw [Mo _ _ (by simp [h1]), LZ, h1, Nat.add_sub_cancel_left, List.set_append_left _ _ (by simp; omega), List.map_set]
   rw [List.map_cons, gE, e, MS, ih _ _ (by simp; omega), HX (by omega)]
def Hm (w : Na) (b : Nat) (L : List UInt8) (all : Nat) : Prop :=
 ∃ kept, kept.length = 32 /\ kept.take (L.length % 32) = L.drop (32 * (L.length / 32)) /\ iA w b (fW (BF (L.length / 32) L) kept (L.length % 32) all)
abbrev Da (w : Na) (b : Nat) (L : List UInt8) : Prop := Hm w b L L.length
theorem JG (w : Na) : fO pg Bv #[] w (fun v w' => v = .pointer (some ⟨w.heap.size, 0, none⟩) /\ Da w' w.heap.size [] /\ gB w w' mZ) := by
 refine EZ ?_
 simp (disch := omega) only [Hc, Cm, dQ, fJ, cQ, stepR_skip, eE, eT, eK, fC, fB, eX, fL, fA, dK, eL, eN, eY, eB, eI, eM, eF, eJ, fD, eZ, eC, dS, eS, eQ, eA, gP, gQ, gT, gU, gV, gR, gW, gS, gO, dH, Result.ok.injEq, Next.value.injEq, true_and, and_true, dZ, dY, eP, eU, eH, fM, LU, dR, dV, dW, dU, dN, dM, dO, dL, dI, cY, if_true, if_false, LQ, LX, LR, LS, LW, LV, LP, LO, cS, cM, cC, bW, cV, dJ, bV, bU, cR, cK, cO, dC, cN, dG, cZ, dT, dE, cH, bH, bO, aR, aC, aJ, dD, aL, cG, dF, dB, bN, aH, bD, aY, cP, aG, aX, aM, aV, cU, aW, cJ, bS, aD, aA, aK, dP, aO, aP, bC, aQ, cD, aE, bZ, bT, bF, bB, aZ, cX, aI, bJ, aT, aS, aU, aF, dA, cL, bP, aN, cW, bX, bY, cB, bQ, bR, bG, cA, bE, cF, bA, bM, bL, bK, cI]
 refine DV fun w1 o1 x1 s1 => ⟨rfl, ⟨List.replicate 32 0, rfl, rfl, ?_⟩, x1⟩
 exact o1
theorem Cz {w : Na} {b : Nat} {cs : List Nb} (h : iA w b cs) : iA (dr w) b cs := h.ext (gB.dr w mZ) (fun h => h)
theorem Fj (w0 : Na) (b : Nat) (vs : List Int) (kept : List UInt8) (all : Nat) (h1 : vs.length = 4) (h2 : kept.length = 32) (v : Nb) (R : Nb -> Nb -> Na -> Prop)
 (hR : ∀ w', iA w' b (fW (Be vs kept 4) kept 32 all) -> gB w0 w' (fun x => x = b) -> R (.pointer (some ⟨b, 0, none⟩)) v w') (w : Na) (ho : iA w b (fW vs kept 32 all)) (hx : gB w0 w (fun x => x = b)) :
 nQ R (.pointer (some ⟨b, 0, none⟩)) v w := by
 simp (disch := omega) only [nQ, rR, sC, rQ]
 refine iR.rule (fun n t w' => ∃ i : Nat, i <= 4 /\ n = 4 - i /\ t = .int .i64 (i : Int) /\ iA w' b (fW (Be vs kept i) kept 32 all) /\ gB w0 w' (fun x => x = b)) 4
  ⟨0, by omega, rfl, rfl, by rw [Ht]; exact ho, hx⟩ ?_
 rintro n t w' ⟨i, hi, rfl, rfl, ho, hx⟩
 by_cases hlt : i < 4
 .have hd : decide ((i : Int) < 4) = true := by simp; omega
  have hod := Cz ho
  have hv := Iv vs kept i (by omega)
  have hc : (fW (Be vs kept i) kept 32 all)[i]? = some (.int .u64 vs[i]) := by
   rw [Dy i (by rw [mF]; omega)]
   rw [L3 (by rw [mF]; omega)] at hv
   rw [Ms hv]
  have t1 : (8 * (i : Int)).toNat = 8 * i := by omega
  have t2 : (8 * (i : Int) + 8).toNat = 8 * i + 8 := by omega
  simp (disch := omega) only [lC, dQ, fJ, cQ, stepR_skip, eE, eT, eK, fC, fB, eX, fL, fA, dK, eL, eN, eY, eB, eI, eM, eF, eJ, fD, eZ, eC, dS, eS, eQ, eA, gP, gQ, gT, gU, gV, gR, gW, gS, gO, dH, Result.ok.injEq, Next.value.injEq, true_and, and_true, dZ, dY, eP, eU, eH, fM, LU, dR, dV, dW, dU, dN, dM, dO, dL, dI, cY, if_true, if_false, LQ, LX, LR, LS, LW, LV, LP, LO, cS, cM, cC, bW, cV, dJ, bV, bU, cR, cK, cO, dC, cN, dG, cZ, dT, dE, cH, bH, bO, aR, aC, aJ, dD, aL, cG, dF, dB, bN, aH, bD, aY, cP, aG, aX, aM, aV, cU, aW, cJ, bS, aD, aA, aK, dP, aO, aP, bC, aQ, cD, aE, bZ, bT, bF, bB, aZ, cX, aI, bJ, aT, aS, aU, aF, dA, cL, bP, aN, cW, bX, bY, cB, bQ, bR, bG, cA, bE, cF, bA, bM, bL, bK, cI, hd, hod.cell, hc, t1, t2, Cf (show 8 * i ≠ 32 by omega)]
  have hs : ((kept.drop (8 * i)).take 8).length = 8 := by rw [L6, L7]; omega
  have hbs : Bs (dr w') (.slice (some ⟨b, 4 + 8 * i, none⟩) (8 * i + 8 - 8 * i) (32 - 8 * i)) ((kept.drop (8 * i)).take 8) := by
   rw [show 8 * i + 8 - 8 * i = ((kept.drop (8 * i)).take 8).length from by omega]
   refine hod.bs (by omega) fun j hj => ?_
   rw [MS, Bk (by rw [mF]; exact h1) (8 * i + j) (by omega)]
   simp
  refine (B3 _ _ _ hbs (by omega)).mono ?_
  rintro r w1 ⟨rfl, rfl⟩
  simp (disch := omega) only [dQ, fJ, cQ, stepR_skip, eE, eT, eK, fC, fB, eX, fL, fA, dK, eL, eN, eY, eB, eI, eM, eF, eJ, fD, eZ, eC, dS, eS, eQ, eA, gP, gQ, gT, gU, gV, gR, gW, gS, gO, dH, Result.ok.injEq, Next.value.injEq, true_and, and_true, dZ, dY, eP, eU, eH, fM, LU, dR, dV, dW, dU, dN, dM, dO, dL, dI, cY, if_true, if_false, LQ, LX, LR, LS, LW, LV, LP, LO, cS, cM, cC, bW, cV, dJ, bV, bU, cR, cK, cO, dC, cN, dG, cZ, dT, dE, cH, bH, bO, aR, aC, aJ, dD, aL, cG, dF, dB, bN, aH, bD, aY, cP, aG, aX, aM, aV, cU, aW, cJ, bS, aD, aA, aK, dP, aO, aP, bC, aQ, cD, aE, bZ, bT, bF, bB, aZ, cX, aI, bJ, aT, aS, aU, aF, dA, cL, bP, aN, cW, bX, bY, cB, bQ, bR, bG, cA, bE, cF, bA, bM, bL, bK, cI, hod.cell, hc]
  refine (C6 _ _ _).mono ?_
  rintro r w1 ⟨rfl, rfl⟩
  refine uP hod rfl (by rw [kD (by rw [mF]; exact h1) h2]; omega) fun w2 o2 x2 s2 => ?_
  rw [DJ i _ (by rw [mF]; omega), IW vs kept i (by omega)] at o2
  exact ⟨4 - (i + 1), by omega, i + 1, by omega, rfl, rfl, o2, (hx.seq (gB.dr _ _)).seq x2⟩
 .have : i = 4 := by omega
  subst this
  have hd : decide (((4 : Nat) : Int) < 4) = false := by simp
  simp (disch := omega) only [lC, dQ, fJ, cQ, stepR_skip, eE, eT, eK, fC, fB, eX, fL, fA, dK, eL, eN, eY, eB, eI, eM, eF, eJ, fD, eZ, eC, dS, eS, eQ, eA, gP, gQ, gT, gU, gV, gR, gW, gS, gO, dH, Result.ok.injEq, Next.value.injEq, true_and, and_true, dZ, dY, eP, eU, eH, fM, LU, dR, dV, dW, dU, dN, dM, dO, dL, dI, cY, if_true, if_false, LQ, LX, LR, LS, LW, LV, LP, LO, cS, cM, cC, bW, cV, dJ, bV, bU, cR, cK, cO, dC, cN, dG, cZ, dT, dE, cH, bH, bO, aR, aC, aJ, dD, aL, cG, dF, dB, bN, aH, bD, aY, cP, aG, aX, aM, aV, cU, aW, cJ, bS, aD, aA, aK, dP, aO, aP, bC, aQ, cD, aE, bZ, bT, bF, bB, aZ, cX, aI, bJ, aT, aS, aU, aF, dA, cL, bP, aN, cW, bX, bY, cB, bQ, bR, bG, cA, bE, cF, bA, bM, bL, bK, cI, hd]
  exact hR _ ho hx
theorem Fc (w0 : Na) (b : Nat) (L l : List UInt8) (_hlen : L.length + l.length <= 1099511627776) (R : Na -> Prop)
 (hR : ∀ w', Hm w' b (L ++ l) (L.length + l.length) -> gB w0 w' (fun x => x = b) -> R w') (v : Nb) (w : Na)
 (h : Hm w b L (L.length + l.length)) (hv : Bs w v l) (hb : ¬ Co v (fun x => x = b)) (hx : gB w0 w (fun x => x = b)) :
 mJ R (.pointer (some ⟨b, 0, none⟩)) v w := by
 unfold mJ
 refine iR.rule (fun n t w' => ∃ m : Nat, m <= l.length /\ n = l.length - m /\ Bs w' t (l.drop m) /\ ¬ Co t (fun x => x = b) /\ Hm w' b (L ++ l.take m) (L.length + l.length) /\ gB w0 w' (fun x => x = b)) l.length
  ⟨0, by omega, rfl, hv, hb, by simpa using h, hx⟩ ?_
 rintro n t w' ⟨m, hm, rfl, hv, hb, ⟨kept, h2, hk, ho⟩, hx⟩
 have hv' := hv
 obtain ⟨a, n, c, rfl, hn, hc, hcell⟩ := hv'
 rw [LZ, L7] at hn
 by_cases hlt : m < l.length
 .obtain ⟨b', o', rfl, hcell'⟩ := hcell (by omega)
  have hd : decide ((0 : Int) < (n : Int)) = true := by simp; omega
  have hM : (L ++ l.take m).length = L.length + m := by simp; omega
  rw [hM] at hk ho
  obtain ⟨q, hq⟩ : ∃ q, q = (L.length + m) / 32 := ⟨_, rfl⟩
  obtain ⟨r, hr⟩ : ∃ r, r = (L.length + m) % 32 := ⟨_, rfl⟩
  rw [<- hq, <- hr] at hk ho
  have hqr : L.length + m = 32 * q + r /\ r < 32 := by omega
  have h1 : (BF q (L ++ l.take m)).length = 4 := nW _ _
  have hod := Cz ho
  have t1 : (r : Int).toNat = r := by omega
  simp (disch := omega) only [jL, kE, kJ, mG, kH, lG, kZ, nS, jR, dQ, fJ, cQ, stepR_skip, eE, eT, eK, fC, fB, eX, fL, fA, dK, eL, eN, eY, eB, eI, eM, eF, eJ, fD, eZ, eC, dS, eS, eQ, eA, gP, gQ, gT, gU, gV, gR, gW, gS, gO, dH, Result.ok.injEq, Next.value.injEq, true_and, and_true, dZ, dY, eP, eU, eH, fM, LU, dR, dV, dW, dU, dN, dM, dO, dL, dI, cY, if_true, if_false, LQ, LX, LR, LS, LW, LV, LP, LO, cS, cM, cC, bW, cV, dJ, bV, bU, cR, cK, cO, dC, cN, dG, cZ, dT, dE, cH, bH, bO, aR, aC, aJ, dD, aL, cG, dF, dB, bN, aH, bD, aY, cP, aG, aX, aM, aV, cU, aW, cJ, bS, aD, aA, aK, dP, aO, aP, bC, aQ, cD, aE, bZ, bT, bF, bB, aZ, cX, aI, bJ, aT, aS, aU, aF, dA, cL, bP, aN, cW, bX, bY, cB, bQ, bR, bG, cA, bE, cF, bA, bM, bL, bK, cI, hd, hod.cell, wD h1 h2, Cf (show r ≠ 32 by omega)]
  have hvd : Bs (dr w') (.slice (some ⟨b', o', none⟩) n c) (l.drop m) := hv.ext (gB.dr w' mZ) (by unfold Co mZ; split <;> simp)
  refine A9 hod (by rw [kD h1 h2]; omega) hvd (Gr _) fun w1 o1 x1 s1 => ?_
  obtain ⟨u, hu⟩ : ∃ u, u = min n (32 - r) := ⟨_, rfl⟩
  have hlm : (List.map pU (l.drop m)).length = n := by rw [LZ, L7, hn]
  rw [hlm] at o1 ⊢
  rw [<- hu] at o1 ⊢
  have hu1 : u <= n /\ u <= 32 - r /\ (u = n ∨ u = 32 - r) := by omega
  have hul : ((l.drop m).take u).length = u := by rw [L6, L7]; omega
  rw [<- List.map_take, D6 h1 _ _ _ (by omega)] at o1
  obtain ⟨kept1, hk1⟩ : ∃ x, x = Al kept r ((l.drop m).take u) := ⟨_, rfl⟩
  rw [<- hk1] at o1
  have h21 : kept1.length = 32 := by rw [hk1, ED (by omega)]; exact h2
  simp (disch := omega) only [dQ, fJ, cQ, stepR_skip, eE, eT, eK, fC, fB, eX, fL, fA, dK, eL, eN, eY, eB, eI, eM, eF, eJ, fD, eZ, eC, dS, eS, eQ, eA, gP, gQ, gT, gU, gV, gR, gW, gS, gO, dH, Result.ok.injEq, Next.value.injEq, true_and, and_true, dZ, dY, eP, eU, eH, fM, LU, dR, dV, dW, dU, dN, dM, dO, dL, dI, cY, if_true, if_false, LQ, LX, LR, LS, LW, LV, LP, LO, cS, cM, cC, bW, cV, dJ, bV, bU, cR, cK, cO, dC, cN, dG, cZ, dT, dE, cH, bH, bO, aR, aC, aJ, dD, aL, cG, dF, dB, bN, aH, bD, aY, cP, aG, aX, aM, aV, cU, aW, cJ, bS, aD, aA, aK, dP, aO, aP, bC, aQ, cD, aE, bZ, bT, bF, bB, aZ, cX, aI, bJ, aT, aS, aU, aF, dA, cL, bP, aN, cW, bX, bY, cB, bQ, bR, bG, cA, bE, cF, bA, bM, bL, bK, cI, o1.cell, wD h1 h21]
  refine Fg o1 rfl (by rw [kD h1 h21]; omega) fun w2 o2 x2 s2 => ?_
  rw [<- Int.natCast_add, AI h1 h21] at o2
  have hx2 : gB w' w2 (fun x => x = b) := ((gB.dr w' _).seq x1).seq x2
  have hv2 := hv.ext hx2 hb
  have hv3 := hv2.drop hu1.1
  have hb3 := HI (k := u) hb (by omega) (n - u)
  rw [<- M1, List.drop_drop] at hv3
  have hM2 : L ++ l.take (m + u) = (L ++ l.take m) ++ (l.drop m).take u := by rw [Mi, List.take_add]
  have hacc : BF q (L ++ l.take (m + u)) = BF q (L ++ l.take m) := by rw [hM2]; exact Dq _ _ _ (by omega)
  have hlen2 : (L ++ l.take (m + u)).length = L.length + (m + u) := by simp; omega
  have hkeep : kept1.take (r + u) = (L ++ l.take (m + u)).drop (32 * q) := by
   rw [hk1, hM2, List.drop_append_of_le_length (by omega), <- hk]
   unfold Al
   rw [MM (by simp; omega), Mf (by simp; omega)]
  rw [<- hacc] at o2
  simp (disch := omega) only [dQ, fJ, cQ, stepR_skip, eE, eT, eK, fC, fB, eX, fL, fA, dK, eL, eN, eY, eB, eI, eM, eF, eJ, fD, eZ, eC, dS, eS, eQ, eA, gP, gQ, gT, gU, gV, gR, gW, gS, gO, dH, Result.ok.injEq, Next.value.injEq, true_and, and_true, dZ, dY, eP, eU, eH, fM, LU, dR, dV, dW, dU, dN, dM, dO, dL, dI, cY, if_true, if_false, LQ, LX, LR, LS, LW, LV, LP, LO, cS, cM, cC, bW, cV, dJ, bV, bU, cR, cK, cO, dC, cN, dG, cZ, dT, dE, cH, bH, bO, aR, aC, aJ, dD, aL, cG, dF, dB, bN, aH, bD, aY, cP, aG, aX, aM, aV, cU, aW, cJ, bS, aD, aA, aK, dP, aO, aP, bC, aQ, cD, aE, bZ, bT, bF, bB, aZ, cX, aI, bJ, aT, aS, aU, aF, dA, cL, bP, aN, cW, bX, bY, cB, bQ, bR, bG, cA, bE, cF, bA, bM, bL, bK, cI, o2.cell, wD (nW _ _) h21]
  by_cases hfull : r + u = 32
  .have he : (((r + u : Nat) : Int) == 32) = true := by rw [hfull] <;> rfl
   rw [he]
   simp (disch := omega) only [dQ, fJ, cQ, stepR_skip, eE, eT, eK, fC, fB, eX, fL, fA, dK, eL, eN, eY, eB, eI, eM, eF, eJ, fD, eZ, eC, dS, eS, eQ, eA, gP, gQ, gT, gU, gV, gR, gW, gS, gO, dH, Result.ok.injEq, Next.value.injEq, true_and, and_true, dZ, dY, eP, eU, eH, fM, LU, dR, dV, dW, dU, dN, dM, dO, dL, dI, cY, if_true, if_false, LQ, LX, LR, LS, LW, LV, LP, LO, cS, cM, cC, bW, cV, dJ, bV, bU, cR, cK, cO, dC, cN, dG, cZ, dT, dE, cH, bH, bO, aR, aC, aJ, dD, aL, cG, dF, dB, bN, aH, bD, aY, cP, aG, aX, aM, aV, cU, aW, cJ, bS, aD, aA, aK, dP, aO, aP, bC, aQ, cD, aE, bZ, bT, bF, bB, aZ, cX, aI, bJ, aT, aS, aU, aF, dA, cL, bP, aN, cW, bX, bY, cB, bQ, bR, bG, cA, bE, cF, bA, bM, bL, bK, cI]
   rw [hfull] at o2 hkeep
   have h11 := nW q (L ++ l.take (m + u))
   refine Fj w2 b _ kept1 _ h11 h21 _ _ (fun w3 o3 x3 => ?_) w2 o2 (gB.refl _ _)
   have h13 : (Be (BF q (L ++ l.take (m + u))) kept1 4).length = 4 := by rw [mF]; exact h11
   simp (disch := omega) only [jL, kE, kJ, mG, kH, lG, kZ, nS, jR, dQ, fJ, cQ, stepR_skip, eE, eT, eK, fC, fB, eX, fL, fA, dK, eL, eN, eY, eB, eI, eM, eF, eJ, fD, eZ, eC, dS, eS, eQ, eA, gP, gQ, gT, gU, gV, gR, gW, gS, gO, dH, Result.ok.injEq, Next.value.injEq, true_and, and_true, dZ, dY, eP, eU, eH, fM, LU, dR, dV, dW, dU, dN, dM, dO, dL, dI, cY, if_true, if_false, LQ, LX, LR, LS, LW, LV, LP, LO, cS, cM, cC, bW, cV, dJ, bV, bU, cR, cK, cO, dC, cN, dG, cZ, dT, dE, cH, bH, bO, aR, aC, aJ, dD, aL, cG, dF, dB, bN, aH, bD, aY, cP, aG, aX, aM, aV, cU, aW, cJ, bS, aD, aA, aK, dP, aO, aP, bC, aQ, cD, aE, bZ, bT, bF, bB, aZ, cX, aI, bJ, aT, aS, aU, aF, dA, cL, bP, aN, cW, bX, bY, cB, bQ, bR, bG, cA, bE, cF, bA, bM, bL, bK, cI]
   refine Fg o3 rfl (by rw [kD h13 h21]; omega) fun w4 o4 x4 s4 => ?_
   have o4 : iA w4 b ((fW (Be (BF q (L ++ l.take (m + u))) kept1 4) kept1 32 (L.length + l.length)).set 36 (.int .i64 ((0 : Nat) : Int))) := o4
   rw [AI h13 h21] at o4
   have hx4 := x3.seq x4
   have hkk : kept1 = (L ++ l.take (m + u)).drop (32 * q) := by rw [<- hkeep, Mf (by omega)]
   refine ⟨l.length - (m + u), by omega, m + u, by omega, rfl, hv3.ext hx4 hb3, hb3, ⟨kept1, h21, ?_, ?_⟩, (hx.seq hx2).seq hx4⟩
   .have z : (L ++ l.take (m + u)).drop (32 * ((L.length + (m + u)) / 32)) = [] := List.drop_eq_nil_of_le (by rw [hlen2]; omega)
    have z1 : (L.length + (m + u)) % 32 = 0 := by omega
    rw [hlen2, z, z1] <;> rfl
   .have z1 : (L.length + (m + u)) % 32 = 0 := by omega
    have z2 : (L.length + (m + u)) / 32 = q + 1 := by omega
    have z3 : kept1.take 32 = kept1 := Mf (by omega)
    rw [hlen2, z1, z2, BF, <- hkk, z3]
    exact o4
  .have he : (((r + u : Nat) : Int) == 32) = false := by rw [beq_eq_false_iff_ne]; omega
   rw [he]
   simp (disch := omega) only [dQ, fJ, cQ, stepR_skip, eE, eT, eK, fC, fB, eX, fL, fA, dK, eL, eN, eY, eB, eI, eM, eF, eJ, fD, eZ, eC, dS, eS, eQ, eA, gP, gQ, gT, gU, gV, gR, gW, gS, gO, dH, Result.ok.injEq, Next.value.injEq, true_and, and_true, dZ, dY, eP, eU, eH, fM, LU, dR, dV, dW, dU, dN, dM, dO, dL, dI, cY, if_true, if_false, LQ, LX, LR, LS, LW, LV, LP, LO, cS, cM, cC, bW, cV, dJ, bV, bU, cR, cK, cO, dC, cN, dG, cZ, dT, dE, cH, bH, bO, aR, aC, aJ, dD, aL, cG, dF, dB, bN, aH, bD, aY, cP, aG, aX, aM, aV, cU, aW, cJ, bS, aD, aA, aK, dP, aO, aP, bC, aQ, cD, aE, bZ, bT, bF, bB, aZ, cX, aI, bJ, aT, aS, aU, aF, dA, cL, bP, aN, cW, bX, bY, cB, bQ, bR, bG, cA, bE, cF, bA, bM, bL, bK, cI]
   refine ⟨l.length - (m + u), by omega, m + u, by omega, rfl, hv3, hb3, ⟨kept1, h21, ?_, ?_⟩, hx.seq hx2⟩
   .rw [hlen2, show (L.length + (m + u)) % 32 = r + u from by omega, show (L.length + (m + u)) / 32 = q from by omega]; exact hkeep
   .rw [hlen2, show (L.length + (m + u)) % 32 = r + u from by omega, show (L.length + (m + u)) / 32 = q from by omega]; exact o2
 .have hd : decide ((0 : Int) < (n : Int)) = false := by simp; omega
  simp (disch := omega) only [jL, kE, kJ, mG, kH, lG, kZ, nS, jR, dQ, fJ, cQ, stepR_skip, eE, eT, eK, fC, fB, eX, fL, fA, dK, eL, eN, eY, eB, eI, eM, eF, eJ, fD, eZ, eC, dS, eS, eQ, eA, gP, gQ, gT, gU, gV, gR, gW, gS, gO, dH, Result.ok.injEq, Next.value.injEq, true_and, and_true, dZ, dY, eP, eU, eH, fM, LU, dR, dV, dW, dU, dN, dM, dO, dL, dI, cY, if_true, if_false, LQ, LX, LR, LS, LW, LV, LP, LO, cS, cM, cC, bW, cV, dJ, bV, bU, cR, cK, cO, dC, cN, dG, cZ, dT, dE, cH, bH, bO, aR, aC, aJ, dD, aL, cG, dF, dB, bN, aH, bD, aY, cP, aG, aX, aM, aV, cU, aW, cJ, bS, aD, aA, aK, dP, aO, aP, bC, aQ, cD, aE, bZ, bT, bF, bB, aZ, cX, aI, bJ, aT, aS, aU, aF, dA, cL, bP, aN, cW, bX, bY, cB, bQ, bR, bG, cA, bE, cF, bA, bM, bL, bK, cI, hd]
  refine hR _ ⟨kept, h2, ?_, ?_⟩ hx
  .have e : l.take m = l := Mf (by omega)
   rw [e] at hk; exact hk
  .have e : l.take m = l := Mf (by omega)
   rw [e] at ho; exact ho
theorem Hs (b : Nat) (L l : List UInt8) (hlen : L.length + l.length <= 1099511627776) (v : Nb) (w : Na) (h : Da w b L) (hv : Bs w v l) (hb : ¬ Co v (fun x => x = b)) :
 fO pg pD #[.pointer (some ⟨b, 0, none⟩), v] w (fun r w' => r = .tuple #[] /\ Da w' b (L ++ l) /\ gB w w' (fun x => x = b)) := by
 refine BE ?_
 obtain ⟨kept, h2, hk, ho⟩ := h
 have h1 := nW (L.length / 32) L
 have hv' := hv
 obtain ⟨a, n, c, rfl, hn, hc, hcell⟩ := hv'
 rw [LZ] at hn
 simp (disch := omega) only [Bn, qT, qP, qN, dQ, fJ, cQ, stepR_skip, eE, eT, eK, fC, fB, eX, fL, fA, dK, eL, eN, eY, eB, eI, eM, eF, eJ, fD, eZ, eC, dS, eS, eQ, eA, gP, gQ, gT, gU, gV, gR, gW, gS, gO, dH, Result.ok.injEq, Next.value.injEq, true_and, and_true, dZ, dY, eP, eU, eH, fM, LU, dR, dV, dW, dU, dN, dM, dO, dL, dI, cY, if_true, if_false, LQ, LX, LR, LS, LW, LV, LP, LO, cS, cM, cC, bW, cV, dJ, bV, bU, cR, cK, cO, dC, cN, dG, cZ, dT, dE, cH, bH, bO, aR, aC, aJ, dD, aL, cG, dF, dB, bN, aH, bD, aY, cP, aG, aX, aM, aV, cU, aW, cJ, bS, aD, aA, aK, dP, aO, aP, bC, aQ, cD, aE, bZ, bT, bF, bB, aZ, cX, aI, bJ, aT, aS, aU, aF, dA, cL, bP, aN, cW, bX, bY, cB, bQ, bR, bG, cA, bE, cF, bA, bM, bL, bK, cI, ho.cell, tG h1 h2]
 refine uP ho rfl (by rw [kD h1 h2]; omega) fun w1 o1 x1 s1 => ?_
 rw [<- Int.natCast_add, hn, CI h1 h2] at o1
 refine Fc w b L l hlen _ (fun w' hh hx => ⟨?_, hx⟩) _ w1 ⟨kept, h2, hk, o1⟩ (hv.ext x1 hb) hb x1
 unfold Da; rw [L4]; exact hh
def jA (vs : List Int) : Nat -> Int
 | 0 => 0
 | i + 1 => IntKind.u64.wrap (jA vs i + GX (vs.getD i 0) ([1, 7, 12, 18].getD i 0))
def jB (vs : List Int) : Nat -> Int
 | 0 => jA vs 4
 | i + 1 => IntKind.u64.wrap (IntKind.u64.wrap (Cg .u64 (jB vs i) (Hx 0 (vs.getD i 0)) * 11400714785074694791) + 9650029242287828579)
def FC (L : List UInt8) : Int := if L.length < 32 then 2870177450012600261 else jB (BF (L.length / 32) L) 4
def Jd (x : Int) : Int :=
 let y1 := IntKind.u64.wrap (Cg .u64 x (x.fdiv (2 ^ min (33 : Int).toNat IntKind.u64.bits)) * 14029467366897019727)
 let y2 := IntKind.u64.wrap (Cg .u64 y1 (y1.fdiv (2 ^ min (29 : Int).toNat IntKind.u64.bits)) * 1609587929392839161)
 Cg .u64 y2 (y2.fdiv (2 ^ min (32 : Int).toNat IntKind.u64.bits))
def Lc (x m : Int) : Int := IntKind.u64.wrap (IntKind.u64.wrap (GX (Cg .u64 x (Hx 0 m)) 27 * 11400714785074694791) + 9650029242287828579)
def JQ (x m : Int) : Int := IntKind.u64.wrap (IntKind.u64.wrap (GX (Cg .u64 x (IntKind.u64.wrap (m * 11400714785074694791))) 23 * 14029467366897019727) + 1609587929392839161)
def KH (x : Int) (c : UInt8) : Int := IntKind.u64.wrap (GX (Cg .u64 x (IntKind.u64.wrap ((c.toNat : Int) * 2870177450012600261))) 11 * 11400714785074694791)
def e8 (x : Int) (B : List UInt8) : Nat -> Int
 | 0 => x
 | j + 1 => Lc (e8 x B j) (sG ((B.drop (8 * j)).take 8))
def e1 (x : Int) (B : List UInt8) : Nat -> Int
 | 0 => x
 | j + 1 => KH (e1 x B j) (B.getD j 0)
def CQ (x : Int) (C : List UInt8) : Int × List UInt8 := if 4 <= C.length then (JQ x (sG (C.take 4)), C.drop 4) else (x, C)
def IA (x : Int) (B : List UInt8) : Int :=
 let r := CQ (e8 x B (B.length / 8)) (B.drop (8 * (B.length / 8)))
 e1 r.1 r.2 r.2.length
def Kd (L : List UInt8) : Int := Jd (IA (IntKind.u64.wrap (FC L + (L.length : Int))) (L.drop (32 * (L.length / 32))))
theorem GV (b : Nat) (L : List UInt8) (hlen : L.length <= 1099511627776) (w : Na) (h : Da w b L) :
 fO pg nN #[.pointer (some ⟨b, 0, none⟩)] w (fun r w' => r = .int .u64 (FC L) /\ w' = w) := by
 refine A8 ?_
 obtain ⟨kept, h2, hk, ho⟩ := h
 have h1 := nW (L.length / 32) L
 by_cases hs : L.length < 32
 .have hd : decide ((L.length : Int) < 32) = true := by simp; omega
  simp (disch := omega) only [uF, lP, lN, dQ, fJ, cQ, stepR_skip, eE, eT, eK, fC, fB, eX, fL, fA, dK, eL, eN, eY, eB, eI, eM, eF, eJ, fD, eZ, eC, dS, eS, eQ, eA, gP, gQ, gT, gU, gV, gR, gW, gS, gO, dH, Result.ok.injEq, Next.value.injEq, true_and, and_true, dZ, dY, eP, eU, eH, fM, LU, dR, dV, dW, dU, dN, dM, dO, dL, dI, cY, if_true, if_false, LQ, LX, LR, LS, LW, LV, LP, LO, cS, cM, cC, bW, cV, dJ, bV, bU, cR, cK, cO, dC, cN, dG, cZ, dT, dE, cH, bH, bO, aR, aC, aJ, dD, aL, cG, dF, dB, bN, aH, bD, aY, cP, aG, aX, aM, aV, cU, aW, cJ, bS, aD, aA, aK, dP, aO, aP, bC, aQ, cD, aE, bZ, bT, bF, bB, aZ, cX, aI, bJ, aT, aS, aU, aF, dA, cL, bP, aN, cW, bX, bY, cB, bQ, bR, bG, cA, bE, cF, bA, bM, bL, bK, cI, ho.cell, tG h1 h2, hd, FC, hs]
 .have hd : decide ((L.length : Int) < 32) = false := by simp; omega
  obtain ⟨vs, hvs⟩ : ∃ vs, vs = BF (L.length / 32) L := ⟨_, rfl⟩
  have hH : FC L = jB vs 4 := by rw [hvs]; unfold FC; rw [if_neg hs]
  rw [hH]
  rw [<- hvs] at ho h1
  clear hvs hH
  simp (disch := omega) only [uF, mK, qX, qY, qW, qV, qS, qQ, pS, pM, pQ, pK, lN, lP, dQ, fJ, cQ, stepR_skip, eE, eT, eK, fC, fB, eX, fL, fA, dK, eL, eN, eY, eB, eI, eM, eF, eJ, fD, eZ, eC, dS, eS, eQ, eA, gP, gQ, gT, gU, gV, gR, gW, gS, gO, dH, Result.ok.injEq, Next.value.injEq, true_and, and_true, dZ, dY, eP, eU, eH, fM, LU, dR, dV, dW, dU, dN, dM, dO, dL, dI, cY, if_true, if_false, LQ, LX, LR, LS, LW, LV, LP, LO, cS, cM, cC, bW, cV, dJ, bV, bU, cR, cK, cO, dC, cN, dG, cZ, dT, dE, cH, bH, bO, aR, aC, aJ, dD, aL, cG, dF, dB, bN, aH, bD, aY, cP, aG, aX, aM, aV, cU, aW, cJ, bS, aD, aA, aK, dP, aO, aP, bC, aQ, cD, aE, bZ, bT, bF, bB, aZ, cX, aI, bJ, aT, aS, aU, aF, dA, cL, bP, aN, cW, bX, bY, cB, bQ, bR, bG, cA, bE, cF, bA, bM, bL, bK, cI, ho.cell, tG h1 h2, hd]
  refine iR.rule (fun n t w' => ∃ i : Nat, i <= 4 /\ n = 4 - i /\ t = (.int .u64 (jA vs i), .int .i64 (i : Int)) /\ w' = w) 4 ⟨0, by omega, rfl, rfl, rfl⟩ ?_
  rintro n t w' ⟨i, hi, rfl, rfl, rfl⟩
  by_cases hlt : i < 4
  .have hd : decide ((i : Int) < 4) = true := by simp; omega
   have hv := Dy (vs := vs) (kept := kept) (n := L.length % 32) (all := L.length) i (by omega)
   have hg : (#[Value.int .i64 1, .int .i64 7, .int .i64 12, .int .i64 18] : Array Nb)[i]? = some (.int .i64 (([1, 7, 12, 18].getD i 0 : Nat) : Int)) := by
    have : i = 0 ∨ i = 1 ∨ i = 2 ∨ i = 3 := by omega
    rcases this with rfl | rfl | rfl | rfl <;> rfl
   have ht : [1, 7, 12, 18].getD i 0 < 64 := by
    have : i = 0 ∨ i = 1 ∨ i = 2 ∨ i = 3 := by omega
    rcases this with rfl | rfl | rfl | rfl <;> decide
   simp (disch := omega) only [kF, dQ, fJ, cQ, stepR_skip, eE, eT, eK, fC, fB, eX, fL, fA, dK, eL, eN, eY, eB, eI, eM, eF, eJ, fD, eZ, eC, dS, eS, eQ, eA, gP, gQ, gT, gU, gV, gR, gW, gS, gO, dH, Result.ok.injEq, Next.value.injEq, true_and, and_true, dZ, dY, eP, eU, eH, fM, LU, dR, dV, dW, dU, dN, dM, dO, dL, dI, cY, if_true, if_false, LQ, LX, LR, LS, LW, LV, LP, LO, cS, cM, cC, bW, cV, dJ, bV, bU, cR, cK, cO, dC, cN, dG, cZ, dT, dE, cH, bH, bO, aR, aC, aJ, dD, aL, cG, dF, dB, bN, aH, bD, aY, cP, aG, aX, aM, aV, cU, aW, cJ, bS, aD, aA, aK, dP, aO, aP, bC, aQ, cD, aE, bZ, bT, bF, bB, aZ, cX, aI, bJ, aT, aS, aU, aF, dA, cL, bP, aN, cW, bX, bY, cB, bQ, bR, bG, cA, bE, cF, bA, bM, bL, bK, cI, hd, hg, ho.cell, hv]
   refine (Cs _ _ ht _).mono ?_
   rintro r w1 ⟨rfl, rfl⟩
   simp (disch := omega) only [dQ, fJ, cQ, stepR_skip, eE, eT, eK, fC, fB, eX, fL, fA, dK, eL, eN, eY, eB, eI, eM, eF, eJ, fD, eZ, eC, dS, eS, eQ, eA, gP, gQ, gT, gU, gV, gR, gW, gS, gO, dH, Result.ok.injEq, Next.value.injEq, true_and, and_true, dZ, dY, eP, eU, eH, fM, LU, dR, dV, dW, dU, dN, dM, dO, dL, dI, cY, if_true, if_false, LQ, LX, LR, LS, LW, LV, LP, LO, cS, cM, cC, bW, cV, dJ, bV, bU, cR, cK, cO, dC, cN, dG, cZ, dT, dE, cH, bH, bO, aR, aC, aJ, dD, aL, cG, dF, dB, bN, aH, bD, aY, cP, aG, aX, aM, aV, cU, aW, cJ, bS, aD, aA, aK, dP, aO, aP, bC, aQ, cD, aE, bZ, bT, bF, bB, aZ, cX, aI, bJ, aT, aS, aU, aF, dA, cL, bP, aN, cW, bX, bY, cB, bQ, bR, bG, cA, bE, cF, bA, bM, bL, bK, cI]
   refine ⟨4 - (i + 1), by omega, i + 1, by omega, rfl, ?_⟩
   have hvd : vs.getD i 0 = vs[i]'(by omega) := by rw [Mu, L3 (by omega)] <;> rfl
   rw [jA, hvd]
   rfl
  .have : i = 4 := by omega
   subst this
   have hd : decide (((4 : Nat) : Int) < 4) = false := by simp
   have ha := DY (off := 0) ho (by rw [kD h1 h2]; omega)
   have hb : ((fW vs kept (L.length % 32) L.length).drop 0).take 4 = vs.map (Value.int .u64) := by
    rw [Mg]; unfold fW; rw [MM (by simp; omega), Mf (by simp; omega)]
   rw [hb] at ha
   simp (disch := omega) only [kF, dQ, fJ, cQ, stepR_skip, eE, eT, eK, fC, fB, eX, fL, fA, dK, eL, eN, eY, eB, eI, eM, eF, eJ, fD, eZ, eC, dS, eS, eQ, eA, gP, gQ, gT, gU, gV, gR, gW, gS, gO, dH, Result.ok.injEq, Next.value.injEq, true_and, and_true, dZ, dY, eP, eU, eH, fM, LU, dR, dV, dW, dU, dN, dM, dO, dL, dI, cY, if_true, if_false, LQ, LX, LR, LS, LW, LV, LP, LO, cS, cM, cC, bW, cV, dJ, bV, bU, cR, cK, cO, dC, cN, dG, cZ, dT, dE, cH, bH, bO, aR, aC, aJ, dD, aL, cG, dF, dB, bN, aH, bD, aY, cP, aG, aX, aM, aV, cU, aW, cJ, bS, aD, aA, aK, dP, aO, aP, bC, aQ, cD, aE, bZ, bT, bF, bB, aZ, cX, aI, bJ, aT, aS, aU, aF, dA, cL, bP, aN, cW, bX, bY, cB, bQ, bR, bG, cA, bE, cF, bA, bM, bL, bK, cI, hd, ha]
   refine iR.rule (fun n t w2 => ∃ i : Nat, i <= 4 /\ n = 4 - i /\ t = (.int .u64 (jB vs i), .int .i64 (i : Int)) /\ w2 = w') 4 ⟨0, by omega, rfl, rfl, rfl⟩ ?_
   rintro n t w2 ⟨i, hi, rfl, rfl, rfl⟩
   by_cases hlt : i < 4
   .have hd : decide ((i : Int) < 4) = true := by simp; omega
    have hg : ((vs.map (Value.int .u64)).toArray)[i]? = some (.int .u64 (vs[i]'(by omega))) := by simp [show i < vs.length by omega]
    simp (disch := omega) only [kK, dQ, fJ, cQ, stepR_skip, eE, eT, eK, fC, fB, eX, fL, fA, dK, eL, eN, eY, eB, eI, eM, eF, eJ, fD, eZ, eC, dS, eS, eQ, eA, gP, gQ, gT, gU, gV, gR, gW, gS, gO, dH, Result.ok.injEq, Next.value.injEq, true_and, and_true, dZ, dY, eP, eU, eH, fM, LU, dR, dV, dW, dU, dN, dM, dO, dL, dI, cY, if_true, if_false, LQ, LX, LR, LS, LW, LV, LP, LO, cS, cM, cC, bW, cV, dJ, bV, bU, cR, cK, cO, dC, cN, dG, cZ, dT, dE, cH, bH, bO, aR, aC, aJ, dD, aL, cG, dF, dB, bN, aH, bD, aY, cP, aG, aX, aM, aV, cU, aW, cJ, bS, aD, aA, aK, dP, aO, aP, bC, aQ, cD, aE, bZ, bT, bF, bB, aZ, cX, aI, bJ, aT, aS, aU, aF, dA, cL, bP, aN, cW, bX, bY, cB, bQ, bR, bG, cA, bE, cF, bA, bM, bL, bK, cI, hd, hg]
    refine (C6 _ _ _).mono ?_
    rintro r w1 ⟨rfl, rfl⟩
    simp (disch := omega) only [dQ, fJ, cQ, stepR_skip, eE, eT, eK, fC, fB, eX, fL, fA, dK, eL, eN, eY, eB, eI, eM, eF, eJ, fD, eZ, eC, dS, eS, eQ, eA, gP, gQ, gT, gU, gV, gR, gW, gS, gO, dH, Result.ok.injEq, Next.value.injEq, true_and, and_true, dZ, dY, eP, eU, eH, fM, LU, dR, dV, dW, dU, dN, dM, dO, dL, dI, cY, if_true, if_false, LQ, LX, LR, LS, LW, LV, LP, LO, cS, cM, cC, bW, cV, dJ, bV, bU, cR, cK, cO, dC, cN, dG, cZ, dT, dE, cH, bH, bO, aR, aC, aJ, dD, aL, cG, dF, dB, bN, aH, bD, aY, cP, aG, aX, aM, aV, cU, aW, cJ, bS, aD, aA, aK, dP, aO, aP, bC, aQ, cD, aE, bZ, bT, bF, bB, aZ, cX, aI, bJ, aT, aS, aU, aF, dA, cL, bP, aN, cW, bX, bY, cB, bQ, bR, bG, cA, bE, cF, bA, bM, bL, bK, cI]
    refine ⟨4 - (i + 1), by omega, i + 1, by omega, rfl, ?_⟩
    have hvd : vs.getD i 0 = vs[i]'(by omega) := by rw [Mu, L3 (by omega)] <;> rfl
    rw [jB, hvd]
    rfl
   .have : i = 4 := by omega
    subst this
    have hd : decide (((4 : Nat) : Int) < 4) = false := by simp
    simp (disch := omega) only [kK, dQ, fJ, cQ, stepR_skip, eE, eT, eK, fC, fB, eX, fL, fA, dK, eL, eN, eY, eB, eI, eM, eF, eJ, fD, eZ, eC, dS, eS, eQ, eA, gP, gQ, gT, gU, gV, gR, gW, gS, gO, dH, Result.ok.injEq, Next.value.injEq, true_and, and_true, dZ, dY, eP, eU, eH, fM, LU, dR, dV, dW, dU, dN, dM, dO, dL, dI, cY, if_true, if_false, LQ, LX, LR, LS, LW, LV, LP, LO, cS, cM, cC, bW, cV, dJ, bV, bU, cR, cK, cO, dC, cN, dG, cZ, dT, dE, cH, bH, bO, aR, aC, aJ, dD, aL, cG, dF, dB, bN, aH, bD, aY, cP, aG, aX, aM, aV, cU, aW, cJ, bS, aD, aA, aK, dP, aO, aP, bC, aQ, cD, aE, bZ, bT, bF, bB, aZ, cX, aI, bJ, aT, aS, aU, aF, dA, cL, bP, aN, cW, bX, bY, cB, bQ, bR, bG, cA, bE, cF, bA, bM, bL, bK, cI, hd]
theorem F3 (w : Na) (R : Nb -> Na -> Prop) (y : Int) (D : List UInt8) (v : Nb) (hv : Bs w v D) (hD : D.length < 32) (hR : R (.int .u64 (Jd (e1 y D D.length))) w) :
 qL R (.int .u64 y) v w := by
 have hv' := hv
 obtain ⟨a, n, c, rfl, hn, hc, hcell⟩ := hv'
 rw [LZ] at hn
 simp (disch := omega) only [qL, uD, uE, uB, uA, dQ, fJ, cQ, stepR_skip, eE, eT, eK, fC, fB, eX, fL, fA, dK, eL, eN, eY, eB, eI, eM, eF, eJ, fD, eZ, eC, dS, eS, eQ, eA, gP, gQ, gT, gU, gV, gR, gW, gS, gO, dH, Result.ok.injEq, Next.value.injEq, true_and, and_true, dZ, dY, eP, eU, eH, fM, LU, dR, dV, dW, dU, dN, dM, dO, dL, dI, cY, if_true, if_false, LQ, LX, LR, LS, LW, LV, LP, LO, cS, cM, cC, bW, cV, dJ, bV, bU, cR, cK, cO, dC, cN, dG, cZ, dT, dE, cH, bH, bO, aR, aC, aJ, dD, aL, cG, dF, dB, bN, aH, bD, aY, cP, aG, aX, aM, aV, cU, aW, cJ, bS, aD, aA, aK, dP, aO, aP, bC, aQ, cD, aE, bZ, bT, bF, bB, aZ, cX, aI, bJ, aT, aS, aU, aF, dA, cL, bP, aN, cW, bX, bY, cB, bQ, bR, bG, cA, bE, cF, bA, bM, bL, bK, cI]
 refine iR.rule (fun m t w' => ∃ j : Nat, j <= n /\ m = n - j /\ t = (.int .u64 (e1 y D j), .int .i64 (j : Int)) /\ w' = w) n ⟨0, by omega, rfl, rfl, rfl⟩ ?_
 rintro m t w' ⟨j, hj, rfl, rfl, rfl⟩
 by_cases hlt : j < n
 .obtain ⟨b, off, rfl, hcell'⟩ := hcell (by omega)
  have hcl := hcell' j hlt
  rw [MK, L3 (by omega), Mm] at hcl
  have hb : (D[j]'(by omega)).toNat < 256 := UInt8.toNat_lt _
  have hd : decide ((j : Int) < (n : Int)) = true := by simpa using hlt
  simp (disch := omega) only [mS, dQ, fJ, cQ, stepR_skip, eE, eT, eK, fC, fB, eX, fL, fA, dK, eL, eN, eY, eB, eI, eM, eF, eJ, fD, eZ, eC, dS, eS, eQ, eA, gP, gQ, gT, gU, gV, gR, gW, gS, gO, dH, Result.ok.injEq, Next.value.injEq, true_and, and_true, dZ, dY, eP, eU, eH, fM, LU, dR, dV, dW, dU, dN, dM, dO, dL, dI, cY, if_true, if_false, LQ, LX, LR, LS, LW, LV, LP, LO, cS, cM, cC, bW, cV, dJ, bV, bU, cR, cK, cO, dC, cN, dG, cZ, dT, dE, cH, bH, bO, aR, aC, aJ, dD, aL, cG, dF, dB, bN, aH, bD, aY, cP, aG, aX, aM, aV, cU, aW, cJ, bS, aD, aA, aK, dP, aO, aP, bC, aQ, cD, aE, bZ, bT, bF, bB, aZ, cX, aI, bJ, aT, aS, aU, aF, dA, cL, bP, aN, cW, bX, bY, cB, bQ, bR, bG, cA, bE, cF, bA, bM, bL, bK, cI, hd, hcl, pU]
  refine (Cs _ 11 (by omega) _).mono ?_
  rintro r w1 ⟨rfl, rfl⟩
  simp (disch := omega) only [dQ, fJ, cQ, stepR_skip, eE, eT, eK, fC, fB, eX, fL, fA, dK, eL, eN, eY, eB, eI, eM, eF, eJ, fD, eZ, eC, dS, eS, eQ, eA, gP, gQ, gT, gU, gV, gR, gW, gS, gO, dH, Result.ok.injEq, Next.value.injEq, true_and, and_true, dZ, dY, eP, eU, eH, fM, LU, dR, dV, dW, dU, dN, dM, dO, dL, dI, cY, if_true, if_false, LQ, LX, LR, LS, LW, LV, LP, LO, cS, cM, cC, bW, cV, dJ, bV, bU, cR, cK, cO, dC, cN, dG, cZ, dT, dE, cH, bH, bO, aR, aC, aJ, dD, aL, cG, dF, dB, bN, aH, bD, aY, cP, aG, aX, aM, aV, cU, aW, cJ, bS, aD, aA, aK, dP, aO, aP, bC, aQ, cD, aE, bZ, bT, bF, bB, aZ, cX, aI, bJ, aT, aS, aU, aF, dA, cL, bP, aN, cW, bX, bY, cB, bQ, bR, bG, cA, bE, cF, bA, bM, bL, bK, cI]
  refine ⟨n - (j + 1), by omega, j + 1, by omega, rfl, ?_⟩
  have hg : D.getD j 0 = D[j]'(by omega) := by rw [Mu, L3 (by omega)] <;> rfl
  rw [e1, hg]
  rfl
 .have hd : decide ((j : Int) < (n : Int)) = false := by simpa using hlt
  have : j = D.length := by omega
  subst this
  simp (disch := omega) only [mS, qJ, dQ, fJ, cQ, stepR_skip, eE, eT, eK, fC, fB, eX, fL, fA, dK, eL, eN, eY, eB, eI, eM, eF, eJ, fD, eZ, eC, dS, eS, eQ, eA, gP, gQ, gT, gU, gV, gR, gW, gS, gO, dH, Result.ok.injEq, Next.value.injEq, true_and, and_true, dZ, dY, eP, eU, eH, fM, LU, dR, dV, dW, dU, dN, dM, dO, dL, dI, cY, if_true, if_false, LQ, LX, LR, LS, LW, LV, LP, LO, cS, cM, cC, bW, cV, dJ, bV, bU, cR, cK, cO, dC, cN, dG, cZ, dT, dE, cH, bH, bO, aR, aC, aJ, dD, aL, cG, dF, dB, bN, aH, bD, aY, cP, aG, aX, aM, aV, cU, aW, cJ, bS, aD, aA, aK, dP, aO, aP, bC, aQ, cD, aE, bZ, bT, bF, bB, aZ, cX, aI, bJ, aT, aS, aU, aF, dA, cL, bP, aN, cW, bX, bY, cB, bQ, bR, bG, cA, bE, cF, bA, bM, bL, bK, cI, hd]
  exact hR
theorem Iw (w : Na) (R : Nb -> Na -> Prop) (x : Int) (B : List UInt8) (v : Nb) (hv : Bs w v B) (hB : B.length < 32) (hR : R (.int .u64 (Jd (IA x B))) w) :
 pG R (.int .u64 x) v w := by
 unfold pG sS sP
 refine iR.rule (fun n t w' => ∃ (j : Nat) (u : Nb), 8 * j <= B.length /\ n = B.length - j /\ t = (.int .u64 (e8 x B j), u) /\ Bs w u (B.drop (8 * j)) /\ w' = w) B.length ⟨0, v, by omega, rfl, rfl, hv, rfl⟩ ?_
 rintro n t w' ⟨j, u, hj, rfl, rfl, hu, rfl⟩
 have hu' := hu
 obtain ⟨a, n, c, rfl, hn, hc, hcell⟩ := hu'
 rw [LZ, L7] at hn
 by_cases h8 : 8 <= n
 .obtain ⟨b', o', rfl, _⟩ := hcell (by omega)
  have hd : decide ((8 : Int) <= (n : Int)) = true := by simp; omega
  have t8 : (8 : Int).toNat = 8 := rfl
  simp (disch := omega) only [lY, dQ, fJ, cQ, stepR_skip, eE, eT, eK, fC, fB, eX, fL, fA, dK, eL, eN, eY, eB, eI, eM, eF, eJ, fD, eZ, eC, dS, eS, eQ, eA, gP, gQ, gT, gU, gV, gR, gW, gS, gO, dH, Result.ok.injEq, Next.value.injEq, true_and, and_true, dZ, dY, eP, eU, eH, fM, LU, dR, dV, dW, dU, dN, dM, dO, dL, dI, cY, if_true, if_false, LQ, LX, LR, LS, LW, LV, LP, LO, cS, cM, cC, bW, cV, dJ, bV, bU, cR, cK, cO, dC, cN, dG, cZ, dT, dE, cH, bH, bO, aR, aC, aJ, dD, aL, cG, dF, dB, bN, aH, bD, aY, cP, aG, aX, aM, aV, cU, aW, cJ, bS, aD, aA, aK, dP, aO, aP, bC, aQ, cD, aE, bZ, bT, bF, bB, aZ, cX, aI, bJ, aT, aS, aU, aF, dA, cL, bP, aN, cW, bX, bY, cB, bQ, bR, bG, cA, bE, cF, bA, bM, bL, bK, cI, hd, t8]
  have hs := hu.take h8
  rw [<- List.map_take] at hs
  refine (B3 _ _ _ hs (by rw [L6]; omega)).mono ?_
  rintro r w1 ⟨rfl, rfl⟩
  refine (C6 _ _ _).mono ?_
  rintro r w1 ⟨rfl, rfl⟩
  simp (disch := omega) only [dQ, fJ, cQ, stepR_skip, eE, eT, eK, fC, fB, eX, fL, fA, dK, eL, eN, eY, eB, eI, eM, eF, eJ, fD, eZ, eC, dS, eS, eQ, eA, gP, gQ, gT, gU, gV, gR, gW, gS, gO, dH, Result.ok.injEq, Next.value.injEq, true_and, and_true, dZ, dY, eP, eU, eH, fM, LU, dR, dV, dW, dU, dN, dM, dO, dL, dI, cY, if_true, if_false, LQ, LX, LR, LS, LW, LV, LP, LO, cS, cM, cC, bW, cV, dJ, bV, bU, cR, cK, cO, dC, cN, dG, cZ, dT, dE, cH, bH, bO, aR, aC, aJ, dD, aL, cG, dF, dB, bN, aH, bD, aY, cP, aG, aX, aM, aV, cU, aW, cJ, bS, aD, aA, aK, dP, aO, aP, bC, aQ, cD, aE, bZ, bT, bF, bB, aZ, cX, aI, bJ, aT, aS, aU, aF, dA, cL, bP, aN, cW, bX, bY, cB, bQ, bR, bG, cA, bE, cF, bA, bM, bL, bK, cI]
  refine (Cs _ 27 (by omega) _).mono ?_
  rintro r w1 ⟨rfl, rfl⟩
  simp (disch := omega) only [dQ, fJ, cQ, stepR_skip, eE, eT, eK, fC, fB, eX, fL, fA, dK, eL, eN, eY, eB, eI, eM, eF, eJ, fD, eZ, eC, dS, eS, eQ, eA, gP, gQ, gT, gU, gV, gR, gW, gS, gO, dH, Result.ok.injEq, Next.value.injEq, true_and, and_true, dZ, dY, eP, eU, eH, fM, LU, dR, dV, dW, dU, dN, dM, dO, dL, dI, cY, if_true, if_false, LQ, LX, LR, LS, LW, LV, LP, LO, cS, cM, cC, bW, cV, dJ, bV, bU, cR, cK, cO, dC, cN, dG, cZ, dT, dE, cH, bH, bO, aR, aC, aJ, dD, aL, cG, dF, dB, bN, aH, bD, aY, cP, aG, aX, aM, aV, cU, aW, cJ, bS, aD, aA, aK, dP, aO, aP, bC, aQ, cD, aE, bZ, bT, bF, bB, aZ, cX, aI, bJ, aT, aS, aU, aF, dA, cL, bP, aN, cW, bX, bY, cB, bQ, bR, bG, cA, bE, cF, bA, bM, bL, bK, cI, t8]
  have hs2 := hu.drop h8
  rw [<- M1, List.drop_drop] at hs2
  exact ⟨B.length - (j + 1), by omega, j + 1, _, by omega, rfl, rfl, by rw [Nat.mul_add]; exact hs2⟩
 .have hd : decide ((8 : Int) <= (n : Int)) = false := by simp; omega
  have hj8 : j = B.length / 8 := by omega
  obtain ⟨C, hC⟩ : ∃ C, C = B.drop (8 * j) := ⟨_, rfl⟩
  have hCl : C.length = n := by rw [hC, L7, hn]
  have htail : IA x B = (let r := CQ (e8 x B j) C; e1 r.1 r.2 r.2.length) := by rw [hC, hj8] <;> rfl
  rw [htail] at hR
  rw [<- hC] at hu
  simp (disch := omega) only [lY, dQ, fJ, cQ, stepR_skip, eE, eT, eK, fC, fB, eX, fL, fA, dK, eL, eN, eY, eB, eI, eM, eF, eJ, fD, eZ, eC, dS, eS, eQ, eA, gP, gQ, gT, gU, gV, gR, gW, gS, gO, dH, Result.ok.injEq, Next.value.injEq, true_and, and_true, dZ, dY, eP, eU, eH, fM, LU, dR, dV, dW, dU, dN, dM, dO, dL, dI, cY, if_true, if_false, LQ, LX, LR, LS, LW, LV, LP, LO, cS, cM, cC, bW, cV, dJ, bV, bU, cR, cK, cO, dC, cN, dG, cZ, dT, dE, cH, bH, bO, aR, aC, aJ, dD, aL, cG, dF, dB, bN, aH, bD, aY, cP, aG, aX, aM, aV, cU, aW, cJ, bS, aD, aA, aK, dP, aO, aP, bC, aQ, cD, aE, bZ, bT, bF, bB, aZ, cX, aI, bJ, aT, aS, aU, aF, dA, cL, bP, aN, cW, bX, bY, cB, bQ, bR, bG, cA, bE, cF, bA, bM, bL, bK, cI, hd]
  by_cases h4 : 4 <= n
  .obtain ⟨b', o', rfl, _⟩ := hcell (by omega)
   have hd : decide ((4 : Int) <= (n : Int)) = true := by simp; omega
   have t4 : (4 : Int).toNat = 4 := rfl
   have ha : CQ (e8 x B j) C = (JQ (e8 x B j) (sG (C.take 4)), C.drop 4) := by unfold CQ; rw [if_pos (by omega)]
   rw [ha] at hR
   simp (disch := omega) only [qC, qG, dQ, fJ, cQ, stepR_skip, eE, eT, eK, fC, fB, eX, fL, fA, dK, eL, eN, eY, eB, eI, eM, eF, eJ, fD, eZ, eC, dS, eS, eQ, eA, gP, gQ, gT, gU, gV, gR, gW, gS, gO, dH, Result.ok.injEq, Next.value.injEq, true_and, and_true, dZ, dY, eP, eU, eH, fM, LU, dR, dV, dW, dU, dN, dM, dO, dL, dI, cY, if_true, if_false, LQ, LX, LR, LS, LW, LV, LP, LO, cS, cM, cC, bW, cV, dJ, bV, bU, cR, cK, cO, dC, cN, dG, cZ, dT, dE, cH, bH, bO, aR, aC, aJ, dD, aL, cG, dF, dB, bN, aH, bD, aY, cP, aG, aX, aM, aV, cU, aW, cJ, bS, aD, aA, aK, dP, aO, aP, bC, aQ, cD, aE, bZ, bT, bF, bB, aZ, cX, aI, bJ, aT, aS, aU, aF, dA, cL, bP, aN, cW, bX, bY, cB, bQ, bR, bG, cA, bE, cF, bA, bM, bL, bK, cI, hd, t4]
   have hs := hu.take h4
   rw [<- List.map_take] at hs
   refine (B3 _ _ _ hs (by rw [L6]; omega)).mono ?_
   rintro r w1 ⟨rfl, rfl⟩
   simp (disch := omega) only [dQ, fJ, cQ, stepR_skip, eE, eT, eK, fC, fB, eX, fL, fA, dK, eL, eN, eY, eB, eI, eM, eF, eJ, fD, eZ, eC, dS, eS, eQ, eA, gP, gQ, gT, gU, gV, gR, gW, gS, gO, dH, Result.ok.injEq, Next.value.injEq, true_and, and_true, dZ, dY, eP, eU, eH, fM, LU, dR, dV, dW, dU, dN, dM, dO, dL, dI, cY, if_true, if_false, LQ, LX, LR, LS, LW, LV, LP, LO, cS, cM, cC, bW, cV, dJ, bV, bU, cR, cK, cO, dC, cN, dG, cZ, dT, dE, cH, bH, bO, aR, aC, aJ, dD, aL, cG, dF, dB, bN, aH, bD, aY, cP, aG, aX, aM, aV, cU, aW, cJ, bS, aD, aA, aK, dP, aO, aP, bC, aQ, cD, aE, bZ, bT, bF, bB, aZ, cX, aI, bJ, aT, aS, aU, aF, dA, cL, bP, aN, cW, bX, bY, cB, bQ, bR, bG, cA, bE, cF, bA, bM, bL, bK, cI]
   refine (Cs _ 23 (by omega) _).mono ?_
   rintro r w1 ⟨rfl, rfl⟩
   simp (disch := omega) only [dQ, fJ, cQ, stepR_skip, eE, eT, eK, fC, fB, eX, fL, fA, dK, eL, eN, eY, eB, eI, eM, eF, eJ, fD, eZ, eC, dS, eS, eQ, eA, gP, gQ, gT, gU, gV, gR, gW, gS, gO, dH, Result.ok.injEq, Next.value.injEq, true_and, and_true, dZ, dY, eP, eU, eH, fM, LU, dR, dV, dW, dU, dN, dM, dO, dL, dI, cY, if_true, if_false, LQ, LX, LR, LS, LW, LV, LP, LO, cS, cM, cC, bW, cV, dJ, bV, bU, cR, cK, cO, dC, cN, dG, cZ, dT, dE, cH, bH, bO, aR, aC, aJ, dD, aL, cG, dF, dB, bN, aH, bD, aY, cP, aG, aX, aM, aV, cU, aW, cJ, bS, aD, aA, aK, dP, aO, aP, bC, aQ, cD, aE, bZ, bT, bF, bB, aZ, cX, aI, bJ, aT, aS, aU, aF, dA, cL, bP, aN, cW, bX, bY, cB, bQ, bR, bG, cA, bE, cF, bA, bM, bL, bK, cI, t4]
   have hs2 := hu.drop h4
   rw [<- M1] at hs2
   exact F3 _ _ _ _ _ hs2 (by rw [L7]; omega) hR
  .have hd : decide ((4 : Int) <= (n : Int)) = false := by simp; omega
   have ha : CQ (e8 x B j) C = (e8 x B j, C) := by unfold CQ; rw [if_neg (by omega)]
   rw [ha] at hR
   simp (disch := omega) only [qC, qG, dQ, fJ, cQ, stepR_skip, eE, eT, eK, fC, fB, eX, fL, fA, dK, eL, eN, eY, eB, eI, eM, eF, eJ, fD, eZ, eC, dS, eS, eQ, eA, gP, gQ, gT, gU, gV, gR, gW, gS, gO, dH, Result.ok.injEq, Next.value.injEq, true_and, and_true, dZ, dY, eP, eU, eH, fM, LU, dR, dV, dW, dU, dN, dM, dO, dL, dI, cY, if_true, if_false, LQ, LX, LR, LS, LW, LV, LP, LO, cS, cM, cC, bW, cV, dJ, bV, bU, cR, cK, cO, dC, cN, dG, cZ, dT, dE, cH, bH, bO, aR, aC, aJ, dD, aL, cG, dF, dB, bN, aH, bD, aY, cP, aG, aX, aM, aV, cU, aW, cJ, bS, aD, aA, aK, dP, aO, aP, bC, aQ, cD, aE, bZ, bT, bF, bB, aZ, cX, aI, bJ, aT, aS, aU, aF, dA, cL, bP, aN, cW, bX, bY, cB, bQ, bR, bG, cA, bE, cF, bA, bM, bL, bK, cI, hd]
   exact F3 _ _ _ _ _ hu (by omega) hR
theorem JM (b : Nat) (L : List UInt8) (hlen : L.length <= 1099511627776) (w : Na) (h : Da w b L) :
 fO pg rZ #[.pointer (some ⟨b, 0, none⟩)] w (fun r w' => r = .int .u64 (Kd L) /\ gB w w' mZ) := by
 refine CH ?_
 have h' := h
 obtain ⟨kept, h2, hk, ho⟩ := h'
 have h1 := nW (L.length / 32) L
 have hod := Cz ho
 simp (disch := omega) only [Cq, sR, sV, dQ, fJ, cQ, stepR_skip, eE, eT, eK, fC, fB, eX, fL, fA, dK, eL, eN, eY, eB, eI, eM, eF, eJ, fD, eZ, eC, dS, eS, eQ, eA, gP, gQ, gT, gU, gV, gR, gW, gS, gO, dH, Result.ok.injEq, Next.value.injEq, true_and, and_true, dZ, dY, eP, eU, eH, fM, LU, dR, dV, dW, dU, dN, dM, dO, dL, dI, cY, if_true, if_false, LQ, LX, LR, LS, LW, LV, LP, LO, cS, cM, cC, bW, cV, dJ, bV, bU, cR, cK, cO, dC, cN, dG, cZ, dT, dE, cH, bH, bO, aR, aC, aJ, dD, aL, cG, dF, dB, bN, aH, bD, aY, cP, aG, aX, aM, aV, cU, aW, cJ, bS, aD, aA, aK, dP, aO, aP, bC, aQ, cD, aE, bZ, bT, bF, bB, aZ, cX, aI, bJ, aT, aS, aU, aF, dA, cL, bP, aN, cW, bX, bY, cB, bQ, bR, bG, cA, bE, cF, bA, bM, bL, bK, cI]
 refine (GV b L hlen (dr w) ⟨kept, h2, hk, hod⟩).mono ?_
 rintro r w1 ⟨rfl, rfl⟩
 have hod2 := Cz hod
 have hr : L.length % 32 < 32 := by omega
 have hbs : Bs (dr (dr w)) (.slice (some ⟨b, 4, none⟩) (L.length % 32 - 0) (32 - 0)) (L.drop (32 * (L.length / 32))) := by
  rw [<- hk]
  have e : (kept.take (L.length % 32)).length = L.length % 32 := by rw [L6]; omega
  rw [show L.length % 32 - 0 = (kept.take (L.length % 32)).length from by omega]
  refine hod2.bs (by omega) fun j hj => ?_
  rw [Bk h1 j (by omega)]
  simp
 have t0 : sU ⟨b, 4, none⟩ 32 0 1 = ⟨b, 4, none⟩ := by rw [Cf (by omega)]
 simp (disch := omega) only [dQ, fJ, cQ, stepR_skip, eE, eT, eK, fC, fB, eX, fL, fA, dK, eL, eN, eY, eB, eI, eM, eF, eJ, fD, eZ, eC, dS, eS, eQ, eA, gP, gQ, gT, gU, gV, gR, gW, gS, gO, dH, Result.ok.injEq, Next.value.injEq, true_and, and_true, dZ, dY, eP, eU, eH, fM, LU, dR, dV, dW, dU, dN, dM, dO, dL, dI, cY, if_true, if_false, LQ, LX, LR, LS, LW, LV, LP, LO, cS, cM, cC, bW, cV, dJ, bV, bU, cR, cK, cO, dC, cN, dG, cZ, dT, dE, cH, bH, bO, aR, aC, aJ, dD, aL, cG, dF, dB, bN, aH, bD, aY, cP, aG, aX, aM, aV, cU, aW, cJ, bS, aD, aA, aK, dP, aO, aP, bC, aQ, cD, aE, bZ, bT, bF, bB, aZ, cX, aI, bJ, aT, aS, aU, aF, dA, cL, bP, aN, cW, bX, bY, cB, bQ, bR, bG, cA, bE, cF, bA, bM, bL, bK, cI, hod.cell, hod2.cell, tG h1 h2, wD h1 h2, t0]
 refine Iw _ _ _ _ _ hbs (by rw [L7]; omega) ⟨rfl, (gB.dr w _).seq (gB.dr _ _)⟩
theorem Kx (L : List UInt8) (hlen : L.length <= 1099511627776) (v : Nb) (w : Na) (hv : Bs w v L) :
 fO pg Bl #[v] w (fun r w' => r = .int .u64 (Kd L) /\ gB w w' mZ) := by
 refine FD ?_
 simp (disch := omega) only [IV, CR, dQ, fJ, cQ, stepR_skip, eE, eT, eK, fC, fB, eX, fL, fA, dK, eL, eN, eY, eB, eI, eM, eF, eJ, fD, eZ, eC, dS, eS, eQ, eA, gP, gQ, gT, gU, gV, gR, gW, gS, gO, dH, Result.ok.injEq, Next.value.injEq, true_and, and_true, dZ, dY, eP, eU, eH, fM, LU, dR, dV, dW, dU, dN, dM, dO, dL, dI, cY, if_true, if_false, LQ, LX, LR, LS, LW, LV, LP, LO, cS, cM, cC, bW, cV, dJ, bV, bU, cR, cK, cO, dC, cN, dG, cZ, dT, dE, cH, bH, bO, aR, aC, aJ, dD, aL, cG, dF, dB, bN, aH, bD, aY, cP, aG, aX, aM, aV, cU, aW, cJ, bS, aD, aA, aK, dP, aO, aP, bC, aQ, cD, aE, bZ, bT, bF, bB, aZ, cX, aI, bJ, aT, aS, aU, aF, dA, cL, bP, aN, cW, bX, bY, cB, bQ, bR, bG, cA, bE, cF, bA, bM, bL, bK, cI]
 refine (JG w).mono ?_
 rintro r w1 ⟨rfl, h1, x1⟩
 have hnb : ¬ Co v (fun x => x = w.heap.size) := by
  intro hb
  refine hv.old ?_
  unfold Co at *
  split at hb
  .omega
  .exact hb
 have hv1 := hv.ext x1 (by unfold Co mZ; split <;> simp)
 refine (Hs _ [] L (by simpa using hlen) v w1 h1 hv1 hnb).mono ?_
 rintro r w2 ⟨rfl, h2, x2⟩
 refine (JM _ L hlen w2 h2).mono ?_
 rintro r w3 ⟨rfl, x3⟩
 exact ⟨rfl, (x1.new x2 (Md _)).seq x3⟩
end Go.Proofs.YthohephggmkeeaaDoor
namespace Go.Proofs.YthohephggmkeeaaDoor
open Go Go.En Go.Pu
set_option maxRecDepth 4000
def XN (L : List UInt8) : Nat := (Kd L).toNat
theorem CS (a b : Int) : 0 <= Cg .u64 a b /\ Cg .u64 a b < 2 ^ 64 := by
 unfold Cg
 have h : (BitVec.ofInt IntKind.u64.bits a ^^^ BitVec.ofInt IntKind.u64.bits b).toNat < 2 ^ 64 := BitVec.isLt _
 rw [dY (by omega) (by omega)]
 omega
theorem KK (L : List UInt8) : XN L < 2 ^ 64 := by
 have := CS
 unfold XN Kd Jd
 simp only []
 generalize IntKind.u64.wrap (Cg .u64 (IntKind.u64.wrap _) _ * 1609587929392839161) = y
 have := CS y (y.fdiv (2 ^ min (32 : Int).toNat IntKind.u64.bits))
 omega
theorem KQ (L : List UInt8) : Kd L = (XN L : Int) := by
 have : 0 <= Kd L := by
  unfold Kd Jd
  exact (CS _ _).1
 unfold XN
 omega
theorem KP {x : Nat} (h : x < 2 ^ 64) : uN .u64 (x : Int) 4294967295 = ((x % 2 ^ 32 : Nat) : Int) := by
 unfold uN
 have e : IntKind.u64.bits = 64 := rfl
 have e2 : (4294967295 : Int) = ((2 ^ 32 - 1 : Nat) : Int) := by decide
 rw [e2, e, BitVec.ofInt_natCast, BitVec.ofInt_natCast, BitVec.toNat_and, BitVec.toNat_ofNat, BitVec.toNat_ofNat, MA h, MA (by omega), MD]
 exact dY (by omega) (by omega)
def HZ (l all : List UInt8) : Except Int (List UInt8) := if l.length < 4 then .error 10 else if lK (l.take 4) ≠ XN all % 2 ^ 32 then .error 13 else .ok (l.drop 4)
def Lk (lo hi pr : Nat) (w : Na) (r : Nb) (w' : Na) : Except Int (List UInt8) -> Prop
 | .error e => e ≠ 0 /\ r = .int .i64 e /\ gB w w' (fun y => y = pr)
 | .ok l => r = .int .i64 0 /\ As w' lo hi pr l 0 /\ gB w w' (fun y => y = pr)
theorem HF {p pr lo hi : Nat} {va : Nb} {all l : List UInt8} {cs : List Nb} {w : Na} (o : iA w p cs) (k0 : cs[0]? = some (.pointer (some ⟨pr, 0, none⟩))) (hr : As w lo hi pr l 0) (ha : Bs w va all) (hv : ¬ Co va (fun y => y = pr)) (hl : l.length <= 1000000) (hall : all.length <= 2000000) :
 fO pg jK #[.pointer (some ⟨p, 0, none⟩), va] w (fun r w' => Lk lo hi pr w r w' (HZ l all)) := by
 refine xT ?_
 unfold uL mQ
 refine (Ed (n := 4) o k0 hr hl (by omega)).mono ?_
 unfold HZ
 rintro r w1 (⟨h1, rfl, h2⟩ | ⟨h1, v, rfl, hb1, hat, hr1, x1⟩)
 .rw [h2]; clear h2 w1
  have n1 : ((10 : Int) != 0) = true := rfl
  rw [if_pos h1]
  simp (disch := omega) only [dQ, fJ, cQ, stepR_skip, eE, eT, eK, fC, fB, eX, fL, fA, dK, eL, eN, eY, eB, eI, eM, eF, eJ, fD, eZ, eC, dS, eS, eQ, eA, gP, gQ, gT, gU, gV, gR, gW, gS, gO, dH, Result.ok.injEq, Next.value.injEq, true_and, and_true, dZ, dY, eP, eU, eH, fM, LU, dR, dV, dW, dU, dN, dM, dO, dL, dI, cY, if_true, if_false, LQ, LX, LR, LS, LW, LV, LP, LO, cS, cM, cC, bW, cV, dJ, bV, bU, cR, cK, cO, dC, cN, dG, cZ, dT, dE, cH, bH, bO, aR, aC, aJ, dD, aL, cG, dF, dB, bN, aH, bD, aY, cP, aG, aX, aM, aV, cU, aW, cJ, bS, aD, aA, aK, dP, aO, aP, bC, aQ, cD, aE, bZ, bT, bF, bB, aZ, cX, aI, bJ, aT, aS, aU, aF, dA, cL, bP, aN, cW, bX, bY, cB, bQ, bR, bG, cA, bE, cF, bA, bM, bL, bK, cI, n1]
  exact ⟨by decide, rfl, gB.refl _ _⟩
 rw [if_neg (by omega)]
 have n1 : ((0 : Int) != 0) = false := rfl
 simp (disch := omega) only [dQ, fJ, cQ, stepR_skip, eE, eT, eK, fC, fB, eX, fL, fA, dK, eL, eN, eY, eB, eI, eM, eF, eJ, fD, eZ, eC, dS, eS, eQ, eA, gP, gQ, gT, gU, gV, gR, gW, gS, gO, dH, Result.ok.injEq, Next.value.injEq, true_and, and_true, dZ, dY, eP, eU, eH, fM, LU, dR, dV, dW, dU, dN, dM, dO, dL, dI, cY, if_true, if_false, LQ, LX, LR, LS, LW, LV, LP, LO, cS, cM, cC, bW, cV, dJ, bV, bU, cR, cK, cO, dC, cN, dG, cZ, dT, dE, cH, bH, bO, aR, aC, aJ, dD, aL, cG, dF, dB, bN, aH, bD, aY, cP, aG, aX, aM, aV, cU, aW, cJ, bS, aD, aA, aK, dP, aO, aP, bC, aQ, cD, aE, bZ, bT, bF, bB, aZ, cX, aI, bJ, aT, aS, aU, aF, dA, cL, bP, aN, cW, bX, bY, cB, bQ, bR, bG, cA, bE, cF, bA, bM, bL, bK, cI, n1]
 refine (tV hb1 (by rw [L6]; omega)).mono ?_
 rintro r w2 ⟨p2, rfl, hr2, x2⟩
 have z1 := x1.size
 have hz := hr.lt
 refine (oL (n := 4) hr2 (by rw [L6]; omega) ⟨by omega, by omega⟩).mono ?_
 rintro r w3 ⟨rfl, hr3, x3⟩
 have ht : sE (l.take 4) 0 4 = (l.take 4, [], 0) := by
  unfold sE
  rw [if_neg (by decide), if_neg (by rw [L6]; omega), Mf (by rw [L6]; omega), M0 (by rw [L6]; omega)]
 rw [ht]
 have h2 : w1.heap.size <= p2 := hr2.1
 have x13 : gB w1 w3 mZ := x2.trans x3 fun y hy h => by omega
 refine (Kx all (by omega) va w3 ((ha.ext x1 hv).ext x13 (jV _))).mono ?_
 rintro r w4 ⟨rfl, x4⟩
 rw [KQ]
 have a32 := KP (KK all)
 obtain ⟨q, hq⟩ : ∃ q, q = lK (l.take 4) := ⟨_, rfl⟩
 rw [<- hq]
 obtain ⟨q2, hq2⟩ : ∃ q, q = XN all % 2 ^ 32 := ⟨_, rfl⟩
 rw [<- hq2] at a32 ⊢
 by_cases he : q = q2
 .have n2 : ((q : Int) != (q2 : Int)) = false := by rw [he]; simp
  rw [if_neg (by simpa using he)]
  simp (disch := omega) only [dQ, fJ, cQ, stepR_skip, eE, eT, eK, fC, fB, eX, fL, fA, dK, eL, eN, eY, eB, eI, eM, eF, eJ, fD, eZ, eC, dS, eS, eQ, eA, gP, gQ, gT, gU, gV, gR, gW, gS, gO, dH, Result.ok.injEq, Next.value.injEq, true_and, and_true, dZ, dY, eP, eU, eH, fM, LU, dR, dV, dW, dU, dN, dM, dO, dL, dI, cY, if_true, if_false, LQ, LX, LR, LS, LW, LV, LP, LO, cS, cM, cC, bW, cV, dJ, bV, bU, cR, cK, cO, dC, cN, dG, cZ, dT, dE, cH, bH, bO, aR, aC, aJ, dD, aL, cG, dF, dB, bN, aH, bD, aY, cP, aG, aX, aM, aV, cU, aW, cJ, bS, aD, aA, aK, dP, aO, aP, bC, aQ, cD, aE, bZ, bT, bF, bB, aZ, cX, aI, bJ, aT, aS, aU, aF, dA, cL, bP, aN, cW, bX, bY, cB, bQ, bR, bG, cA, bE, cF, bA, bM, bL, bK, cI, a32, n2]
  exact ⟨rfl, (hr1.ext x13 fun _ _ _ h => h).ext x4 fun _ _ _ h => h, (x1.trans x13 fun _ _ h => h.elim).trans x4 fun _ _ h => h.elim⟩
 .have n2 : ((q : Int) != (q2 : Int)) = true := by simp; omega
  rw [if_pos he]
  simp (disch := omega) only [dQ, fJ, cQ, stepR_skip, eE, eT, eK, fC, fB, eX, fL, fA, dK, eL, eN, eY, eB, eI, eM, eF, eJ, fD, eZ, eC, dS, eS, eQ, eA, gP, gQ, gT, gU, gV, gR, gW, gS, gO, dH, Result.ok.injEq, Next.value.injEq, true_and, and_true, dZ, dY, eP, eU, eH, fM, LU, dR, dV, dW, dU, dN, dM, dO, dL, dI, cY, if_true, if_false, LQ, LX, LR, LS, LW, LV, LP, LO, cS, cM, cC, bW, cV, dJ, bV, bU, cR, cK, cO, dC, cN, dG, cZ, dT, dE, cH, bH, bO, aR, aC, aJ, dD, aL, cG, dF, dB, bN, aH, bD, aY, cP, aG, aX, aM, aV, cU, aW, cJ, bS, aD, aA, aK, dP, aO, aP, bC, aQ, cD, aE, bZ, bT, bF, bB, aZ, cX, aI, bJ, aT, aS, aU, aF, dA, cL, bP, aN, cW, bX, bY, cB, bQ, bR, bG, cA, bE, cF, bA, bM, bL, bK, cI, a32, n2]
  exact ⟨by decide, rfl, (x1.trans x13 fun _ _ h => h.elim).trans x4 fun _ _ h => h.elim⟩
def BL (h : FH) (l all : List UInt8) : Except Int (List UInt8 × List UInt8) :=
 if h.known = true /\ all.length ≠ h.size then .error 11 else if h.sum = true then (match HZ l all with | .error e => .error e | .ok l' => .ok (all, l')) else .ok (all, l)
structure DM where
 l : List UInt8
 win : Nat
 most : Nat
 out : List UInt8
 fr : Nat
 sk : Nat
def lW (pr : Nat) (vo : Nb) (m : DM) : List Nb := [.pointer (some ⟨pr, 0, none⟩), .int .u64 (m.win : Nat), .int .i64 (m.most : Nat), vo, .int .i64 (m.fr : Nat), .int .i64 (m.sk : Nat)]
def Jm (w : Na) (base p : Nat) (m : DM) : Prop :=
 ∃ pr vo lo hi, ∃ O : Nat -> Prop, iA w p (lW pr vo m) /\ As w lo hi pr m.l 0 /\ yG w O 1 vo m.out.length (m.out.map pU) /\ base <= p /\ base <= lo /\ (∀ b, O b -> base <= b /\ b ≠ p /\ ¬ (lo <= b /\ b < hi)) /\ ¬ (lo <= p /\ p < hi) /\ hi <= w.heap.size
theorem Ji {w : Na} {S M : Nat -> Prop} {n : Nat} {v : Nb} {l : List Nb} (h : yG w S 1 v n l) (hM : ∀ b, S b -> ¬ M b) : ¬ Co v M := by
 rcases h.2 with ⟨rfl, rfl⟩ | ⟨b, c, rest, rfl, h2, _⟩
 .exact fun h => h
 .have := hM b h2
  cases n <;> simp_all [Co]
def HL (base p : Nat) (w : Na) (dm : DM) (r : Nb) (w' : Na) : Except Int (List UInt8 × List UInt8) -> Prop
 | .error e => e ≠ 0 /\ r = .int .i64 e /\ gB w w' (fun y => base <= y)
 | .ok (all, l) => r = .int .i64 0 /\ Jm w' base p ⟨l, dm.win, dm.most, dm.out ++ all, dm.fr + 1, dm.sk⟩ /\ gB w w' (fun y => base <= y)
theorem EL {RR : Nb -> Na -> Prop} {base p pr lo hi : Nat} {O : Nat -> Prop} {vo va : Nb} {all : List UInt8} {m : DM} {w : Na}
 (o : iA w p (lW pr vo m)) (hr : As w lo hi pr m.l 0) (oo : yG w O 1 vo m.out.length (m.out.map pU)) (hp : base <= p) (hlo : base <= lo) (hO : ∀ b, O b -> base <= b /\ b ≠ p /\ ¬ (lo <= b /\ b < hi)) (q1 : ¬ (lo <= p /\ p < hi)) (hhi : hi <= w.heap.size)
 (ha : Bs w va all) (h1 : m.out.length <= 2000000) (h2 : all.length <= 2000000) (h3 : m.fr <= 2000000)
 (hk : ∀ w', Jm w' base p ⟨m.l, m.win, m.most, m.out ++ all, m.fr + 1, m.sk⟩ -> gB w w' (fun y => base <= y) -> RR (.int .i64 0) w') :
 hZ RR (.pointer (some ⟨p, 0, none⟩)) va w := by
 unfold hZ
 have hz := o.lt
 have c3 := o.cell (off := 3)
 simp only [lW, LO, LP] at c3
 simp (disch := omega) only [dQ, fJ, cQ, stepR_skip, eE, eT, eK, fC, fB, eX, fL, fA, dK, eL, eN, eY, eB, eI, eM, eF, eJ, fD, eZ, eC, dS, eS, eQ, eA, gP, gQ, gT, gU, gV, gR, gW, gS, gO, dH, Result.ok.injEq, Next.value.injEq, true_and, and_true, dZ, dY, eP, eU, eH, fM, LU, dR, dV, dW, dU, dN, dM, dO, dL, dI, cY, if_true, if_false, LQ, LX, LR, LS, LW, LV, LP, LO, cS, cM, cC, bW, cV, dJ, bV, bU, cR, cK, cO, dC, cN, dG, cZ, dT, dE, cH, bH, bO, aR, aC, aJ, dD, aL, cG, dF, dB, bN, aH, bD, aY, cP, aG, aX, aM, aV, cU, aW, cJ, bS, aD, aA, aK, dP, aO, aP, bC, aQ, cD, aE, bZ, bT, bF, bB, aZ, cX, aI, bJ, aT, aS, aU, aF, dA, cL, bP, aN, cW, bX, bY, cB, bQ, bR, bG, cA, bE, cF, bA, bM, bL, bK, cI, c3]
 refine Ll (S := fun b => O b ∨ w.heap.size <= b) (zN oo fun b h _ => .inl h) ha (fun b h => .inr h) (by omega) fun v' w1 o1 x1 => ?_
 have hp1 : ¬ (O p ∨ w.heap.size <= p) := by
  rintro (h | h)
  .exact (hO p h).2.1 rfl
  .omega
 have o2 := o.ext x1 hp1
 obtain ⟨a', c', hv'⟩ := o1.len
 try simp (disch := omega) only [dQ, fJ, cQ, stepR_skip, eE, eT, eK, fC, fB, eX, fL, fA, dK, eL, eN, eY, eB, eI, eM, eF, eJ, fD, eZ, eC, dS, eS, eQ, eA, gP, gQ, gT, gU, gV, gR, gW, gS, gO, dH, Result.ok.injEq, Next.value.injEq, true_and, and_true, dZ, dY, eP, eU, eH, fM, LU, dR, dV, dW, dU, dN, dM, dO, dL, dI, cY, if_true, if_false, LQ, LX, LR, LS, LW, LV, LP, LO, cS, cM, cC, bW, cV, dJ, bV, bU, cR, cK, cO, dC, cN, dG, cZ, dT, dE, cH, bH, bO, aR, aC, aJ, dD, aL, cG, dF, dB, bN, aH, bD, aY, cP, aG, aX, aM, aV, cU, aW, cJ, bS, aD, aA, aK, dP, aO, aP, bC, aQ, cD, aE, bZ, bT, bF, bB, aZ, cX, aI, bJ, aT, aS, aU, aF, dA, cL, bP, aN, cW, bX, bY, cB, bQ, bR, bG, cA, bE, cF, bA, bM, bL, bK, cI]
 refine Dw (off := 3) o2 (by rw [hv'] <;> rfl) (by simp [lW]) fun w3 o3 x3 s3 => ?_
 simp only [lW, L2, L5] at o3
 have c4 := o3.cell (off := 4)
 simp only [LO, LP] at c4
 have e4 : (m.fr : Int) + 1 = ((m.fr + 1 : Nat) : Int) := by omega
 have w4 : IntKind.i64.wrap ((m.fr + 1 : Nat) : Int) = ((m.fr + 1 : Nat) : Int) := dZ (by omega) (by omega)
 simp (disch := omega) only [dQ, fJ, cQ, stepR_skip, eE, eT, eK, fC, fB, eX, fL, fA, dK, eL, eN, eY, eB, eI, eM, eF, eJ, fD, eZ, eC, dS, eS, eQ, eA, gP, gQ, gT, gU, gV, gR, gW, gS, gO, dH, Result.ok.injEq, Next.value.injEq, true_and, and_true, dZ, dY, eP, eU, eH, fM, LU, dR, dV, dW, dU, dN, dM, dO, dL, dI, cY, if_true, if_false, LQ, LX, LR, LS, LW, LV, LP, LO, cS, cM, cC, bW, cV, dJ, bV, bU, cR, cK, cO, dC, cN, dG, cZ, dT, dE, cH, bH, bO, aR, aC, aJ, dD, aL, cG, dF, dB, bN, aH, bD, aY, cP, aG, aX, aM, aV, cU, aW, cJ, bS, aD, aA, aK, dP, aO, aP, bC, aQ, cD, aE, bZ, bT, bF, bB, aZ, cX, aI, bJ, aT, aS, aU, aF, dA, cL, bP, aN, cW, bX, bY, cB, bQ, bR, bG, cA, bE, cF, bA, bM, bL, bK, cI, c4, e4, w4]
 refine Fg (off := 4) o3 rfl (by simp) fun w5 o5 x5 s5 => ?_
 simp only [L2, L5] at o5
 have x35 := x3.seq x5
 have zz1 := x1.size
 have zz3 := x35.size
 have x05 : gB w w5 (fun y => O y ∨ w.heap.size <= y ∨ y = p) := (x1.mono fun y _ h => h.elim .inl fun h => .inr (.inl h)).seq (x35.mono fun y _ h => .inr (.inr h))
 refine hk w5 ⟨pr, v', lo, hi, fun b => (O b ∨ w.heap.size <= b), o5, ?_, o1.ext x35 ?_, hp, hlo, ?_, q1, by omega⟩ (x05.mono ?_)
 .refine hr.ext x05 fun b h1 h2 h => ?_
  rcases h with h | h | h
  .exact (hO b h).2.2 ⟨h1, h2⟩
  .omega
  .exact q1 (h ▸ ⟨h1, h2⟩)
 .intro b h e
  exact hp1 (e ▸ h)
 .rintro b (h | h)
  .exact hO b h
  .exact ⟨by omega, by omega, by omega⟩
 .rintro y hy (h | h | h)
  .exact (hO y h).1
  .omega
  .omega
theorem Hy {base p pr ph lo hi : Nat} {O A : Nat -> Prop} {vo va : Nb} {all : List UInt8} {m dm : DM} {h : FH} {w0 w : Na}
 (hdm : dm.win = m.win /\ dm.most = m.most /\ dm.out = m.out /\ dm.fr = m.fr /\ dm.sk = m.sk) (hx : gB w0 w (fun y => base <= y))
 (o : iA w p (lW pr vo m)) (hr : As w lo hi pr m.l 0) (oo : yG w O 1 vo m.out.length (m.out.map pU)) (hp : base <= p) (hlo : base <= lo) (hO : ∀ b, O b -> base <= b /\ b ≠ p /\ ¬ (lo <= b /\ b < hi)) (q1 : ¬ (lo <= p /\ p < hi)) (hhi : hi <= w.heap.size)
 (oh : iA w ph (yU h)) (ha : yG w A 1 va all.length (all.map pU)) (hA : ∀ b, A b -> ¬ (lo <= b /\ b < hi)) (h1 : m.out.length <= 2000000) (h2 : all.length <= 2000000) (h3 : m.fr <= 2000000) (hl : m.l.length <= 1000000) (hsz : h.size < 2 ^ 64) :
 jH (fun r w' => HL base p w0 dm r w' (BL h m.l all)) (.pointer (some ⟨p, 0, none⟩)) (.pointer (some ⟨ph, 0, none⟩)) va w := by
 obtain ⟨RR, hRR⟩ : ∃ RR : Nb -> Na -> Prop, RR = fun r w' => HL base p w0 dm r w' (BL h m.l all) := ⟨_, rfl⟩
 rw [<- hRR]
 unfold jH nE
 have c2 := oh.cell (off := 2)
 have c1 := oh.cell (off := 1)
 have c3 := oh.cell (off := 3)
 simp only [yU, LO, LP] at c1 c2 c3
 obtain ⟨a', c', hva⟩ := ha.len
 have hb : Bs w va all := GS ha
 have wl : IntKind.u64.wrap (all.length : Int) = all.length := dY (by omega) (by omega)
 have hpr : lo <= pr /\ pr < hi := ⟨hr.1, hr.2.1⟩
 have hnp : ¬ Co va (fun y => y = pr) := Ji ha fun b hb e => hA b hb (e ▸ hpr)
 have fin : ¬ (h.known = true /\ all.length ≠ h.size) -> lJ (.bool h.sum) (fO pg jK #[.pointer (some ⟨p, 0, none⟩), va] w fun t105 w => dQ pg (fI .neq 26 (.tmp 106) (.const (.int .i64 0)) t105 (.int .i64 0)) w fun t107 w => lJ t107 (RR t105 w) (hZ RR (.pointer (some ⟨p, 0, none⟩)) va w)) (hZ RR (.pointer (some ⟨p, 0, none⟩)) va w) := by
  intro hn
  cases hs : h.sum with
  | false =>
    simp (disch := omega) only [dQ, fJ, cQ, stepR_skip, eE, eT, eK, fC, fB, eX, fL, fA, dK, eL, eN, eY, eB, eI, eM, eF, eJ, fD, eZ, eC, dS, eS, eQ, eA, gP, gQ, gT, gU, gV, gR, gW, gS, gO, dH, Result.ok.injEq, Next.value.injEq, true_and, and_true, dZ, dY, eP, eU, eH, fM, LU, dR, dV, dW, dU, dN, dM, dO, dL, dI, cY, if_true, if_false, LQ, LX, LR, LS, LW, LV, LP, LO, cS, cM, cC, bW, cV, dJ, bV, bU, cR, cK, cO, dC, cN, dG, cZ, dT, dE, cH, bH, bO, aR, aC, aJ, dD, aL, cG, dF, dB, bN, aH, bD, aY, cP, aG, aX, aM, aV, cU, aW, cJ, bS, aD, aA, aK, dP, aO, aP, bC, aQ, cD, aE, bZ, bT, bF, bB, aZ, cX, aI, bJ, aT, aS, aU, aF, dA, cL, bP, aN, cW, bX, bY, cB, bQ, bR, bG, cA, bE, cF, bA, bM, bL, bK, cI]
    refine EL o hr oo hp hlo hO q1 hhi hb h1 h2 h3 fun w' hd x => ?_
    rw [hRR]
    unfold BL
    rw [if_neg hn, if_neg (by rw [hs]; simp)]
    refine ⟨rfl, ?_, hx.seq x⟩
    rw [hdm.1, hdm.2.1, hdm.2.2.1, hdm.2.2.2.1, hdm.2.2.2.2]
    exact hd
  | true =>
    simp (disch := omega) only [dQ, fJ, cQ, stepR_skip, eE, eT, eK, fC, fB, eX, fL, fA, dK, eL, eN, eY, eB, eI, eM, eF, eJ, fD, eZ, eC, dS, eS, eQ, eA, gP, gQ, gT, gU, gV, gR, gW, gS, gO, dH, Result.ok.injEq, Next.value.injEq, true_and, and_true, dZ, dY, eP, eU, eH, fM, LU, dR, dV, dW, dU, dN, dM, dO, dL, dI, cY, if_true, if_false, LQ, LX, LR, LS, LW, LV, LP, LO, cS, cM, cC, bW, cV, dJ, bV, bU, cR, cK, cO, dC, cN, dG, cZ, dT, dE, cH, bH, bO, aR, aC, aJ, dD, aL, cG, dF, dB, bN, aH, bD, aY, cP, aG, aX, aM, aV, cU, aW, cJ, bS, aD, aA, aK, dP, aO, aP, bC, aQ, cD, aE, bZ, bT, bF, bB, aZ, cX, aI, bJ, aT, aS, aU, aF, dA, cL, bP, aN, cW, bX, bY, cB, bQ, bR, bG, cA, bE, cF, bA, bM, bL, bK, cI]
    refine (HF o (by rfl) hr hb hnp hl h2).mono ?_
    intro r w1 hs1
    have hdt : BL h m.l all = match HZ m.l all with | .error e => .error e | .ok l' => .ok (all, l') := by
     unfold BL
     rw [if_neg hn, if_pos hs]
     try rfl
    cases hd : HZ m.l all with
    | error e =>
      rw [hd] at hs1
      obtain ⟨he, rfl, x1⟩ := hs1
      have n1 : (e != 0) = true := by simp [he]
      simp (disch := omega) only [dQ, fJ, cQ, stepR_skip, eE, eT, eK, fC, fB, eX, fL, fA, dK, eL, eN, eY, eB, eI, eM, eF, eJ, fD, eZ, eC, dS, eS, eQ, eA, gP, gQ, gT, gU, gV, gR, gW, gS, gO, dH, Result.ok.injEq, Next.value.injEq, true_and, and_true, dZ, dY, eP, eU, eH, fM, LU, dR, dV, dW, dU, dN, dM, dO, dL, dI, cY, if_true, if_false, LQ, LX, LR, LS, LW, LV, LP, LO, cS, cM, cC, bW, cV, dJ, bV, bU, cR, cK, cO, dC, cN, dG, cZ, dT, dE, cH, bH, bO, aR, aC, aJ, dD, aL, cG, dF, dB, bN, aH, bD, aY, cP, aG, aX, aM, aV, cU, aW, cJ, bS, aD, aA, aK, dP, aO, aP, bC, aQ, cD, aE, bZ, bT, bF, bB, aZ, cX, aI, bJ, aT, aS, aU, aF, dA, cL, bP, aN, cW, bX, bY, cB, bQ, bR, bG, cA, bE, cF, bA, bM, bL, bK, cI, n1]
      rw [hRR, hdt, hd]
      exact ⟨he, rfl, hx.seq (x1.mono fun y _ h => by omega)⟩
    | ok l' =>
      rw [hd] at hs1
      obtain ⟨rfl, hr1, x1⟩ := hs1
      have n1 : ((0 : Int) != 0) = false := rfl
      simp (disch := omega) only [dQ, fJ, cQ, stepR_skip, eE, eT, eK, fC, fB, eX, fL, fA, dK, eL, eN, eY, eB, eI, eM, eF, eJ, fD, eZ, eC, dS, eS, eQ, eA, gP, gQ, gT, gU, gV, gR, gW, gS, gO, dH, Result.ok.injEq, Next.value.injEq, true_and, and_true, dZ, dY, eP, eU, eH, fM, LU, dR, dV, dW, dU, dN, dM, dO, dL, dI, cY, if_true, if_false, LQ, LX, LR, LS, LW, LV, LP, LO, cS, cM, cC, bW, cV, dJ, bV, bU, cR, cK, cO, dC, cN, dG, cZ, dT, dE, cH, bH, bO, aR, aC, aJ, dD, aL, cG, dF, dB, bN, aH, bD, aY, cP, aG, aX, aM, aV, cU, aW, cJ, bS, aD, aA, aK, dP, aO, aP, bC, aQ, cD, aE, bZ, bT, bF, bB, aZ, cX, aI, bJ, aT, aS, aU, aF, dA, cL, bP, aN, cW, bX, bY, cB, bQ, bR, bG, cA, bE, cF, bA, bM, bL, bK, cI, n1]
      have z1 := x1.size
      refine EL (m := ⟨l', m.win, m.most, m.out, m.fr, m.sk⟩) (o.ext x1 fun e => q1 (e ▸ hpr)) hr1 (oo.ext x1 fun b hb e => (hO b hb).2.2 (e ▸ hpr)) hp hlo hO q1 (by omega) (hb.ext x1 hnp) h1 h2 h3 fun w' hd' x => ?_
      rw [hRR, hdt, hd]
      refine ⟨rfl, ?_, hx.seq ((x1.mono fun y _ h => by omega).seq x)⟩
      rw [hdm.1, hdm.2.1, hdm.2.2.1, hdm.2.2.2.1, hdm.2.2.2.2]
      exact hd'
 cases hkn : h.known with
 | false =>
   rw [hkn] at c2
   have := fin (by rw [hkn]; simp)
   subst hva
   simp (disch := omega) only [dQ, fJ, cQ, stepR_skip, eE, eT, eK, fC, fB, eX, fL, fA, dK, eL, eN, eY, eB, eI, eM, eF, eJ, fD, eZ, eC, dS, eS, eQ, eA, gP, gQ, gT, gU, gV, gR, gW, gS, gO, dH, Result.ok.injEq, Next.value.injEq, true_and, and_true, dZ, dY, eP, eU, eH, fM, LU, dR, dV, dW, dU, dN, dM, dO, dL, dI, cY, if_true, if_false, LQ, LX, LR, LS, LW, LV, LP, LO, cS, cM, cC, bW, cV, dJ, bV, bU, cR, cK, cO, dC, cN, dG, cZ, dT, dE, cH, bH, bO, aR, aC, aJ, dD, aL, cG, dF, dB, bN, aH, bD, aY, cP, aG, aX, aM, aV, cU, aW, cJ, bS, aD, aA, aK, dP, aO, aP, bC, aQ, cD, aE, bZ, bT, bF, bB, aZ, cX, aI, bJ, aT, aS, aU, aF, dA, cL, bP, aN, cW, bX, bY, cB, bQ, bR, bG, cA, bE, cF, bA, bM, bL, bK, cI, c2, c3]
   exact this
 | true =>
   rw [hkn] at c2
   subst hva
   by_cases he : all.length = h.size
   .have n1 : ((all.length : Int) != (h.size : Int)) = false := by rw [he]; simp
    have := fin (by simp [he])
    simp (disch := omega) only [dQ, fJ, cQ, stepR_skip, eE, eT, eK, fC, fB, eX, fL, fA, dK, eL, eN, eY, eB, eI, eM, eF, eJ, fD, eZ, eC, dS, eS, eQ, eA, gP, gQ, gT, gU, gV, gR, gW, gS, gO, dH, Result.ok.injEq, Next.value.injEq, true_and, and_true, dZ, dY, eP, eU, eH, fM, LU, dR, dV, dW, dU, dN, dM, dO, dL, dI, cY, if_true, if_false, LQ, LX, LR, LS, LW, LV, LP, LO, cS, cM, cC, bW, cV, dJ, bV, bU, cR, cK, cO, dC, cN, dG, cZ, dT, dE, cH, bH, bO, aR, aC, aJ, dD, aL, cG, dF, dB, bN, aH, bD, aY, cP, aG, aX, aM, aV, cU, aW, cJ, bS, aD, aA, aK, dP, aO, aP, bC, aQ, cD, aE, bZ, bT, bF, bB, aZ, cX, aI, bJ, aT, aS, aU, aF, dA, cL, bP, aN, cW, bX, bY, cB, bQ, bR, bG, cA, bE, cF, bA, bM, bL, bK, cI, c2, c3, c1, wl, n1]
    exact this
   .have n1 : ((all.length : Int) != (h.size : Int)) = true := by simp; omega
    simp (disch := omega) only [dQ, fJ, cQ, stepR_skip, eE, eT, eK, fC, fB, eX, fL, fA, dK, eL, eN, eY, eB, eI, eM, eF, eJ, fD, eZ, eC, dS, eS, eQ, eA, gP, gQ, gT, gU, gV, gR, gW, gS, gO, dH, Result.ok.injEq, Next.value.injEq, true_and, and_true, dZ, dY, eP, eU, eH, fM, LU, dR, dV, dW, dU, dN, dM, dO, dL, dI, cY, if_true, if_false, LQ, LX, LR, LS, LW, LV, LP, LO, cS, cM, cC, bW, cV, dJ, bV, bU, cR, cK, cO, dC, cN, dG, cZ, dT, dE, cH, bH, bO, aR, aC, aJ, dD, aL, cG, dF, dB, bN, aH, bD, aY, cP, aG, aX, aM, aV, cU, aW, cJ, bS, aD, aA, aK, dP, aO, aP, bC, aQ, cD, aE, bZ, bT, bF, bB, aZ, cX, aI, bJ, aT, aS, aU, aF, dA, cL, bP, aN, cW, bX, bY, cB, bQ, bR, bG, cA, bE, cF, bA, bM, bL, bK, cI, c2, c3, c1, wl, n1]
    rw [hRR]
    unfold BL
    rw [if_pos ⟨hkn, he⟩]
    exact ⟨by decide, rfl, hx⟩
def zM (h : FH) (room : Nat) : Nat -> List UInt8 -> List UInt8 -> Option (Except Int (List UInt8 × List UInt8))
 | 0, _, _ => none
 | f + 1, l, all => match DO l all h.window room with
   | none => none
   | some (.error e) => some (.error e)
   | some (.ok (a, l', b)) => if h.known = true /\ h.size < a.length then some (.error 11) else if b then some (.ok (a, l')) else zM h room f l' a
def Gg (h : FH) : Except Int (List UInt8 × List UInt8) -> Except Int (List UInt8 × List UInt8)
 | .error e => .error e
 | .ok (a, l') => BL h l' a
theorem II {l all : List UInt8} {win room : Nat} {e : Int} (h : DO l all win room = some (.error e)) : e ≠ 0 := by
 unfold DO at h
 repeat' split at h
 all_goals first | (cases h; decide) | cases h
theorem Hh {l all a l' : List UInt8} {win room : Nat} {b : Bool} (h : DO l all win room = some (.ok (a, l', b))) : a.length <= room /\ l'.length <= l.length := by
 unfold DO at h
 repeat' split at h
 all_goals first | cases h | skip
 rw [L4, L7]
 omega
theorem Hz {base p pr ph pq lo hi aB f : Nat} {O : Nat -> Prop} {vo va : Nb} {all : List UInt8} {m dm : DM} {h : FH} {w0 w : Na} {mm : Except Int (List UInt8 × List UInt8)}
 (hdm : dm.win = m.win /\ dm.most = m.most /\ dm.out = m.out /\ dm.fr = m.fr /\ dm.sk = m.sk) (hx : gB w0 w (fun y => base <= y))
 (o : iA w p (lW pr vo m)) (hr : As w lo hi pr m.l 0) (oo : yG w O 1 vo m.out.length (m.out.map pU)) (hp : base <= p) (hlo : base <= lo) (hO : ∀ b, O b -> base <= b /\ b ≠ p /\ ¬ (lo <= b /\ b < hi) /\ b < aB) (hpq : base <= pq /\ pq ≠ p /\ pq ≠ ph /\ ¬ O pq) (q1 : ¬ (lo <= p /\ p < hi)) (q2 : ¬ (lo <= ph /\ ph < hi)) (q3 : ¬ (lo <= pq /\ pq < hi)) (hb : p < aB /\ ph < aB /\ pq < aB /\ hi <= aB /\ base <= aB /\ aB <= w.heap.size)
 (oh : iA w ph (yU h)) (og : iA w pq gL) (ha : yG w (fun b => aB <= b) 1 va all.length (all.map pU)) (h1 : m.out.length <= m.most) (h2 : all.length <= 2000000) (h3 : m.fr <= 2000000) (hmost : m.most <= 2000000) (hl : m.l.length <= 1000000) (hsz : h.size < 2 ^ 64)
 (hm : zM h (m.most - m.out.length) f m.l all = some mm) :
 jI (fun r w' => HL base p w0 dm r w' (Gg h mm)) (.pointer (some ⟨p, 0, none⟩)) (.pointer (some ⟨ph, 0, none⟩)) (.pointer (some ⟨pq, 0, none⟩)) va w := by
 obtain ⟨RR, hRR⟩ : ∃ RR : Nb -> Na -> Prop, RR = fun r w' => HL base p w0 dm r w' (Gg h mm) := ⟨_, rfl⟩
 rw [<- hRR]
 unfold jI nF mW
 refine iR.rule (fun f (va : Nb) w1 => ∃ all l, zM h (m.most - m.out.length) f l all = some mm /\ gB w w1 (fun y => aB <= y ∨ y = pr ∨ y = pq) /\ As w1 lo hi pr l 0 /\ yG w1 (fun b => aB <= b) 1 va all.length (all.map pU) /\ iA w1 pq gL /\ all.length <= 2000000 /\ l.length <= 1000000) f
  ⟨all, m.l, hm, gB.refl _ _, hr, ha, og, h2, hl⟩ ?_
 clear hm ha og hl h2 hr all
 rintro f va w1 ⟨all, l, hm, x1, hr, ha, og, h2, hl⟩
 have hpr : lo <= pr /\ pr < hi := ⟨hr.1, hr.2.1⟩
 have z1 := x1.size
 have hnp : ¬ (aB <= p ∨ p = pr ∨ p = pq) := by omega
 have hnh : ¬ (aB <= ph ∨ ph = pr ∨ ph = pq) := by omega
 have hnO : ∀ b, O b -> ¬ (aB <= b ∨ b = pr ∨ b = pq) := by
  rintro b hb (h | h | h)
  .have := (hO b hb).2.2.2; omega
  .exact (hO b hb).2.2.1 (h ▸ hpr)
  .exact hpq.2.2.2 (h ▸ hb)
 have o1 := o.ext x1 hnp
 have oh1 := oh.ext x1 hnh
 have oo1 := oo.ext x1 hnO
 cases f with
 | zero => cases hm
 | succ f =>
   rw [zM] at hm
   unfold kO
   have hg := sX (off := 0) og (by simp [gL])
   simp only [gL, Mg, Ma, Mh] at hg
   have c0 := oh1.cell (off := 0)
   have c1 := oh1.cell (off := 1)
   have c2 := oh1.cell (off := 2)
   simp only [yU, LO, LP] at c0 c1 c2
   simp (disch := omega) only [dQ, fJ, cQ, stepR_skip, eE, eT, eK, fC, fB, eX, fL, fA, dK, eL, eN, eY, eB, eI, eM, eF, eJ, fD, eZ, eC, dS, eS, eQ, eA, gP, gQ, gT, gU, gV, gR, gW, gS, gO, dH, Result.ok.injEq, Next.value.injEq, true_and, and_true, dZ, dY, eP, eU, eH, fM, LU, dR, dV, dW, dU, dN, dM, dO, dL, dI, cY, if_true, if_false, LQ, LX, LR, LS, LW, LV, LP, LO, cS, cM, cC, bW, cV, dJ, bV, bU, cR, cK, cO, dC, cN, dG, cZ, dT, dE, cH, bH, bO, aR, aC, aJ, dD, aL, cG, dF, dB, bN, aH, bD, aY, cP, aG, aX, aM, aV, cU, aW, cJ, bS, aD, aA, aK, dP, aO, aP, bC, aQ, cD, aE, bZ, bT, bF, bB, aZ, cX, aI, bJ, aT, aS, aU, aF, dA, cL, bP, aN, cW, bX, bY, cB, bQ, bR, bG, cA, bE, cF, bA, bM, bL, bK, cI, hg, c0]
   obtain ⟨mb, hmb⟩ : ∃ mb, DO l all h.window (m.most - m.out.length) = some mb := by
    cases hd : DO l all h.window (m.most - m.out.length) with
    | none => rw [hd] at hm; cases hm
    | some mb => exact ⟨mb, rfl⟩
   rw [hmb] at hm
   refine (Ip (n := m.out.length) (most := m.most) o1 rfl rfl rfl oo1.len hr ha (fun b h => ⟨by omega, by omega⟩) (fun b h => by omega) (by omega) q1 h1 hl h2 hmost hmb).mono ?_
   intro r w2 hb2
   cases mb with
   | error e =>
     have he := II hmb
     cases hm
     obtain ⟨rfl, x2⟩ := hb2
     have n1 : (e != 0) = true := by simp [he]
     unfold KV
     simp (disch := omega) only [dQ, fJ, cQ, stepR_skip, eE, eT, eK, fC, fB, eX, fL, fA, dK, eL, eN, eY, eB, eI, eM, eF, eJ, fD, eZ, eC, dS, eS, eQ, eA, gP, gQ, gT, gU, gV, gR, gW, gS, gO, dH, Result.ok.injEq, Next.value.injEq, true_and, and_true, dZ, dY, eP, eU, eH, fM, LU, dR, dV, dW, dU, dN, dM, dO, dL, dI, cY, if_true, if_false, LQ, LX, LR, LS, LW, LV, LP, LO, cS, cM, cC, bW, cV, dJ, bV, bU, cR, cK, cO, dC, cN, dG, cZ, dT, dE, cH, bH, bO, aR, aC, aJ, dD, aL, cG, dF, dB, bN, aH, bD, aY, cP, aG, aX, aM, aV, cU, aW, cJ, bS, aD, aA, aK, dP, aO, aP, bC, aQ, cD, aE, bZ, bT, bF, bB, aZ, cX, aI, bJ, aT, aS, aU, aF, dA, cL, bP, aN, cW, bX, bY, cB, bQ, bR, bG, cA, bE, cF, bA, bM, bL, bK, cI, n1]
     have og2 : iA w2 pq gL := og.ext x2 (by omega)
     refine iH og2 rfl (by simp [one]) (by simp [gL]) fun w3 o3 x3 s3 => ?_
     try simp (disch := omega) only [dQ, fJ, cQ, stepR_skip, eE, eT, eK, fC, fB, eX, fL, fA, dK, eL, eN, eY, eB, eI, eM, eF, eJ, fD, eZ, eC, dS, eS, eQ, eA, gP, gQ, gT, gU, gV, gR, gW, gS, gO, dH, Result.ok.injEq, Next.value.injEq, true_and, and_true, dZ, dY, eP, eU, eH, fM, LU, dR, dV, dW, dU, dN, dM, dO, dL, dI, cY, if_true, if_false, LQ, LX, LR, LS, LW, LV, LP, LO, cS, cM, cC, bW, cV, dJ, bV, bU, cR, cK, cO, dC, cN, dG, cZ, dT, dE, cH, bH, bO, aR, aC, aJ, dD, aL, cG, dF, dB, bN, aH, bD, aY, cP, aG, aX, aM, aV, cU, aW, cJ, bS, aD, aA, aK, dP, aO, aP, bC, aQ, cD, aE, bZ, bT, bF, bB, aZ, cX, aI, bJ, aT, aS, aU, aF, dA, cL, bP, aN, cW, bX, bY, cB, bQ, bR, bG, cA, bE, cF, bA, bM, bL, bK, cI, n1]
     rw [hRR]
     exact ⟨he, rfl, hx.seq ((((x1.mono fun y _ h => by omega).seq (x2.mono fun y _ h => by omega))).seq (x3.mono fun y _ h => by omega))⟩
   | ok t =>
     obtain ⟨a, l', b⟩ := t
     obtain ⟨v, rfl, o2, hr2, x2⟩ := hb2
     have hlen := Hh hmb
     have n1 : ((0 : Int) != 0) = false := rfl
     have z2 := x2.size
     have og2 := og.ext x2 (by omega)
     obtain ⟨av, cv, hv⟩ := o2.len
     unfold La
     subst hv
     simp (disch := omega) only [dQ, fJ, cQ, stepR_skip, eE, eT, eK, fC, fB, eX, fL, fA, dK, eL, eN, eY, eB, eI, eM, eF, eJ, fD, eZ, eC, dS, eS, eQ, eA, gP, gQ, gT, gU, gV, gR, gW, gS, gO, dH, Result.ok.injEq, Next.value.injEq, true_and, and_true, dZ, dY, eP, eU, eH, fM, LU, dR, dV, dW, dU, dN, dM, dO, dL, dI, cY, if_true, if_false, LQ, LX, LR, LS, LW, LV, LP, LO, cS, cM, cC, bW, cV, dJ, bV, bU, cR, cK, cO, dC, cN, dG, cZ, dT, dE, cH, bH, bO, aR, aC, aJ, dD, aL, cG, dF, dB, bN, aH, bD, aY, cP, aG, aX, aM, aV, cU, aW, cJ, bS, aD, aA, aK, dP, aO, aP, bC, aQ, cD, aE, bZ, bT, bF, bB, aZ, cX, aI, bJ, aT, aS, aU, aF, dA, cL, bP, aN, cW, bX, bY, cB, bQ, bR, bG, cA, bE, cF, bA, bM, bL, bK, cI, n1]
     refine iH og2 rfl (by simp [one]) (by simp [gL]) fun w3 o3 x3 s3 => ?_
     simp only [gE, gL, L2, L5] at o3
     have x13 : gB w w3 (fun y => aB <= y ∨ y = pr ∨ y = pq) := (x1.seq (x2.mono fun y _ h => by omega)).seq (x3.mono fun y _ h => by omega)
     have oh3 := oh.ext x13 hnh
     have d0 := oh3.cell (off := 0)
     have d1 := oh3.cell (off := 1)
     have d2 := oh3.cell (off := 2)
     simp only [yU, LO, LP] at d0 d1 d2
     have o3' := o.ext x13 hnp
     have hr3 := hr2.ext x3 (fun b h1 h2 h => by omega)
     have o2' := o2.ext x3 (fun b h1 h => by omega)
     have wl : IntKind.u64.wrap (a.length : Int) = a.length := dY (by omega) (by omega)
     have go : ¬ (h.known = true /\ h.size < a.length) -> lJ (.bool b) (jH RR (.pointer (some ⟨p, 0, none⟩)) (.pointer (some ⟨ph, 0, none⟩)) (.slice av a.length cv) w3) (∃ LC, LC < f + 1 /\ ∃ all l, zM h (m.most - m.out.length) LC l all = some mm /\ gB w w3 (fun y => aB <= y ∨ y = pr ∨ y = pq) /\ As w3 lo hi pr l 0 /\ yG w3 (fun b => aB <= b) 1 (.slice av a.length cv) all.length (all.map pU) /\ iA w3 pq gL /\ all.length <= 2000000 /\ l.length <= 1000000) := by
      intro hn
      simp only [if_neg hn] at hm
      cases b with
      | true =>
        cases hm
        simp (disch := omega) only [dQ, fJ, cQ, stepR_skip, eE, eT, eK, fC, fB, eX, fL, fA, dK, eL, eN, eY, eB, eI, eM, eF, eJ, fD, eZ, eC, dS, eS, eQ, eA, gP, gQ, gT, gU, gV, gR, gW, gS, gO, dH, Result.ok.injEq, Next.value.injEq, true_and, and_true, dZ, dY, eP, eU, eH, fM, LU, dR, dV, dW, dU, dN, dM, dO, dL, dI, cY, if_true, if_false, LQ, LX, LR, LS, LW, LV, LP, LO, cS, cM, cC, bW, cV, dJ, bV, bU, cR, cK, cO, dC, cN, dG, cZ, dT, dE, cH, bH, bO, aR, aC, aJ, dD, aL, cG, dF, dB, bN, aH, bD, aY, cP, aG, aX, aM, aV, cU, aW, cJ, bS, aD, aA, aK, dP, aO, aP, bC, aQ, cD, aE, bZ, bT, bF, bB, aZ, cX, aI, bJ, aT, aS, aU, aF, dA, cL, bP, aN, cW, bX, bY, cB, bQ, bR, bG, cA, bE, cF, bA, bM, bL, bK, cI]
        rw [hRR]
        exact Hy (m := ⟨l', m.win, m.most, m.out, m.fr, m.sk⟩) hdm (hx.seq (x13.mono fun y _ h => by omega)) o3' hr3 (oo.ext x13 hnO) hp hlo (fun b hb => ⟨(hO b hb).1, (hO b hb).2.1, (hO b hb).2.2.1⟩) q1 (by omega) oh3 o2' (fun b h => by omega) (show m.out.length <= 2000000 by omega) (by omega) h3 (show l'.length <= 1000000 by omega) hsz
      | false =>
        simp (disch := omega) only [dQ, fJ, cQ, stepR_skip, eE, eT, eK, fC, fB, eX, fL, fA, dK, eL, eN, eY, eB, eI, eM, eF, eJ, fD, eZ, eC, dS, eS, eQ, eA, gP, gQ, gT, gU, gV, gR, gW, gS, gO, dH, Result.ok.injEq, Next.value.injEq, true_and, and_true, dZ, dY, eP, eU, eH, fM, LU, dR, dV, dW, dU, dN, dM, dO, dL, dI, cY, if_true, if_false, LQ, LX, LR, LS, LW, LV, LP, LO, cS, cM, cC, bW, cV, dJ, bV, bU, cR, cK, cO, dC, cN, dG, cZ, dT, dE, cH, bH, bO, aR, aC, aJ, dD, aL, cG, dF, dB, bN, aH, bD, aY, cP, aG, aX, aM, aV, cU, aW, cJ, bS, aD, aA, aK, dP, aO, aP, bC, aQ, cD, aE, bZ, bT, bF, bB, aZ, cX, aI, bJ, aT, aS, aU, aF, dA, cL, bP, aN, cW, bX, bY, cB, bQ, bR, bG, cA, bE, cF, bA, bM, bL, bK, cI]
        exact ⟨f, by omega, a, l', hm, x13, hr3, o2', o3, by omega, by omega⟩
     cases hkn : h.known with
     | false =>
       rw [hkn] at d2
       have := go (by rw [hkn]; simp)
       simp (disch := omega) only [dQ, fJ, cQ, stepR_skip, eE, eT, eK, fC, fB, eX, fL, fA, dK, eL, eN, eY, eB, eI, eM, eF, eJ, fD, eZ, eC, dS, eS, eQ, eA, gP, gQ, gT, gU, gV, gR, gW, gS, gO, dH, Result.ok.injEq, Next.value.injEq, true_and, and_true, dZ, dY, eP, eU, eH, fM, LU, dR, dV, dW, dU, dN, dM, dO, dL, dI, cY, if_true, if_false, LQ, LX, LR, LS, LW, LV, LP, LO, cS, cM, cC, bW, cV, dJ, bV, bU, cR, cK, cO, dC, cN, dG, cZ, dT, dE, cH, bH, bO, aR, aC, aJ, dD, aL, cG, dF, dB, bN, aH, bD, aY, cP, aG, aX, aM, aV, cU, aW, cJ, bS, aD, aA, aK, dP, aO, aP, bC, aQ, cD, aE, bZ, bT, bF, bB, aZ, cX, aI, bJ, aT, aS, aU, aF, dA, cL, bP, aN, cW, bX, bY, cB, bQ, bR, bG, cA, bE, cF, bA, bM, bL, bK, cI, n1, d2]
       exact this
     | true =>
       rw [hkn] at d2
       by_cases hlt : h.size < a.length
       .have g1 : decide ((a.length : Int) > (h.size : Int)) = true := decide_eq_true (by omega)
        have g2 : decide ((h.size : Int) < (a.length : Int)) = true := decide_eq_true (by omega)
        simp only [if_pos (⟨hkn, hlt⟩ : h.known = true /\ h.size < a.length)] at hm
        cases hm
        simp (disch := omega) only [dQ, fJ, cQ, stepR_skip, eE, eT, eK, fC, fB, eX, fL, fA, dK, eL, eN, eY, eB, eI, eM, eF, eJ, fD, eZ, eC, dS, eS, eQ, eA, gP, gQ, gT, gU, gV, gR, gW, gS, gO, dH, Result.ok.injEq, Next.value.injEq, true_and, and_true, dZ, dY, eP, eU, eH, fM, LU, dR, dV, dW, dU, dN, dM, dO, dL, dI, cY, if_true, if_false, LQ, LX, LR, LS, LW, LV, LP, LO, cS, cM, cC, bW, cV, dJ, bV, bU, cR, cK, cO, dC, cN, dG, cZ, dT, dE, cH, bH, bO, aR, aC, aJ, dD, aL, cG, dF, dB, bN, aH, bD, aY, cP, aG, aX, aM, aV, cU, aW, cJ, bS, aD, aA, aK, dP, aO, aP, bC, aQ, cD, aE, bZ, bT, bF, bB, aZ, cX, aI, bJ, aT, aS, aU, aF, dA, cL, bP, aN, cW, bX, bY, cB, bQ, bR, bG, cA, bE, cF, bA, bM, bL, bK, cI, n1, d2, d1, wl, g1, g2]
        rw [hRR]
        exact ⟨by decide, rfl, hx.seq (x13.mono fun y _ h => by omega)⟩
       .have g1 : decide ((a.length : Int) > (h.size : Int)) = false := decide_eq_false (by omega)
        have g2 : decide ((h.size : Int) < (a.length : Int)) = false := decide_eq_false (by omega)
        have := go (by simp [hlt])
        simp (disch := omega) only [dQ, fJ, cQ, stepR_skip, eE, eT, eK, fC, fB, eX, fL, fA, dK, eL, eN, eY, eB, eI, eM, eF, eJ, fD, eZ, eC, dS, eS, eQ, eA, gP, gQ, gT, gU, gV, gR, gW, gS, gO, dH, Result.ok.injEq, Next.value.injEq, true_and, and_true, dZ, dY, eP, eU, eH, fM, LU, dR, dV, dW, dU, dN, dM, dO, dL, dI, cY, if_true, if_false, LQ, LX, LR, LS, LW, LV, LP, LO, cS, cM, cC, bW, cV, dJ, bV, bU, cR, cK, cO, dC, cN, dG, cZ, dT, dE, cH, bH, bO, aR, aC, aJ, dD, aL, cG, dF, dB, bN, aH, bD, aY, cP, aG, aX, aM, aV, cU, aW, cJ, bS, aD, aA, aK, dP, aO, aP, bC, aQ, cD, aE, bZ, bT, bF, bB, aZ, cX, aI, bJ, aT, aS, aU, aF, dA, cL, bP, aN, cW, bX, bY, cB, bQ, bR, bG, cA, bE, cF, bA, bM, bL, bK, cI, n1, d2, d1, wl, g1, g2]
        exact this
def F1 (l : List UInt8) (win room : Nat) : Option (Except Int (List UInt8 × List UInt8)) :=
 match AJ l with
 | .error e => some (.error e)
 | .ok (h, n) => if win < h.window ∨ (h.known = true /\ room < h.size) then some (.error 12) else match zM h room (l.length + 1) (l.drop n) [] with | none => none | some mm => some (Gg h mm)
theorem I6 {L dict : Nat} {s : List UInt8 × Int} {h : FH} {e : Int} (hh : DQ L s dict h = .error e) : e ≠ 0 := by
 unfold DQ at hh
 split at hh
 .cases hh; assumption
 .split at hh
  .cases hh; decide
  .cases hh
theorem HJ {l : List UInt8} {e : Int} (h : AJ l = .error e) : e ≠ 0 := by
 unfold AJ at h
 split at h
 .cases h; assumption
 .split at h
  .cases h; decide
  .exact I6 h
theorem Ki (s : List UInt8 × Int) (n : Nat) (hn : n <= 8) : Es s n < 2 ^ 64 := by
 unfold Es
 split
 .have := D2 s n
  have h2 : 256 ^ n <= 256 ^ 8 := MC (by omega) hn
  have h3 : (256 : Nat) ^ 8 = 2 ^ 64 := by decide
  omega
 .decide
theorem J6 (s : List UInt8 × Int) (d : Nat) (hd : d < 256) : Jh d (Es s (Cn d)) < 2 ^ 64 := by
 have h4 : d / 64 = 0 ∨ d / 64 = 1 ∨ d / 64 = 2 ∨ d / 64 = 3 := by omega
 have h8 : Cn d <= 8 := by
  unfold Cn
  rcases h4 with h | h | h | h <;> rw [h] <;> simp
  split <;> omega
 have := Ki s (Cn d) h8
 unfold Jh
 split
 .rename_i h2
  rw [h2] at this ⊢
  have h5 : Es s 2 < 65536 := by
   unfold Es
   rw [if_pos (by omega)]
   exact D2 s 2
  omega
 .exact this
theorem Ij {l : List UInt8} {h : FH} {n : Nat} (hh : AJ l = .ok (h, n)) : h.size < 2 ^ 64 /\ n <= l.length := by
 unfold AJ at hh
 split at hh
 .cases hh
 .split at hh
  .cases hh
  .unfold Eb DQ at hh
   split at hh
   .cases hh
   .split at hh
    .cases hh
    .cases hh
     have hd : Fl (l, 0) 1 < 256 := D2 (l, 0) 1
     exact ⟨J6 _ _ hd, by omega⟩
theorem Jj {w : Na} : fO pg mT #[] w (fun r w' => r = .agg #[.int .u32 1, .int .u32 4, .int .u32 8] /\ gB w w' mZ) := by
 refine Cj ?_
 unfold BN sY
 refine DP fun w1 o1 x1 s1 => ?_
 try simp (disch := omega) only [dQ, fJ, cQ, stepR_skip, eE, eT, eK, fC, fB, eX, fL, fA, dK, eL, eN, eY, eB, eI, eM, eF, eJ, fD, eZ, eC, dS, eS, eQ, eA, gP, gQ, gT, gU, gV, gR, gW, gS, gO, dH, Result.ok.injEq, Next.value.injEq, true_and, and_true, dZ, dY, eP, eU, eH, fM, LU, dR, dV, dW, dU, dN, dM, dO, dL, dI, cY, if_true, if_false, LQ, LX, LR, LS, LW, LV, LP, LO, cS, cM, cC, bW, cV, dJ, bV, bU, cR, cK, cO, dC, cN, dG, cZ, dT, dE, cH, bH, bO, aR, aC, aJ, dD, aL, cG, dF, dB, bN, aH, bD, aY, cP, aG, aX, aM, aV, cU, aW, cJ, bS, aD, aA, aK, dP, aO, aP, bC, aQ, cD, aE, bZ, bT, bF, bB, aZ, cX, aI, bJ, aT, aS, aU, aF, dA, cL, bP, aN, cW, bX, bY, cB, bQ, bR, bG, cA, bE, cF, bA, bM, bL, bK, cI]
 refine CY o1 rfl (by simp [one]) (by simp) fun w2 o2 x2 s2 => ?_
 refine C7 o2 (by simp [gE]) ?_
 exact ⟨rfl, x1.new x2 (by omega)⟩
theorem Io {base p : Nat} {dm : DM} {w : Na} {mm : Except Int (List UInt8 × List UInt8)} (hd : Jm w base p dm) (h1 : dm.out.length <= dm.most) (h3 : dm.fr <= 2000000) (hmost : dm.most <= 2000000) (hl : dm.l.length <= 1000000)
 (hm : F1 dm.l dm.win (dm.most - dm.out.length) = some mm) :
 fO pg kY #[.pointer (some ⟨p, 0, none⟩)] w (fun r w' => HL base p w dm r w' mm) := by
 refine zK ?_
 unfold vQ mO mR mH sF nC
 obtain ⟨RR, hRR⟩ : ∃ RR : Nb -> Na -> Prop, RR = fun r w' => HL base p w dm r w' mm := ⟨_, rfl⟩
 rw [<- hRR]
 obtain ⟨pr, vo, lo, hi, O, o, hr, oo, hp, hlo, hO, q1, hhi⟩ := hd
 have hpr : lo <= pr /\ pr < hi := ⟨hr.1, hr.2.1⟩
 have hzp := o.lt
 have hO1 : yG w (fun b => O b /\ b < w.heap.size) 1 vo dm.out.length (dm.out.map pU) := zN oo fun b h h2 => ⟨h, h2⟩
 have xd := gB.dr w mZ
 have zd := xd.size
 have c0 := (iQ o).cell (off := 0)
 simp only [lW, LO] at c0
 simp (disch := omega) only [dQ, fJ, cQ, stepR_skip, eE, eT, eK, fC, fB, eX, fL, fA, dK, eL, eN, eY, eB, eI, eM, eF, eJ, fD, eZ, eC, dS, eS, eQ, eA, gP, gQ, gT, gU, gV, gR, gW, gS, gO, dH, Result.ok.injEq, Next.value.injEq, true_and, and_true, dZ, dY, eP, eU, eH, fM, LU, dR, dV, dW, dU, dN, dM, dO, dL, dI, cY, if_true, if_false, LQ, LX, LR, LS, LW, LV, LP, LO, cS, cM, cC, bW, cV, dJ, bV, bU, cR, cK, cO, dC, cN, dG, cZ, dT, dE, cH, bH, bO, aR, aC, aJ, dD, aL, cG, dF, dB, bN, aH, bD, aY, cP, aG, aX, aM, aV, cU, aW, cJ, bS, aD, aA, aK, dP, aO, aP, bC, aQ, cD, aE, bZ, bT, bF, bB, aZ, cX, aI, bJ, aT, aS, aU, aF, dA, cL, bP, aN, cW, bX, bY, cB, bQ, bR, bG, cA, bE, cF, bA, bM, bL, bK, cI, c0]
 refine (Bh (hr.ext xd (fun _ _ _ h => h))).mono ?_
 rintro r w1 ⟨rfl, hw1⟩
 rw [hw1]; clear hw1 w1
 have o := iQ o
 have hr := hr.ext xd (fun _ _ _ h => h)
 have hO1 := hO1.ext xd (fun _ _ h => h)
 obtain ⟨wd, hwd⟩ : ∃ x, x = dr w := ⟨_, rfl⟩
 rw [<- hwd] at o hr hO1 xd zd c0 ⊢
 simp (disch := omega) only [dQ, fJ, cQ, stepR_skip, eE, eT, eK, fC, fB, eX, fL, fA, dK, eL, eN, eY, eB, eI, eM, eF, eJ, fD, eZ, eC, dS, eS, eQ, eA, gP, gQ, gT, gU, gV, gR, gW, gS, gO, dH, Result.ok.injEq, Next.value.injEq, true_and, and_true, dZ, dY, eP, eU, eH, fM, LU, dR, dV, dW, dU, dN, dM, dO, dL, dI, cY, if_true, if_false, LQ, LX, LR, LS, LW, LV, LP, LO, cS, cM, cC, bW, cV, dJ, bV, bU, cR, cK, cO, dC, cN, dG, cZ, dT, dE, cH, bH, bO, aR, aC, aJ, dD, aL, cG, dF, dB, bN, aH, bD, aY, cP, aG, aX, aM, aV, cU, aW, cJ, bS, aD, aA, aK, dP, aO, aP, bC, aQ, cD, aE, bZ, bT, bF, bB, aZ, cX, aI, bJ, aT, aS, aU, aF, dA, cL, bP, aN, cW, bX, bY, cB, bQ, bR, bG, cA, bE, cF, bA, bM, bL, bK, cI, c0]
 refine (Di hr (by omega) (by omega)).mono ?_
 rintro rest w1 ⟨hb1, hat, hr1, x1⟩
 have ht : sE dm.l 0 dm.l.length = (dm.l, [], 0) := by
  unfold sE
  rw [if_neg (by decide), if_neg (by omega), Mf (by omega), M0 (by omega)]
 rw [ht] at hb1 hr1
 have hb1 : Bs w1 rest dm.l := hb1
 clear hr1
 have o1 := o.ext x1 (fun e => q1 (e ▸ hpr))
 have oo1 : yG w1 (fun b => O b /\ b < w.heap.size) 1 vo dm.out.length (dm.out.map pU) := hO1.ext x1 fun b h e => (hO b h.1).2.2 (e ▸ hpr)
 have z1 := x1.size
 refine (Gh hb1 hl).mono ?_
 rintro r w2 ⟨rfl, x2⟩
 unfold F1 at hm
 have z2 := x2.size
 cases hf : AJ dm.l with
 | error e =>
   have he := HJ hf
   rw [hf] at hm
   cases hm
   have n1 : (e != 0) = true := by simp [he]
   unfold Je Lo
   simp (disch := omega) only [dQ, fJ, cQ, stepR_skip, eE, eT, eK, fC, fB, eX, fL, fA, dK, eL, eN, eY, eB, eI, eM, eF, eJ, fD, eZ, eC, dS, eS, eQ, eA, gP, gQ, gT, gU, gV, gR, gW, gS, gO, dH, Result.ok.injEq, Next.value.injEq, true_and, and_true, dZ, dY, eP, eU, eH, fM, LU, dR, dV, dW, dU, dN, dM, dO, dL, dI, cY, if_true, if_false, LQ, LX, LR, LS, LW, LV, LP, LO, cS, cM, cC, bW, cV, dJ, bV, bU, cR, cK, cO, dC, cN, dG, cZ, dT, dE, cH, bH, bO, aR, aC, aJ, dD, aL, cG, dF, dB, bN, aH, bD, aY, cP, aG, aX, aM, aV, cU, aW, cJ, bS, aD, aA, aK, dP, aO, aP, bC, aQ, cD, aE, bZ, bT, bF, bB, aZ, cX, aI, bJ, aT, aS, aU, aF, dA, cL, bP, aN, cW, bX, bY, cB, bQ, bR, bG, cA, bE, cF, bA, bM, bL, bK, cI]
   refine qD fun w3 o3 x3 s3 => ?_
   refine iS o3 rfl (by simp [one]) (by simp) fun w4 o4 x4 s4 => ?_
   simp (disch := omega) only [dQ, fJ, cQ, stepR_skip, eE, eT, eK, fC, fB, eX, fL, fA, dK, eL, eN, eY, eB, eI, eM, eF, eJ, fD, eZ, eC, dS, eS, eQ, eA, gP, gQ, gT, gU, gV, gR, gW, gS, gO, dH, Result.ok.injEq, Next.value.injEq, true_and, and_true, dZ, dY, eP, eU, eH, fM, LU, dR, dV, dW, dU, dN, dM, dO, dL, dI, cY, if_true, if_false, LQ, LX, LR, LS, LW, LV, LP, LO, cS, cM, cC, bW, cV, dJ, bV, bU, cR, cK, cO, dC, cN, dG, cZ, dT, dE, cH, bH, bO, aR, aC, aJ, dD, aL, cG, dF, dB, bN, aH, bD, aY, cP, aG, aX, aM, aV, cU, aW, cJ, bS, aD, aA, aK, dP, aO, aP, bC, aQ, cD, aE, bZ, bT, bF, bB, aZ, cX, aI, bJ, aT, aS, aU, aF, dA, cL, bP, aN, cW, bX, bY, cB, bQ, bR, bG, cA, bE, cF, bA, bM, bL, bK, cI, n1]
   rw [hRR]
   have x24 : gB w2 w4 mZ := x3.new x4 (by omega)
   exact ⟨he, rfl, (((xd.mono fun _ _ h => h.elim).seq (x1.mono fun y _ h => by omega)).seq ((x2.seq x24).mono fun _ _ h => h.elim))⟩
 | ok t =>
   obtain ⟨h, n⟩ := t
   have hok := Ij hf
   rw [hf] at hm
   have n1 : ((0 : Int) != 0) = false := rfl
   unfold Je Lo
   simp (disch := omega) only [dQ, fJ, cQ, stepR_skip, eE, eT, eK, fC, fB, eX, fL, fA, dK, eL, eN, eY, eB, eI, eM, eF, eJ, fD, eZ, eC, dS, eS, eQ, eA, gP, gQ, gT, gU, gV, gR, gW, gS, gO, dH, Result.ok.injEq, Next.value.injEq, true_and, and_true, dZ, dY, eP, eU, eH, fM, LU, dR, dV, dW, dU, dN, dM, dO, dL, dI, cY, if_true, if_false, LQ, LX, LR, LS, LW, LV, LP, LO, cS, cM, cC, bW, cV, dJ, bV, bU, cR, cK, cO, dC, cN, dG, cZ, dT, dE, cH, bH, bO, aR, aC, aJ, dD, aL, cG, dF, dB, bN, aH, bD, aY, cP, aG, aX, aM, aV, cU, aW, cJ, bS, aD, aA, aK, dP, aO, aP, bC, aQ, cD, aE, bZ, bT, bF, bB, aZ, cX, aI, bJ, aT, aS, aU, aF, dA, cL, bP, aN, cW, bX, bY, cB, bQ, bR, bG, cA, bE, cF, bA, bM, bL, bK, cI]
   refine qD fun w3 o3 x3 s3 => ?_
   obtain ⟨ph, hph⟩ : ∃ p, p = w2.heap.size := ⟨_, rfl⟩
   rw [<- hph] at o3 ⊢
   refine iS o3 rfl (by simp [one]) (by simp) fun w4 o4 x4 s4 => ?_
   simp only [gE, L2, L5] at o4
   have oh4 : iA w4 ph (yU h) := o4
   have x24 : gB w2 w4 mZ := x3.new x4 (by omega)
   have x14 : gB w1 w4 mZ := x2.seq x24
   have hz3 := o4.lt
   obtain ⟨va, vc, hrest, hvc⟩ := hb1.len
   rw [LZ] at hrest hvc
   subst hrest
   have hb4 := hb1.ext x14 (jV _)
   have t0 : (n : Int).toNat = n := LU _
   have hbd : Bs w4 (.slice (iE va vc n 1) (dm.l.length - n) (vc - n)) (dm.l.drop n) := by
    have := hb4.drop' (k := n) (by omega)
    rwa [<- M1] at this
   simp (disch := omega) only [dQ, fJ, cQ, stepR_skip, eE, eT, eK, fC, fB, eX, fL, fA, dK, eL, eN, eY, eB, eI, eM, eF, eJ, fD, eZ, eC, dS, eS, eQ, eA, gP, gQ, gT, gU, gV, gR, gW, gS, gO, dH, Result.ok.injEq, Next.value.injEq, true_and, and_true, dZ, dY, eP, eU, eH, fM, LU, dR, dV, dW, dU, dN, dM, dO, dL, dI, cY, if_true, if_false, LQ, LX, LR, LS, LW, LV, LP, LO, cS, cM, cC, bW, cV, dJ, bV, bU, cR, cK, cO, dC, cN, dG, cZ, dT, dE, cH, bH, bO, aR, aC, aJ, dD, aL, cG, dF, dB, bN, aH, bD, aY, cP, aG, aX, aM, aV, cU, aW, cJ, bS, aD, aA, aK, dP, aO, aP, bC, aQ, cD, aE, bZ, bT, bF, bB, aZ, cX, aI, bJ, aT, aS, aU, aF, dA, cL, bP, aN, cW, bX, bY, cB, bQ, bR, bG, cA, bE, cF, bA, bM, bL, bK, cI, n1, t0]
   refine (tV hbd (by rw [L7]; omega)).mono ?_
   rintro r w5 ⟨p5, rfl, hr5, x5⟩
   have z4 := x14.size
   have z5 := x5.size
   have o5 := (o1.ext x14 (fun h => h)).ext x5 (fun h => h)
   refine Cd (off := 0) o5 rfl (by simp [lW]) fun w6 o6 x6 s6 => ?_
   simp only [lW, L2] at o6
   have x46 : gB w4 w6 (fun y => y = p) := (x5.mono fun _ _ h => h.elim).seq x6
   have x06 : gB w w6 (fun y => base <= y) := ((((xd.mono fun _ _ h => h.elim).seq (x1.mono fun y _ h => by omega)).seq (x14.mono fun _ _ h => h.elim)).seq (x46.mono fun y _ h => by omega))
   have hphp : ph ≠ p := by omega
   have oh6 := oh4.ext x46 hphp
   have oo6 := (oo1.ext x14 fun _ _ h => h).ext x46 fun b h e => (hO b h.1).2.1 e
   have h5lo : w4.heap.size <= p5 /\ p5 < w5.heap.size := ⟨hr5.1, hr5.2.1⟩
   have hr6 := hr5.ext x6 (fun b h1 h2 h => by omega)
   have ch0 := oh6.cell (off := 0)
   have ch1 := oh6.cell (off := 1)
   have ch2 := oh6.cell (off := 2)
   have eh0 := (iQ oh6).cell (off := 0)
   have eh1 := (iQ oh6).cell (off := 1)
   have eh2 := (iQ oh6).cell (off := 2)
   simp only [yU, LO, LP] at ch0 ch1 ch2 eh0 eh1 eh2
   have co1 := o6.cell (off := 1)
   have co2 := o6.cell (off := 2)
   have co3 := o6.cell (off := 3)
   have eo1 := (iQ o6).cell (off := 1)
   have eo2 := (iQ o6).cell (off := 2)
   have eo3 := (iQ o6).cell (off := 3)
   simp only [LO, LP] at co1 co2 co3 eo1 eo2 eo3
   obtain ⟨av, cv, hvo⟩ := oo6.len
   subst hvo
   have e9 : (dm.most : Int) - (dm.out.length : Int) = ((dm.most - dm.out.length : Nat) : Int) := by omega
   have w9 : IntKind.u64.wrap ((dm.most - dm.out.length : Nat) : Int) = ((dm.most - dm.out.length : Nat) : Int) := dY (by omega) (by omega)
   by_cases hbig : dm.win < h.window ∨ (h.known = true /\ dm.most - dm.out.length < h.size)
   .simp only [if_pos hbig] at hm
    cases hm
    have fin : RR (.int .i64 12) (dr w6) := by rw [hRR]; exact ⟨by decide, rfl, x06.seq (gB.dr w6 _)⟩
    by_cases hw : dm.win < h.window
    .have d1 : decide ((h.window : Int) > (dm.win : Int)) = true := decide_eq_true (by omega)
     have d2 : decide ((dm.win : Int) < (h.window : Int)) = true := decide_eq_true (by omega)
     have iu : lS undef true = false := rfl
     simp (disch := omega) only [dQ, fJ, cQ, stepR_skip, eE, eT, eK, fC, fB, eX, fL, fA, dK, eL, eN, eY, eB, eI, eM, eF, eJ, fD, eZ, eC, dS, eS, eQ, eA, gP, gQ, gT, gU, gV, gR, gW, gS, gO, dH, Result.ok.injEq, Next.value.injEq, true_and, and_true, dZ, dY, eP, eU, eH, fM, LU, dR, dV, dW, dU, dN, dM, dO, dL, dI, cY, if_true, if_false, LQ, LX, LR, LS, LW, LV, LP, LO, cS, cM, cC, bW, cV, dJ, bV, bU, cR, cK, cO, dC, cN, dG, cZ, dT, dE, cH, bH, bO, aR, aC, aJ, dD, aL, cG, dF, dB, bN, aH, bD, aY, cP, aG, aX, aM, aV, cU, aW, cJ, bS, aD, aA, aK, dP, aO, aP, bC, aQ, cD, aE, bZ, bT, bF, bB, aZ, cX, aI, bJ, aT, aS, aU, aF, dA, cL, bP, aN, cW, bX, bY, cB, bQ, bR, bG, cA, bE, cF, bA, bM, bL, bK, cI, ch0, ch1, ch2, eh0, eh1, eh2, co1, co2, co3, eo1, eo2, eo3, d1, d2, iu]
     exact fin
    .have hks := hbig.resolve_left hw
     have d1 : decide ((h.window : Int) > (dm.win : Int)) = false := decide_eq_false (by omega)
     have d2 : decide ((dm.win : Int) < (h.window : Int)) = false := decide_eq_false (by omega)
     have d3 : decide ((h.size : Int) > ((dm.most - dm.out.length : Nat) : Int)) = true := decide_eq_true (by omega)
     have d4 : decide (((dm.most - dm.out.length : Nat) : Int) < (h.size : Int)) = true := decide_eq_true (by omega)
     rw [hks.1] at ch2 eh2
     simp (disch := omega) only [dQ, fJ, cQ, stepR_skip, eE, eT, eK, fC, fB, eX, fL, fA, dK, eL, eN, eY, eB, eI, eM, eF, eJ, fD, eZ, eC, dS, eS, eQ, eA, gP, gQ, gT, gU, gV, gR, gW, gS, gO, dH, Result.ok.injEq, Next.value.injEq, true_and, and_true, dZ, dY, eP, eU, eH, fM, LU, dR, dV, dW, dU, dN, dM, dO, dL, dI, cY, if_true, if_false, LQ, LX, LR, LS, LW, LV, LP, LO, cS, cM, cC, bW, cV, dJ, bV, bU, cR, cK, cO, dC, cN, dG, cZ, dT, dE, cH, bH, bO, aR, aC, aJ, dD, aL, cG, dF, dB, bN, aH, bD, aY, cP, aG, aX, aM, aV, cU, aW, cJ, bS, aD, aA, aK, dP, aO, aP, bC, aQ, cD, aE, bZ, bT, bF, bB, aZ, cX, aI, bJ, aT, aS, aU, aF, dA, cL, bP, aN, cW, bX, bY, cB, bQ, bR, bG, cA, bE, cF, bA, bM, bL, bK, cI, ch0, ch1, ch2, eh0, eh1, eh2, co1, co2, co3, eo1, eo2, eo3, d1, d2, d3, d4, e9, w9]
     exact fin
   .simp only [if_neg hbig] at hm
    have hw : ¬ dm.win < h.window := fun h => hbig (.inl h)
    have d1 : decide ((h.window : Int) > (dm.win : Int)) = false := decide_eq_false (by omega)
    have d2 : decide ((dm.win : Int) < (h.window : Int)) = false := decide_eq_false (by omega)
    obtain ⟨mb, hmb⟩ : ∃ mb, zM h (dm.most - dm.out.length) (dm.l.length + 1) (dm.l.drop n) [] = some mb := by
     cases hd : zM h (dm.most - dm.out.length) (dm.l.length + 1) (dm.l.drop n) [] with
     | none => rw [hd] at hm; cases hm
     | some mb => exact ⟨mb, rfl⟩
    rw [hmb] at hm
    cases hm
    obtain ⟨K, hK⟩ : ∃ K : Na -> Prop, K = fun w => fO pg mT #[] w fun t64 w => dQ pg (hX 80 [(2, t64)]) w fun t65 w => dQ pg (pN 80) w fun Fm w => dQ pg (fX 80 Fm t65) w fun _u w => jI RR (.pointer (some ⟨p, 0, none⟩)) (.pointer (some ⟨ph, 0, none⟩)) Fm tZ w := ⟨_, rfl⟩
    have main : K (dr w6) := by
     rw [hK]
     refine Jj.mono ?_
     rintro r w7 ⟨rfl, x7⟩
     simp (disch := omega) only [dQ, fJ, cQ, stepR_skip, eE, eT, eK, fC, fB, eX, fL, fA, dK, eL, eN, eY, eB, eI, eM, eF, eJ, fD, eZ, eC, dS, eS, eQ, eA, gP, gQ, gT, gU, gV, gR, gW, gS, gO, dH, Result.ok.injEq, Next.value.injEq, true_and, and_true, dZ, dY, eP, eU, eH, fM, LU, dR, dV, dW, dU, dN, dM, dO, dL, dI, cY, if_true, if_false, LQ, LX, LR, LS, LW, LV, LP, LO, cS, cM, cC, bW, cV, dJ, bV, bU, cR, cK, cO, dC, cN, dG, cZ, dT, dE, cH, bH, bO, aR, aC, aJ, dD, aL, cG, dF, dB, bN, aH, bD, aY, cP, aG, aX, aM, aV, cU, aW, cJ, bS, aD, aA, aK, dP, aO, aP, bC, aQ, cD, aE, bZ, bT, bF, bB, aZ, cX, aI, bJ, aT, aS, aU, aF, dA, cL, bP, aN, cW, bX, bY, cB, bQ, bR, bG, cA, bE, cF, bA, bM, bL, bK, cI]
     refine AB fun w8 o8 x8 s8 => ?_
     obtain ⟨pq, hpq⟩ : ∃ q, q = w7.heap.size := ⟨_, rfl⟩
     rw [<- hpq] at o8 ⊢
     refine iH o8 rfl (by simp [one]) (by simp) fun w9 o9 x9 s9 => ?_
     simp only [gE, L2, L5] at o9
     have x69 : gB w6 w9 mZ := (((gB.dr w6 mZ).seq x7).seq x8).trans x9 fun y hy h => by
      have := (gB.dr w6 mZ).size
      have := x7.size
      omega
     have zz : w6.heap.size <= w7.heap.size := by
      have := (gB.dr w6 mZ).size
      have := x7.size
      omega
     have z6 := x6.size
     rw [hRR]
     have hz8 := o8.lt
     refine Hz (aB := w9.heap.size) (m := ⟨dm.l.drop n, dm.win, dm.most, dm.out, dm.fr, dm.sk⟩) ⟨rfl, rfl, rfl, rfl, rfl⟩ (x06.seq (x69.mono fun _ _ h => h.elim)) (o6.ext x69 (fun h => h)) (hr6.ext x69 fun _ _ _ h => h) (oo6.ext x69 fun _ _ h => h) hp (by omega) (fun b hb => ⟨(hO b hb.1).1, (hO b hb.1).2.1, by omega, by omega⟩) ⟨by omega, by omega, by omega, fun h => by omega⟩ (by omega) (by omega) (by omega) (by omega) (oh6.ext x69 (fun h => h)) o9 ?_ h1 (by simp) h3 hmost (by show (dm.l.drop n).length <= _; rw [L7]; omega) hok.1 hmb
     exact ⟨rfl, .inl ⟨rfl, rfl⟩⟩
    rw [hK] at main
    unfold tZ at main
    cases hkn : h.known with
    | false =>
      rw [hkn] at ch2 eh2
      simp (disch := omega) only [dQ, fJ, cQ, stepR_skip, eE, eT, eK, fC, fB, eX, fL, fA, dK, eL, eN, eY, eB, eI, eM, eF, eJ, fD, eZ, eC, dS, eS, eQ, eA, gP, gQ, gT, gU, gV, gR, gW, gS, gO, dH, Result.ok.injEq, Next.value.injEq, true_and, and_true, dZ, dY, eP, eU, eH, fM, LU, dR, dV, dW, dU, dN, dM, dO, dL, dI, cY, if_true, if_false, LQ, LX, LR, LS, LW, LV, LP, LO, cS, cM, cC, bW, cV, dJ, bV, bU, cR, cK, cO, dC, cN, dG, cZ, dT, dE, cH, bH, bO, aR, aC, aJ, dD, aL, cG, dF, dB, bN, aH, bD, aY, cP, aG, aX, aM, aV, cU, aW, cJ, bS, aD, aA, aK, dP, aO, aP, bC, aQ, cD, aE, bZ, bT, bF, bB, aZ, cX, aI, bJ, aT, aS, aU, aF, dA, cL, bP, aN, cW, bX, bY, cB, bQ, bR, bG, cA, bE, cF, bA, bM, bL, bK, cI, ch0, ch1, ch2, eh0, eh1, eh2, co1, co2, co3, eo1, eo2, eo3, d1, d2]
      exact main
    | true =>
      rw [hkn] at ch2 eh2
      have hns : ¬ dm.most - dm.out.length < h.size := fun h' => hbig (.inr ⟨hkn, h'⟩)
      have d3 : decide ((h.size : Int) > ((dm.most - dm.out.length : Nat) : Int)) = false := decide_eq_false (by omega)
      have d4 : decide (((dm.most - dm.out.length : Nat) : Int) < (h.size : Int)) = false := decide_eq_false (by omega)
      simp (disch := omega) only [dQ, fJ, cQ, stepR_skip, eE, eT, eK, fC, fB, eX, fL, fA, dK, eL, eN, eY, eB, eI, eM, eF, eJ, fD, eZ, eC, dS, eS, eQ, eA, gP, gQ, gT, gU, gV, gR, gW, gS, gO, dH, Result.ok.injEq, Next.value.injEq, true_and, and_true, dZ, dY, eP, eU, eH, fM, LU, dR, dV, dW, dU, dN, dM, dO, dL, dI, cY, if_true, if_false, LQ, LX, LR, LS, LW, LV, LP, LO, cS, cM, cC, bW, cV, dJ, bV, bU, cR, cK, cO, dC, cN, dG, cZ, dT, dE, cH, bH, bO, aR, aC, aJ, dD, aL, cG, dF, dB, bN, aH, bD, aY, cP, aG, aX, aM, aV, cU, aW, cJ, bS, aD, aA, aK, dP, aO, aP, bC, aQ, cD, aE, bZ, bT, bF, bB, aZ, cX, aI, bJ, aT, aS, aU, aF, dA, cL, bP, aN, cW, bX, bY, cB, bQ, bR, bG, cA, bE, cF, bA, bM, bL, bK, cI, ch0, ch1, ch2, eh0, eh1, eh2, co1, co2, co3, eo1, eo2, eo3, d1, d2, d3, d4, e9, w9]
      exact main
def HG (l : List UInt8) : Except Int (List UInt8) := if l.length < 4 then .error 10 else if l.length - 4 < lK (l.take 4) then .error 10 else .ok (l.drop (4 + lK (l.take 4)))
def KO (base p : Nat) (w : Na) (dm : DM) (r : Nb) (w' : Na) : Except Int (List UInt8) -> Prop
 | .error e => e ≠ 0 /\ r = .int .i64 e /\ gB w w' (fun y => base <= y)
 | .ok l => r = .int .i64 0 /\ Jm w' base p ⟨l, dm.win, dm.most, dm.out, dm.fr, dm.sk + 1⟩ /\ gB w w' (fun y => base <= y)
theorem Jt {base p : Nat} {dm : DM} {w : Na} (hd : Jm w base p dm) (h3 : dm.sk <= 2000000) (hl : dm.l.length <= 1000000) :
 fO pg lR #[.pointer (some ⟨p, 0, none⟩)] w (fun r w' => KO base p w dm r w' (HG dm.l)) := by
 refine Ad ?_
 unfold wJ oZ
 obtain ⟨pr, vo, lo, hi, O, o, hr, oo, hp, hlo, hO, q1, hhi⟩ := hd
 have hpr : lo <= pr /\ pr < hi := ⟨hr.1, hr.2.1⟩
 have c0 := o.cell (off := 0)
 simp only [lW, LO] at c0
 simp (disch := omega) only [dQ, fJ, cQ, stepR_skip, eE, eT, eK, fC, fB, eX, fL, fA, dK, eL, eN, eY, eB, eI, eM, eF, eJ, fD, eZ, eC, dS, eS, eQ, eA, gP, gQ, gT, gU, gV, gR, gW, gS, gO, dH, Result.ok.injEq, Next.value.injEq, true_and, and_true, dZ, dY, eP, eU, eH, fM, LU, dR, dV, dW, dU, dN, dM, dO, dL, dI, cY, if_true, if_false, LQ, LX, LR, LS, LW, LV, LP, LO, cS, cM, cC, bW, cV, dJ, bV, bU, cR, cK, cO, dC, cN, dG, cZ, dT, dE, cH, bH, bO, aR, aC, aJ, dD, aL, cG, dF, dB, bN, aH, bD, aY, cP, aG, aX, aM, aV, cU, aW, cJ, bS, aD, aA, aK, dP, aO, aP, bC, aQ, cD, aE, bZ, bT, bF, bB, aZ, cX, aI, bJ, aT, aS, aU, aF, dA, cL, bP, aN, cW, bX, bY, cB, bQ, bR, bG, cA, bE, cF, bA, bM, bL, bK, cI, c0]
 refine (oL (n := 4) hr (by omega) ⟨by omega, by omega⟩).mono ?_
 rintro r w1 ⟨rfl, hr1, x1⟩
 have o1 := o.ext x1 (fun e => q1 (e ▸ hpr))
 have oo1 := oo.ext x1 fun b h e => (hO b h).2.2 (e ▸ hpr)
 have c1 := o1.cell (off := 0)
 simp only [lW, LO] at c1
 simp (disch := omega) only [dQ, fJ, cQ, stepR_skip, eE, eT, eK, fC, fB, eX, fL, fA, dK, eL, eN, eY, eB, eI, eM, eF, eJ, fD, eZ, eC, dS, eS, eQ, eA, gP, gQ, gT, gU, gV, gR, gW, gS, gO, dH, Result.ok.injEq, Next.value.injEq, true_and, and_true, dZ, dY, eP, eU, eH, fM, LU, dR, dV, dW, dU, dN, dM, dO, dL, dI, cY, if_true, if_false, LQ, LX, LR, LS, LW, LV, LP, LO, cS, cM, cC, bW, cV, dJ, bV, bU, cR, cK, cO, dC, cN, dG, cZ, dT, dE, cH, bH, bO, aR, aC, aJ, dD, aL, cG, dF, dB, bN, aH, bD, aY, cP, aG, aX, aM, aV, cU, aW, cJ, bS, aD, aA, aK, dP, aO, aP, bC, aQ, cD, aE, bZ, bT, bF, bB, aZ, cX, aI, bJ, aT, aS, aU, aF, dA, cL, bP, aN, cW, bX, bY, cB, bQ, bR, bG, cA, bE, cF, bA, bM, bL, bK, cI, c1]
 refine (wK hr1).mono ?_
 rintro r w2 ⟨rfl, h2⟩
 rw [h2]; clear h2 w2
 unfold HG
 by_cases h4 : dm.l.length < 4
 .have ht : sE dm.l 0 4 = ([], dm.l, 10) := by unfold sE; rw [if_neg (by decide), if_pos h4]
  rw [ht, if_pos h4]
  have n1 : ((10 : Int) != 0) = true := rfl
  simp (disch := omega) only [dQ, fJ, cQ, stepR_skip, eE, eT, eK, fC, fB, eX, fL, fA, dK, eL, eN, eY, eB, eI, eM, eF, eJ, fD, eZ, eC, dS, eS, eQ, eA, gP, gQ, gT, gU, gV, gR, gW, gS, gO, dH, Result.ok.injEq, Next.value.injEq, true_and, and_true, dZ, dY, eP, eU, eH, fM, LU, dR, dV, dW, dU, dN, dM, dO, dL, dI, cY, if_true, if_false, LQ, LX, LR, LS, LW, LV, LP, LO, cS, cM, cC, bW, cV, dJ, bV, bU, cR, cK, cO, dC, cN, dG, cZ, dT, dE, cH, bH, bO, aR, aC, aJ, dD, aL, cG, dF, dB, bN, aH, bD, aY, cP, aG, aX, aM, aV, cU, aW, cJ, bS, aD, aA, aK, dP, aO, aP, bC, aQ, cD, aE, bZ, bT, bF, bB, aZ, cX, aI, bJ, aT, aS, aU, aF, dA, cL, bP, aN, cW, bX, bY, cB, bQ, bR, bG, cA, bE, cF, bA, bM, bL, bK, cI, n1]
  exact ⟨by decide, rfl, x1.mono fun y _ h => by omega⟩
 have ht : sE dm.l 0 4 = (dm.l.take 4, dm.l.drop 4, 0) := by unfold sE; rw [if_neg (by decide), if_neg h4]
 rw [ht] at hr1 ⊢
 rw [if_neg h4]
 have hlt : lK (dm.l.take 4) < 2 ^ 32 := by
  have := wE (dm.l.take 4)
  rw [L6, MI (by omega)] at this
  exact this
 obtain ⟨n, hn⟩ : ∃ n, n = lK (dm.l.take 4) := ⟨_, rfl⟩
 have en : lK (dm.l.take 4, dm.l.drop 4, (0 : Int)).1 = n := hn.symm
 rw [<- hn] at hlt ⊢
 have hr1 : As w1 lo hi pr (dm.l.drop 4) 0 := hr1
 have hl4 : (dm.l.drop 4).length = dm.l.length - 4 := L7
 have n1 : ((0 : Int) != 0) = false := rfl
 have wl : IntKind.u64.wrap ((dm.l.drop 4).length : Int) = ((dm.l.drop 4).length : Int) := dY (by omega) (by omega)
 have wn : IntKind.i64.wrap (n : Int) = n := dZ (by omega) (by omega)
 simp (disch := omega) only [dQ, fJ, cQ, stepR_skip, eE, eT, eK, fC, fB, eX, fL, fA, dK, eL, eN, eY, eB, eI, eM, eF, eJ, fD, eZ, eC, dS, eS, eQ, eA, gP, gQ, gT, gU, gV, gR, gW, gS, gO, dH, Result.ok.injEq, Next.value.injEq, true_and, and_true, dZ, dY, eP, eU, eH, fM, LU, dR, dV, dW, dU, dN, dM, dO, dL, dI, cY, if_true, if_false, LQ, LX, LR, LS, LW, LV, LP, LO, cS, cM, cC, bW, cV, dJ, bV, bU, cR, cK, cO, dC, cN, dG, cZ, dT, dE, cH, bH, bO, aR, aC, aJ, dD, aL, cG, dF, dB, bN, aH, bD, aY, cP, aG, aX, aM, aV, cU, aW, cJ, bS, aD, aA, aK, dP, aO, aP, bC, aQ, cD, aE, bZ, bT, bF, bB, aZ, cX, aI, bJ, aT, aS, aU, aF, dA, cL, bP, aN, cW, bX, bY, cB, bQ, bR, bG, cA, bE, cF, bA, bM, bL, bK, cI, n1, en, c1]
 refine (Bh hr1).mono ?_
 rintro r w2 ⟨rfl, h2⟩
 rw [h2]; clear h2 w2
 by_cases hs : dm.l.length - 4 < n
 .have d1 : decide ((n : Int) > ((dm.l.drop 4).length : Int)) = true := decide_eq_true (by omega)
  have d2 : decide (((dm.l.drop 4).length : Int) < (n : Int)) = true := decide_eq_true (by omega)
  rw [if_pos hs]
  simp (disch := omega) only [dQ, fJ, cQ, stepR_skip, eE, eT, eK, fC, fB, eX, fL, fA, dK, eL, eN, eY, eB, eI, eM, eF, eJ, fD, eZ, eC, dS, eS, eQ, eA, gP, gQ, gT, gU, gV, gR, gW, gS, gO, dH, Result.ok.injEq, Next.value.injEq, true_and, and_true, dZ, dY, eP, eU, eH, fM, LU, dR, dV, dW, dU, dN, dM, dO, dL, dI, cY, if_true, if_false, LQ, LX, LR, LS, LW, LV, LP, LO, cS, cM, cC, bW, cV, dJ, bV, bU, cR, cK, cO, dC, cN, dG, cZ, dT, dE, cH, bH, bO, aR, aC, aJ, dD, aL, cG, dF, dB, bN, aH, bD, aY, cP, aG, aX, aM, aV, cU, aW, cJ, bS, aD, aA, aK, dP, aO, aP, bC, aQ, cD, aE, bZ, bT, bF, bB, aZ, cX, aI, bJ, aT, aS, aU, aF, dA, cL, bP, aN, cW, bX, bY, cB, bQ, bR, bG, cA, bE, cF, bA, bM, bL, bK, cI, wl, d1, d2]
  exact ⟨by decide, rfl, x1.mono fun y _ h => by omega⟩
 have d1 : decide ((n : Int) > ((dm.l.drop 4).length : Int)) = false := decide_eq_false (by omega)
 have d2 : decide (((dm.l.drop 4).length : Int) < (n : Int)) = false := decide_eq_false (by omega)
 rw [if_neg hs]
 simp (disch := omega) only [dQ, fJ, cQ, stepR_skip, eE, eT, eK, fC, fB, eX, fL, fA, dK, eL, eN, eY, eB, eI, eM, eF, eJ, fD, eZ, eC, dS, eS, eQ, eA, gP, gQ, gT, gU, gV, gR, gW, gS, gO, dH, Result.ok.injEq, Next.value.injEq, true_and, and_true, dZ, dY, eP, eU, eH, fM, LU, dR, dV, dW, dU, dN, dM, dO, dL, dI, cY, if_true, if_false, LQ, LX, LR, LS, LW, LV, LP, LO, cS, cM, cC, bW, cV, dJ, bV, bU, cR, cK, cO, dC, cN, dG, cZ, dT, dE, cH, bH, bO, aR, aC, aJ, dD, aL, cG, dF, dB, bN, aH, bD, aY, cP, aG, aX, aM, aV, cU, aW, cJ, bS, aD, aA, aK, dP, aO, aP, bC, aQ, cD, aE, bZ, bT, bF, bB, aZ, cX, aI, bJ, aT, aS, aU, aF, dA, cL, bP, aN, cW, bX, bY, cB, bQ, bR, bG, cA, bE, cF, bA, bM, bL, bK, cI, wl, d1, d2, c1, wn]
 refine (Di hr1 (by omega) (by omega)).mono ?_
 rintro rest w3 ⟨hb3, hat, hr3, x3⟩
 have ht3 : sE (dm.l.drop 4) 0 n = ((dm.l.drop 4).take n, dm.l.drop (4 + n), 0) := by unfold sE; rw [if_neg (by decide), if_neg (by omega), List.drop_drop]
 rw [ht3] at hr3
 have hr3 : As w3 lo hi pr (dm.l.drop (4 + n)) 0 := hr3
 have o3 := o1.ext x3 (fun e => q1 (e ▸ hpr))
 have oo3 := oo1.ext x3 fun b h e => (hO b h).2.2 (e ▸ hpr)
 have c5 := o3.cell (off := 5)
 simp only [lW, LO, LP] at c5
 have e5 : (dm.sk : Int) + 1 = ((dm.sk + 1 : Nat) : Int) := by omega
 have w5 : IntKind.i64.wrap ((dm.sk + 1 : Nat) : Int) = ((dm.sk + 1 : Nat) : Int) := dZ (by omega) (by omega)
 simp (disch := omega) only [dQ, fJ, cQ, stepR_skip, eE, eT, eK, fC, fB, eX, fL, fA, dK, eL, eN, eY, eB, eI, eM, eF, eJ, fD, eZ, eC, dS, eS, eQ, eA, gP, gQ, gT, gU, gV, gR, gW, gS, gO, dH, Result.ok.injEq, Next.value.injEq, true_and, and_true, dZ, dY, eP, eU, eH, fM, LU, dR, dV, dW, dU, dN, dM, dO, dL, dI, cY, if_true, if_false, LQ, LX, LR, LS, LW, LV, LP, LO, cS, cM, cC, bW, cV, dJ, bV, bU, cR, cK, cO, dC, cN, dG, cZ, dT, dE, cH, bH, bO, aR, aC, aJ, dD, aL, cG, dF, dB, bN, aH, bD, aY, cP, aG, aX, aM, aV, cU, aW, cJ, bS, aD, aA, aK, dP, aO, aP, bC, aQ, cD, aE, bZ, bT, bF, bB, aZ, cX, aI, bJ, aT, aS, aU, aF, dA, cL, bP, aN, cW, bX, bY, cB, bQ, bR, bG, cA, bE, cF, bA, bM, bL, bK, cI, c5, e5, w5]
 refine Fg (off := 5) o3 rfl (by simp [lW]) fun w6 o6 x6 s6 => ?_
 simp only [lW, L2, L5] at o6
 have z1 := x1.size
 have z3 := x3.size
 have z6 := x6.size
 refine ⟨rfl, ⟨pr, vo, lo, hi, O, o6, hr3.ext x6 (fun b h1 h2 h => q1 (h ▸ ⟨h1, h2⟩)), oo3.ext x6 (fun b h e => (hO b h).2.1 e), hp, hlo, hO, q1, by omega⟩, ((x1.mono fun y _ h => by omega).seq (x3.mono fun y _ h => by omega)).seq (x6.mono fun y _ h => by omega)⟩
def Ga (win most : Nat) : Nat -> List UInt8 -> List UInt8 -> Nat -> Nat -> Option (Except Int (List UInt8 × Nat × Nat))
 | 0, _, _, _, _ => none
 | f + 1, l, out, fr, sk => if l.length = 0 then some (.ok (out, fr, sk)) else if l.length < 4 then some (.error 10)
   else if lK (l.take 4) = 4247762216 then (match F1 (l.drop 4) win (most - out.length) with | none => none | some (.error e) => some (.error e) | some (.ok (a, l')) => Ga win most f l' (out ++ a) (fr + 1) sk)
   else if 407710288 <= lK (l.take 4) /\ lK (l.take 4) < 407710304 then (match HG (l.drop 4) with | .error e => some (.error e) | .ok l' => Ga win most f l' out fr (sk + 1))
   else some (.error 11)
theorem FG {h : FH} {room : Nat} : ∀ {f : Nat} {l all a l' : List UInt8}, zM h room f l all = some (.ok (a, l')) -> a.length <= room /\ l'.length <= l.length
 | 0, _, _, _, _, hh => by cases hh
 | f + 1, l, all, a, l', hh => by
   rw [zM] at hh
   cases hd : DO l all h.window room with
   | none => rw [hd] at hh; cases hh
   | some m =>
     rw [hd] at hh
     cases m with
     | error e => cases hh
     | ok t =>
       obtain ⟨a1, l1, b⟩ := t
       have h1 := Hh hd
       simp only at hh
       split at hh
       .cases hh
       .split at hh
        .cases hh; exact h1
        .have := FG hh
         exact ⟨this.1, by omega⟩
theorem JK {l a l' : List UInt8} {win room : Nat} (hh : F1 l win room = some (.ok (a, l'))) : a.length <= room /\ l'.length <= l.length := by
 unfold F1 at hh
 cases hf : AJ l with
 | error e => rw [hf] at hh; cases hh
 | ok t =>
   obtain ⟨h, n⟩ := t
   rw [hf] at hh
   simp only at hh
   split at hh
   .cases hh
   .cases hb : zM h room (l.length + 1) (l.drop n) [] with
    | none => rw [hb] at hh; cases hh
    | some mm =>
      rw [hb] at hh
      cases mm with
      | error e => cases hh
      | ok t =>
        obtain ⟨a1, l1⟩ := t
        have h1 := FG hb
        rw [L7] at h1
        have hh : BL h l1 a1 = .ok (a, l') := by injection hh
        unfold BL HZ at hh
        repeat' split at hh
        all_goals first | cases hh | skip
        all_goals rename_i hq
        all_goals first | (repeat' split at hq) | skip
        all_goals first | cases hq | skip
        all_goals (try rw [L7])
        all_goals omega
end Go.Proofs.YthohephggmkeeaaDoor

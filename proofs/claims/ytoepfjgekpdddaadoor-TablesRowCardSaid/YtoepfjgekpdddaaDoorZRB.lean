/- Parts of the proof of TablesRow: merged and given short names by a program of ours. -/
import Derived.Laws.Strings
import Derived.WalkKit
import Derived.ProofKit
import Derived.OpenShut
import Derived.Deep.Matrix
import Derived.Test.YtoepfjgekpdddaaDoorZRA
namespace Go.En
open Go
theorem wW.len {w : World} {b sz n : Nat} {v : Value} {l : List Value} (h : wW w b sz v n l) : ∃ a c, v = .slice a n c := by
  rcases h.2 with ⟨rfl, rfl⟩ | ⟨x, c, r, rfl, _⟩
  · exact ⟨_, _, rfl⟩
  · exact ⟨_, _, rfl⟩
theorem Sl.nil (w : World) : Sl w (.slice none 0 0) [] := ⟨none, 0, 0, rfl, rfl, Nat.le_refl _, fun h => absurd h (by simp)⟩
theorem iB.whole {w : World} {b c : Nat} {l : List UInt8} (h : iB w b (l.map GJ)) (hc : l.length ≤ c) : Bs w (.slice (some ⟨b, 0, none⟩) l.length c) l :=
  h.bs hc fun i hi => by rw [Nat.zero_add]; simp [hi]
theorem Sl.openV {w : World} {v : Value} {l : List Value} (h : Sl w v l) (h0 : 0 < l.length) : ∃ b off c, v = .slice (some ⟨b, off, none⟩) l.length c ∧ l.length ≤ c ∧ ∀ i, (h : i < l.length) → w.cell? ⟨b, off + i, none⟩ = some l[i] := by
  obtain ⟨a, n, c, rfl, hn, hc, h⟩ := h
  subst hn
  obtain ⟨b, off, rfl, hh⟩ := h h0
  exact ⟨b, off, c, rfl, hc, fun i hi => by rw [hh i hi]; simp [hi]⟩
theorem Sl.openI {w : World} {v : Value} {k : IntKind} {l : List Int} (h : Sl w v (l.map (Value.int k))) (h0 : 0 < l.length) : ∃ b off c, v = .slice (some ⟨b, off, none⟩) l.length c ∧ l.length ≤ c ∧ ∀ i, (h : i < l.length) → w.cell? ⟨b, off + i, none⟩ = some (.int k l[i]) := by
  obtain ⟨b, off, c, e, hc, hh⟩ := h.openV (by simpa using h0)
  simp only [List.length_map] at e hc hh
  exact ⟨b, off, c, e, hc, fun i hi => by rw [hh i hi]; simp⟩
theorem Sl.lenI {w : World} {v : Value} {k : IntKind} {l : List Int} (h : Sl w v (l.map (Value.int k))) : ∃ a c, v = .slice a l.length c ∧ l.length ≤ c := by
  obtain ⟨a, c, e, hc⟩ := h.len
  simp only [List.length_map] at e hc
  exact ⟨a, c, e, hc⟩
def tU (n : Nat) (l : List Value) : List Value := (List.replicate n l).flatten
theorem Aq (n : Nat) (l : List Value) : (tU n l).length = n * l.length := by
  unfold tU; rw [List.length_flatten]; simp
theorem FQ : ∀ (n : Nat) (l : List Value) (j : Nat) (_ : j < n * l.length) (h0 : 0 < l.length), (tU n l)[j]? = some (l[j % l.length]'(Nat.mod_lt _ h0)) := by
  intro n
  induction n with
  | zero => intro l j h; simp at h
  | succ n ih =>
    intro l j h h0
    unfold tU
    rw [List.replicate_succ, List.flatten_cons]
    by_cases hj : j < l.length
    · rw [List.getElem?_append_left hj, List.getElem?_eq_getElem hj]
      simp only [Nat.mod_eq_of_lt hj]
    · rw [List.getElem?_append_right (by omega)]
      have := ih l (j - l.length) (by rw [Nat.succ_mul] at h; omega) h0
      unfold tU at this
      rw [this]
      simp only [← Nat.mod_eq_sub_mod (show j ≥ l.length by omega)]
theorem Fv {P : Program} {w : World} {t e : TypeId} {k : IntKind} {i : TypeInfo} {z : Value} {sz : Nat} (hu : P.underlying t = some (.slice e)) (hi : P.info? e = some i) (h1 : i.size = sz) (hsz : 0 < sz) (hz : i.zero = some z) (hz1 : z.cells.size = sz) {n : Int} (h0 : 0 ≤ n) (hn : i.bytes * n ≤ 2 ^ 48) (hn2 : n ≤ 9223372036854775807)
    {K : Value → World → Prop}
    (hk : ∀ w', iB w' w.heap.size (tU n.toNat z.cells.toList) → fS w w' jI → w'.heap.size = w.heap.size + 1 → K (.slice (some ⟨w.heap.size, 0, none⟩) n.toNat n.toNat) w') :
    cJ P (lQ t (.int k n) (.int k n)) w K := by
  have hw : IntKind.i64.wrap n = n := eE (by omega) hn2
  have hl : z.cells.toList.length = sz := by simpa using hz1
  have harr : (Array.range (n.toNat * sz)).map (fun j => z.cells[j % z.cells.size]!) = (tU n.toNat z.cells.toList).toArray := by
    apply Array.ext
    · simp [Aq, hz1]
    · intro j h1 h2
      have hj : j < n.toNat * sz := by simpa using h1
      have := FQ n.toNat z.cells.toList j (by rw [hl]; exact hj) (by rw [hl]; exact hsz)
      have hm : j % z.cells.size < z.cells.size := Nat.mod_lt _ (by omega)
      simp only [Array.getElem_map, Array.getElem_range, List.getElem_toArray]
      rw [getElem!_pos z.cells _ hm]
      rw [List.getElem?_eq_getElem (by rw [Aq, hl]; exact hj)] at this
      have := Option.some.inj this
      rw [this]
      simp
  have hz' : (zeroValue e).run P w = .ok z w := by simp [zeroValue, typeInfo, hi, hz]
  have : (lQ t (.int k n) (.int k n)).run P w = .ok (.value (.slice (some ⟨w.heap.size, 0, none⟩) n.toNat n.toNat)) (w.alloc (.cells (tU n.toNat z.cells.toList).toArray e)) := by
    unfold lQ
    rw [jY]
    have t1 : (decide (n < 0) || decide ((i.bytes : Int) * n > 2 ^ 48) || decide (n < 0) || decide (n > n)) = false := by
      simp only [Bool.or_eq_false_iff, decide_eq_false_iff_not]; omega
    by_cases hn0 : n.toNat * sz = 0
    · simp only [Instr.makeSlice, underlying, typeInfo, asInt, asIntOf, pure_bind, Sem.run_bind, run_program, Result.andThen_ok, hu, hi, Sem.run_pure, hw, t1, Bool.false_eq_true, if_false, run_askRoom, gK hi, h1, hn0, if_true, newRow, run_newObj]
      have hn : n.toNat = 0 := by rcases Nat.mul_eq_zero.1 hn0 with h | h <;> omega
      have : (Array.range 0).map (fun x => (#[] : Array Value)[x % (#[] : Array Value).size]!) = (tU n.toNat z.cells.toList).toArray := by rw [hn]; simp [tU]
      rw [this]
      rfl
    · simp only [Instr.makeSlice, underlying, typeInfo, asInt, asIntOf, pure_bind, Sem.run_bind, run_program, Result.andThen_ok, hu, hi, Sem.run_pure, hw, t1, Bool.false_eq_true, if_false, run_askRoom, gK hi, h1, hn0, hz', newRow, run_newObj, harr]
      rfl
  unfold cJ
  rw [this]
  exact hk _ (iB.alloc _ _ _) (fS.alloc _ _ _) (by simp)
abbrev T3 := Int × Int × Int
def fe (k : IntKind) : List T3 → List Value
  | [] => []
  | e :: r => .int k e.1 :: .int .i64 e.2.1 :: .int .i64 e.2.2 :: fe k r
theorem tO (k : IntKind) : ∀ L : List T3, (fe k L).length = L.length * 3
  | [] => rfl
  | e :: r => by simp [fe, tO k r]; omega
theorem EY (k : IntKind) : ∀ (L : List T3) (i : Nat) (h : i < L.length), (fe k L)[i * 3]? = some (.int k L[i].1) ∧ (fe k L)[i * 3 + 1]? = some (.int .i64 L[i].2.1) ∧ (fe k L)[i * 3 + 2]? = some (.int .i64 L[i].2.2)
  | [], i, h => by simp at h
  | e :: r, 0, _ => ⟨rfl, rfl, rfl⟩
  | e :: r, i + 1, h => by
    have := EY k r i (by simpa using h)
    rw [Nat.add_mul]
    exact this
theorem DE (k : IntKind) : ∀ (L : List T3) (i : Nat) (h : i < L.length) (x : Int), (fe k L).set (i * 3) (.int k x) = fe k (L.set i (x, L[i].2)) ∧ (fe k L).set (i * 3 + 1) (.int .i64 x) = fe k (L.set i (L[i].1, x, L[i].2.2)) ∧ (fe k L).set (i * 3 + 2) (.int .i64 x) = fe k (L.set i (L[i].1, L[i].2.1, x))
  | [], i, h, _ => by simp at h
  | e :: r, 0, _, x => ⟨rfl, rfl, rfl⟩
  | e :: r, i + 1, h, x => by
    have := DE k r i (by simpa using h) x
    rw [Nat.add_mul]
    obtain ⟨h1, h2, h3⟩ := this
    refine ⟨?_, ?_, ?_⟩
    · show (_ :: _ :: _ :: (fe k r).set (i * 3) _) = _; rw [h1] <;> rfl
    · show (_ :: _ :: _ :: (fe k r).set (i * 3 + 1) _) = _; rw [h2] <;> rfl
    · show (_ :: _ :: _ :: (fe k r).set (i * 3 + 2) _) = _; rw [h3] <;> rfl
theorem E9 (k : IntKind) (x : Int) : ∀ n : Nat, tU n [.int k x, .int .i64 0, .int .i64 0] = fe k (List.replicate n (x, 0, 0))
  | 0 => rfl
  | n + 1 => by
    have := E9 k x n
    unfold tU at this ⊢
    rw [List.replicate_succ, List.flatten_cons, this, List.replicate_succ] <;> rfl
end Go.En
namespace Go.Proofs.YtoepfjgekpdddaaDoor
open Go Go.En
set_option linter.unusedVariables false
set_option maxRecDepth 4000
theorem Fr : (pg).info? 5 = some Tryd.t5 := by kernel_rfl
theorem BL {n : Nat} {ps : List (Nat × Value)} {cells : Array Value} {w : World} (h1 : ¬ n * 1 > 2 ^ 24) (h0 : ¬ n * 1 = 0) (hf : Go.Instr.fill (fun j => some (j * 1, 1)) ((Array.range (n * 1)).map ((Tryd.t5.zero.get!).cells[· % (Tryd.t5.zero.get!).cells.size]!)) ps = some cells) {K : Value → World → Prop} (hk : ∀ w', iB w' w.heap.size cells.toList → fS w w' jI → w'.heap.size = w.heap.size + 1 → K (.slice (some ⟨w.heap.size, 0, none⟩) n n) w') : cJ pg (hH 22 n ps) w K := xY (i := Tryd.t5) Tryd.underlying22 Fr rfl h1 h0 hf hk
theorem cQ  (w : World) : (gF 26 []).run pg w = .ok (.value (.agg #[(.int .i64 0), (.slice none 0 0)])) w := by kernel_rfl
theorem E4 : (pg).info? 26 = some Tryd.t26 := by kernel_rfl
theorem gX {w : World} {K : Value → World → Prop} (hk : ∀ w', iB w' w.heap.size [(.int .i64 0), (.slice none 0 0)] → fS w w' jI → w'.heap.size = w.heap.size + 1 → K (.pointer (some ⟨w.heap.size, 0, none⟩)) w') : cJ pg (iJ 26) w K := oN (i := Tryd.t26) E4 rfl hk
theorem fY {b off : Nat} {cs : List Value} {w : World} {xs : Array Value} {K : Value → World → Prop} (ho : iB w b cs) (hs : xs.size = 2) (hv : ∀ x ∈ xs.toList, one x = true) (h : off + 2 ≤ cs.length) (hk : ∀ w', iB w' b (fZ cs off xs.toList) → fS w w' (fun x => x = b) → w'.heap.size = w.heap.size → K undef w') : cJ pg (eZ 26 (.pointer (some ⟨b, off, none⟩)) (.agg xs)) w K := mI (v := .agg xs) E4 ho hs hv h hk
theorem H3 : (pg).info? 24 = some Tryd.t24 := by kernel_rfl
theorem aZ (b o : Nat) (w : World) : (eB 26 (.pointer (some ⟨b, o, none⟩)) 1).run pg w = .ok (.value (.pointer (some ⟨b, o + 1, none⟩))) w := iS (i := 1) Tryd.underlying26 rfl H3 (by decide) _
theorem bV (x : Addr) (w : World) : (eC 24 (.pointer (some x))).run pg w = FR (w.cell? x) w (FT pg 24 x w) := Do Tryd.underlying24 rfl x w
theorem bW {ty : TypeId} (x : Option Addr) (n c : Nat) (w : World) : (lR .len #[24] ty [.slice x n c]).run pg w = .ok (.value (.int .i64 n)) w := Bu Tryd.underlying24 x n c
theorem GD : (pg).info? 32 = some Tryd.t32 := by kernel_rfl
theorem bU {k : IntKind} {a : Int} (b o n c : Nat) (w : World) (h0 : 0 ≤ a) (h1 : a < n) : (hX 24 (.slice (some ⟨b, o, none⟩) n c) (.int k a)).run pg w = .ok (.value (.pointer (some ⟨b, o + a.toNat * 3, none⟩))) w := CZ rfl Tryd.underlying24 GD b o n c h0 h1
theorem bB (b o : Nat) (w : World) : (eB 32 (.pointer (some ⟨b, o, none⟩)) 0).run pg w = .ok (.value (.pointer (some ⟨b, o, none⟩))) w := iS (i := 0) Tryd.underlying32 rfl Fr (by decide) _
theorem dW (x : Addr) (w : World) : (eC 5 (.pointer (some x))).run pg w = FR (w.cell? x) w (FT pg 5 x w) := Do Tryd.underlying5 rfl x w
theorem kH {b off : Nat} {cs : List Value} {w : World} (ho : iB w b cs) (h : off + 2 ≤ cs.length) {K : Value → Prop} (hk : K (.agg ((cs.drop off).take 2).toArray)) : yH pg 26 (.pointer (some ⟨b, off, none⟩)) w K := E8 Tryd.underlying26 rfl E4 ho h hk
theorem oT {b off : Nat} {cs : List Value} {w : World} (ho : iB w b cs) (h : off + 2 ≤ cs.length) : (eC 26 (.pointer (some ⟨b, off, none⟩))).run pg w = .ok (.value (.agg ((cs.drop off).take 2).toArray)) w := Fc Tryd.underlying26 rfl E4 ho h
theorem dC {ty : TypeId} (x : Option Addr) (n c : Nat) (w : World) : (lR .len #[22] ty [.slice x n c]).run pg w = .ok (.value (.int .i64 n)) w := Bu Tryd.underlying22 x n c
theorem dF {k : IntKind} {a : Int} (b o n c : Nat) (w : World) (h0 : 0 ≤ a) (h1 : a < n) : (hX 22 (.slice (some ⟨b, o, none⟩) n c) (.int k a)).run pg w = .ok (.value (.pointer (some ⟨b, o + a.toNat, none⟩))) w := wZ rfl Tryd.underlying22 Fr b o n c h0 h1
theorem cV {k : IntKind} (a : Int) (w : World) : (mJ 5 3 (.int k a)).run pg w = .ok (.value (.int .i64 (IntKind.i64.wrap a))) w := tJ Tryd.underlying5 Tryd.underlying3
theorem Fd : (pg).info? 51 = some Tryd.t51 := by kernel_rfl
theorem jX {w : World} {K : Value → World → Prop} (hk : ∀ w', iB w' w.heap.size [(.int .i64 0), (.slice none 0 0)] → fS w w' jI → w'.heap.size = w.heap.size + 1 → K (.pointer (some ⟨w.heap.size, 0, none⟩)) w') : cJ pg (iJ 51) w K := oN (i := Tryd.t51) Fd rfl hk
theorem hP {b off : Nat} {cs : List Value} {w : World} {xs : Array Value} {K : Value → World → Prop} (ho : iB w b cs) (hs : xs.size = 2) (hv : ∀ x ∈ xs.toList, one x = true) (h : off + 2 ≤ cs.length) (hk : ∀ w', iB w' b (fZ cs off xs.toList) → fS w w' (fun x => x = b) → w'.heap.size = w.heap.size → K undef w') : cJ pg (eZ 51 (.pointer (some ⟨b, off, none⟩)) (.agg xs)) w K := mI (v := .agg xs) Fd ho hs hv h hk
theorem iF {b off : Nat} {cs : List Value} {w : World} (ho : iB w b cs) (h : off + 2 ≤ cs.length) : (eC 51 (.pointer (some ⟨b, off, none⟩))).run pg w = .ok (.value (.agg ((cs.drop off).take 2).toArray)) w := Fc Tryd.underlying51 rfl Fd ho h
theorem qF : (pg).info? 3 = some Tryd.t3 := by kernel_rfl
theorem aI (b o : Nat) (w : World) : (eB 51 (.pointer (some ⟨b, o, none⟩)) 0).run pg w = .ok (.value (.pointer (some ⟨b, o, none⟩))) w := iS (i := 0) Tryd.underlying51 rfl qF (by decide) _
theorem eA (x : Addr) (w : World) : (eC 3 (.pointer (some x))).run pg w = FR (w.cell? x) w (FT pg 3 x w) := Do Tryd.underlying3 rfl x w
theorem bO (n0 : Int) (a1 : Option Addr) (l1 c1 : Nat) (w : World) : (gF 26 [(0, (.int .i64 n0)), (1, (.slice a1 l1 c1))]).run pg w = .ok (.value (.agg #[(.int .i64 n0), (.slice a1 l1 c1)])) w := by kernel_rfl
theorem Ga : (pg).info? 30 = some Tryd.t30 := by kernel_rfl
theorem aE (b o : Nat) (w : World) : (eB 51 (.pointer (some ⟨b, o, none⟩)) 1).run pg w = .ok (.value (.pointer (some ⟨b, o + 1, none⟩))) w := iS (i := 1) Tryd.underlying51 rfl Ga (by decide) _
theorem dH (x : Addr) (w : World) : (eC 30 (.pointer (some x))).run pg w = FR (w.cell? x) w (FT pg 30 x w) := Do Tryd.underlying30 rfl x w
theorem dI {ty : TypeId} (x : Option Addr) (n c : Nat) (w : World) : (lR .len #[30] ty [.slice x n c]).run pg w = .ok (.value (.int .i64 n)) w := Bu Tryd.underlying30 x n c
theorem FJ {k : IntKind} {n : Int} {w : World} {K : Value → World → Prop} (h0 : 0 ≤ n) (hn : 8 * n ≤ 2 ^ 48) (hk : ∀ w', iB w' w.heap.size (List.replicate n.toNat (.int .i64 0)) → fS w w' jI → w'.heap.size = w.heap.size + 1 → K (.slice (some ⟨w.heap.size, 0, none⟩) n.toNat n.toNat) w') : cJ pg (lQ 30 (.int k n) (.int k n)) w K := F7 (i := Tryd.t3) Tryd.underlying30 qF rfl rfl rfl h0 hn (by omega) hk
theorem dJ {k : IntKind} {a : Int} (b o n c : Nat) (w : World) (h0 : 0 ≤ a) (h1 : a < n) : (hX 30 (.slice (some ⟨b, o, none⟩) n c) (.int k a)).run pg w = .ok (.value (.pointer (some ⟨b, o + a.toNat, none⟩))) w := wZ rfl Tryd.underlying30 qF b o n c h0 h1
theorem Cq {b off : Nat} {cs : List Value} {w : World} {v : Value} {K : Value → World → Prop} (ho : iB w b cs) (hv : one v = true) (h : off < cs.length) (hk : ∀ w', iB w' b (cs.set off v) → fS w w' (fun x => x = b) → w'.heap.size = w.heap.size → K undef w') : cJ pg (eZ 3 (.pointer (some ⟨b, off, none⟩)) v) w K := xV qF rfl ho hv h hk
theorem dB {k : IntKind} (a : Int) (w : World) : (mJ 3 75 (.int k a)).run pg w = .ok (.value (.int .u64 (IntKind.u64.wrap a))) w := tJ Tryd.underlying3 Tryd.underlying75
theorem bK (b o : Nat) (w : World) : (eB 32 (.pointer (some ⟨b, o, none⟩)) 1).run pg w = .ok (.value (.pointer (some ⟨b, o + 1, none⟩))) w := iS (i := 1) Tryd.underlying32 rfl qF (by decide) _
theorem bM (b o : Nat) (w : World) : (eB 32 (.pointer (some ⟨b, o, none⟩)) 2).run pg w = .ok (.value (.pointer (some ⟨b, o + 2, none⟩))) w := iS (i := 2) Tryd.underlying32 rfl qF (by decide) _
theorem iT {b off : Nat} {cs : List Value} {w : World} (ho : iB w b cs) (h : off + 2 ≤ cs.length) {K : Value → Prop} (hk : K (.agg ((cs.drop off).take 2).toArray)) : yH pg 51 (.pointer (some ⟨b, off, none⟩)) w K := E8 Tryd.underlying51 rfl Fd ho h hk
theorem GF : (pg).info? 76 = some Tryd.t76 := by kernel_rfl
theorem Dp {b off : Nat} {l : List Value} {w : World} (hl : l.length = 36) (h : ∀ j, j < l.length → w.cell? ⟨b, off + j, none⟩ = l[j]?) : (eC 76 (.pointer (some ⟨b, off, none⟩))).run pg w = .ok (.value (.agg l.toArray)) w := yM Tryd.underlying76 rfl GF hl.symm h
theorem Eh {w : World} {K : Value → World → Prop} (hk : ∀ w', iB w' w.heap.size [(.int .i64 0), (.int .i64 0), (.int .i64 0), (.int .i64 0), (.int .i64 0), (.int .i64 0), (.int .i64 0), (.int .i64 0), (.int .i64 0), (.int .i64 0), (.int .i64 0), (.int .i64 0), (.int .i64 0), (.int .i64 0), (.int .i64 0), (.int .i64 0), (.int .i64 0), (.int .i64 0), (.int .i64 0), (.int .i64 0), (.int .i64 0), (.int .i64 0), (.int .i64 0), (.int .i64 0), (.int .i64 0), (.int .i64 0), (.int .i64 0), (.int .i64 0), (.int .i64 0), (.int .i64 0), (.int .i64 0), (.int .i64 0), (.int .i64 0), (.int .i64 0), (.int .i64 0), (.int .i64 0)] → fS w w' jI → w'.heap.size = w.heap.size + 1 → K (.pointer (some ⟨w.heap.size, 0, none⟩)) w') : cJ pg (iJ 76) w K := oN (i := Tryd.t76) GF rfl hk
theorem Df {b off : Nat} {cs : List Value} {w : World} {xs : Array Value} {K : Value → World → Prop} (ho : iB w b cs) (hs : xs.size = 36) (hv : ∀ x ∈ xs.toList, one x = true) (h : off + 36 ≤ cs.length) (hk : ∀ w', iB w' b (fZ cs off xs.toList) → fS w w' (fun x => x = b) → w'.heap.size = w.heap.size → K undef w') : cJ pg (eZ 76 (.pointer (some ⟨b, off, none⟩)) (.agg xs)) w K := mI (v := .agg xs) GF ho hs hv h hk
theorem bZ  (b o : Nat) (w : World)  : (jO 76 (.pointer (some ⟨b, o, none⟩)) none none none).run pg w = .ok (.value (.slice (some (kM ⟨b, o, none⟩ 36 (0) 1)) (36 - 0) (36 - 0))) w := mM Tryd.underlying76 qF _
theorem bA (n0 : Int) (a1 : Option Addr) (l1 c1 : Nat) (w : World) : (gF 51 [(0, (.int .i64 n0)), (1, (.slice a1 l1 c1))]).run pg w = .ok (.value (.agg #[(.int .i64 n0), (.slice a1 l1 c1)])) w := by kernel_rfl
theorem GB : (pg).info? 77 = some Tryd.t77 := by kernel_rfl
theorem Du {b off : Nat} {l : List Value} {w : World} (hl : l.length = 29) (h : ∀ j, j < l.length → w.cell? ⟨b, off + j, none⟩ = l[j]?) : (eC 77 (.pointer (some ⟨b, off, none⟩))).run pg w = .ok (.value (.agg l.toArray)) w := yM Tryd.underlying77 rfl GB hl.symm h
theorem DN {w : World} {K : Value → World → Prop} (hk : ∀ w', iB w' w.heap.size [(.int .i64 0), (.int .i64 0), (.int .i64 0), (.int .i64 0), (.int .i64 0), (.int .i64 0), (.int .i64 0), (.int .i64 0), (.int .i64 0), (.int .i64 0), (.int .i64 0), (.int .i64 0), (.int .i64 0), (.int .i64 0), (.int .i64 0), (.int .i64 0), (.int .i64 0), (.int .i64 0), (.int .i64 0), (.int .i64 0), (.int .i64 0), (.int .i64 0), (.int .i64 0), (.int .i64 0), (.int .i64 0), (.int .i64 0), (.int .i64 0), (.int .i64 0), (.int .i64 0)] → fS w w' jI → w'.heap.size = w.heap.size + 1 → K (.pointer (some ⟨w.heap.size, 0, none⟩)) w') : cJ pg (iJ 77) w K := oN (i := Tryd.t77) GB rfl hk
theorem Di {b off : Nat} {cs : List Value} {w : World} {xs : Array Value} {K : Value → World → Prop} (ho : iB w b cs) (hs : xs.size = 29) (hv : ∀ x ∈ xs.toList, one x = true) (h : off + 29 ≤ cs.length) (hk : ∀ w', iB w' b (fZ cs off xs.toList) → fS w w' (fun x => x = b) → w'.heap.size = w.heap.size → K undef w') : cJ pg (eZ 77 (.pointer (some ⟨b, off, none⟩)) (.agg xs)) w K := mI (v := .agg xs) GB ho hs hv h hk
theorem cA  (b o : Nat) (w : World)  : (jO 77 (.pointer (some ⟨b, o, none⟩)) none none none).run pg w = .ok (.value (.slice (some (kM ⟨b, o, none⟩ 29 (0) 1)) (29 - 0) (29 - 0))) w := mM Tryd.underlying77 qF _
theorem GE : (pg).info? 78 = some Tryd.t78 := by kernel_rfl
theorem DB {b off : Nat} {l : List Value} {w : World} (hl : l.length = 53) (h : ∀ j, j < l.length → w.cell? ⟨b, off + j, none⟩ = l[j]?) : (eC 78 (.pointer (some ⟨b, off, none⟩))).run pg w = .ok (.value (.agg l.toArray)) w := yM Tryd.underlying78 rfl GE hl.symm h
theorem Ef {w : World} {K : Value → World → Prop} (hk : ∀ w', iB w' w.heap.size [(.int .i64 0), (.int .i64 0), (.int .i64 0), (.int .i64 0), (.int .i64 0), (.int .i64 0), (.int .i64 0), (.int .i64 0), (.int .i64 0), (.int .i64 0), (.int .i64 0), (.int .i64 0), (.int .i64 0), (.int .i64 0), (.int .i64 0), (.int .i64 0), (.int .i64 0), (.int .i64 0), (.int .i64 0), (.int .i64 0), (.int .i64 0), (.int .i64 0), (.int .i64 0), (.int .i64 0), (.int .i64 0), (.int .i64 0), (.int .i64 0), (.int .i64 0), (.int .i64 0), (.int .i64 0), (.int .i64 0), (.int .i64 0), (.int .i64 0), (.int .i64 0), (.int .i64 0), (.int .i64 0), (.int .i64 0), (.int .i64 0), (.int .i64 0), (.int .i64 0), (.int .i64 0), (.int .i64 0), (.int .i64 0), (.int .i64 0), (.int .i64 0), (.int .i64 0), (.int .i64 0), (.int .i64 0), (.int .i64 0), (.int .i64 0), (.int .i64 0), (.int .i64 0), (.int .i64 0)] → fS w w' jI → w'.heap.size = w.heap.size + 1 → K (.pointer (some ⟨w.heap.size, 0, none⟩)) w') : cJ pg (iJ 78) w K := oN (i := Tryd.t78) GE rfl hk
theorem Dw {b off : Nat} {cs : List Value} {w : World} {xs : Array Value} {K : Value → World → Prop} (ho : iB w b cs) (hs : xs.size = 53) (hv : ∀ x ∈ xs.toList, one x = true) (h : off + 53 ≤ cs.length) (hk : ∀ w', iB w' b (fZ cs off xs.toList) → fS w w' (fun x => x = b) → w'.heap.size = w.heap.size → K undef w') : cJ pg (eZ 78 (.pointer (some ⟨b, off, none⟩)) (.agg xs)) w K := mI (v := .agg xs) GE ho hs hv h hk
theorem cH  (b o : Nat) (w : World)  : (jO 78 (.pointer (some ⟨b, o, none⟩)) none none none).run pg w = .ok (.value (.slice (some (kM ⟨b, o, none⟩ 53 (0) 1)) (53 - 0) (53 - 0))) w := mM Tryd.underlying78 qF _
theorem bE  (w : World) : (gF 51 []).run pg w = .ok (.value (.agg #[(.int .i64 0), (.slice none 0 0)])) w := by kernel_rfl
theorem cL (n0 : Int) (w : World) : (gF 32 [(0, (.int .u8 n0))]).run pg w = .ok (.value (.agg #[(.int .u8 n0), (.int .i64 0), (.int .i64 0)])) w := by kernel_rfl
theorem B4 {n : Nat} {ps : List (Nat × Value)} {cells : Array Value} {w : World} (h1 : ¬ n * 3 > 2 ^ 24) (h0 : ¬ n * 3 = 0) (hf : Go.Instr.fill (fun j => some (j * 3, 3)) ((Array.range (n * 3)).map ((Tryd.t32.zero.get!).cells[· % (Tryd.t32.zero.get!).cells.size]!)) ps = some cells) {K : Value → World → Prop} (hk : ∀ w', iB w' w.heap.size cells.toList → fS w w' jI → w'.heap.size = w.heap.size + 1 → K (.slice (some ⟨w.heap.size, 0, none⟩) n n) w') : cJ pg (hH 24 n ps) w K := xY (i := Tryd.t32) Tryd.underlying24 GD rfl h1 h0 hf hk
theorem cK (a0 : Option Addr) (l0 c0 : Nat) (w : World) : (gF 26 [(1, (.slice a0 l0 c0))]).run pg w = .ok (.value (.agg #[(.int .i64 0), (.slice a0 l0 c0)])) w := by kernel_rfl
theorem AT {k : IntKind} {n : Int} {w : World} {K : Value → World → Prop} (h0 : 0 ≤ n) (hn : 24 * n ≤ 2 ^ 48) (hk : ∀ w', iB w' w.heap.size (tU n.toNat [(.int .u8 0), (.int .i64 0), (.int .i64 0)]) → fS w w' jI → w'.heap.size = w.heap.size + 1 → K (.slice (some ⟨w.heap.size, 0, none⟩) n.toNat n.toNat) w') : cJ pg (lQ 24 (.int k n) (.int k n)) w K := Fv (i := Tryd.t32) Tryd.underlying24 GD rfl (by decide) rfl rfl h0 hn (by omega) hk
theorem cT {k : IntKind} (a : Int) (w : World) : (mJ 3 5 (.int k a)).run pg w = .ok (.value (.int .u8 (IntKind.u8.wrap a))) w := tJ Tryd.underlying3 Tryd.underlying5
theorem D2 {b off : Nat} {cs : List Value} {w : World} {v : Value} {K : Value → World → Prop} (ho : iB w b cs) (hv : one v = true) (h : off < cs.length) (hk : ∀ w', iB w' b (cs.set off v) → fS w w' (fun x => x = b) → w'.heap.size = w.heap.size → K undef w') : cJ pg (eZ 5 (.pointer (some ⟨b, off, none⟩)) v) w K := xV Fr rfl ho hv h hk
theorem cM {k : IntKind} (a : Int) (w : World) : (mJ 75 56 (.int k a)).run pg w = .ok (.value (.int .u32 (IntKind.u32.wrap a))) w := tJ Tryd.underlying75 Tryd.underlying56
theorem ET : (pg).info? 109 = some Tryd.t109 := by kernel_rfl
theorem Dy {b off : Nat} {l : List Value} {w : World} (hl : l.length = 20) (h : ∀ j, j < l.length → w.cell? ⟨b, off + j, none⟩ = l[j]?) : (eC 109 (.pointer (some ⟨b, off, none⟩))).run pg w = .ok (.value (.agg l.toArray)) w := yM Tryd.underlying109 rfl ET hl.symm h
theorem DY {w : World} {K : Value → World → Prop} (hk : ∀ w', iB w' w.heap.size [(.int .i64 0), (.int .i64 0), (.int .i64 0), (.int .i64 0), (.int .i64 0), (.int .i64 0), (.int .i64 0), (.int .i64 0), (.int .i64 0), (.int .i64 0), (.int .i64 0), (.int .i64 0), (.int .i64 0), (.int .i64 0), (.int .i64 0), (.int .i64 0), (.int .i64 0), (.int .i64 0), (.int .i64 0), (.int .i64 0)] → fS w w' jI → w'.heap.size = w.heap.size + 1 → K (.pointer (some ⟨w.heap.size, 0, none⟩)) w') : cJ pg (iJ 109) w K := oN (i := Tryd.t109) ET rfl hk
theorem Dg {b off : Nat} {cs : List Value} {w : World} {xs : Array Value} {K : Value → World → Prop} (ho : iB w b cs) (hs : xs.size = 20) (hv : ∀ x ∈ xs.toList, one x = true) (h : off + 20 ≤ cs.length) (hk : ∀ w', iB w' b (fZ cs off xs.toList) → fS w w' (fun x => x = b) → w'.heap.size = w.heap.size → K undef w') : cJ pg (eZ 109 (.pointer (some ⟨b, off, none⟩)) (.agg xs)) w K := mI (v := .agg xs) ET ho hs hv h hk
theorem cG  (b o : Nat) (w : World)  : (jO 109 (.pointer (some ⟨b, o, none⟩)) none none none).run pg w = .ok (.value (.slice (some (kM ⟨b, o, none⟩ 20 (0) 1)) (20 - 0) (20 - 0))) w := mM Tryd.underlying109 qF _
theorem EQ : (pg).info? 110 = some Tryd.t110 := by kernel_rfl
theorem DG {b off : Nat} {l : List Value} {w : World} (hl : l.length = 21) (h : ∀ j, j < l.length → w.cell? ⟨b, off + j, none⟩ = l[j]?) : (eC 110 (.pointer (some ⟨b, off, none⟩))).run pg w = .ok (.value (.agg l.toArray)) w := yM Tryd.underlying110 rfl EQ hl.symm h
theorem Eg {w : World} {K : Value → World → Prop} (hk : ∀ w', iB w' w.heap.size [(.int .i64 0), (.int .i64 0), (.int .i64 0), (.int .i64 0), (.int .i64 0), (.int .i64 0), (.int .i64 0), (.int .i64 0), (.int .i64 0), (.int .i64 0), (.int .i64 0), (.int .i64 0), (.int .i64 0), (.int .i64 0), (.int .i64 0), (.int .i64 0), (.int .i64 0), (.int .i64 0), (.int .i64 0), (.int .i64 0), (.int .i64 0)] → fS w w' jI → w'.heap.size = w.heap.size + 1 → K (.pointer (some ⟨w.heap.size, 0, none⟩)) w') : cJ pg (iJ 110) w K := oN (i := Tryd.t110) EQ rfl hk
theorem Dj {b off : Nat} {cs : List Value} {w : World} {xs : Array Value} {K : Value → World → Prop} (ho : iB w b cs) (hs : xs.size = 21) (hv : ∀ x ∈ xs.toList, one x = true) (h : off + 21 ≤ cs.length) (hk : ∀ w', iB w' b (fZ cs off xs.toList) → fS w w' (fun x => x = b) → w'.heap.size = w.heap.size → K undef w') : cJ pg (eZ 110 (.pointer (some ⟨b, off, none⟩)) (.agg xs)) w K := mI (v := .agg xs) EQ ho hs hv h hk
theorem cB  (b o : Nat) (w : World)  : (jO 110 (.pointer (some ⟨b, o, none⟩)) none none none).run pg w = .ok (.value (.slice (some (kM ⟨b, o, none⟩ 21 (0) 1)) (21 - 0) (21 - 0))) w := mM Tryd.underlying110 qF _
theorem cE {k : IntKind} (a : Int) (w : World) : (mJ 56 5 (.int k a)).run pg w = .ok (.value (.int .u8 (IntKind.u8.wrap a))) w := tJ Tryd.underlying56 Tryd.underlying5
theorem dO {k : IntKind} {a : Int} (x : ByteArray) (w : World) (h0 : 0 ≤ a) (h1 : a.toNat < x.size) : (Gw 9 (.string x) (.int k a)).run pg w = .ok (.value (.int .u8 (x[a.toNat]'h1).toNat)) w := HO Tryd.underlying9 x h0 h1
theorem bX {k : IntKind} (a : Int) (w : World) : (mJ 83 5 (.int k a)).run pg w = .ok (.value (.int .u8 (IntKind.u8.wrap a))) w := tJ Tryd.underlying83 Tryd.underlying5
theorem cP {ox oy : Operand} (x : Option Addr) (n c : Nat) (w : World) : (dU .eql 22 ox oy (.slice x n c) (.slice none 0 0)).run pg w = .ok (.value (.bool x.isNone)) w := GN Tryd.underlying22 x n c
theorem kZ {base n m : Nat} {ty : TypeId} {w : World} {v x : Value} {l news : List Value} (h : wW w base 1 v n l) (hx : Cl w 1 x m news) (hone : ∀ y ∈ news, one y = true) (hb : base ≤ w.heap.size) (hbytes : (n + m) * 1 ≤ 140737488355328) {K : Value → World → Prop} (hk : ∀ v' w', wW w' base 1 v' (n + m) (l ++ news) → fS w w' (fun y => base ≤ y) → K v' w') : cJ pg (lR .append #[22, 22] ty [v, x]) w K := Cf (i := Tryd.t5) Tryd.underlying22 Tryd.underlying22 Fr rfl rfl rfl h hx hone hb (by omega) hbytes (by decide) hk
end Go.Proofs.YtoepfjgekpdddaaDoor
namespace Go.Proofs.YtoepfjgekpdddaaDoor
open Go Go.En
set_option linter.unusedVariables false
set_option maxRecDepth 4000
theorem C6 {n : Nat} {ps : List (Nat × Value)} {cells : Array Value} {w : World} (h1 : ¬ n * 1 > 2 ^ 24) (h0 : ¬ n * 1 = 0) (hf : Go.Instr.fill (fun j => some (j * 1, 1)) ((Array.range (n * 1)).map ((Tryd.t3.zero.get!).cells[· % (Tryd.t3.zero.get!).cells.size]!)) ps = some cells) {K : Value → World → Prop} (hk : ∀ w', iB w' w.heap.size cells.toList → fS w w' jI → w'.heap.size = w.heap.size + 1 → K (.slice (some ⟨w.heap.size, 0, none⟩) n n) w') : cJ pg (hH 30 n ps) w K := xY (i := Tryd.t3) Tryd.underlying30 qF rfl h1 h0 hf hk
theorem dQ {ox oy : Operand} (c d : Bool) (w : World) : (dU .eql 4 ox oy (.bool c) (.bool d)).run pg w = .ok (.value (.bool (c == d))) w := HH c d Tryd.underlying4
end Go.Proofs.YtoepfjgekpdddaaDoor
namespace Go.Proofs.YtoepfjgekpdddaaDoor
open Go Go.En
set_option linter.unusedVariables false
set_option maxRecDepth 4000
theorem bS (b o : Nat) (w : World) : (eB 26 (.pointer (some ⟨b, o, none⟩)) 0).run pg w = .ok (.value (.pointer (some ⟨b, o, none⟩))) w := iS (i := 0) Tryd.underlying26 rfl qF (by decide) _
end Go.Proofs.YtoepfjgekpdddaaDoor
namespace Go.Proofs.YtoepfjgekpdddaaDoor
open Go Go.En
set_option linter.unusedVariables false
set_option maxRecDepth 4000
theorem cX {ty : TypeId} (x : Option Addr) (n c : Nat) (w : World) : (lR .len #[38] ty [.slice x n c]).run pg w = .ok (.value (.int .i64 n)) w := Bu Tryd.underlying38 x n c
theorem aX  (w : World) : (gF 42 []).run pg w = .ok (.value (.agg #[(.int .i64 0), (.slice none 0 0)])) w := by kernel_rfl
theorem E6 : (pg).info? 56 = some Tryd.t56 := by kernel_rfl
theorem cD {k : IntKind} {a : Int} (b o : Nat) (w : World) (h0 : 0 ≤ a) (h1 : a < 256) : (hX 57 (.pointer (some ⟨b, o, none⟩)) (.int k a)).run pg w = .ok (.value (.pointer (some ⟨b, o + a.toNat, none⟩))) w := Da rfl Tryd.underlying57 E6 b o h0 (by simpa using h1)
theorem dR (x : Addr) (w : World) : (eC 56 (.pointer (some x))).run pg w = FR (w.cell? x) w (FT pg 56 x w) := Do Tryd.underlying56 rfl x w
theorem bH {k : IntKind} {hi : Int} (b o : Nat) (w : World) (h0 : 0 ≤ hi) (h1 : hi ≤ 256) : (jO 57 (.pointer (some ⟨b, o, none⟩)) none (some (.int k hi)) none).run pg w = .ok (.value (.slice (some (kM ⟨b, o, none⟩ 256 (0) 1)) (hi.toNat - 0) (256 - 0))) w := D4 Tryd.underlying57 E6 _ h0 (by simpa using h1)
theorem Id : (pg).info? 40 = some Tryd.t40 := by kernel_rfl
theorem aV (b o : Nat) (w : World) : (eB 42 (.pointer (some ⟨b, o, none⟩)) 1).run pg w = .ok (.value (.pointer (some ⟨b, o + 1, none⟩))) w := iS (i := 1) Tryd.underlying42 rfl Id (by decide) _
theorem aN (x : Addr) (w : World) : (eC 40 (.pointer (some x))).run pg w = FR (w.cell? x) w (FT pg 40 x w) := Do Tryd.underlying40 rfl x w
theorem aO {ty : TypeId} (x : Option Addr) (n c : Nat) (w : World) : (lR .len #[40] ty [.slice x n c]).run pg w = .ok (.value (.int .i64 n)) w := Bu Tryd.underlying40 x n c
theorem aJ (b o : Nat) (w : World) : (eB 42 (.pointer (some ⟨b, o, none⟩)) 0).run pg w = .ok (.value (.pointer (some ⟨b, o, none⟩))) w := iS (i := 0) Tryd.underlying42 rfl qF (by decide) _
theorem H1 : (pg).info? 70 = some Tryd.t70 := by kernel_rfl
theorem aP {k : IntKind} {a : Int} (b o n c : Nat) (w : World) (h0 : 0 ≤ a) (h1 : a < n) : (hX 40 (.slice (some ⟨b, o, none⟩) n c) (.int k a)).run pg w = .ok (.value (.pointer (some ⟨b, o + a.toNat * 3, none⟩))) w := CZ rfl Tryd.underlying40 H1 b o n c h0 h1
theorem aW (n0 : Int) (w : World) : (gF 42 [(0, (.int .i64 n0))]).run pg w = .ok (.value (.agg #[(.int .i64 n0), (.slice none 0 0)])) w := by kernel_rfl
theorem aC (n0 : Int) (n1 : Int) (n2 : Int) (w : World) : (gF 70 [(0, (.int .i64 n0)), (1, (.int .i64 n1)), (2, (.int .i64 n2))]).run pg w = .ok (.value (.agg #[(.int .i64 n0), (.int .i64 n1), (.int .i64 n2)])) w := by kernel_rfl
theorem cN {k : IntKind} (a : Int) (w : World) : (mJ 83 3 (.int k a)).run pg w = .ok (.value (.int .i64 (IntKind.i64.wrap a))) w := tJ Tryd.underlying83 Tryd.underlying3
theorem bF (n0 : Int) (w : World) : (gF 51 [(0, (.int .i64 n0))]).run pg w = .ok (.value (.agg #[(.int .i64 n0), (.slice none 0 0)])) w := by kernel_rfl
theorem AZ {base n m : Nat} {ty : TypeId} {w : World} {v x : Value} {l news : List Value} (h : wW w base 1 v n l) (hx : Cl w 1 x m news) (hone : ∀ y ∈ news, one y = true) (hb : base ≤ w.heap.size) (hbytes : (n + m) * 8 ≤ 140737488355328) {K : Value → World → Prop} (hk : ∀ v' w', wW w' base 1 v' (n + m) (l ++ news) → fS w w' (fun y => base ≤ y) → K v' w') : cJ pg (lR .append #[30, 30] ty [v, x]) w K := Cf (i := Tryd.t3) Tryd.underlying30 Tryd.underlying30 qF rfl rfl rfl h hx hone hb (by omega) hbytes (by decide) hk
theorem C9 {b off : Nat} {cs : List Value} {w : World} {v : Value} {K : Value → World → Prop} (ho : iB w b cs) (hv : one v = true) (h : off < cs.length) (hk : ∀ w', iB w' b (cs.set off v) → fS w w' (fun x => x = b) → w'.heap.size = w.heap.size → K undef w') : cJ pg (eZ 30 (.pointer (some ⟨b, off, none⟩)) v) w K := xV Ga rfl ho hv h hk
theorem cY {k : IntKind} {a : Int} (b o n c : Nat) (w : World) (h0 : 0 ≤ a) (h1 : a < n) : (hX 38 (.slice (some ⟨b, o, none⟩) n c) (.int k a)).run pg w = .ok (.value (.pointer (some ⟨b, o + a.toNat, none⟩))) w := wZ rfl Tryd.underlying38 E6 b o n c h0 h1
theorem bR {k : IntKind} (a : Int) (w : World) : (mJ 56 83 (.int k a)).run pg w = .ok (.value (.int .u64 (IntKind.u64.wrap a))) w := tJ Tryd.underlying56 Tryd.underlying83
theorem cC {k : IntKind} {hi : Int} (a : Option Addr) (n c : Nat) (w : World) (h0 : 0 ≤ hi) (h1 : hi ≤ c) : (jO 38 (.slice a n c) none (some (.int k hi)) none).run pg w = .ok (.value (.slice (oI a c (0) 1) (hi.toNat - 0) (c - 0))) w := Ez Tryd.underlying38 E6 _ n c h0 h1
theorem cR {k : IntKind} (a : Int) (w : World) : (mJ 3 83 (.int k a)).run pg w = .ok (.value (.int .u64 (IntKind.u64.wrap a))) w := tJ Tryd.underlying3 Tryd.underlying83
theorem aS (n0 : Int) (w : World) : (gF 70 [(0, (.int .i64 n0))]).run pg w = .ok (.value (.agg #[(.int .i64 n0), (.int .i64 0), (.int .i64 0)])) w := by kernel_rfl
theorem aQ (a0 : Option Addr) (l0 c0 : Nat) (w : World) : (gF 42 [(1, (.slice a0 l0 c0))]).run pg w = .ok (.value (.agg #[(.int .i64 0), (.slice a0 l0 c0)])) w := by kernel_rfl
theorem aT (a0 : Option Addr) (l0 c0 : Nat) (w : World) : (gF 99 [(0, (.slice a0 l0 c0))]).run pg w = .ok (.value (.agg #[(.slice a0 l0 c0), (.int .i64 0)])) w := by kernel_rfl
theorem aY  (w : World) : (gF 65 []).run pg w = .ok (.value (.agg #[(.int .i64 0), (.slice none 0 0)])) w := by kernel_rfl
theorem aR (n0 : Int) (w : World) : (gF 65 [(0, (.int .i64 n0))]).run pg w = .ok (.value (.agg #[(.int .i64 n0), (.slice none 0 0)])) w := by kernel_rfl
theorem aL (b o : Nat) (w : World) : (eB 65 (.pointer (some ⟨b, o, none⟩)) 0).run pg w = .ok (.value (.pointer (some ⟨b, o, none⟩))) w := iS (i := 0) Tryd.underlying65 rfl qF (by decide) _
theorem aG (b o : Nat) (w : World) : (eB 65 (.pointer (some ⟨b, o, none⟩)) 1).run pg w = .ok (.value (.pointer (some ⟨b, o + 1, none⟩))) w := iS (i := 1) Tryd.underlying65 rfl Ga (by decide) _
theorem aB (b o : Nat) (w : World) : (eB 70 (.pointer (some ⟨b, o, none⟩)) 0).run pg w = .ok (.value (.pointer (some ⟨b, o, none⟩))) w := iS (i := 0) Tryd.underlying70 rfl qF (by decide) _
theorem cZ {k : IntKind} {a : Int} (b o : Nat) (w : World) (h0 : 0 ≤ a) (h1 : a < 256) : (hX 106 (.pointer (some ⟨b, o, none⟩)) (.int k a)).run pg w = .ok (.value (.pointer (some ⟨b, o + a.toNat, none⟩))) w := Da rfl Tryd.underlying106 qF b o h0 (by simpa using h1)
theorem aH (b o : Nat) (w : World) : (eB 70 (.pointer (some ⟨b, o, none⟩)) 1).run pg w = .ok (.value (.pointer (some ⟨b, o + 1, none⟩))) w := iS (i := 1) Tryd.underlying70 rfl qF (by decide) _
theorem aF (b o : Nat) (w : World) : (eB 70 (.pointer (some ⟨b, o, none⟩)) 2).run pg w = .ok (.value (.pointer (some ⟨b, o + 2, none⟩))) w := iS (i := 2) Tryd.underlying70 rfl qF (by decide) _
theorem bN (a0 : Option Addr) (l0 c0 : Nat) (w : World) : (gF 113 [(0, (.slice a0 l0 c0))]).run pg w = .ok (.value (.agg #[(.slice a0 l0 c0), (.int .i64 0)])) w := by kernel_rfl
theorem bC {ox oy : Operand} (x : Option Addr) (w : World) : (dU .eql 81 ox oy (.pointer x) (.pointer none)).run pg w = .ok (.value (.bool x.isNone)) w := GA Tryd.underlying81 x
theorem Hj : (pg).info? 22 = some Tryd.t22 := by kernel_rfl
theorem bJ (b o : Nat) (w : World) : (eB 113 (.pointer (some ⟨b, o, none⟩)) 0).run pg w = .ok (.value (.pointer (some ⟨b, o, none⟩))) w := iS (i := 0) Tryd.underlying113 rfl Hj (by decide) _
theorem dD (x : Addr) (w : World) : (eC 22 (.pointer (some x))).run pg w = FR (w.cell? x) w (FT pg 22 x w) := Do Tryd.underlying22 rfl x w
theorem bD (b o : Nat) (w : World) : (eB 113 (.pointer (some ⟨b, o, none⟩)) 1).run pg w = .ok (.value (.pointer (some ⟨b, o + 1, none⟩))) w := iS (i := 1) Tryd.underlying113 rfl qF (by decide) _
theorem cF  (w : World) : (gF 116 []).run pg w = .ok (.value (.agg #[(.slice none 0 0), (.int .i64 0)])) w := by kernel_rfl
theorem bG {ox oy : Operand} (x : Option Addr) (w : World) : (dU .eql 91 ox oy (.pointer x) (.pointer none)).run pg w = .ok (.value (.bool x.isNone)) w := GA Tryd.underlying91 x
theorem bT (b o : Nat) (w : World) : (eB 116 (.pointer (some ⟨b, o, none⟩)) 1).run pg w = .ok (.value (.pointer (some ⟨b, o + 1, none⟩))) w := iS (i := 1) Tryd.underlying116 rfl qF (by decide) _
theorem bQ (b o : Nat) (w : World) : (eB 116 (.pointer (some ⟨b, o, none⟩)) 0).run pg w = .ok (.value (.pointer (some ⟨b, o, none⟩))) w := iS (i := 0) Tryd.underlying116 rfl Hj (by decide) _
theorem aK (n0 : Int) (a1 : Option Addr) (l1 c1 : Nat) (w : World) : (gF 65 [(0, (.int .i64 n0)), (1, (.slice a1 l1 c1))]).run pg w = .ok (.value (.agg #[(.int .i64 n0), (.slice a1 l1 c1)])) w := by kernel_rfl
theorem dS {ty : TypeId} (x : ByteArray) (w : World) : (lR .len #[9] ty [.string x]).run pg w = .ok (.value (.int .i64 x.size)) w := HN Tryd.underlying9 x
theorem H7 : (pg).info? 4 = some Tryd.t4 := by kernel_rfl
theorem Ib : (pg).info? 96 = some Tryd.t96 := by kernel_rfl
theorem aU (b o : Nat) (w : World) : (eB 99 (.pointer (some ⟨b, o, none⟩)) 0).run pg w = .ok (.value (.pointer (some ⟨b, o, none⟩))) w := iS (i := 0) Tryd.underlying99 rfl Ib (by decide) _
theorem dL (x : Addr) (w : World) : (eC 96 (.pointer (some x))).run pg w = FR (w.cell? x) w (FT pg 96 x w) := Do Tryd.underlying96 rfl x w
theorem dN {ty : TypeId} (x : Option Addr) (n c : Nat) (w : World) : (lR .len #[96] ty [.slice x n c]).run pg w = .ok (.value (.int .i64 n)) w := Bu Tryd.underlying96 x n c
theorem aM (b o : Nat) (w : World) : (eB 99 (.pointer (some ⟨b, o, none⟩)) 1).run pg w = .ok (.value (.pointer (some ⟨b, o + 1, none⟩))) w := iS (i := 1) Tryd.underlying99 rfl qF (by decide) _
theorem cI {k k' : IntKind} {lo hi : Int} (a : Option Addr) (n c : Nat) (w : World) (h0 : 0 ≤ lo) (h1 : lo ≤ hi) (h2 : hi ≤ c) : (jO 96 (.slice a n c) (some (.int k lo)) (some (.int k' hi)) none).run pg w = .ok (.value (.slice (oI a c (lo.toNat) 1) (hi.toNat - lo.toNat) (c - lo.toNat))) w := Dm Tryd.underlying96 H7 _ n c h0 h1 h2
theorem bY {k : IntKind} (a : Int) (w : World) : (mJ 5 83 (.int k a)).run pg w = .ok (.value (.int .u64 (IntKind.u64.wrap a))) w := tJ Tryd.underlying5 Tryd.underlying83
theorem dK {k : IntKind} {a : Int} (b o n c : Nat) (w : World) (h0 : 0 ≤ a) (h1 : a < n) : (hX 96 (.slice (some ⟨b, o, none⟩) n c) (.int k a)).run pg w = .ok (.value (.pointer (some ⟨b, o + a.toNat, none⟩))) w := wZ rfl Tryd.underlying96 H7 b o n c h0 h1
theorem eL (x : Addr) (w : World) : (eC 4 (.pointer (some x))).run pg w = FR (w.cell? x) w (FT pg 4 x w) := Do Tryd.underlying4 rfl x w
end Go.Proofs.YtoepfjgekpdddaaDoor
namespace Go.Pu
set_option linter.unusedVariables false
def gD (p : Int) : Int := if p < 0 then 1 else p
def CQ : Int → List Int → Bool
  | left, [] => left == 0
  | left, p :: r => if p < -1 ∨ left < gD p then false else CQ (left - gD p) r
def tY (ps : List Int) : Int := (ps.map gD).sum
def E0 (log : Int) (ps : List Int) : Bool := decide (5 ≤ log ∧ log ≤ 15 ∧ 1 ≤ ps.length ∧ ps.length ≤ 256 ∧ ps.getLast? ≠ some 0)
def CU (log : Int) (ps : List Int) : Bool := E0 log ps && CQ (2 ^ log.toNat) ps
theorem oM (p : Int) (ps : List Int) : tY (p :: ps) = gD p + tY ps := by simp [tY]
theorem By (a b : List Int) : tY (a ++ b) = tY a + tY b := by simp [tY]
theorem jN {p : Int} (h : -1 ≤ p) : 0 ≤ gD p := by unfold gD; split <;> omega
theorem BI {ps : List Int} (h : ∀ p ∈ ps, -1 ≤ p) : 0 ≤ tY ps := by
  induction ps with
  | nil => simp [tY]
  | cons p r ih =>
    rw [oM]
    have := jN (h p (by simp))
    have := ih fun q hq => h q (List.mem_cons_of_mem _ hq)
    omega
theorem DW : ∀ {ps : List Int} {left : Int}, CQ left ps = true ↔ (∀ p ∈ ps, -1 ≤ p) ∧ tY ps = left
  | [], left => by simp [CQ, tY]; constructor <;> intro h <;> omega
  | p :: r, left => by
    rw [CQ, oM]
    by_cases h : p < -1 ∨ left < gD p
    · rw [if_pos h]
      constructor
      · intro h; cases h
      · rintro ⟨h1, h2⟩
        have hp := h1 p (by simp)
        have := BI (ps := r) fun q hq => h1 q (List.mem_cons_of_mem _ hq)
        omega
    · rw [if_neg h, DW]
      constructor
      · rintro ⟨h1, h2⟩
        exact ⟨fun q hq => by rcases List.mem_cons.1 hq with rfl | hq; · omega
                              · exact h1 q hq, by omega⟩
      · rintro ⟨h1, h2⟩
        exact ⟨fun q hq => h1 q (List.mem_cons_of_mem _ hq), by omega⟩
structure EN (log : Nat) (ps : List Int) : Prop where
  log5 : 5 ≤ log
  log15 : log ≤ 15
  len1 : 1 ≤ ps.length
  len256 : ps.length ≤ 256
  last : ps.getLast? ≠ some 0
  low : ∀ p ∈ ps, -1 ≤ p
  sum : tY ps = 2 ^ log
theorem EN.b {log : Nat} {ps : List Int} (h : EN log ps) : CU log ps = true := by
  unfold CU E0
  simp only [Bool.and_eq_true, decide_eq_true_eq]
  have h1 := h.log5
  have h2 := h.log15
  refine ⟨⟨by omega, by omega, h.len1, h.len256, h.last⟩, ?_⟩
  rw [DW, Int.toNat_natCast]
  exact ⟨h.low, h.sum⟩
theorem Gm {log : Nat} (h : log ≤ 15) : (2 : Int) ^ log ≤ 32768 := by
  have : 2 ^ log ≤ 2 ^ 15 := Nat.pow_le_pow_right (by omega) h
  have e : ((2 ^ log : Nat) : Int) = (2 : Int) ^ log := by simp
  omega
theorem Gt (log : Nat) : (1 : Int) ≤ 2 ^ log := by
  have : 1 ≤ 2 ^ log := Nat.one_le_two_pow
  have e : ((2 ^ log : Nat) : Int) = (2 : Int) ^ log := by simp
  omega
theorem G2 {ps : List Int} (h : ∀ p ∈ ps, -1 ≤ p) {p : Int} (hp : p ∈ ps) : gD p ≤ tY ps := by
  induction ps with
  | nil => cases hp
  | cons q r ih =>
    rw [oM]
    have h0 := jN (h q (by simp))
    have h1 := BI (ps := r) fun q hq => h q (List.mem_cons_of_mem _ hq)
    rcases List.mem_cons.1 hp with rfl | hp
    · omega
    · have := ih (fun q hq => h q (List.mem_cons_of_mem _ hq)) hp
      omega
end Go.Pu
namespace Go.Proofs.YtoepfjgekpdddaaDoor
open Go Go.En Go.Pu
set_option maxRecDepth 4000
set_option linter.unusedSimpArgs false
set_option linter.unusedVariables false
theorem Dk (p : Int) (w : World) : gE pg jW #[.int .i64 p] w (fun r w' => r = .int .i64 (gD p) ∧ w' = w) := by
  refine Av ?_
  unfold gD
  by_cases h : p < 0
  · have d : decide (p < 0) = true := by simpa using h
    simp (disch := omega) only [uA, lT, cJ, eU, d, aD, and_true, cW]
    rw [if_pos h]
  · have d : decide (p < 0) = false := by simpa using h
    simp (disch := omega) only [uA, lT, cJ, eU, d, aD, and_true, cO]
    rw [if_neg h]
theorem CI {ps : List Int} (h : 0 < ps.length) : (ps.getLast? = some 0) ↔ ps[ps.length - 1]'(by omega) = 0 := by
  rw [List.getLast?_eq_getElem?, List.getElem?_eq_getElem (by omega)]
  simp
theorem H0 {log : Int} {sv : Value} {ps : List Int} {w : World} (hs : Sl w sv (ps.map (Value.int .i64))) (hl : ps.length ≤ 9223372036854775807) :
    gE pg qI #[.agg #[.int .i64 log, sv]] w (fun r w' => r = .bool (CU log ps) ∧ fS w w' jI) := by
  refine B8 ?_
  unfold CD sU sP
  obtain ⟨a, c, rfl, hc⟩ := hs.lenI
  refine uP fun w1 o1 x1 s1 => ?_
  have hs0 := hs
  have hs := hs.ext x1 (iL _)
  have c0 := o1.cell (off := 0)
  have c1 := o1.cell (off := 1)
  simp only [Value.cells, List.getElem?_cons_zero, List.getElem?_cons_succ] at c0 c1
  have no : ¬ (5 ≤ log ∧ log ≤ 15 ∧ 1 ≤ ps.length ∧ ps.length ≤ 256 ∧ ps.getLast? ≠ some 0) → CU log ps = false := fun h => by
    unfold CU E0; rw [decide_eq_false h] <;> rfl
  by_cases h1 : log < 5
  · have d1 : decide (log < 5) = true := by simpa using h1
    simp (disch := omega) only [cJ, aI, aD, aE, Nat.zero_add, eA, c0, cU, eU, d1, fB, eK, if_true, cW, dT]
    exact ⟨by rw [no (by omega)], x1⟩
  have d1 : decide (log < 5) = false := by simpa using h1
  by_cases h2 : 15 < log
  · have d2 : decide (15 < log) = true := by simpa using h2
    simp (disch := omega) only [cJ, aI, aD, aE, Nat.zero_add, eA, c0, cU, eU, d1, eT, eK, Bool.false_eq_true, if_false, dZ, fI, d2, fB, if_true, cW, dT]
    exact ⟨by rw [no (by omega)], x1⟩
  have d2 : decide (15 < log) = false := by simpa using h2
  by_cases h3 : ps.length < 1
  · have d3 : decide ((ps.length : Int) < 1) = true := by simp; omega
    simp (disch := omega) only [cJ, aI, aD, aE, Nat.zero_add, eA, c0, cU, eU, d1, eT, eK, Bool.false_eq_true, if_false, dZ, fI, d2, dH, c1, dI, d3, fB, if_true, cW, dT]
    exact ⟨by rw [no (by omega)], x1⟩
  have d3 : decide ((ps.length : Int) < 1) = false := by simp; omega
  by_cases h4 : 256 < ps.length
  · have d4 : decide ((256 : Int) < (ps.length : Int)) = true := by simp; omega
    simp (disch := omega) only [cJ, aI, aD, aE, Nat.zero_add, eA, c0, cU, eU, d1, eT, eK, Bool.false_eq_true, if_false, dZ, fI, d2, dH, c1, dI, d3, d4, fB, if_true, cW, dT]
    exact ⟨by rw [no (by omega)], x1⟩
  have d4 : decide ((256 : Int) < (ps.length : Int)) = false := by simp; omega
  obtain ⟨b, off, c', e, hc', hcell⟩ := hs.openI (by omega)
  cases e
  have e1 : ((ps.length : Int) - 1) = ((ps.length - 1 : Nat) : Int) := by omega
  have g1 := hcell (ps.length - 1) (by omega)
  by_cases h5 : ps[ps.length - 1]'(by omega) = 0
  · have d5 : (ps[ps.length - 1]'(by omega) == 0) = true := by simpa using h5
    simp (disch := omega) only [cJ, aI, aD, aE, Nat.zero_add, eA, c0, cU, eU, d1, eT, eK, Bool.false_eq_true, if_false, dZ, fI, d2, dH, c1, dI, d3, d4, fN, e1, eE, dJ, Int.toNat_natCast, g1, fW, d5, fX, cW]
    exact ⟨by rw [no (fun h => h.2.2.2.2 ((CI (by omega)).2 h5))], x1⟩
  have d5 : (ps[ps.length - 1]'(by omega) == 0) = false := by simpa using h5
  obtain ⟨l, rfl⟩ : ∃ l : Nat, log = l := ⟨log.toNat, by omega⟩
  have hsh : IntKind.i64.wrap (1 * 2 ^ (min l IntKind.i64.bits)) = (2 : Int) ^ l := by
    have : ∀ k : Fin 16, IntKind.i64.wrap (1 * 2 ^ (min k.val IntKind.i64.bits)) = (2 : Int) ^ k.val := by decide
    exact this ⟨l, by omega⟩
  have hyes : CU (l : Int) ps = CQ (2 ^ l) ps := by
    unfold CU E0
    rw [decide_eq_true ⟨by omega, by omega, by omega, by omega, fun h => h5 ((CI (by omega)).1 h)⟩, Int.toNat_natCast] <;> rfl
  simp (disch := omega) only [cJ, aI, aD, aE, Nat.zero_add, eA, c0, cU, eU, d1, eT, eK, Bool.false_eq_true, if_false, dZ, fI, d2, dH, c1, dI, d3, d4, fN, e1, eE, dJ, Int.toNat_natCast, g1, fW, d5, fX, hsh, cO]
  unfold oS tD sY pI tH
  simp (disch := omega) only [cJ, aE, Nat.zero_add, aD, dH, c1, cU, dI]
  have hp15 := Gm (log := l) (by omega)
  have hp1 := Gt l
  refine iY.rule (fun m t w' => ∃ (i : Nat) (left : Int), m = ps.length - i ∧ t = (.int .i64 left, .int .i64 i) ∧ i ≤ ps.length ∧ 0 ≤ left ∧ left ≤ 32768 ∧ CQ (2 ^ l) ps = CQ left (ps.drop i) ∧ fS w w' jI) ps.length
    ⟨0, 2 ^ l, rfl, rfl, by omega, by omega, hp15, rfl, x1⟩ ?_
  rintro m t w2 ⟨i, left, rfl, rfl, hi, hl0, hl1, hf, x2⟩
  by_cases hlt : i < ps.length
  · have d6 : decide ((i : Int) < (ps.length : Int)) = true := by simp; omega
    have hsw := hs0.ext x2 (iL _)
    obtain ⟨b', off', c', e, _, hcell2⟩ := hsw.openI (by omega)
    cases e
    have g2 := hcell2 i hlt
    have hd : ps.drop i = ps[i] :: ps.drop (i + 1) := List.drop_eq_getElem_cons hlt
    rw [hd, CQ] at hf
    by_cases h6 : ps[i] < -1
    · have d7 : decide (ps[i] < -1) = true := by simpa using h6
      simp (disch := omega) only [kK, cJ, eU, d6, dJ, Int.toNat_natCast, fA, eE, aD, eA, g2, cU, d7, fB, eK, if_true, cW, dT]
      rw [if_pos (.inl h6)] at hf
      exact ⟨by rw [hyes, hf], x2⟩
    have d7 : decide (ps[i] < -1) = false := by simpa using h6
    simp (disch := omega) only [kK, cJ, eU, d6, dJ, Int.toNat_natCast, fA, eE, aD, eA, g2, cU, d7, eT, eK, Bool.false_eq_true, if_false, dZ, cW]
    refine (Dk _ _).mono ?_
    rintro r w3 ⟨rfl, rfl⟩
    by_cases h7 : left < gD ps[i]
    · have d8 : decide (left < gD ps[i]) = true := by simpa using h7
      simp (disch := omega) only [fI, d8, aD, cW]
      rw [if_pos (.inr h7)] at hf
      exact ⟨by rw [hyes, hf], x2⟩
    have d8 : decide (left < gD ps[i]) = false := by simpa using h7
    simp (disch := omega) only [fI, d8, aD, cO]
    refine (Dk _ _).mono ?_
    rintro r w3 ⟨rfl, rfl⟩
    rw [if_neg (by omega)] at hf
    have hpn := jN (p := ps[i]) (by omega)
    simp (disch := omega) only [fN, eE, aD]
    exact ⟨ps.length - (i + 1), by omega, i + 1, left - gD ps[i], rfl, rfl, by omega, by omega, by omega, hf, x2⟩
  · have d6 : decide ((i : Int) < (ps.length : Int)) = false := by simp; omega
    rw [List.drop_of_length_le (by omega), CQ] at hf
    unfold kK oQ
    simp (disch := omega) only [cJ, eU, d6, fA, eE, aD, fW, cO]
    exact ⟨by rw [hyes, hf], x2⟩
end Go.Proofs.YtoepfjgekpdddaaDoor
namespace Go.Pu
set_option linter.unusedVariables false
def Hm (n a : Nat) : Nat := (a + n / 2 + n / 8 + 3) % n
def Bg (n high : Nat) : Nat → Nat → Nat
  | 0, a => a
  | f + 1, a => if a < high then a else Bg n high f (Hm n a)
def CK : List Int → Nat → Nat → List Int → Nat × List Int
  | [], _, high, arr => (high, arr)
  | p :: r, s, high, arr => if p = -1 then CK r (s + 1) (high - 1) (arr.set (high - 1) s) else CK r (s + 1) high arr
def jQ : List Int → Nat → List Nat
  | [], _ => []
  | p :: r, s => List.replicate p.toNat s ++ jQ r (s + 1)
def sL (n high : Nat) : List Nat → Nat → List Int → List Int
  | [], _, arr => arr
  | s :: r, a, arr => sL n high r (Bg n high n (Hm n a)) (arr.set a s)
def qK (x0 : Int) (log : Nat) (ps : List Int) : List Int :=
  sL (2 ^ log) (CK ps 0 (2 ^ log) (List.replicate (2 ^ log) x0)).1 (jQ ps 0) 0 (CK ps 0 (2 ^ log) (List.replicate (2 ^ log) x0)).2
def pos (n j : Nat) : Nat := (j * (n / 2 + n / 8 + 3)) % n
theorem xA (n j : Nat) : Hm n (pos n j) = pos n (j + 1) := by
  unfold Hm pos
  rw [Nat.add_assoc, Nat.add_assoc, Nat.mod_add_mod, Nat.add_mul, Nat.one_mul, Nat.add_assoc]
theorem GW {s : Nat} (hs : s % 2 = 1) : ∀ (k x : Nat), 2 ^ k ∣ s * x → 2 ^ k ∣ x := by
  intro k
  induction k with
  | zero => intro x _; simp
  | succ k ih =>
    intro x h
    have h2 : 2 ∣ s * x := Nat.dvd_trans ⟨2 ^ k, by rw [Nat.pow_succ, Nat.mul_comm]⟩ h
    have hx : x % 2 = 0 := by
      have : (s * x) % 2 = 0 := Nat.mod_eq_zero_of_dvd h2
      rw [Nat.mul_mod, hs, Nat.one_mul, Nat.mod_mod] at this
      exact this
    obtain ⟨y, rfl⟩ : ∃ y, x = 2 * y := ⟨x / 2, by omega⟩
    rw [Nat.pow_succ, Nat.mul_comm (2 ^ k) 2, show s * (2 * y) = 2 * (s * y) by rw [Nat.mul_left_comm]] at h
    rw [Nat.pow_succ, Nat.mul_comm (2 ^ k) 2]
    exact Nat.mul_dvd_mul_left 2 (ih y (Nat.dvd_of_mul_dvd_mul_left (by omega) h))
theorem Gi {log : Nat} (h : 5 ≤ log) : (2 ^ log / 2 + 2 ^ log / 8 + 3) % 2 = 1 := by
  obtain ⟨k, rfl⟩ : ∃ k, log = k + 5 := ⟨log - 5, by omega⟩
  have : 2 ^ (k + 5) = 32 * 2 ^ k := by rw [Nat.pow_add, Nat.mul_comm]
  omega
theorem G1 {log : Nat} (h : 5 ≤ log) {i j : Nat} (hij : i < j) (hj : j < 2 ^ log) : pos (2 ^ log) i ≠ pos (2 ^ log) j := by
  unfold pos
  generalize hst : 2 ^ log / 2 + 2 ^ log / 8 + 3 = st
  have hodd : st % 2 = 1 := by rw [← hst]; exact Gi h
  intro e
  have hle : i * st ≤ j * st := Nat.mul_le_mul_right _ (by omega)
  have hd : 2 ^ log ∣ st * (j - i) := by
    rw [Nat.mul_comm, Nat.sub_mul]
    exact Nat.dvd_of_mod_eq_zero (Nat.sub_mod_eq_zero_of_mod_eq e.symm)
  have := Nat.le_of_dvd (by omega) (GW hodd _ _ hd)
  omega
theorem F1 : ∀ (n : Nat) (l : List Nat), l.Nodup → (∀ a ∈ l, a < n) → l.length ≤ n := by
  intro n
  induction n with
  | zero => intro l _ h; cases l with
    | nil => simp
    | cons a r => exact absurd (h a (by simp)) (by omega)
  | succ n ih =>
    intro l hd h
    by_cases hn : n ∈ l
    · have := ih (l.erase n) (hd.erase n) (fun a ha => by
        have h1 := h a (List.mem_of_mem_erase ha)
        have h2 : a ≠ n := fun e => by subst e; exact hd.not_mem_erase ha
        omega)
      rw [List.length_erase_of_mem hn] at this
      omega
    · have := ih l hd (fun a ha => by
        have h1 := h a ha
        have h2 : a ≠ n := fun e => by subst e; exact hn ha
        omega)
      omega
theorem FB {n : Nat} {l : List Nat} (hd : l.Nodup) (h : ∀ a ∈ l, a < n) (hl : l.length = n) {a : Nat} (ha : a < n) : a ∈ l := by
  refine Classical.byContradiction fun hn => ?_
  have := F1 n (a :: l) (List.nodup_cons.2 ⟨hn, hd⟩) (fun b hb => (List.mem_cons.1 hb).elim (fun e => e ▸ ha) (h b))
  simp at this; omega
def iH (n high j : Nat) : List Nat := ((List.range' j (n - j)).map (pos n)).filter (· < high)
theorem wC {n high j : Nat} (h : j < n) : iH n high j = if pos n j < high then pos n j :: iH n high (j + 1) else iH n high (j + 1) := by
  unfold iH
  rw [show n - j = (n - (j + 1)) + 1 from by omega, List.range'_succ, List.map_cons, List.filter_cons]
  simp
theorem Ai (n high : Nat) : iH n high n = [] := by unfold iH; simp
theorem ED {n : Nat} (h : 0 < n) (j : Nat) : pos n j < n := Nat.mod_lt _ h
theorem Cm (n : Nat) : pos n 0 = 0 := by simp [pos]
theorem H8 (n : Nat) : pos n n = 0 := by simp [pos, Nat.mul_mod_right]
theorem FC {n high : Nat} (hh : 0 < high) : ∀ (d j f : Nat), j + d = n → d ≤ f → Bg n high f (pos n j) = (iH n high j).headD 0 := by
  intro d
  induction d with
  | zero =>
    intro j f hj _
    obtain rfl : j = n := by omega
    rw [Ai, H8]
    cases f with
    | zero => rfl
    | succ f => unfold Bg; rw [if_pos hh] <;> rfl
  | succ d ih =>
    intro j f hj hf
    obtain ⟨f, rfl⟩ : ∃ g, f = g + 1 := ⟨f - 1, by omega⟩
    rw [wC (by omega)]
    unfold Bg
    split
    · rfl
    · rw [xA]; exact ih (j + 1) f (by omega) (by omega)
def vV : List (Nat × Nat) → List Int → List Int
  | [], arr => arr
  | (q, s) :: r, arr => vV r (arr.set q s)
theorem Eu {n high : Nat} (hh : 0 < high) : ∀ (syms : List Nat) (j a : Nat) (arr : List Int), j ≤ n → syms.length ≤ (iH n high j).length → (syms ≠ [] → (iH n high j).headD 0 = a) →
    sL n high syms a arr = vV ((iH n high j).zip syms) arr := by
  intro syms
  induction syms with
  | nil => intro j a arr _ _ _; simp [sL, vV]
  | cons s r ih =>
    intro j a arr hj hlen ha
    have ha := ha (by simp)
    have key : ∀ (d j : Nat), j + d = n → (s :: r).length ≤ (iH n high j).length → (iH n high j).headD 0 = a → ∃ i, i < n ∧ j ≤ i ∧ pos n i = a ∧ iH n high j = a :: iH n high (i + 1) := by
      intro d
      induction d with
      | zero =>
        intro j hj hl _
        obtain rfl : j = n := by omega
        rw [Ai] at hl; simp at hl
      | succ d ihd =>
        intro j hj hl hd
        have e := wC (high := high) (show j < n by omega)
        by_cases hp : pos n j < high
        · rw [if_pos hp] at e
          rw [e] at hd
          have : pos n j = a := hd
          exact ⟨j, by omega, Nat.le_refl _, this, by rw [e, this]⟩
        · rw [if_neg hp] at e
          rw [e] at hl hd ⊢
          obtain ⟨i, h1, h2, h3, h4⟩ := ihd (j + 1) (by omega) hl hd
          exact ⟨i, h1, by omega, h3, h4⟩
    obtain ⟨i, h1, h2, h3, h4⟩ := key (n - j) j (by omega) hlen ha
    rw [h4] at hlen ⊢
    simp only [List.length_cons] at hlen
    rw [sL, List.zip_cons_cons, vV]
    refine ih (i + 1) _ _ (by omega) (by omega) (fun hr => ?_)
    rw [← h3, xA]
    exact (FC hh (n - (i + 1)) (i + 1) n (by omega) (by omega)).symm
end Go.Pu
namespace Go.Pu
set_option linter.unusedVariables false
def jU : List Int → Nat → List Nat
  | [], _ => []
  | p :: r, s => if p = -1 then s :: jU r (s + 1) else jU r (s + 1)
def DI (l : List Nat) : List Int := l.map Int.ofNat
theorem C4 : ∀ (ps : List Int) (s high : Nat) (arr : List Int), (jU ps s).length ≤ high → high ≤ arr.length →
    CK ps s high arr = (high - (jU ps s).length, arr.take (high - (jU ps s).length) ++ DI (jU ps s).reverse ++ arr.drop high) := by
  intro ps
  induction ps with
  | nil => intro s high arr h1 h2; simp [CK, jU, DI]
  | cons p r ih =>
    intro s high arr h1 h2
    unfold CK jU
    unfold jU at h1
    by_cases hp : p = -1
    · rw [if_pos hp, if_pos hp]
      rw [if_pos hp] at h1
      simp only [List.length_cons] at h1 ⊢
      rw [ih (s + 1) (high - 1) _ (by omega) (by simp; omega)]
      congr 1
      · omega
      · have hlt : high - 1 < arr.length := by omega
        rw [List.take_set_of_le (by omega), show high - 1 - (jU r (s + 1)).length = high - ((jU r (s + 1)).length + 1) from by omega]
        have : (arr.set (high - 1) (s : Int)).drop (high - 1) = (s : Int) :: arr.drop high := by
          rw [List.drop_eq_getElem_cons (by simp; omega)]
          simp only [List.getElem_set_self]
          rw [show high - 1 + 1 = high from by omega, List.drop_set_of_lt (by omega)]
        rw [this]
        simp [DI]
    · rw [if_neg hp, if_neg hp]
      rw [if_neg hp] at h1
      exact ih (s + 1) high arr h1 h2
theorem Ab : ∀ (l : List (Nat × Nat)) (arr : List Int), (vV l arr).length = arr.length
  | [], _ => rfl
  | (q, s) :: r, arr => by rw [vV, Ab]; simp
theorem wG {q : Nat} : ∀ (l : List (Nat × Nat)) (arr : List Int), (∀ x ∈ l, x.1 ≠ q) → (vV l arr)[q]? = arr[q]?
  | [], _, _ => rfl
  | (a, s) :: r, arr, h => by
    rw [vV, wG r _ fun x hx => h x (List.mem_cons_of_mem _ hx), List.getElem?_set_ne (h (a, s) (by simp))]
theorem Fn : ∀ (us : List Nat) (ss : List Nat) (arr : List Int) (t : Nat), us.Nodup → us.length = ss.length → (∀ q ∈ us, q < arr.length) → (ht : t < us.length) → (ht' : t < ss.length) →
    (vV (us.zip ss) arr)[us[t]]? = some (ss[t] : Int) := by
  intro us
  induction us with
  | nil => intro ss arr t _ _ _ ht; simp at ht
  | cons u us ih =>
    intro ss arr t hd hl hb ht ht'
    cases ss with
    | nil => simp at hl
    | cons x ss =>
      obtain ⟨h1, h2⟩ := List.nodup_cons.1 hd
      rw [List.zip_cons_cons, vV]
      cases t with
      | zero =>
        simp only [List.getElem_cons_zero]
        rw [wG _ _ (fun y hy => fun e => h1 (by have := (List.of_mem_zip (a := y.1) (b := y.2) hy).1; rw [e] at this; exact this))]
        have : u < arr.length := hb u (by simp)
        simp [this]
      | succ t =>
        simp only [List.getElem_cons_succ]
        exact ih ss _ t h2 (by simpa using hl) (fun q hq => by simpa using hb q (List.mem_cons_of_mem _ hq)) (by simpa using ht) (by simpa using ht')
theorem CC : ∀ (n : Nat) (l : List Nat), l.Nodup → (∀ a ∈ l, a < n) → l.length = n → l.Perm (List.range n) := by
  intro n
  induction n with
  | zero => intro l _ _ h; rw [List.length_eq_zero_iff.1 h]; exact List.Perm.refl _
  | succ n ih =>
    intro l hd h hl
    have hn : n ∈ l := FB hd h hl (by omega)
    have p1 := List.perm_cons_erase hn
    have p2 := ih (l.erase n) (hd.erase n) (fun a ha => by
      have h1 := h a (List.mem_of_mem_erase ha)
      have h2 : a ≠ n := fun e => by subst e; exact hd.not_mem_erase ha
      omega) (by rw [List.length_erase_of_mem hn]; omega)
    rw [List.range_succ]
    exact p1.trans ((p2.cons n).trans (List.perm_append_singleton n _).symm)
theorem DZ : ∀ (ps : List Int) (s : Nat), (∀ p ∈ ps, -1 ≤ p) → ((jQ ps s).length : Int) + (jU ps s).length = tY ps := by
  intro ps
  induction ps with
  | nil => intro s _; simp [jQ, jU, tY]
  | cons p r ih =>
    intro s h
    have := ih (s + 1) fun q hq => h q (List.mem_cons_of_mem _ hq)
    have hp := h p (by simp)
    rw [oM]
    unfold jQ jU gD
    by_cases h1 : p = -1
    · rw [if_pos h1, if_pos (by omega)]; subst h1; simp; omega
    · rw [if_neg h1, if_neg (by omega)]; simp; omega
theorem EM : ∀ (ps : List Int) (s i : Nat), (jQ ps s).count (s + i) = if h : i < ps.length then ps[i].toNat else 0 := by
  intro ps
  induction ps with
  | nil => intro s i; simp [jQ]
  | cons p r ih =>
    intro s i
    have low : ∀ (ps : List Int) (s a : Nat), a < s → (jQ ps s).count a = 0 := by
      intro ps
      induction ps with
      | nil => intro s a _; simp [jQ]
      | cons p r ih =>
        intro s a h
        unfold jQ
        rw [List.count_append, ih (s + 1) a (by omega), List.count_replicate]
        simp; omega
    unfold jQ
    rw [List.count_append, List.count_replicate]
    cases i with
    | zero => rw [Nat.add_zero, low r (s + 1) s (by omega)]; simp
    | succ i =>
      rw [show s + (i + 1) = s + 1 + i from by omega, ih (s + 1) i]
      have : (s == s + 1 + i) = false := by simp; omega
      rw [this]; simp
theorem EB : ∀ (ps : List Int) (s i : Nat), (jU ps s).count (s + i) = if h : i < ps.length then (if ps[i] = -1 then 1 else 0) else 0 := by
  intro ps
  induction ps with
  | nil => intro s i; simp [jU]
  | cons p r ih =>
    intro s i
    have low : ∀ (ps : List Int) (s a : Nat), a < s → (jU ps s).count a = 0 := by
      intro ps
      induction ps with
      | nil => intro s a _; simp [jU]
      | cons p r ih =>
        intro s a h
        unfold jU
        split
        · rw [List.count_cons, ih (s + 1) a (by omega)]; simp; omega
        · exact ih (s + 1) a (by omega)
    unfold jU
    cases i with
    | zero =>
      rw [Nat.add_zero]
      by_cases h : p = -1
      · rw [if_pos h, List.count_cons, low r (s + 1) s (by omega)]; simp [h]
      · rw [if_neg h, low r (s + 1) s (by omega)]; simp [h]
    | succ i =>
      have e : s + (i + 1) = s + 1 + i := by omega
      by_cases h : p = -1
      · rw [if_pos h, List.count_cons, e, ih (s + 1) i]
        have : (s == s + 1 + i) = false := by simp; omega
        rw [this]; simp
      · rw [if_neg h, e, ih (s + 1) i]; simp
theorem GQ : ∀ (ps : List Int) (s i : Nat) (h : i < ps.length), ps[i] = -1 → (jU ps s)[(ps.take i).count (-1)]? = some (s + i) := by
  intro ps
  induction ps with
  | nil => intro s i h; simp at h
  | cons p r ih =>
    intro s i h hp
    unfold jU
    cases i with
    | zero => simp only [List.getElem_cons_zero] at hp; rw [if_pos hp]; simp
    | succ i =>
      simp only [List.getElem_cons_succ] at hp
      have := ih (s + 1) i (by simpa using h) hp
      rw [List.take_succ_cons, List.count_cons]
      by_cases h1 : p = -1
      · rw [if_pos h1]; simp only [h1, beq_self_eq_true, if_true, List.getElem?_cons_succ]; rw [this]; congr 1; omega
      · rw [if_neg h1]
        have : (p == -1) = false := by simpa using h1
        rw [this]; simp only [Bool.false_eq_true, if_false, Nat.add_zero]
        rw [‹(jU r (s + 1))[_]? = _›]; congr 1; omega
theorem CR {log high : Nat} (hl : 5 ≤ log) (hh : high ≤ 2 ^ log) : (iH (2 ^ log) high 0).Nodup ∧ (∀ a ∈ iH (2 ^ log) high 0, a < high) ∧ (iH (2 ^ log) high 0).length = high := by
  have hn : 0 < 2 ^ log := Nat.two_pow_pos log
  have hnd : ((List.range (2 ^ log)).map (pos (2 ^ log))).Nodup := by
    rw [List.nodup_iff_pairwise_ne, List.pairwise_map]
    refine List.pairwise_iff_getElem.2 fun i j hi hj hij => ?_
    simp only [List.length_range] at hi hj
    simp only [List.getElem_range]
    exact G1 hl hij hj
  have hp := CC (2 ^ log) _ hnd (fun a ha => by
    obtain ⟨j, _, rfl⟩ := List.mem_map.1 ha
    exact ED hn j) (by simp)
  unfold iH
  rw [Nat.sub_zero, ← List.range_eq_range']
  refine ⟨hnd.filter _, fun a ha => by simpa using (List.mem_filter.1 ha).2, ?_⟩
  rw [(hp.filter _).length_eq]
  have : ∀ m : Nat, high ≤ m → ((List.range m).filter (· < high)).length = high := by
    intro m
    induction m with
    | zero => intro h; simp; omega
    | succ m ih =>
      intro h
      rw [List.range_succ, List.filter_append, List.length_append]
      by_cases hm : high ≤ m
      · rw [ih hm]; simp; omega
      · have : high = m + 1 := by omega
        subst this
        have : (List.range m).filter (fun x => decide (x < m + 1)) = List.range m := List.filter_eq_self.2 fun a ha => by have := List.mem_range.1 ha; simp; omega
        rw [this]; simp
  exact this _ hh
structure Ih (log : Nat) (ps : List Int) (S : List Int) : Prop where
  len : S.length = 2 ^ log
  cnt : ∀ s (h : s < ps.length), S.count (s : Int) = (gD ps[s]).toNat
  rng : ∀ x ∈ S, ∃ s : Nat, s < ps.length ∧ x = s
  top : ∀ s (h : s < ps.length), ps[s] = -1 → S[2 ^ log - 1 - (ps.take s).count (-1)]? = some (s : Int)
theorem Db (l : List Nat) (s : Nat) : (DI l).count (s : Int) = l.count s := by
  induction l with
  | nil => rfl
  | cons a r ih =>
    show List.count _ (Int.ofNat a :: DI r) = _
    rw [List.count_cons, List.count_cons, ih]
    congr 1
    by_cases h : a = s
    · subst h; simp
    · simp [h]; omega
theorem FZ : ∀ (ps : List Int) (s : Nat), ∀ x ∈ jQ ps s, s ≤ x ∧ x < s + ps.length := by
  intro ps
  induction ps with
  | nil => intro s x h; simp [jQ] at h
  | cons p r ih =>
    intro s x h
    unfold jQ at h
    rcases List.mem_append.1 h with h | h
    · have := (List.mem_replicate.1 h).2; simp; omega
    · have := ih (s + 1) x h; simp; omega
theorem F3 : ∀ (ps : List Int) (s : Nat), ∀ x ∈ jU ps s, s ≤ x ∧ x < s + ps.length := by
  intro ps
  induction ps with
  | nil => intro s x h; simp [jU] at h
  | cons p r ih =>
    intro s x h
    unfold jU at h
    split at h
    · rcases List.mem_cons.1 h with rfl | h
      · simp
      · have := ih (s + 1) x h; simp; omega
    · have := ih (s + 1) x h; simp; omega
theorem Ec {log : Nat} {ps : List Int} (h : EN log ps) (x0 : Int) :
    ∃ low : List Int, qK x0 log ps = low ++ DI (jU ps 0).reverse ∧ low.Perm (DI (jQ ps 0)) ∧ ((jU ps 0).length + low.length = 2 ^ log) ∧
      (∀ t (h1 : t < (iH (2 ^ log) (jQ ps 0).length 0).length) (h2 : t < (jQ ps 0).length), low[(iH (2 ^ log) (jQ ps 0).length 0)[t]]? = some ((jQ ps 0)[t] : Int)) := by
  have hrl := DZ ps 0 h.low
  rw [h.sum] at hrl
  have hpow : ((2 ^ log : Nat) : Int) = (2 : Int) ^ log := by simp
  obtain ⟨m, hm⟩ : ∃ m, m = (jU ps 0).length := ⟨_, rfl⟩
  obtain ⟨hi, hhi⟩ : ∃ x, x = (jQ ps 0).length := ⟨_, rfl⟩
  rw [← hm, ← hhi] at hrl
  have hsum : hi + m = 2 ^ log := by omega
  have ht := C4 ps 0 (2 ^ log) (List.replicate (2 ^ log) x0) (by omega) (by simp)
  rw [← hm, show 2 ^ log - m = hi from by omega] at ht
  have e2 : (List.replicate (2 ^ log) x0).take hi = List.replicate hi x0 := by rw [List.take_replicate]; congr 1; omega
  have e3 : (List.replicate (2 ^ log) x0).drop (2 ^ log) = [] := by simp
  rw [e2, e3, List.append_nil] at ht
  unfold qK
  rw [ht]
  simp only
  obtain ⟨u1, u2, u3⟩ := CR (high := hi) h.log5 (by omega)
  by_cases h0 : hi = 0
  · have hr : jQ ps 0 = [] := List.length_eq_zero_iff.1 (by omega)
    rw [hr, h0]
    refine ⟨[], by simp [sL], by simp [DI], by simp; omega, fun t _ h2 => by simp at h2⟩
  · have hp := Eu (n := 2 ^ log) (high := hi) (by omega) (jQ ps 0) 0 0 (List.replicate hi x0 ++ DI (jU ps 0).reverse) (by omega) (by rw [u3]; omega) (fun _ => by
      rw [wC (Nat.two_pow_pos log), Cm, if_pos (by omega)] <;> rfl)
    rw [hp]
    generalize hU : iH (2 ^ log) hi 0 = U at *
    have hb : ∀ q ∈ U, q < (List.replicate hi x0 ++ DI (jU ps 0).reverse).length := fun q hq => by have := u2 q hq; simp; omega
    obtain ⟨R, hR⟩ : ∃ R, R = vV (U.zip (jQ ps 0)) (List.replicate hi x0 ++ DI (jU ps 0).reverse) := ⟨_, rfl⟩
    have hRl : R.length = hi + m := by rw [hR, Ab]; simp [DI, hm]
    have hRd : R.drop hi = DI (jU ps 0).reverse := by
      apply List.ext_getElem?
      intro i
      rw [List.getElem?_drop, hR, wG _ _ (fun x hx => by
        have := u2 _ (List.of_mem_zip (a := x.1) (b := x.2) hx).1
        omega), List.getElem?_append_right (by simp)]
      simp
    have hget : ∀ t (h1 : t < U.length) (h2 : t < (jQ ps 0).length), R[U[t]]? = some ((jQ ps 0)[t] : Int) := fun t h1 h2 => by
      rw [hR]; exact Fn U _ _ t u1 (by omega) hb h1 h2
    rw [← hR]
    refine ⟨R.take hi, by rw [← hRd, List.take_append_drop], ?_, by rw [List.length_take]; omega, fun t h1 h2 => ?_⟩
    · have p1 : (U.map fun q => R.getD q 0).Perm ((List.range hi).map fun q => R.getD q 0) := (CC hi U u1 u2 u3).map _
      have p2 : (U.map fun q => R.getD q 0) = DI (jQ ps 0) := by
        apply List.ext_getElem
        · simp [DI]; omega
        · intro t h1 h2
          simp only [List.length_map] at h1
          have := hget t h1 (by omega)
          simp only [List.getElem_map, DI, List.getD_eq_getElem?_getD, this]
          rfl
      have p3 : ((List.range hi).map fun q => R.getD q 0) = R.take hi := by
        apply List.ext_getElem
        · simp; omega
        · intro q h1 h2
          simp only [List.length_map, List.length_range] at h1
          simp only [List.getElem_map, List.getElem_range, List.getElem_take, List.getD_eq_getElem?_getD]
          rw [List.getElem?_eq_getElem (by omega)] <;> rfl
      rw [p2, p3] at p1
      exact p1.symm
    · subst hhi
      simp only [hU] at h1 ⊢
      have := hget t h1 h2
      rw [List.getElem?_take_of_lt (u2 _ (List.getElem_mem h1))]
      exact this
theorem Ev {log : Nat} {ps : List Int} (h : EN log ps) (x0 : Int) : Ih log ps (qK x0 log ps) := by
  obtain ⟨low, e, hp, hl, _⟩ := Ec h x0
  rw [e]
  refine ⟨by simp [DI]; omega, fun s hs => ?_, fun x hx => ?_, fun s hs hps => ?_⟩
  · rw [List.count_append, hp.count_eq, Db, Db, List.count_reverse]
    have h1 := EM ps 0 s
    have h2 := EB ps 0 s
    rw [Nat.zero_add] at h1 h2
    rw [h1, h2, dif_pos hs, dif_pos hs]
    have := h.low _ (List.getElem_mem hs)
    unfold gD
    split <;> split <;> omega
  · rcases List.mem_append.1 hx with hx | hx
    · have hx := hp.mem_iff.1 hx
      obtain ⟨s, hs, rfl⟩ := List.mem_map.1 hx
      exact ⟨s, by have := FZ ps 0 s hs; omega, rfl⟩
    · obtain ⟨s, hs, rfl⟩ := List.mem_map.1 hx
      exact ⟨s, by have := F3 ps 0 s (List.mem_reverse.1 hs); omega, rfl⟩
  · have h1 := GQ ps 0 s hs hps
    rw [Nat.zero_add] at h1
    have hlt : (ps.take s).count (-1) < (jU ps 0).length := by
      rcases Nat.lt_or_ge ((ps.take s).count (-1)) (jU ps 0).length with h | h
      · exact h
      · rw [List.getElem?_eq_none h] at h1; cases h1
    rw [List.getElem?_append_right (by omega)]
    unfold DI
    rw [List.getElem?_map, List.getElem?_reverse (by omega), show (jU ps 0).length - 1 - (2 ^ log - 1 - List.count (-1) (List.take s ps) - low.length) = (ps.take s).count (-1) from by omega, h1]
    rfl
end Go.Pu
namespace Go.Pu
set_option linter.unusedVariables false
def bl (k : Nat) : Nat := if k = 0 then 0 else k.log2 + 1
theorem DT (k : Nat) : k < 2 ^ bl k := by
  unfold bl
  split
  · subst_vars; simp
  · exact Nat.lt_log2_self
theorem Ee {k : Nat} (h : k ≠ 0) : 2 ^ (bl k - 1) ≤ k := by
  unfold bl
  rw [if_neg h, Nat.add_sub_cancel]
  exact Nat.log2_self_le h
theorem Dv {k : Nat} (h : k ≠ 0) : 1 ≤ bl k := by unfold bl; rw [if_neg h]; omega
theorem zM {k n : Nat} (h : k < 2 ^ n) : bl k ≤ n := by
  by_cases h0 : k = 0
  · subst h0; simp [bl]
  · rcases Nat.lt_or_ge n (bl k) with hh | hh
    · have h1 := Ee h0
      have := Nat.pow_le_pow_right (n := 2) (by omega) (show n ≤ bl k - 1 by omega)
      omega
    · exact hh
theorem H5 {k n : Nat} (h1 : 2 ^ n ≤ k) (h2 : k < 2 ^ (n + 1)) : bl k = n + 1 := by
  have h0 : k ≠ 0 := by have := Nat.two_pow_pos n; omega
  have a := zM h2
  have b := DT k
  rcases Nat.lt_or_ge (bl k) (n + 1) with h | h
  · have := Nat.pow_le_pow_right (n := 2) (by omega) (show bl k ≤ n by omega)
    omega
  · omega
def Im (ps S : List Int) (i : Nat) : Nat := (gD (ps.getD (S.getD i 0).toNat 0)).toNat + (S.take i).count (S.getD i 0)
def BH (log : Nat) (x : Int) (k : Nat) : Int × Int × Int := (x, ((log + 1 - bl k : Nat) : Int), ((k * 2 ^ (log + 1 - bl k) : Nat) : Int) - 2 ^ log)
def Ea (log : Nat) (ps S : List Int) (i : Nat) : Int × Int × Int := BH log (S.getD i 0) (Im ps S i)
def mD (log : Nat) (ps : List Int) : List (Int × Int × Int) := (List.range (2 ^ log)).map (Ea log ps (qK 0 log ps))
theorem xJ (log : Nat) (ps : List Int) : (mD log ps).length = 2 ^ log := by simp [mD]
theorem CP {S : List Int} {i : Nat} (h : i < S.length) : (S.take i).count S[i] + 1 ≤ S.count S[i] := by
  have e : S = S.take i ++ S[i] :: S.drop (i + 1) := by rw [← List.drop_eq_getElem_cons h, List.take_append_drop]
  have : S.count S[i] = (S.take i ++ S[i] :: S.drop (i + 1)).count S[i] := by rw [← e]
  rw [this, List.count_append, List.count_cons]; simp
theorem CE {log : Nat} {ps : List Int} (h : EN log ps) {s : Nat} (hs : s < ps.length) : (gD ps[s]).toNat ≤ 2 ^ log := by
  have := G2 h.low (List.getElem_mem hs)
  rw [h.sum] at this
  have hpow : ((2 ^ log : Nat) : Int) = (2 : Int) ^ log := by simp
  rw [← hpow] at this
  exact Int.toNat_le.2 this
theorem Hz {log : Nat} {ps S : List Int} (h : EN log ps) (L : Ih log ps S) {i : Nat} (hi : i < 2 ^ log) :
    ∃ s : Nat, ∃ hs : s < ps.length, S.getD i 0 = (s : Int) ∧ 1 ≤ (gD ps[s]).toNat ∧ (gD ps[s]).toNat ≤ 2 ^ log ∧ Im ps S i = (gD ps[s]).toNat + (S.take i).count (s : Int) ∧ (S.take i).count (s : Int) < (gD ps[s]).toNat := by
  have hil : i < S.length := by rw [L.len]; exact hi
  have hg : S.getD i 0 = S[i] := by rw [List.getD_eq_getElem?_getD, List.getElem?_eq_getElem hil] <;> rfl
  obtain ⟨s, hs, e⟩ := L.rng _ (List.getElem_mem hil)
  have hc := CP hil
  rw [e, L.cnt s hs] at hc
  refine ⟨s, hs, by rw [hg, e], by omega, CE h hs, ?_, by omega⟩
  unfold Im
  rw [hg, e, Int.toNat_natCast, List.getD_eq_getElem?_getD, List.getElem?_eq_getElem hs] <;> rfl
theorem HD {log k : Nat} (h1 : 1 ≤ k) (h2 : k < 2 ^ (log + 1)) : 2 ^ log ≤ k * 2 ^ (log + 1 - bl k) ∧ (k + 1) * 2 ^ (log + 1 - bl k) ≤ 2 ^ (log + 1) ∧ bl k ≤ log + 1 ∧ 1 ≤ bl k := by
  have a := zM h2
  have b := Dv (k := k) (by omega)
  have c := Ee (k := k) (by omega)
  have d := DT k
  refine ⟨?_, ?_, a, b⟩
  · calc 2 ^ log = 2 ^ (bl k - 1) * 2 ^ (log + 1 - bl k) := by rw [← Nat.pow_add]; congr 1; omega
      _ ≤ k * 2 ^ (log + 1 - bl k) := Nat.mul_le_mul_right _ c
  · calc (k + 1) * 2 ^ (log + 1 - bl k) ≤ 2 ^ bl k * 2 ^ (log + 1 - bl k) := Nat.mul_le_mul_right _ d
      _ = 2 ^ (log + 1) := by rw [← Nat.pow_add]; congr 1; omega
theorem G7 (n j : Nat) (hn : 0 < n) : ∃ d, d < n ∧ pos n (j + d) = 0 := by
  refine ⟨(n - j % n) % n, Nat.mod_lt _ hn, ?_⟩
  unfold pos
  have : (j + (n - j % n) % n) % n = 0 := by
    rw [Nat.add_mod_mod]
    have h1 := Nat.mod_lt j hn
    have h2 := Nat.div_add_mod j n
    have : j + (n - j % n) = n * (j / n + 1) := by
      rw [Nat.mul_add, Nat.mul_one]
      generalize n * (j / n) = y at *
      generalize j % n = r at *
      omega
    rw [this, Nat.mul_mod_right]
  rw [Nat.mul_mod, this, Nat.zero_mul, Nat.zero_mod]
theorem C3 {n high : Nat} (hn : 0 < n) (hh : 0 < high) (j : Nat) : ∃ d, (∀ e, e < d → high ≤ pos n (j + e)) ∧ pos n (j + d) < high ∧ Bg n high n (pos n j) = pos n (j + d) := by
  obtain ⟨D, hD, h0⟩ := G7 n j hn
  have key : ∀ (D f j : Nat), D ≤ f → pos n (j + D) < high → ∃ d, (∀ e, e < d → high ≤ pos n (j + e)) ∧ pos n (j + d) < high ∧ Bg n high f (pos n j) = pos n (j + d) := by
    intro D
    induction D with
    | zero =>
      intro f j _ h
      refine ⟨0, fun e he => by omega, h, ?_⟩
      rw [Nat.add_zero] at h ⊢
      cases f with
      | zero => rfl
      | succ f => unfold Bg; rw [if_pos h]
    | succ D ih =>
      intro f j hf h
      obtain ⟨f, rfl⟩ : ∃ g, f = g + 1 := ⟨f - 1, by omega⟩
      by_cases hj : pos n j < high
      · exact ⟨0, fun e he => by omega, hj, by unfold Bg; rw [if_pos hj] <;> rfl⟩
      · obtain ⟨d, h1, h2, h3⟩ := ih f (j + 1) (by omega) (by rw [show j + 1 + D = j + (D + 1) from by omega]; exact h)
        refine ⟨d + 1, fun e he => ?_, by rw [show j + (d + 1) = j + 1 + d from by omega]; exact h2, ?_⟩
        · cases e with
          | zero => rw [Nat.add_zero]; omega
          | succ e => rw [show j + (e + 1) = j + 1 + e from by omega]; exact h1 e (by omega)
        · unfold Bg; rw [if_neg hj, xA, h3]; congr 1; omega
  exact key D n j (by omega) (by rw [h0]; exact hh)
theorem DL {log : Nat} {ps : List Int} (h : EN log ps) (x0 : Int) : ∃ arr, CK ps 0 (2 ^ log) (List.replicate (2 ^ log) x0) = ((jQ ps 0).length, arr) ∧ arr.length = 2 ^ log ∧ (jU ps 0).length + (jQ ps 0).length = 2 ^ log ∧ qK x0 log ps = sL (2 ^ log) (jQ ps 0).length (jQ ps 0) 0 arr := by
  have hrl := DZ ps 0 h.low
  rw [h.sum] at hrl
  have hpow : ((2 ^ log : Nat) : Int) = (2 : Int) ^ log := by simp
  have hsum : (jU ps 0).length + (jQ ps 0).length = 2 ^ log := by omega
  have ht := C4 ps 0 (2 ^ log) (List.replicate (2 ^ log) x0) (by omega) (by simp)
  rw [show 2 ^ log - (jU ps 0).length = (jQ ps 0).length from by omega] at ht
  refine ⟨_, ht, ?_, hsum, ?_⟩
  · simp [DI]; omega
  · unfold qK; rw [ht]
end Go.Pu
namespace Go.En
open Go
set_option linter.unusedVariables false
section
variable {P : Program} {w : World} {t e : TypeId}
theorem DU {i : TypeInfo} (hu : P.underlying t = some (.slice e)) (hi : P.info? e = some i)
    {K : Value → World → Prop} (hk : ∀ w', iB w' w.heap.size [] → fS w w' jI → w'.heap.size = w.heap.size + 1 → K (.slice (some ⟨w.heap.size, 0, none⟩) 0 0) w') :
    cJ P (hH t 0 []) w K := by
  have : (hH t 0 []).run P w = .ok (.value (.slice (some ⟨w.heap.size, 0, none⟩) 0 0)) (w.alloc (.cells ([] : List Value).toArray e)) := by
    unfold hH; rw [jY]
    have h1 : ¬ (0 > 2 ^ 24) := by omega
    have e : ∀ f : Nat → Value, Array.map f (Array.range 0) = #[] := fun f => by simp
    simp only [Instr.buildSlice, underlying, pure_bind, Sem.run_bind, run_program, Result.andThen_ok, hu, Sem.run_pure, gK hi, Nat.zero_mul, h1, if_false, if_true, newRow, run_newObj, Instr.fill, e]
    rfl
  unfold cJ
  rw [this]
  exact hk _ (iB.alloc _ _ _) (fS.alloc _ _ _) (by simp)
def At (v : Value) (b : Nat) : Prop := ∀ M : Nat → Prop, ¬ M b → ¬ GH v M
theorem At.nil (c b : Nat) (a : Option Addr) : At (.slice a 0 c) b := fun M h => by unfold GH; split <;> simp_all
theorem At.at (b o n c : Nat) : At (.slice (some ⟨b, o, none⟩) n c) b := fun M h => by
  unfold GH; split
  · rename_i x m _ e
    obtain ⟨rfl, _⟩ : (⟨b, o, none⟩ : Addr) = x ∧ _ := by simpa using e
    exact h
  · simp
theorem wW.at' {w : World} {base sz n : Nat} {v : Value} {l : List Value} (h : wW w base sz v n l) (hb : base < w.heap.size) : ∃ b, base ≤ b ∧ b < w.heap.size ∧ At v b := by
  rcases h.2 with ⟨rfl, rfl⟩ | ⟨b, c, rest, rfl, h2, h3, h4, h5⟩
  · exact ⟨base, Nat.le_refl _, hb, At.nil _ _ _⟩
  · exact ⟨b, h2, h3.lt, At.at _ _ _ _⟩
end
end Go.En
namespace Go.Proofs.YtoepfjgekpdddaaDoor
open Go Go.En Go.Pu
set_option maxRecDepth 4000
set_option linter.unusedSimpArgs false
set_option linter.unusedVariables false
def EP : ByteArray := ⟨#[0, 1, 2, 2, 3, 3, 3, 3, 4, 4, 4, 4, 4, 4, 4, 4, 5, 5, 5, 5, 5, 5, 5, 5, 5, 5, 5, 5, 5, 5, 5, 5, 6, 6, 6, 6, 6, 6, 6, 6, 6, 6, 6, 6, 6, 6, 6, 6, 6, 6, 6, 6, 6, 6, 6, 6, 6, 6, 6, 6, 6, 6, 6, 6, 7, 7, 7, 7, 7, 7, 7, 7, 7, 7, 7, 7, 7, 7, 7, 7, 7, 7, 7, 7, 7, 7, 7, 7, 7, 7, 7, 7, 7, 7, 7, 7, 7, 7, 7, 7, 7, 7, 7, 7, 7, 7, 7, 7, 7, 7, 7, 7, 7, 7, 7, 7, 7, 7, 7, 7, 7, 7, 7, 7, 7, 7, 7, 7, 8, 8, 8, 8, 8, 8, 8, 8, 8, 8, 8, 8, 8, 8, 8, 8, 8, 8, 8, 8, 8, 8, 8, 8, 8, 8, 8, 8, 8, 8, 8, 8, 8, 8, 8, 8, 8, 8, 8, 8, 8, 8, 8, 8, 8, 8, 8, 8, 8, 8, 8, 8, 8, 8, 8, 8, 8, 8, 8, 8, 8, 8, 8, 8, 8, 8, 8, 8, 8, 8, 8, 8, 8, 8, 8, 8, 8, 8, 8, 8, 8, 8, 8, 8, 8, 8, 8, 8, 8, 8, 8, 8, 8, 8, 8, 8, 8, 8, 8, 8, 8, 8, 8, 8, 8, 8, 8, 8, 8, 8, 8, 8, 8, 8, 8, 8, 8, 8, 8, 8, 8, 8, 8, 8, 8, 8, 8, 8]⟩
theorem AS : EP.size = 256 := by decide
set_option maxRecDepth 100000 in
theorem F2 (x : Nat) (h : x < 256) : (EP[x]'(by rw [AS]; exact h)).toNat = bl x := by
  have : ∀ k : Fin 256, (EP.data[k.val]!).toNat = bl k.val := by decide +kernel
  have h2 := this ⟨x, h⟩
  simp only at h2
  rw [← h2]
  have hs : x < EP.data.size := by have := AS; exact (show EP.data.size = 256 from this) ▸ h
  rw [getElem!_pos EP.data x hs]
  rfl
theorem Co {x j : Nat} (h : 2 ^ j ≤ x) : bl x = bl (x / 2 ^ j) + j := by
  have hp := Nat.two_pow_pos j
  have h0 : x / 2 ^ j ≠ 0 := by
    have := Nat.div_pos h hp
    omega
  have a := Ee h0
  have b := DT (x / 2 ^ j)
  have c := Dv h0
  obtain ⟨m, hm⟩ : ∃ m, bl (x / 2 ^ j) = m + 1 := ⟨bl (x / 2 ^ j) - 1, by omega⟩
  rw [hm, Nat.add_sub_cancel] at a
  rw [hm] at b ⊢
  have h1 : 2 ^ (m + j) ≤ x := by
    rw [Nat.pow_add]
    exact Nat.le_trans (Nat.mul_le_mul_right _ a) (Nat.div_mul_le_self _ _)
  have h2 : x < 2 ^ (m + j + 1) := by
    rw [show m + j + 1 = (m + 1) + j from by omega, Nat.pow_add]
    exact (Nat.div_lt_iff_lt_mul hp).1 b
  rw [H5 h1 h2]; omega
theorem Ej {x n : Nat} (hx : x < 256) (hn : n ≤ 1000) (R : Value → World → Prop) (w : World) (h : R (.int .i64 ((n + bl x : Nat) : Int)) w) :
    jE R (.int .u64 x) (.int .i64 n) w := by
  have hg := F2 x hx
  have hs := AS
  have hb : bl x ≤ 8 := zM (n := 8) (by omega)
  unfold jE
  change cJ pg _ w fun t21 w => cJ pg (Gw 9 (.string EP) t21) w _
  simp (disch := omega) only [cJ, bX, iK, aD, dO, Int.toNat_natCast, hg, cV, eE, fA]
  rw [Int.natCast_add] at h
  exact h
theorem CA (a b : Nat) : ((a : Int)).fdiv (b : Int) = ((a / b : Nat) : Int) := by rw [Int.fdiv_eq_ediv_of_nonneg _ (by omega)] <;> rfl
theorem Dr (x j : Nat) (hj : j ≤ 64) : ((x : Int)).fdiv (2 ^ (min (j : Nat) IntKind.u64.bits)) = ((x / 2 ^ j : Nat) : Int) := by
  have e : min j IntKind.u64.bits = j := by simp only [IntKind.bits]; omega
  rw [e, ← CA]; simp
theorem G9 (x : Nat) (hx : x < 18446744073709551616) (w : World) : gE pg kS #[.int .u64 x] w (fun r w' => r = .int .i64 (bl x : Nat) ∧ w' = w) := by
  refine vT ?_
  unfold uZ mA mH
  have step8 : ∀ (y n : Nat), y < 65536 → n ≤ 64 → n + bl y = bl x → jD (fun r w' => r = .int .i64 (bl x : Nat) ∧ w' = w) (.int .u64 y) (.int .i64 n) w := by
    intro y n hy hn e
    unfold jD lZ
    by_cases h : 256 ≤ y
    · have d : decide ((256 : Int) ≤ (y : Int)) = true := by simp; omega
      have sh := Dr y 8 (by omega)
      have hq : y / 2 ^ 8 < 256 := by omega
      have := Co (x := y) (j := 8) (by omega)
      have e2 : (n : Int) + 8 = ((n + 8 : Nat) : Int) := by omega
      simp (disch := omega) only [cJ, gC, d, fV, fA, e2, eE, aD, cW]
      rw [show (8 : Int).toNat = 8 from rfl, sh]
      exact Ej hq (by omega) _ _ ⟨by rw [← e, this]; congr 2; omega, rfl⟩
    · have d : decide ((256 : Int) ≤ (y : Int)) = false := by simp; omega
      simp (disch := omega) only [cJ, gC, d, fV, fA, eE, aD, cO]
      exact Ej (by omega) (by omega) _ _ ⟨by rw [e], rfl⟩
  have step16 : ∀ (y n : Nat), y < 4294967296 → n ≤ 32 → n + bl y = bl x → jG (fun r w' => r = .int .i64 (bl x : Nat) ∧ w' = w) (.int .u64 y) (.int .i64 n) w := by
    intro y n hy hn e
    unfold jG mF
    by_cases h : 65536 ≤ y
    · have d : decide ((65536 : Int) ≤ (y : Int)) = true := by simp; omega
      have sh := Dr y 16 (by omega)
      have hq : y / 2 ^ 16 < 65536 := by omega
      have := Co (x := y) (j := 16) (by omega)
      have e2 : (n : Int) + 16 = ((n + 16 : Nat) : Int) := by omega
      simp (disch := omega) only [cJ, gC, d, fV, fA, e2, eE, aD, cW]
      rw [show (16 : Int).toNat = 16 from rfl, sh]
      exact step8 _ _ hq (by omega) (by rw [← e, this]; omega)
    · have d : decide ((65536 : Int) ≤ (y : Int)) = false := by simp; omega
      simp (disch := omega) only [cJ, gC, d, fV, fA, eE, aD, cO]
      exact step8 _ _ (by omega) (by omega) e
  by_cases h : 4294967296 ≤ x
  · have d : decide ((4294967296 : Int) ≤ (x : Int)) = true := by simp; omega
    have sh := Dr x 32 (by omega)
    have hq : x / 2 ^ 32 < 4294967296 := by omega
    have := Co (x := x) (j := 32) (by omega)
    simp (disch := omega) only [cJ, gC, d, fV, aD, cW]
    rw [show (32 : Int).toNat = 32 from rfl, sh]
    exact step16 _ 32 hq (by omega) (by rw [this]; omega)
  · have d : decide ((4294967296 : Int) ≤ (x : Int)) = false := by simp; omega
    simp (disch := omega) only [cJ, gC, d, fV, aD, cO]
    exact step16 _ 0 (by omega) (by omega) (by omega)
theorem Hn (x : Nat) (hx : x < 18446744073709551616) (w : World) : gE pg kE #[.int .u64 x] w (fun r w' => r = .int .i64 (bl x : Nat) ∧ w' = w) := by
  refine yE ?_
  simp (disch := omega) only [xM, oL, cJ, cM, aD, cO]
  exact G9 x hx w
theorem Hu {n : Nat} (h : n ≤ 20) : IntKind.i64.wrap (1 * 2 ^ (min n IntKind.i64.bits)) = ((2 ^ n : Nat) : Int) := by
  have : ∀ k : Fin 21, IntKind.i64.wrap (1 * 2 ^ (min k.val IntKind.i64.bits)) = ((2 ^ k.val : Nat) : Int) := by decide
  exact this ⟨n, by omega⟩
theorem GY {v : Value} {l : List UInt8} {w : World} (h : Bs w v l) (hl : l.length ≤ 1000000000) :
    gE pg jS #[v] w (fun r w' => wW w' w.heap.size 1 r l.length (l.map GJ) ∧ fS w w' jI) := by
  refine uL ?_
  have h1 := h
  obtain ⟨a, n, c, rfl, hn, hc, hh⟩ := h
  rw [List.length_map] at hn
  unfold sO kY
  cases a with
  | none =>
    have h0 : l = [] := by
      cases l with
      | nil => rfl
      | cons x l => obtain ⟨b, off, h, _⟩ := hh (by simp at hn; omega); cases h
    subst h0
    simp (disch := omega) only [cJ, cP, Option.isNone_none, aD, cW]
    exact ⟨wW.nil _ _ _, fS.refl _ _⟩
  | some x =>
    simp (disch := omega) only [cJ, cP, Option.isNone_some, aD, cO]
    refine DU Tryd.underlying22 Fr fun w1 o1 x1 s1 => ?_
    have hcl1 := (h1.ext x1 (iL _)).cl
    rw [List.length_map] at hcl1
    have hos : wW w1 w.heap.size 1 (.slice (some ⟨w.heap.size, 0, none⟩) 0 0) 0 [] := ⟨rfl, .inr ⟨_, 0, [], rfl, Nat.le_refl _, o1, rfl, Nat.le_refl _⟩⟩
    refine kZ hos hcl1 (FV _) x1.size (by omega) fun v3 w3 o3 x3 => ?_
    rw [Nat.zero_add, List.nil_append] at o3
    exact ⟨o3, x1.trans x3 fun b hb h => Nat.not_le_of_lt hb h⟩
def Ii (v : Value) (lo hi : Nat) : Prop := ∀ M : Nat → Prop, (∀ b, lo ≤ b → b < hi → ¬ M b) → ¬ GH v M
theorem wW.atI {w : World} {base sz n : Nat} {v : Value} {l : List Value} (h : wW w base sz v n l) : Ii v base w.heap.size := by
  intro M hM
  rcases h.2 with ⟨rfl, rfl⟩ | ⟨b, c, rest, rfl, h2, h3, h4, h5⟩
  · exact fun h => h
  · exact At.at b 0 n c M (hM b h2 h3.lt)
end Go.Proofs.YtoepfjgekpdddaaDoor
namespace Go.Proofs.YtoepfjgekpdddaaDoor
open Go Go.En Go.Pu
set_option maxRecDepth 4000
set_option linter.unusedSimpArgs false
set_option linter.unusedVariables false
def FD (log : Int) (ps : List Int) (most : Int) : Int := if CU log ps = false then 1 else if most < log then 12 else 0
theorem E7 {log most : Int} {sv : Value} {ps : List Int} {w : World} (hs : Sl w sv (ps.map (Value.int .i64))) (hl : ps.length ≤ 9223372036854775807) :
    gE pg nQ #[.agg #[.int .i64 log, sv], .int .i64 most] w (fun r w' => r = .int .i64 (FD log ps most) ∧ fS w w' jI) := by
  refine Aa ?_
  unfold yZ pO
  refine uP fun w1 o1 x1 s1 => ?_
  have hs := hs.ext x1 (iL _)
  rw [show eC 51 = eC 51 from rfl]
  have l1 := iF o1 (off := 0) (by simp [Value.cells])
  simp only [Value.cells, List.drop_zero, List.take_succ_cons, List.take_zero] at l1
  simp (disch := omega) only [cJ, l1, aI, aD, eA]
  refine (H0 hs hl).mono ?_
  rintro r w2 ⟨rfl, x2⟩
  have o2 := o1.ext x2 (fun h => h)
  have c0 := o2.cell (off := 0)
  simp only [Value.cells, List.getElem?_cons_zero] at c0
  unfold FD
  cases hm : CU log ps with
  | false =>
    simp (disch := omega) only [gI, Bool.not_false, if_true, true_and, aD, cW]
    exact x1.seq x2
  | true =>
    by_cases h : most < log
    · have d : decide (most < log) = true := by simpa using h
      simp (disch := omega) only [gI, Bool.not_true, aD, c0, cU, fI, d, cW, cO]
      exact ⟨by simp [h], x1.seq x2⟩
    · have d : decide (most < log) = false := by simpa using h
      simp (disch := omega) only [gI, Bool.not_true, aD, c0, cU, fI, d, cO]
      exact ⟨by simp [h], x1.seq x2⟩
end Go.Proofs.YtoepfjgekpdddaaDoor
namespace Go.Proofs.YtoepfjgekpdddaaDoor
open Go Go.En Go.Pu
set_option maxRecDepth 4000
set_option linter.unusedSimpArgs false
set_option linter.unusedVariables false
def m3 (L : List Int) : List T3 := L.map fun x => (x, 0, 0)
theorem HB (L : List Int) (i : Nat) (h : i < L.length) (x : Int) : (m3 L).set i (x, ((m3 L)[i]'(by simpa [m3] using h)).2) = m3 (L.set i x) := by
  unfold m3; rw [List.map_set]; simp
theorem DV {k : IntKind} {L : List Int} {i : Nat} (h : i < L.length) (x : Int) : (fe k (m3 L)).set (i * 3) (.int k x) = fe k (m3 (L.set i x)) := by
  rw [(DE k (m3 L) i (by simpa [m3] using h) x).1, HB L i h x]
theorem EL (n high s : Nat) (r : List Nat) (a : Nat) (arr : List Int) : sL n high (s :: r) a arr = sL n high r (Bg n high n (Hm n a)) (arr.set a s) := rfl
theorem FK {ps : List Int} {i : Nat} (h : i < ps.length) : jQ (ps.drop i) i = List.replicate ps[i].toNat i ++ jQ (ps.drop (i + 1)) (i + 1) := by
  rw [List.drop_eq_getElem_cons h, jQ]
theorem HI {w0 w : World} {N high j : Nat} (hN : 0 < N) (hN2 : N ≤ 32768) (hh : 0 < high) (hhN : high ≤ N) (hx : fS w0 w jI)
    {ov sv a b c d e : Value} {k : Value → Value → Value → Value → Value → Value → Value → Value → Value → Value → World → Prop}
    (hk : ∃ j', Bg N high N (Hm N (pos N j)) = pos N j' ∧ k (.int .i64 N) ov (.int .i64 high) (.int .i64 (pos N j' : Nat)) sv a b c d e w) :
    pF k (.int .i64 N) ov (.int .i64 high) (.int .i64 (pos N j : Nat)) sv a b c d e w := by
  obtain ⟨dd, h1, h2, h3⟩ := C3 hN hh (j + 1)
  obtain ⟨j', hj', hk⟩ := hk
  rw [xA, h3] at hj'
  rw [← hj'] at hk
  unfold pF
  refine iY.rule (fun m t w' => ∃ q : Nat, m = dd - q ∧ t = .int .i64 (pos N (j + q) : Nat) ∧ q ≤ dd ∧ w' = w) dd ⟨0, rfl, rfl, by omega, rfl⟩ ?_
  rintro m t w' ⟨q, rfl, rfl, hq, rfl⟩
  have hp := ED hN (j + q)
  have e1 : ((N : Int)).fdiv (2 ^ (min 1 IntKind.i64.bits)) = ((N / 2 : Nat) : Int) := by
    have : (2 : Int) ^ (min 1 IntKind.i64.bits) = ((2 : Nat) : Int) := by decide
    rw [this, CA]
  have e3 : ((N : Int)).fdiv (2 ^ (min 3 IntKind.i64.bits)) = ((N / 8 : Nat) : Int) := by
    have : (2 : Int) ^ (min 3 IntKind.i64.bits) = ((8 : Nat) : Int) := by decide
    rw [this, CA]
  have t1 : (1 : Int).toNat = 1 := rfl
  have t3 : (3 : Int).toNat = 3 := rfl
  have e4 : (((pos N (j + q) : Nat) : Int) + ((N / 2 : Nat) : Int) + ((N / 8 : Nat) : Int) + 3).tmod (N : Int) = ((pos N (j + q + 1) : Nat) : Int) := by
    rw [Int.tmod_eq_emod_of_nonneg (by omega), ← xA]
    unfold Hm
    simp
  unfold oP
  by_cases hd : q = dd
  · subst hd
    have d1 : decide (((pos N (j + q + 1) : Nat) : Int) < (high : Int)) = true := by
      simp only [decide_eq_true_eq]
      rw [show j + 1 + q = j + q + 1 from by omega] at h2
      omega
    simp (disch := omega) only [cJ, fV, t1, e1, t3, e3, aD, fA, eE, gG, e4, eU, d1, and_true, cW]
    rw [show j + 1 + q = j + q + 1 from by omega] at hk
    exact hk
  · have d1 : decide (((pos N (j + q + 1) : Nat) : Int) < (high : Int)) = false := by
      have := h1 q (by omega)
      rw [show j + 1 + q = j + q + 1 from by omega] at this
      simp only [decide_eq_false_iff_not]
      omega
    simp (disch := omega) only [cJ, fV, t1, e1, t3, e3, aD, fA, eE, gG, e4, eU, d1, and_true, cO]
    exact ⟨dd - (q + 1), by omega, q + 1, rfl, rfl, by omega⟩
theorem Ei {log : Nat} {sv : Value} {ps : List Int} {w : World} (hm : EN log ps) (hs : Sl w sv (ps.map (Value.int .i64))) :
    gE pg mN #[.agg #[.int .i64 log, sv]] w (fun r w' => ∃ b, r = .slice (some ⟨b, 0, none⟩) (2 ^ log) (2 ^ log) ∧ w.heap.size ≤ b ∧ iB w' b (fe .u8 (m3 (qK 0 log ps))) ∧ fS w w' jI) := by
  refine Cb ?_
  have h5 := hm.log5
  have h15 := hm.log15
  have hlen := hm.len256
  obtain ⟨arr0, ht, hal, hsum, hfin⟩ := DL hm 0
  rw [hfin]
  have hN1 : 2 ^ 5 ≤ 2 ^ log := Nat.pow_le_pow_right (by omega) h5
  have hN2 : 2 ^ log ≤ 2 ^ 15 := Nat.pow_le_pow_right (by omega) h15
  have hsh : IntKind.i64.wrap (1 * 2 ^ (min log IntKind.i64.bits)) = ((2 ^ log : Nat) : Int) := by
    have : ∀ k : Fin 16, IntKind.i64.wrap (1 * 2 ^ (min k.val IntKind.i64.bits)) = ((2 ^ k.val : Nat) : Int) := by decide
    exact this ⟨log, by omega⟩
  clear hfin
  generalize hN : 2 ^ log = N at *
  generalize hhigh : (jQ ps 0).length = high at *
  unfold Cu rC qZ
  refine uP fun w1 o1 x1 s1 => ?_
  have hs1 := hs.ext x1 (iL _)
  have c0 := o1.cell (off := 0)
  have c1 := o1.cell (off := 1)
  simp only [Value.cells, List.getElem?_cons_zero, List.getElem?_cons_succ] at c0 c1
  obtain ⟨a, c, rfl, hc⟩ := hs.lenI
  simp (disch := omega) only [cJ, aI, aD, eA, c0, cU, fX, Int.toNat_natCast, hsh]
  refine AT (by omega) (by omega) fun w2 o2 x2 s2 => ?_
  rw [Int.toNat_natCast, E9] at o2
  rw [Int.toNat_natCast]
  have o2 : iB w2 w1.heap.size (fe .u8 (m3 (List.replicate N 0))) := by unfold m3; rw [List.map_replicate]; exact o2
  have x02 : fS w w2 jI := x1.seq x2
  have ob2 := o1.ext x2 (fun h => h)
  have c1 := ob2.cell (off := 1)
  simp only [Value.cells, List.getElem?_cons_zero, List.getElem?_cons_succ] at c1
  unfold nR qY rF mO rM
  simp (disch := omega) only [cJ, aE, Nat.zero_add, aD, dH, c1, cU, dI]
  have hw1 : w.heap.size ≤ w1.heap.size := x1.size
  refine iY.rule (fun m t w' => ∃ (i hg : Nat) (arr : List Int), m = ps.length - i ∧ t = (.int .i64 hg, .int .i64 i) ∧ i ≤ ps.length ∧ (jU (ps.drop i) i).length ≤ hg ∧ hg ≤ N ∧ arr.length = N ∧ CK (ps.drop i) i hg arr = (high, arr0) ∧ iB w' w1.heap.size (fe .u8 (m3 arr)) ∧ fS w w' jI ∧ iB w' w.heap.size (Value.cells (.agg #[.int .i64 log, .slice a ps.length c])).toList) ps.length
    ⟨0, N, _, rfl, rfl, by omega, by rw [List.drop_zero]; omega, by omega, by simp, by rw [List.drop_zero]; exact ht, o2, x02, ob2⟩ ?_
  rintro m t w3 ⟨i, hg, arr, rfl, rfl, hi, hng, hgN, harr, htop, o3, x3, ob3⟩
  by_cases hlt : i < ps.length
  · have d1 : decide ((i : Int) < (ps.length : Int)) = true := by simp; omega
    obtain ⟨b', off', c', e, _, hcell⟩ := (hs.ext x3 (iL _)).openI (by omega)
    cases e
    have g1 := hcell i hlt
    have hd : ps.drop i = ps[i] :: ps.drop (i + 1) := List.drop_eq_getElem_cons hlt
    rw [hd, jU] at hng
    rw [hd, CK] at htop
    unfold lF nT mT
    by_cases hp : ps[i] = -1
    · have d2 : (ps[i] == -1) = true := by simpa using hp
      rw [if_pos hp] at hng htop
      simp only [List.length_cons] at hng
      have e1 : (hg : Int) - 1 = ((hg - 1 : Nat) : Int) := by omega
      simp (disch := omega) only [cJ, eU, d1, dJ, Int.toNat_natCast, fN, e1, eE, cT, iK, fA, aD, bU, Nat.zero_add, bB, eA, g1, cU, fW, d2, cW]
      refine D2 o3 rfl (by rw [tO]; simp [m3]; omega) fun w4 o4 x4 s4 => ?_
      rw [DV (by omega)] at o4
      exact ⟨ps.length - (i + 1), by omega, i + 1, hg - 1, _, rfl, rfl, by omega, by omega, by omega, by simp [harr], htop, o4, x3.new x4 hw1, ob3.ext x4 (by omega)⟩
    · have d2 : (ps[i] == -1) = false := by simpa using hp
      rw [if_neg hp] at hng htop
      simp (disch := omega) only [cJ, eU, d1, dJ, Int.toNat_natCast, fN, eE, cT, iK, fA, aD, eA, g1, cU, fW, d2, cO, cW]
      exact ⟨ps.length - (i + 1), by omega, i + 1, hg, arr, rfl, rfl, by omega, by omega, by omega, harr, htop, o3, x3, ob3⟩
  · have d1 : decide ((i : Int) < (ps.length : Int)) = false := by simp; omega
    rw [List.drop_of_length_le (by omega), CK] at htop
    obtain ⟨rfl, rfl⟩ : hg = high ∧ arr = arr0 := by simpa using htop
    have c1 := ob3.cell (off := 1)
    simp only [Value.cells, List.getElem?_cons_zero, List.getElem?_cons_succ] at c1
    unfold lF nT mU qX nO qV rY nP qT
    simp (disch := omega) only [cJ, eU, d1, fN, eE, cT, aD, aE, Nat.zero_add, dH, c1, cU, dI, cO]
    clear d1 hlt hi hng htop
    have hbig : iB w3 w1.heap.size (fe .u8 (m3 arr)) := o3
    refine iY.rule (fun m t w' => ∃ (s j : Nat) (ar : List Int), m = ps.length - s ∧ t = (.int .i64 (pos N j : Nat), .int .i64 s) ∧ s ≤ ps.length ∧ ar.length = N ∧ sL N hg (jQ (ps.drop s) s) (pos N j) ar = sL N hg (jQ ps 0) 0 arr ∧ (jQ (ps.drop s) s).length ≤ hg ∧ iB w' w1.heap.size (fe .u8 (m3 ar)) ∧ fS w w' jI) ps.length
      ⟨0, 0, arr, rfl, by rw [Cm] <;> rfl, by omega, harr, by rw [Cm, List.drop_zero], by rw [List.drop_zero, hhigh]; exact Nat.le_refl _, o3, x3⟩ ?_
    rintro m t w4 ⟨s, j, ar, rfl, rfl, hs4, har, hpl, hrl, o4, x4⟩
    by_cases hlt : s < ps.length
    · have d1 : decide ((s : Int) < (ps.length : Int)) = true := by simp; omega
      obtain ⟨b', off', c', e, _, hcell⟩ := (hs.ext x4 (iL _)).openI (by omega)
      cases e
      have g1 := hcell s hlt
      obtain ⟨q, hq⟩ : ∃ q, q = ps[s].toNat := ⟨_, rfl⟩
      have emax : (if (0 : Int) > ps[s] then (0 : Int) else ps[s]) = (q : Int) := by rw [hq]; split <;> omega
      rw [FK hlt, ← hq] at hpl hrl
      have hqN : q ≤ N := by simp at hrl; omega
      unfold lK nC nJ rB rJ rT nG rQ qU
      simp (disch := omega) only [cJ, eU, d1, dJ, Int.toNat_natCast, aD, eA, g1, cU, gL, emax, cW]
      unfold mL rV
      refine iY.rule (fun m t w' => ∃ (k j : Nat) (ar : List Int), m = q - k ∧ t = (.int .i64 (pos N j : Nat), .int .i64 k) ∧ k ≤ q ∧ ar.length = N ∧ sL N hg (List.replicate (q - k) s ++ jQ (ps.drop (s + 1)) (s + 1)) (pos N j) ar = sL N hg (jQ ps 0) 0 arr ∧ iB w' w1.heap.size (fe .u8 (m3 ar)) ∧ fS w w' jI) q
        ⟨0, j, ar, rfl, rfl, by omega, har, hpl, o4, x4⟩ ?_
      rintro m t w5 ⟨k, j5, ar5, rfl, rfl, hk, har5, hpl5, o5, x5⟩
      by_cases hkq : k < q
      · have d2 : decide ((k : Int) < (q : Int)) = true := by simp; omega
        have hp := ED (n := N) (by omega) j5
        have hhg : 0 < hg := by simp at hrl; omega
        unfold lC nB mP sT tC tE
        simp (disch := omega) only [cJ, eU, d2, cT, iK, bU, Int.toNat_natCast, Nat.zero_add, aD, bB, cW]
        refine D2 o5 rfl (by rw [tO]; simp [m3]; omega) fun w6 o6 x6 s6 => ?_
        rw [DV (by omega)] at o6
        unfold oR
        rw [show q - k = (q - (k + 1)) + 1 from by omega, List.replicate_succ, List.cons_append, EL] at hpl5
        obtain ⟨d, _, hd2, hd3⟩ := C3 (n := N) (high := hg) (by omega) hhg (j5 + 1)
        have hsk : Bg N hg N (Hm N (pos N j5)) = pos N (j5 + 1 + d) := by rw [xA]; exact hd3
        refine HI (w0 := w) (by omega) hN2 hhg hgN (x5.new x6 hw1) ⟨j5 + 1 + d, hsk, ?_⟩
        rw [hsk] at hpl5
        unfold pE
        simp (disch := omega) only [cJ, fA, eE, aD]
        exact ⟨q - (k + 1), by omega, k + 1, j5 + 1 + d, _, rfl, rfl, by omega, by simp [har5], hpl5, o6, x5.new x6 hw1⟩
      · have d2 : decide ((k : Int) < (q : Int)) = false := by simp; omega
        rw [show q - k = 0 from by omega, List.replicate_zero, List.nil_append] at hpl5
        unfold lC nB pD
        simp (disch := omega) only [cJ, eU, d2, fA, eE, aD, cO]
        exact ⟨ps.length - (s + 1), by omega, s + 1, j5, ar5, rfl, rfl, by omega, har5, hpl5, by simp at hrl; omega, o5, x5⟩
    · have d1 : decide ((s : Int) < (ps.length : Int)) = false := by simp; omega
      rw [List.drop_of_length_le (by omega), jQ, sL] at hpl
      unfold lK nC oX
      simp (disch := omega) only [cJ, eU, d1, aD, cO]
      exact ⟨_, rfl, hw1, by rw [← hpl]; exact o4, x4⟩
end Go.Proofs.YtoepfjgekpdddaaDoor
namespace Go.Proofs.YtoepfjgekpdddaaDoor
open Go Go.En Go.Pu
set_option maxRecDepth 4000
set_option linter.unusedSimpArgs false
set_option linter.unusedVariables false
def Es (log : Nat) (ps S : List Int) (i : Nat) : List T3 := (List.range (2 ^ log)).map fun j => if j < i then Ea log ps S j else (S.getD j 0, 0, 0)
def Ep (ps S : List Int) (i : Nat) : List Int := (List.range ps.length).map fun s => gD (ps.getD s 0) + ((S.take i).count (s : Int) : Nat)
theorem G4 {log : Nat} {ps S : List Int} (h : S.length = 2 ^ log) : Es log ps S 0 = m3 S := by
  unfold Es m3
  apply List.ext_getElem
  · simp [h]
  · intro i h1 h2
    simp only [List.length_map, List.length_range] at h1
    simp only [List.getElem_map, List.getElem_range, Nat.not_lt_zero, if_false, List.getD_eq_getElem?_getD]
    rw [List.getElem?_eq_getElem (by omega)] <;> rfl
theorem HE (log : Nat) (ps : List Int) : Es log ps (qK 0 log ps) (2 ^ log) = mD log ps := by
  unfold Es mD
  refine List.map_congr_left fun j hj => ?_
  rw [if_pos (List.mem_range.1 hj)]
theorem wT (log : Nat) (ps S : List Int) (i : Nat) : (Es log ps S i).length = 2 ^ log := by simp [Es]
theorem Hh {log : Nat} {ps S : List Int} {i : Nat} (h : i < 2 ^ log) : (Es log ps S i)[i]'(by rw [wT]; exact h) = (S.getD i 0, 0, 0) := by
  unfold Es; simp
theorem HL {log : Nat} {ps S : List Int} {i : Nat} (_ : i < 2 ^ log) : (Es log ps S i).set i (Ea log ps S i) = Es log ps S (i + 1) := by
  unfold Es
  apply List.ext_getElem
  · simp
  · intro j h1 h2
    rw [List.getElem_set]
    simp only [List.getElem_map, List.getElem_range]
    by_cases hij : i = j
    · subst hij; simp
    · rw [if_neg hij]
      by_cases hj : j < i
      · rw [if_pos hj, if_pos (by omega)]
      · rw [if_neg hj, if_neg (by omega)]
theorem yF (ps S : List Int) (i : Nat) : (Ep ps S i).length = ps.length := by simp [Ep]
theorem Gx (ps S : List Int) : Ep ps S 0 = ps.map gD := by
  unfold Ep
  apply List.ext_getElem
  · simp
  · intro i h1 h2
    simp only [List.length_map, List.length_range] at h1
    simp only [List.getElem_map, List.getElem_range, List.take_zero, List.count_nil, List.getD_eq_getElem?_getD]
    rw [List.getElem?_eq_getElem h1]; simp
theorem DH {ps S : List Int} {i s : Nat} (h : s < ps.length) : (Ep ps S i)[s]'(by rw [yF]; exact h) = gD ps[s] + ((S.take i).count (s : Int) : Nat) := by
  unfold Ep
  simp only [List.getElem_map, List.getElem_range, List.getD_eq_getElem?_getD]
  rw [List.getElem?_eq_getElem h] <;> rfl
theorem G5 {ps S : List Int} {i s : Nat} (h : i < S.length) (hs : s < ps.length) (e : S[i] = (s : Int)) : (Ep ps S i).set s (gD ps[s] + ((S.take i).count (s : Int) : Nat) + 1) = Ep ps S (i + 1) := by
  apply List.ext_getElem
  · simp [Ep]
  · intro j h1 h2
    have hj : j < ps.length := by simpa [Ep] using h2
    rw [List.getElem_set, DH hj, DH hj, List.take_add_one, List.getElem?_eq_getElem h, List.count_append]
    simp only [Option.toList, e, List.count_singleton]
    by_cases hij : s = j
    · subst hij; simp; omega
    · have : ((s : Int) == (j : Int)) = false := by simp; omega
      rw [if_neg hij, this]; simp
theorem GU {k b : Nat} (hb : b ≤ 64) (h : k * 2 ^ b ≤ 9223372036854775807) : IntKind.i64.wrap ((k : Int) * 2 ^ (min b IntKind.i64.bits)) = ((k * 2 ^ b : Nat) : Int) := by
  have e : min b IntKind.i64.bits = b := by simp only [IntKind.bits]; omega
  rw [e]
  have : (k : Int) * 2 ^ b = ((k * 2 ^ b : Nat) : Int) := by simp
  rw [this]
  exact eE (by omega) (by omega)
section
variable {log : Nat} {ps S : List Int} {w0 w1 : World} {p1 p2 p4 b nb N : Nat} {sv : Value}
theorem Ew (hm : EN log ps) (L : Ih log ps S) (hN : 2 ^ log = N) {i : Nat} (hlt : i < N) {w3 : World}
    (on3 : iB w3 nb ((Ep ps S i).map (Value.int .i64))) (ob3 : iB w3 b (fe .u8 (Es log ps S i)))
    (o13 : iB w3 p1 [.int .i64 log, sv]) (o43 : iB w3 p4 [.int .i64 log, .slice (some ⟨b, 0, none⟩) N N])
    (hne : p1 ≠ b ∧ p4 ≠ b ∧ nb ≠ b ∧ p1 ≠ nb ∧ p4 ≠ nb) {t2 : Value} {kn : Value → Value → Value → Value → Value → Value → World → Prop}
    (hk : ∀ w', iB w' nb ((Ep ps S (i + 1)).map (Value.int .i64)) → iB w' b (fe .u8 (Es log ps S (i + 1))) → fS w3 w' (fun y => y = nb ∨ y = b) →
      kn (.pointer (some ⟨p1, 0, none⟩)) t2 (.pointer (some ⟨p4, 0, none⟩)) (.slice (some ⟨nb, 0, none⟩) ps.length ps.length) (.int .i64 N) (.int .i64 ((i + 1 : Nat) : Int)) w') :
    nU kn (.pointer (some ⟨p1, 0, none⟩)) t2 (.pointer (some ⟨p4, 0, none⟩)) (.slice (some ⟨nb, 0, none⟩) ps.length ps.length) (.int .i64 N) (.int .i64 i) w3 := by
  have h5 := hm.log5
  have h15 := hm.log15
  have hlen := hm.len256
  have hN2 : 2 ^ log ≤ 2 ^ 15 := Nat.pow_le_pow_right (by omega) h15
  have hSl : S.length = 2 ^ log := L.len
  have c40 := o43.cell (off := 0)
  have c41 := o43.cell (off := 1)
  have c10 := o13.cell (off := 0)
  simp only [List.getElem?_cons_zero, List.getElem?_cons_succ] at c40 c41 c10
  have hltN : i < 2 ^ log := by omega
  obtain ⟨s, hsl, hsS, hp1, hp2, hk', hcnt⟩ := Hz hm L hltN
  obtain ⟨k, hkk⟩ : ∃ k, k = Im ps S i := ⟨_, rfl⟩
  rw [← hkk] at hk'
  have hk2 : k < 2 ^ (log + 1) := by rw [Nat.pow_succ]; omega
  obtain ⟨eb1, eb2, eb3, eb4⟩ := HD (log := log) (k := k) (by omega) hk2
  have hel : i < (Es log ps S i).length := by rw [wT]; exact hltN
  obtain ⟨f0, f1, f2⟩ := EY .u8 (Es log ps S i) i hel
  rw [Hh hltN] at f0
  simp only at f0
  rw [hsS] at f0
  have g0 := ob3.cell (off := i * 3)
  rw [f0] at g0
  have hnx : ((Ep ps S i).map (Value.int .i64))[s]? = some (.int .i64 k) := by
    rw [List.getElem?_map, List.getElem?_eq_getElem (by rw [yF]; exact hsl), DH hsl, hk']
    simp; omega
  have gn := on3.cell (off := s)
  rw [hnx] at gn
  have hkb : k < 131072 := by
    have : 2 ^ (log + 1) ≤ 2 ^ 16 := Nat.pow_le_pow_right (by omega) (by omega)
    omega
  have hpn := jN (hm.low _ (List.getElem_mem hsl))
  have hSi : S[i]'(by omega) = (s : Int) := by rw [← hsS, List.getD_eq_getElem?_getD, List.getElem?_eq_getElem (by omega)] <;> rfl
  have hns := G5 (ps := ps) (S := S) (i := i) (s := s) (by omega) hsl hSi
  have hkv : gD ps[s] + ((S.take i).count (s : Int) : Nat) + 1 = (k : Int) + 1 := by rw [hk']; omega
  rw [hkv] at hns
  have hent : Ea log ps S i = BH log (s : Int) k := by unfold Ea; rw [hsS, ← hkk]
  have hes := HL (log := log) (ps := ps) (S := S) (i := i) hltN
  rw [hent] at hes
  have hE0 : (Es log ps S i)[i]'hel = ((s : Int), 0, 0) := by rw [Hh hltN, hsS]
  clear hkk hcnt
  unfold nU uJ uI uM
  simp (disch := omega) only [cJ, aZ, Nat.zero_add, aD, bV, c41, cU, bU, Int.toNat_natCast, gA, bB, dW, g0, dJ, eA, gn, fA, eE]
  refine Cq on3 rfl (by simp [yF]; omega) fun w4 on4 x4 s4 => ?_
  rw [← List.map_set, hns] at on4
  unfold pY uT
  have o14 := kB (o13.ext x4 (by omega))
  have o44 := o43.ext x4 (by omega)
  have ob4 := ob3.ext x4 (by omega)
  have c10 := o14.cell (off := 0)
  simp only [List.getElem?_cons_zero] at c10
  simp (disch := omega) only [cJ, aI, dB, gB, hC, Result.ok.injEq, Next.value.injEq, and_true, gA, aD, bK, true_and, eA, c10, cU]
  refine (Hn k (by omega) _).mono ?_
  rintro r w5 ⟨rfl, rfl⟩
  obtain ⟨nbits, hnbits⟩ : ∃ x, x = log + 1 - bl k := ⟨_, rfl⟩
  have e2 : (log : Int) - (bl k : Int) + 1 = (nbits : Int) := by omega
  have e3 : IntKind.i64.wrap ((log : Int) - (bl k : Int)) = (log : Int) - (bl k : Int) := eE (by omega) (by omega)
  simp (disch := omega) only [c10, cU, fN, e3, aD, fA, e2, eE, true_and]
  have ob4 := kB ob4
  refine Cq ob4 rfl (by rw [tO, wT]; omega) fun w5 ob5 x5 s5 => ?_
  rw [(DE .u8 (Es log ps S i) i hel _).2.1, hE0] at ob5
  unfold qA
  have o45 := kB ((kB o44).ext x5 (by omega))
  have ob5 := kB ob5
  have on5 := kB ((kB on4).ext x5 (by omega))
  have c41 := o45.cell (off := 1)
  simp only [List.getElem?_cons_zero, List.getElem?_cons_succ] at c41
  have hel5 : i < ((Es log ps S i).set i ((s : Int), (nbits : Int), 0)).length := by simpa using hel
  obtain ⟨-, f1, -⟩ := EY .u8 _ i hel5
  simp only [List.getElem_set_self] at f1
  have g1 := ob5.cell (off := i * 3 + 1)
  rw [f1] at g1
  have hnb2 : k * 2 ^ nbits ≤ 2 ^ 16 := by
    rw [hnbits]
    have : 2 ^ (log + 1) ≤ 2 ^ 16 := Nat.pow_le_pow_right (by omega) (by omega)
    have := Nat.mul_le_mul_right (2 ^ (log + 1 - bl k)) (show k ≤ k + 1 by omega)
    omega
  have e4 := GU (k := k) (b := nbits) (by omega) (by omega)
  have e5 : (((k * 2 ^ nbits : Nat) : Int) - (N : Int)) = (BH log (s : Int) k).2.2 := by
    unfold BH
    simp only
    rw [← hnbits, ← hN]
    simp
  have e6 : IntKind.i64.wrap (((k * 2 ^ nbits : Nat) : Int) - (N : Int)) = ((k * 2 ^ nbits : Nat) : Int) - (N : Int) := eE (by omega) (by omega)
  rw [e5] at e6
  have e7 : (BH log (s : Int) k) = ((s : Int), (nbits : Int), (BH log (s : Int) k).2.2) := by unfold BH; rw [hnbits]
  generalize hq : k * 2 ^ nbits = q at *
  generalize hbase : (BH log (s : Int) k).2.2 = base at *
  simp (disch := omega) only [cJ, gA, aZ, Nat.zero_add, aD, bM, true_and, bV, c41, cU, bW, bK, eA, g1, fX, Int.toNat_natCast, e4, fN, e5, e6]
  refine Cq ob5 rfl (by rw [tO]; simp [wT]; omega) fun w6 ob6 x6 s6 => ?_
  rw [(DE .u8 _ i hel5 _).2.2] at ob6
  simp only [List.getElem_set_self, List.set_set] at ob6
  rw [← e7, hes] at ob6
  have xx : fS w3 w6 (fun y => y = nb ∨ y = b) :=
    ((((x4.mono fun _ _ h => .inl h : fS w3 w4 (fun y => y = nb ∨ y = b)).seq (fS.dr _ _)).seq (x5.mono fun _ _ h => .inr h)).seq (fS.dr _ _)).seq (x6.mono fun _ _ h => .inr h)
  unfold qE
  simp (disch := omega) only [cJ, fA, eE, aD]
  exact hk _ (on5.ext x6 (by omega)) ob6 xx
theorem FL (hm : EN log ps) (L : Ih log ps S) (hN : 2 ^ log = N) {w3 : World}
    (on3 : iB w3 nb ((Ep ps S 0).map (Value.int .i64))) (ob3 : iB w3 b (fe .u8 (m3 S)))
    (o13 : iB w3 p1 [.int .i64 log, sv]) (o23 : iB w3 p2 [.int .i64 0, .slice none 0 0]) (o43 : iB w3 p4 [.int .i64 log, .slice (some ⟨b, 0, none⟩) N N])
    (hne : p1 ≠ b ∧ p4 ≠ b ∧ nb ≠ b ∧ p1 ≠ nb ∧ p4 ≠ nb ∧ p2 ≠ b ∧ p2 ≠ nb) (hlo : w0.heap.size ≤ p2 ∧ w0.heap.size ≤ b ∧ w0.heap.size ≤ nb) (hx : fS w0 w3 jI) {R : Value → World → Prop}
    (hR : ∀ w', iB w' b (fe .u8 (Es log ps S N)) → fS w0 w' jI → R (.tuple #[.agg #[.int .i64 log, .slice (some ⟨b, 0, none⟩) N N], .int .i64 0]) w') :
    lO R (.pointer (some ⟨p1, 0, none⟩)) (.pointer (some ⟨p2, 0, none⟩)) (.pointer (some ⟨p4, 0, none⟩)) (.slice (some ⟨nb, 0, none⟩) ps.length ps.length) w3 := by
  have hN2 : 2 ^ log ≤ 2 ^ 15 := Nat.pow_le_pow_right (by omega) hm.log15
  have c41 := o43.cell (off := 1)
  simp only [List.getElem?_cons_zero, List.getElem?_cons_succ] at c41
  unfold lO sR sS pB tI
  simp (disch := omega) only [cJ, aZ, Nat.zero_add, aD, bV, c41, cU, bW]
  have ob0 : iB w3 b (fe .u8 (Es log ps S 0)) := by rw [G4 L.len]; exact ob3
  refine iY.rule (fun m t w' => ∃ i : Nat, m = N - i ∧ t = .int .i64 i ∧ i ≤ N ∧ iB w' nb ((Ep ps S i).map (Value.int .i64)) ∧ iB w' b (fe .u8 (Es log ps S i)) ∧ fS w3 w' (fun y => y = nb ∨ y = b)) N
    ⟨0, rfl, rfl, by omega, on3, ob0, fS.refl _ _⟩ ?_
  rintro m t w4 ⟨i, rfl, rfl, hi, on4, ob4, x4⟩
  unfold pA tA
  have o44 := o43.ext x4 (by omega)
  have o24 := o23.ext x4 (by omega)
  by_cases hlt : i < N
  · have d1 : decide ((i : Int) < (N : Int)) = true := by simp only [decide_eq_true_eq]; omega
    simp (disch := omega) only [cJ, eU, d1, aD, cW]
    refine Ew hm L hN hlt on4 ob4 (o13.ext x4 (by omega)) o44 ⟨hne.1, hne.2.1, hne.2.2.1, hne.2.2.2.1, hne.2.2.2.2.1⟩ fun w5 on5 ob5 x5 => ?_
    exact ⟨N - (i + 1), by omega, i + 1, rfl, rfl, by omega, on5, ob5, x4.trans x5 (fun _ _ h => h)⟩
  · have d1 : decide ((i : Int) < (N : Int)) = false := by simp only [decide_eq_false_iff_not]; omega
    have : i = N := by omega
    subst this
    have l4 := oT (off := 0) o44 (by simp)
    simp only [List.drop_zero, List.take_succ_cons, List.take_zero] at l4
    simp (disch := omega) only [cJ, eU, d1, aD, cO]
    unfold qH
    simp (disch := omega) only [cJ, l4, aD]
    refine fY o24 rfl (by simp [one]) (by simp) fun w5 o25 x5 s5 => ?_
    refine kH o25 (by simp [fZ]) ?_
    simp only [fZ, List.set_cons_zero, List.set_cons_succ, List.drop_zero, List.take_succ_cons, List.take_zero]
    exact hR _ (ob4.ext x5 (by omega)) ((hx.trans x4 (fun y hy hh => by omega)).new x5 hlo.1)
theorem EV (hm : EN log ps) (L : Ih log ps S) (hN : 2 ^ log = N) {w : World} (hs : Sl w0 sv (ps.map (Value.int .i64)))
    (o1 : iB w p1 [.int .i64 log, sv]) (o2 : iB w p2 [.int .i64 0, .slice none 0 0]) (o4 : iB w p4 [.int .i64 log, .slice (some ⟨b, 0, none⟩) N N]) (ob : iB w b (fe .u8 (m3 S)))
    (hlo : w0.heap.size ≤ p2 ∧ w0.heap.size ≤ b) (hne : p1 ≠ b ∧ p2 ≠ b ∧ p4 ≠ b) (hx : fS w0 w jI) {R : Value → World → Prop}
    (hR : ∀ w', iB w' b (fe .u8 (Es log ps S N)) → fS w0 w' jI → R (.tuple #[.agg #[.int .i64 log, .slice (some ⟨b, 0, none⟩) N N], .int .i64 0]) w') :
    kG R (.pointer (some ⟨p1, 0, none⟩)) (.pointer (some ⟨p2, 0, none⟩)) (.pointer (some ⟨p4, 0, none⟩)) w := by
  have hlen := hm.len256
  have hN2 : 2 ^ log ≤ 2 ^ 15 := Nat.pow_le_pow_right (by omega) hm.log15
  obtain ⟨a, c, rfl, hc⟩ := hs.lenI
  have c1 := o1.cell (off := 1)
  simp only [List.getElem?_cons_zero, List.getElem?_cons_succ] at c1
  unfold kG sX
  simp (disch := omega) only [cJ, aE, Nat.zero_add, aD, dH, c1, cU, dI]
  refine FJ (by omega) (by omega) fun w1 on x1 s1 => ?_
  rw [Int.toNat_natCast] at on ⊢
  have l1 := o1.lt
  have l2 := o2.lt
  have l4 := o4.lt
  have lb := ob.lt
  have o1 := o1.ext x1 (fun h => h)
  have o2 := o2.ext x1 (fun h => h)
  have o4 := o4.ext x1 (fun h => h)
  have ob := ob.ext x1 (fun h => h)
  have x01 := hx.seq x1
  have c1 := o1.cell (off := 1)
  simp only [List.getElem?_cons_zero, List.getElem?_cons_succ] at c1
  have hwn : w0.heap.size ≤ w.heap.size := hx.size
  generalize w.heap.size = nb at *
  unfold oU sV sZ pG tG
  simp (disch := omega) only [cJ, aE, Nat.zero_add, aD, dH, c1, cU, dI]
  refine iY.rule (fun m t w' => ∃ i : Nat, m = ps.length - i ∧ t = .int .i64 i ∧ i ≤ ps.length ∧ iB w' nb (((ps.take i).map gD ++ List.replicate (ps.length - i) 0).map (Value.int .i64)) ∧ fS w0 w' jI ∧ fS w1 w' (fun y => y = nb)) ps.length
    ⟨0, rfl, rfl, by omega, by simpa using on, x01, fS.refl _ _⟩ ?_
  rintro m t w2 ⟨i, rfl, rfl, hi, on2, x2, y2⟩
  by_cases hlt : i < ps.length
  · have d1 : decide ((i : Int) < (ps.length : Int)) = true := by simp; omega
    obtain ⟨b', off', c', e, _, hcell⟩ := (hs.ext x2 (iL _)).openI (by omega)
    cases e
    have g1 := hcell i hlt
    have hp := hm.low _ (List.getElem_mem hlt)
    have hple := CE hm hlt
    have hpv : gD ps[i] = ps[i] ∨ ps[i] = -1 := by unfold gD; split <;> omega
    have hpn := jN hp
    have emax : (if (0 - ps[i]) > ps[i] then (0 - ps[i]) else ps[i]) = gD ps[i] := by unfold gD; split <;> split <;> omega
    unfold lN
    simp (disch := omega) only [cJ, eU, d1, dJ, Int.toNat_natCast, Nat.zero_add, fA, eE, aD, eA, g1, cU, gO, gL, emax, cW]
    refine Cq on2 rfl (by simp; omega) fun w3 on3 x3 s3 => ?_
    refine ⟨ps.length - (i + 1), by omega, i + 1, rfl, rfl, by omega, ?_, x2.new x3 hwn, y2.trans x3 (fun _ _ h => h)⟩
    rw [← List.map_set] at on3
    have e : ((ps.take i).map gD ++ List.replicate (ps.length - i) 0).set i (gD ps[i]) = (ps.take (i + 1)).map gD ++ List.replicate (ps.length - (i + 1)) 0 := by
      rw [show ps.length - i = (ps.length - (i + 1)) + 1 from by omega, List.replicate_succ, List.set_append_right _ _ (by rw [List.length_map, List.length_take]; omega)]
      have : i - ((ps.take i).map gD).length = 0 := by rw [List.length_map, List.length_take]; omega
      rw [this, List.set_cons_zero, List.take_add_one, List.getElem?_eq_getElem hlt, List.map_append, List.append_assoc]
      rfl
    rw [e] at on3
    exact on3
  · have d1 : decide ((i : Int) < (ps.length : Int)) = false := by simp; omega
    have : i = ps.length := by omega
    subst this
    have on2 : iB w2 nb ((Ep ps S 0).map (Value.int .i64)) := by rw [Gx]; simpa using on2
    unfold lN
    simp (disch := omega) only [cJ, eU, d1, fA, eE, aD, cO]
    exact FL hm L hN on2 (ob.ext y2 (by omega)) (o1.ext y2 (by omega)) (o2.ext y2 (by omega)) (o4.ext y2 (by omega)) (by omega) (by omega) x2 hR
def GM (w : World) (base b log : Nat) (L : List T3) (v : Value) : Prop := v = .agg #[.int .i64 log, .slice (some ⟨b, 0, none⟩) L.length L.length] ∧ base ≤ b ∧ iB w b (fe .u8 L)
theorem GS {log most : Nat} {ps : List Int} (h : EN log ps) (hl : log ≤ most) : FD log ps most = 0 := by
  unfold FD; rw [h.b]; simp; omega
theorem E3 {w : World} (hm : EN log ps) (hs : Sl w sv (ps.map (Value.int .i64))) :
    gE pg lG #[.agg #[.int .i64 log, sv]] w (fun r w' => ∃ b v, r = .tuple #[v, .int .i64 0] ∧ GM w' w.heap.size b log (mD log ps) v ∧ fS w w' jI) := by
  refine vR ?_
  have hlen := hm.len256
  unfold AW oZ pC
  refine uP fun w1 o1 x1 s1 => ?_
  refine gX fun w2 o2 x2 s2 => ?_
  have o1 := o1.ext x2 (fun h => h)
  have l1 := iF (off := 0) o1 (by simp [Value.cells])
  simp only [Value.cells, List.drop_zero, List.take_succ_cons, List.take_zero] at l1
  simp (disch := omega) only [cJ, l1, cQ, aD, aI, hC, Result.ok.injEq, Next.value.injEq, and_true, eA, true_and]
  refine (E7 (most := 15) ((hs.ext x1 (iL _)).ext x2 (iL _)) (by omega)).mono ?_
  rintro r w3 ⟨rfl, x3⟩
  have hce := GS (most := 15) hm hm.log15
  rw [show (((15 : Nat) : Int)) = 15 from rfl] at hce
  rw [hce]
  have e0 : ((0 : Int) != 0) = false := rfl
  have x03 : fS w w3 jI := (x1.seq x2).seq x3
  have o1 := kB (o1.ext x3 (fun h => h))
  have o2 := kB (o2.ext x3 (fun h => h))
  have c0 := o1.cell (off := 0)
  simp only [Value.cells, List.getElem?_cons_zero] at c0
  have l1 := iF (off := 0) o1 (by simp [Value.cells])
  simp only [Value.cells, List.drop_zero, List.take_succ_cons, List.take_zero] at l1
  have hz2 := o2.lt
  have fin : ∀ {b p4 : Nat} {w' : World}, iB w' w.heap.size [.int .i64 log, sv] → iB w' w1.heap.size [.int .i64 0, .slice none 0 0] → iB w' p4 [.int .i64 log, .slice (some ⟨b, 0, none⟩) (2 ^ log) (2 ^ log)] → iB w' b (fe .u8 (m3 (qK 0 log ps))) → w2.heap.size ≤ b → p4 ≠ b → fS w w' jI →
      kG (fun r w' => ∃ b v, r = .tuple #[v, .int .i64 0] ∧ GM w' w.heap.size b log (mD log ps) v ∧ fS w w' jI) (.pointer (some ⟨w.heap.size, 0, none⟩)) (.pointer (some ⟨w1.heap.size, 0, none⟩)) (.pointer (some ⟨p4, 0, none⟩)) w' := by
    intro b p4 w' h1 h2 h3 h4 h5 h6 h7
    refine EV hm (Ev hm 0) rfl hs h1 h2 h3 h4 (by omega) (by omega) h7 fun w'' ho hx => ?_
    rw [HE] at ho
    exact ⟨b, _, rfl, ⟨by rw [xJ], by omega, ho⟩, hx⟩
  simp (disch := omega) only [fL, e0, aD, cO]
  have hdr : (dr w3).heap.size = w3.heap.size := rfl
  have h23 := x3.size
  refine F8 ?_ ?_
  · simp (disch := omega) only [c0, cU, l1, aD, true_and]
    refine (Ei hm ((hs.ext x03 (iL _)).dr)).mono ?_
    rintro r w4 ⟨b, rfl, hb, ob, x4⟩
    have o1 := o1.ext x4 (fun h => h)
    have c0 := o1.cell (off := 0)
    simp only [Value.cells, List.getElem?_cons_zero] at c0
    simp (disch := omega) only [c0, cU, bO, Result.ok.injEq, Next.value.injEq, and_true, aD, true_and]
    refine gX fun w5 o5 x5 s5 => ?_
    have o1 := o1.ext x5 (fun h => h)
    have c0 := o1.cell (off := 0)
    simp only [Value.cells, List.getElem?_cons_zero] at c0
    simp (disch := omega) only [c0, cU, true_and]
    have hlb := ob.lt
    refine fY o5 rfl (by simp [one]) (by simp) fun w6 o6 x6 s6 => ?_
    have h45 := x4.size
    refine fin (o1.ext x6 (by omega)) (((o2.ext x4 (fun h => h)).ext x5 (fun h => h)).ext x6 (by omega)) o6 ((ob.ext x5 (fun h => h)).ext x6 (by omega)) (by omega) (by omega) ?_
    exact (((x03.seq (fS.dr _ _)).seq x4).seq x5).new x6 (by omega)
  · simp (disch := omega) only [c0, cU, l1, aD, true_and]
    refine gX fun w4 o4 x4 s4 => ?_
    have o1 := o1.ext x4 (fun h => h)
    have c0 := o1.cell (off := 0)
    simp only [Value.cells, List.getElem?_cons_zero] at c0
    have l1 := iF (off := 0) o1 (by simp [Value.cells])
    simp only [Value.cells, List.drop_zero, List.take_succ_cons, List.take_zero] at l1
    simp (disch := omega) only [l1, c0, cU, and_true, true_and]
    refine (Ei hm ((((hs.ext x03 (iL _)).dr).ext x4 (iL _)))).mono ?_
    rintro r w5 ⟨b, rfl, hb, ob, x5⟩
    have o1 := o1.ext x5 (fun h => h)
    have c0 := o1.cell (off := 0)
    simp only [Value.cells, List.getElem?_cons_zero] at c0
    simp (disch := omega) only [c0, cU, bO, aD, true_and]
    refine fY (o4.ext x5 (fun h => h)) rfl (by simp [one]) (by simp) fun w6 o6 x6 s6 => ?_
    refine fin (o1.ext x6 (by omega)) (((o2.ext x4 (fun h => h)).ext x5 (fun h => h)).ext x6 (by omega)) o6 (ob.ext x6 (by omega)) (by omega) (by omega) ?_
    exact (((x03.seq (fS.dr _ _)).seq x4).seq x5).new x6 (by omega)
theorem FN {log : Int} {w : World} (hm : CU log ps = false) (hs : Sl w sv (ps.map (Value.int .i64))) (hl : ps.length ≤ 9223372036854775807) :
    gE pg lG #[.agg #[.int .i64 log, sv]] w (fun r w' => r = .tuple #[.agg #[.int .i64 0, .slice none 0 0], .int .i64 1] ∧ fS w w' jI) := by
  refine vR ?_
  unfold AW oZ pC
  refine uP fun w1 o1 x1 s1 => ?_
  refine gX fun w2 o2 x2 s2 => ?_
  have o1 := o1.ext x2 (fun h => h)
  have l1 := iF (off := 0) o1 (by simp [Value.cells])
  simp only [Value.cells, List.drop_zero, List.take_succ_cons, List.take_zero] at l1
  simp (disch := omega) only [cJ, l1, cQ, aD, aI, hC, Result.ok.injEq, Next.value.injEq, and_true, eA, true_and]
  refine (E7 (most := 15) ((hs.ext x1 (iL _)).ext x2 (iL _)) (by omega)).mono ?_
  rintro r w3 ⟨rfl, x3⟩
  have hce : FD log ps 15 = 1 := by unfold FD; rw [hm] <;> rfl
  rw [hce]
  have e0 : ((1 : Int) != 0) = true := rfl
  simp (disch := omega) only [fL, e0, aD, cW]
  refine fY (o2.ext x3 (fun h => h)) rfl (by simp [one]) (by simp) fun w6 o6 x6 s6 => ?_
  refine kH o6 (by simp [fZ]) ⟨rfl, ?_⟩
  exact ((x1.seq x2).seq x3).new x6 (by omega)
end
end Go.Proofs.YtoepfjgekpdddaaDoor
namespace Go.Proofs.YtoepfjgekpdddaaDoor
open Go Go.En Go.Pu
set_option maxRecDepth 4000
set_option linter.unusedSimpArgs false
set_option linter.unusedVariables false
theorem GM.ext {w w' : World} {base b log : Nat} {L : List T3} {v : Value} {M : Nat → Prop} (h : GM w base b log L v) (hx : fS w w' M) (hM : ¬ M b) : GM w' base b log L v := ⟨h.1, h.2.1, h.2.2.ext hx hM⟩
end Go.Proofs.YtoepfjgekpdddaaDoor
namespace Go.Proofs.YtoepfjgekpdddaaDoor
open Go Go.En Go.Pu
set_option maxRecDepth 4000
set_option linter.unusedSimpArgs false
set_option linter.unusedVariables false
theorem HY (s : Int) (w : World) : gE pg xB #[.int .u8 s] w (fun r w' => ∃ b, GM w' w.heap.size b 0 [(s, 0, 0)] r ∧ fS w w' jI) := by
  refine Dx ?_
  unfold E2 xR
  refine gX fun w1 o1 x1 s1 => ?_
  simp (disch := omega) only [cJ, cL, aD]
  refine B4 (cells := #[.int .u8 s, .int .i64 0, .int .i64 0]) (by decide) (by decide) (by kernel_rfl) fun w2 o2 x2 s2 => ?_
  simp (disch := omega) only [cK, aD]
  have l1 := o1.lt
  refine fY (o1.ext x2 (fun h => h)) rfl (by simp [one]) (by simp) fun w3 o3 x3 s3 => ?_
  refine kH o3 (by simp [fZ]) ?_
  simp only [fZ, List.set_cons_zero, List.set_cons_succ, List.drop_zero, List.take_succ_cons, List.take_zero]
  exact ⟨w1.heap.size, ⟨rfl, by omega, o2.ext x3 (by omega)⟩, (x1.seq x2).new x3 (Nat.le_refl _)⟩
end Go.Proofs.YtoepfjgekpdddaaDoor
namespace Go.Proofs.YtoepfjgekpdddaaDoor
open Go Go.En Go.Pu
set_option maxRecDepth 4000
set_option linter.unusedSimpArgs false
set_option linter.unusedVariables false
abbrev CN (w : World) (g : Nat) (zs : List Int) : Prop := ∀ i (h : i < zs.length), w.cell? ⟨g, i, none⟩ = some (.int .i64 zs[i])
theorem CN.ext {w w' : World} {g : Nat} {zs : List Int} {M : Nat → Prop} (h : CN w g zs) (x : fS w w' M) (hM : ¬ M g) : CN w' g zs := fun i hi => by
  have hc := h i hi
  have hg : g < w.heap.size := by
    rcases Nat.lt_or_ge g w.heap.size with h | h
    · exact h
    · unfold World.cell? at hc
      rw [Array.getElem?_eq_none h] at hc
      cases hc
  rw [← hc]
  unfold World.cell?
  rw [x.keep g hg hM]
theorem CN.ld {w : World} {g : Nat} {zs : List Int} (h : CN w g zs) : ∀ j, j < (zs.map (Value.int .i64)).length → w.cell? ⟨g, 0 + j, none⟩ = (zs.map (Value.int .i64))[j]? := fun j hj => by
  rw [List.length_map] at hj
  rw [Nat.zero_add, h j hj, List.getElem?_map, List.getElem?_eq_getElem hj] <;> rfl
theorem wS (zs : List Int) (i : Nat) (h : i < zs.length) : zs.getD i 0 = zs[i] := by
  rw [List.getD_eq_getElem?_getD, List.getElem?_eq_getElem h] <;> rfl
theorem EO (xs cs : List Value) (h : cs.length = xs.length) : fZ cs 0 xs = xs := by
  have := sQ xs [] cs (by omega)
  rw [List.nil_append, List.drop_of_length_le (by omega), List.append_nil, List.nil_append] at this
  exact this
theorem Ch {w : World} {b n : Nat} {zs : List Int} (o : iB w b (zs.map (Value.int .i64))) (h : zs.length = n) : Sl w (.slice (some ⟨b, 0, none⟩) n n) (zs.map (Value.int .i64)) := by
  refine ⟨_, _, _, rfl, by rw [List.length_map, h], Nat.le_refl _, fun _ => ⟨_, _, rfl, fun i hi => ?_⟩⟩
  rw [o.cell, Nat.zero_add]
theorem qP (zs : List Int) (n : Nat) (hz : zs.length = n) (cs : List Value) (h : cs.length = n) : fZ cs 0 (zs.map (Value.int .i64)) = zs.map (Value.int .i64) := EO _ cs (by rw [h, List.length_map, hz])
theorem wH (zs : List Int) : ∀ x ∈ (zs.map (Value.int .i64)).toArray.toList, one x = true := fun x hx => by
  rw [List.toList_toArray] at hx
  obtain ⟨z, _, rfl⟩ := List.mem_map.1 hx
  rfl
def Ho : List Int := [1, 1, 1, 1, 2, 2, 3, 3, 4, 6, 7, 8, 9, 10, 11, 12, 13, 14, 15, 16]
def HS : List Int := [1, 1, 1, 1, 2, 2, 3, 3, 4, 4, 5, 7, 8, 9, 10, 11, 12, 13, 14, 15, 16]
def Ht : List Int := [4, 3, 2, 2, 2, 2, 2, 2, 2, 2, 2, 2, 2, 1, 1, 1, 2, 2, 2, 2, 2, 2, 2, 2, 2, 3, 2, 1, 1, 1, 1, 1, -1, -1, -1, -1]
def HU : List Int := [1, 1, 1, 1, 1, 1, 2, 2, 2, 1, 1, 1, 1, 1, 1, 1, 1, 1, 1, 1, 1, 1, 1, 1, -1, -1, -1, -1, -1]
def Hs : List Int := [1, 4, 3, 2, 2, 2, 2, 2, 2, 1, 1, 1, 1, 1, 1, 1, 1, 1, 1, 1, 1, 1, 1, 1, 1, 1, 1, 1, 1, 1, 1, 1, 1, 1, 1, 1, 1, 1, 1, 1, 1, 1, 1, 1, 1, 1, -1, -1, -1, -1, -1, -1, -1]
structure vA (w : World) : Prop where
  cl : CN w 3 Ho
  cm : CN w 4 HS
  tl : CN w 0 Ht
  to : CN w 1 HU
  tm : CN w 2 Hs
theorem vA.ext {w w' : World} (h : vA w) (x : fS w w' jI) : vA w' :=
  ⟨h.cl.ext x (fun h => h), h.cm.ext x (fun h => h), h.tl.ext x (fun h => h), h.to.ext x (fun h => h), h.tm.ext x (fun h => h)⟩
def EF (a : Int) : Int := if a = 0 then 16 else if a = 2 then 32 else 0
def HZ (a : Int) : Int := if a = 2 then 3 else 0
def FH (a : Int) : List Int := if a = 0 then Ho else if a = 2 then HS else []
def kU (a : Int) : Int := if a = 0 then 35 else if a = 1 then 31 else if a = 2 then 52 else -1
theorem HX {a : Int} {w : World} (hg : vA w) :
    gE pg sK #[.int .i64 a] w (fun r w' => ∃ v, r = .tuple #[.int .i64 (EF a), .int .u32 (HZ a), v] ∧ Sl w' v ((FH a).map (Value.int .i64)) ∧ fS w w' jI) := by
  refine Cv ?_
  unfold CY uE EF HZ FH
  by_cases h0 : a = 0
  · subst h0
    have n1 : ((0 : Int) == 0) = true := rfl
    have l1 := Dy (b := 3) (off := 0) (l := Ho.map (Value.int .i64)) rfl hg.cl.ld
    simp (disch := omega) only [cJ, hC, aD, dM, fA, fN, gM, gJ, gG, gN, iN, gU, dX, fX, fV, fW, fL, eU, gP, fI, gC, gO, gV, gI, eK, gT, gL, gA, kT, kN, nX, oC, nW, oB, oA, nY, nZ, cU, Result.ok.injEq, Next.value.injEq, true_and, and_true, eE, gB, gQ, gR, gS, iK, Int.toNat_natCast, fK, fB, fJ, eT, dZ, dT, eM, dY, cW, cO, if_true, if_false, Bool.false_eq_true, Nat.zero_add, Option.isNone_some, Option.isNone_none, Bool.not_true, Bool.not_false, List.getElem?_cons_succ, List.getElem?_cons_zero, cQ, aZ, bV, bW, bU, bB, dW, dC, dF, cV, aI, eA, bO, aE, dH, dI, dJ, dB, bK, bM, bZ, bA, cA, cH, bE, cL, cK, cT, cM, cG, cB, cE, dO, bX, cP, dQ, bS, cX, aX, cD, dR, bH, aV, aN, aO, aJ, aP, aW, aC, cN, bF, cY, bR, cC, cR, aS, aQ, aT, aY, aR, aL, aG, aB, cZ, aH, aF, bN, bC, bJ, dD, bD, cF, bG, bT, bQ, aK, dS, aU, dL, dN, aM, cI, bY, dK, eL, n1, l1]
    refine DY fun w2 o2 x2 s2 => ?_
    refine Dg o2 rfl (wH _) (by simp) fun w3 o3 x3 s3 => ?_
    have o3 : iB w3 w.heap.size (Ho.map (Value.int .i64)) := by
      rw [List.toList_toArray, qP Ho 20 rfl] at o3
      · exact o3
      · rfl
    have x13 : fS w w3 jI := x2.new x3 (by omega)
    have hsh : kM ⟨w.heap.size, 0, none⟩ 20 0 1 = ⟨w.heap.size, 0, none⟩ := sB (by decide)
    simp (disch := omega) only [cJ, hC, aD, dM, fA, fN, gM, gJ, gG, gN, iN, gU, dX, fX, fV, fW, fL, eU, gP, fI, gC, gO, gV, gI, eK, gT, gL, gA, kT, kN, nX, oC, nW, oB, oA, nY, nZ, cU, Result.ok.injEq, Next.value.injEq, true_and, and_true, eE, gB, gQ, gR, gS, iK, Int.toNat_natCast, fK, fB, fJ, eT, dZ, dT, eM, dY, cW, cO, if_true, if_false, Bool.false_eq_true, Nat.zero_add, Option.isNone_some, Option.isNone_none, Bool.not_true, Bool.not_false, List.getElem?_cons_succ, List.getElem?_cons_zero, cQ, aZ, bV, bW, bU, bB, dW, dC, dF, cV, aI, eA, bO, aE, dH, dI, dJ, dB, bK, bM, bZ, bA, cA, cH, bE, cL, cK, cT, cM, cG, cB, cE, dO, bX, cP, dQ, bS, cX, aX, cD, dR, bH, aV, aN, aO, aJ, aP, aW, aC, cN, bF, cY, bR, cC, cR, aS, aQ, aT, aY, aR, aL, aG, aB, cZ, aH, aF, bN, bC, bJ, dD, bD, cF, bG, bT, bQ, aK, dS, aU, dL, dN, aM, cI, bY, dK, eL, hsh]
    exact ⟨_, rfl, Ch (kB o3) rfl, x13.seq (fS.dr _ _)⟩
  · rw [if_neg h0, if_neg h0]
    have n1 : (a == 0) = false := beq_eq_false_iff_ne.2 h0
    by_cases h2 : a = 2
    · subst h2
      have n2 : ((2 : Int) == 2) = true := rfl
      have l1 := DG (b := 4) (off := 0) (l := HS.map (Value.int .i64)) rfl hg.cm.ld
      simp (disch := omega) only [cJ, hC, aD, dM, fA, fN, gM, gJ, gG, gN, iN, gU, dX, fX, fV, fW, fL, eU, gP, fI, gC, gO, gV, gI, eK, gT, gL, gA, kT, kN, nX, oC, nW, oB, oA, nY, nZ, cU, Result.ok.injEq, Next.value.injEq, true_and, and_true, eE, gB, gQ, gR, gS, iK, Int.toNat_natCast, fK, fB, fJ, eT, dZ, dT, eM, dY, cW, cO, if_true, if_false, Bool.false_eq_true, Nat.zero_add, Option.isNone_some, Option.isNone_none, Bool.not_true, Bool.not_false, List.getElem?_cons_succ, List.getElem?_cons_zero, cQ, aZ, bV, bW, bU, bB, dW, dC, dF, cV, aI, eA, bO, aE, dH, dI, dJ, dB, bK, bM, bZ, bA, cA, cH, bE, cL, cK, cT, cM, cG, cB, cE, dO, bX, cP, dQ, bS, cX, aX, cD, dR, bH, aV, aN, aO, aJ, aP, aW, aC, cN, bF, cY, bR, cC, cR, aS, aQ, aT, aY, aR, aL, aG, aB, cZ, aH, aF, bN, bC, bJ, dD, bD, cF, bG, bT, bQ, aK, dS, aU, dL, dN, aM, cI, bY, dK, eL, n1, n2, l1]
      refine Eg fun w2 o2 x2 s2 => ?_
      refine Dj o2 rfl (wH _) (by simp) fun w3 o3 x3 s3 => ?_
      have o3 : iB w3 w.heap.size (HS.map (Value.int .i64)) := by
        rw [List.toList_toArray, qP HS 21 rfl] at o3
        · exact o3
        · rfl
      have x13 : fS w w3 jI := x2.new x3 (by omega)
      have hsh : kM ⟨w.heap.size, 0, none⟩ 21 0 1 = ⟨w.heap.size, 0, none⟩ := sB (by decide)
      simp (disch := omega) only [cJ, hC, aD, dM, fA, fN, gM, gJ, gG, gN, iN, gU, dX, fX, fV, fW, fL, eU, gP, fI, gC, gO, gV, gI, eK, gT, gL, gA, kT, kN, nX, oC, nW, oB, oA, nY, nZ, cU, Result.ok.injEq, Next.value.injEq, true_and, and_true, eE, gB, gQ, gR, gS, iK, Int.toNat_natCast, fK, fB, fJ, eT, dZ, dT, eM, dY, cW, cO, if_true, if_false, Bool.false_eq_true, Nat.zero_add, Option.isNone_some, Option.isNone_none, Bool.not_true, Bool.not_false, List.getElem?_cons_succ, List.getElem?_cons_zero, cQ, aZ, bV, bW, bU, bB, dW, dC, dF, cV, aI, eA, bO, aE, dH, dI, dJ, dB, bK, bM, bZ, bA, cA, cH, bE, cL, cK, cT, cM, cG, cB, cE, dO, bX, cP, dQ, bS, cX, aX, cD, dR, bH, aV, aN, aO, aJ, aP, aW, aC, cN, bF, cY, bR, cC, cR, aS, aQ, aT, aY, aR, aL, aG, aB, cZ, aH, aF, bN, bC, bJ, dD, bD, cF, bG, bT, bQ, aK, dS, aU, dL, dN, aM, cI, bY, dK, eL, hsh]
      exact ⟨_, rfl, Ch (kB o3) rfl, x13.seq (fS.dr _ _)⟩
    · rw [if_neg h2, if_neg h2, if_neg h2]
      have n2 : (a == 2) = false := beq_eq_false_iff_ne.2 h2
      simp (disch := omega) only [cJ, hC, aD, dM, fA, fN, gM, gJ, gG, gN, iN, gU, dX, fX, fV, fW, fL, eU, gP, fI, gC, gO, gV, gI, eK, gT, gL, gA, kT, kN, nX, oC, nW, oB, oA, nY, nZ, cU, Result.ok.injEq, Next.value.injEq, true_and, and_true, eE, gB, gQ, gR, gS, iK, Int.toNat_natCast, fK, fB, fJ, eT, dZ, dT, eM, dY, cW, cO, if_true, if_false, Bool.false_eq_true, Nat.zero_add, Option.isNone_some, Option.isNone_none, Bool.not_true, Bool.not_false, List.getElem?_cons_succ, List.getElem?_cons_zero, cQ, aZ, bV, bW, bU, bB, dW, dC, dF, cV, aI, eA, bO, aE, dH, dI, dJ, dB, bK, bM, bZ, bA, cA, cH, bE, cL, cK, cT, cM, cG, cB, cE, dO, bX, cP, dQ, bS, cX, aX, cD, dR, bH, aV, aN, aO, aJ, aP, aW, aC, cN, bF, cY, bR, cC, cR, aS, aQ, aT, aY, aR, aL, aG, aB, cZ, aH, aF, bN, bC, bJ, dD, bD, cF, bG, bT, bQ, aK, dS, aU, dL, dN, aM, cI, bY, dK, eL, n1, n2]
      exact ⟨_, rfl, Sl.nil _, fS.refl _ _⟩
theorem HJ {a : Int} {w : World} (hg : vA w) :
    gE pg qD #[.int .i64 a] w (fun r w' => r = .int .i64 (kU a) ∧ fS w w' jI) := by
  refine Ca ?_
  unfold Cg tB
  by_cases h1 : a = 1
  · subst h1
    have n1 : ((1 : Int) == 1) = true := rfl
    simp (disch := omega) only [cJ, hC, aD, dM, fA, fN, gM, gJ, gG, gN, iN, gU, dX, fX, fV, fW, fL, eU, gP, fI, gC, gO, gV, gI, eK, gT, gL, gA, kT, kN, nX, oC, nW, oB, oA, nY, nZ, cU, Result.ok.injEq, Next.value.injEq, true_and, and_true, eE, gB, gQ, gR, gS, iK, Int.toNat_natCast, fK, fB, fJ, eT, dZ, dT, eM, dY, cW, cO, if_true, if_false, Bool.false_eq_true, Nat.zero_add, Option.isNone_some, Option.isNone_none, Bool.not_true, Bool.not_false, List.getElem?_cons_succ, List.getElem?_cons_zero, cQ, aZ, bV, bW, bU, bB, dW, dC, dF, cV, aI, eA, bO, aE, dH, dI, dJ, dB, bK, bM, bZ, bA, cA, cH, bE, cL, cK, cT, cM, cG, cB, cE, dO, bX, cP, dQ, bS, cX, aX, cD, dR, bH, aV, aN, aO, aJ, aP, aW, aC, cN, bF, cY, bR, cC, cR, aS, aQ, aT, aY, aR, aL, aG, aB, cZ, aH, aF, bN, bC, bJ, dD, bD, cF, bG, bT, bQ, aK, dS, aU, dL, dN, aM, cI, bY, dK, eL, n1]
    exact ⟨rfl, fS.refl _ _⟩
  have n1 : (a == 1) = false := beq_eq_false_iff_ne.2 h1
  simp (disch := omega) only [cJ, hC, aD, dM, fA, fN, gM, gJ, gG, gN, iN, gU, dX, fX, fV, fW, fL, eU, gP, fI, gC, gO, gV, gI, eK, gT, gL, gA, kT, kN, nX, oC, nW, oB, oA, nY, nZ, cU, Result.ok.injEq, Next.value.injEq, true_and, and_true, eE, gB, gQ, gR, gS, iK, Int.toNat_natCast, fK, fB, fJ, eT, dZ, dT, eM, dY, cW, cO, if_true, if_false, Bool.false_eq_true, Nat.zero_add, Option.isNone_some, Option.isNone_none, Bool.not_true, Bool.not_false, List.getElem?_cons_succ, List.getElem?_cons_zero, cQ, aZ, bV, bW, bU, bB, dW, dC, dF, cV, aI, eA, bO, aE, dH, dI, dJ, dB, bK, bM, bZ, bA, cA, cH, bE, cL, cK, cT, cM, cG, cB, cE, dO, bX, cP, dQ, bS, cX, aX, cD, dR, bH, aV, aN, aO, aJ, aP, aW, aC, cN, bF, cY, bR, cC, cR, aS, aQ, aT, aY, aR, aL, aG, aB, cZ, aH, aF, bN, bC, bJ, dD, bD, cF, bG, bT, bQ, aK, dS, aU, dL, dN, aM, cI, bY, dK, eL, n1]
  refine (HX hg).mono ?_
  rintro r w1 ⟨v, rfl, hs, x1⟩
  obtain ⟨av, cv, rfl, _⟩ := hs.lenI
  have e : EF a + ((FH a).length : Int) - 1 = kU a ∧ -10 ≤ EF a ∧ EF a ≤ 100 ∧ (FH a).length ≤ 100 := by
    unfold EF FH kU
    by_cases h0 : a = 0
    · subst h0; exact ⟨rfl, by decide, by decide, by decide⟩
    · by_cases h2 : a = 2
      · subst h2; exact ⟨rfl, by decide, by decide, by decide⟩
      · simp [h0, h1, h2]
  obtain ⟨e1, e2, e3, e4⟩ := e
  generalize EF a = p at *
  generalize (FH a).length = q at *
  simp (disch := omega) only [cJ, hC, aD, dM, fA, fN, gM, gJ, gG, gN, iN, gU, dX, fX, fV, fW, fL, eU, gP, fI, gC, gO, gV, gI, eK, gT, gL, gA, kT, kN, nX, oC, nW, oB, oA, nY, nZ, cU, Result.ok.injEq, Next.value.injEq, true_and, and_true, eE, gB, gQ, gR, gS, iK, Int.toNat_natCast, fK, fB, fJ, eT, dZ, dT, eM, dY, cW, cO, if_true, if_false, Bool.false_eq_true, Nat.zero_add, Option.isNone_some, Option.isNone_none, Bool.not_true, Bool.not_false, List.getElem?_cons_succ, List.getElem?_cons_zero, cQ, aZ, bV, bW, bU, bB, dW, dC, dF, cV, aI, eA, bO, aE, dH, dI, dJ, dB, bK, bM, bZ, bA, cA, cH, bE, cL, cK, cT, cM, cG, cB, cE, dO, bX, cP, dQ, bS, cX, aX, cD, dR, bH, aV, aN, aO, aJ, aP, aW, aC, cN, bF, cY, bR, cC, cR, aS, aQ, aT, aY, aR, aL, aG, aB, cZ, aH, aF, bN, bC, bJ, dD, bD, cF, bG, bT, bQ, aK, dS, aU, dL, dN, aM, cI, bY, dK, eL, e1]
  exact x1
end Go.Proofs.YtoepfjgekpdddaaDoor
namespace Go.Proofs.YtoepfjgekpdddaaDoor
open Go Go.En Go.Pu
set_option maxRecDepth 4000
set_option linter.unusedSimpArgs false
set_option linter.unusedVariables false
def EX (a : Int) : Nat := if a = 1 then 5 else if a = 0 ∨ a = 2 then 6 else 0
def Gu (a : Int) : List Int := if a = 0 then Ht else if a = 1 then HU else if a = 2 then Hs else []
theorem HM {a : Int} (h : a = 0 ∨ a = 1 ∨ a = 2) : EN (EX a) (Gu a) := by
  rcases h with rfl | rfl | rfl
  · exact ⟨by decide, by decide, by decide, by decide, by decide, by decide, by decide +kernel⟩
  · exact ⟨by decide, by decide, by decide, by decide, by decide, by decide, by decide +kernel⟩
  · exact ⟨by decide, by decide, by decide, by decide, by decide, by decide, by decide +kernel⟩
theorem G8 {a : Int} {w : World} (hg : vA w) :
    gE pg nM #[.int .i64 a] w (fun r w' => ∃ v, r = .agg #[.int .i64 (EX a : Nat), v] ∧ Sl w' v ((Gu a).map (Value.int .i64)) ∧ fS w w' jI) := by
  refine zE ?_
  unfold zT pV
  refine jX fun w1 o1 x1 s1 => ?_
  have hg1 := hg.ext x1
  have z1 := o1.lt
  by_cases h0 : a = 0
  · subst h0
    have n1 : ((0 : Int) == 0) = true := rfl
    have l1 := Dp (b := 0) (off := 0) (l := Ht.map (Value.int .i64)) rfl hg1.tl.ld
    simp (disch := omega) only [cJ, hC, aD, dM, fA, fN, gM, gJ, gG, gN, iN, gU, dX, fX, fV, fW, fL, eU, gP, fI, gC, gO, gV, gI, eK, gT, gL, gA, kT, kN, nX, oC, nW, oB, oA, nY, nZ, cU, Result.ok.injEq, Next.value.injEq, true_and, and_true, eE, gB, gQ, gR, gS, iK, Int.toNat_natCast, fK, fB, fJ, eT, dZ, dT, eM, dY, cW, cO, if_true, if_false, Bool.false_eq_true, Nat.zero_add, Option.isNone_some, Option.isNone_none, Bool.not_true, Bool.not_false, List.getElem?_cons_succ, List.getElem?_cons_zero, cQ, aZ, bV, bW, bU, bB, dW, dC, dF, cV, aI, eA, bO, aE, dH, dI, dJ, dB, bK, bM, bZ, bA, cA, cH, bE, cL, cK, cT, cM, cG, cB, cE, dO, bX, cP, dQ, bS, cX, aX, cD, dR, bH, aV, aN, aO, aJ, aP, aW, aC, cN, bF, cY, bR, cC, cR, aS, aQ, aT, aY, aR, aL, aG, aB, cZ, aH, aF, bN, bC, bJ, dD, bD, cF, bG, bT, bQ, aK, dS, aU, dL, dN, aM, cI, bY, dK, eL, n1, l1]
    refine Eh fun w2 o2 x2 s2 => ?_
    refine Df o2 rfl (wH _) (by simp) fun w3 o3 x3 s3 => ?_
    have o3 : iB w3 w1.heap.size (Ht.map (Value.int .i64)) := by
      rw [List.toList_toArray, qP Ht 36 rfl] at o3
      · exact o3
      · rfl
    have hsh : kM ⟨w1.heap.size, 0, none⟩ 36 0 1 = ⟨w1.heap.size, 0, none⟩ := sB (by decide)
    have x13 : fS w1 w3 jI := x2.new x3 (by omega)
    simp (disch := omega) only [cJ, hC, aD, dM, fA, fN, gM, gJ, gG, gN, iN, gU, dX, fX, fV, fW, fL, eU, gP, fI, gC, gO, gV, gI, eK, gT, gL, gA, kT, kN, nX, oC, nW, oB, oA, nY, nZ, cU, Result.ok.injEq, Next.value.injEq, true_and, and_true, eE, gB, gQ, gR, gS, iK, Int.toNat_natCast, fK, fB, fJ, eT, dZ, dT, eM, dY, cW, cO, if_true, if_false, Bool.false_eq_true, Nat.zero_add, Option.isNone_some, Option.isNone_none, Bool.not_true, Bool.not_false, List.getElem?_cons_succ, List.getElem?_cons_zero, cQ, aZ, bV, bW, bU, bB, dW, dC, dF, cV, aI, eA, bO, aE, dH, dI, dJ, dB, bK, bM, bZ, bA, cA, cH, bE, cL, cK, cT, cM, cG, cB, cE, dO, bX, cP, dQ, bS, cX, aX, cD, dR, bH, aV, aN, aO, aJ, aP, aW, aC, cN, bF, cY, bR, cC, cR, aS, aQ, aT, aY, aR, aL, aG, aB, cZ, aH, aF, bN, bC, bJ, dD, bD, cF, bG, bT, bQ, aK, dS, aU, dL, dN, aM, cI, bY, dK, eL, hsh]
    refine hP (o1.ext x13 (fun h => h)) rfl (by simp [one]) (by simp) fun w4 o4 x4 s4 => ?_
    refine iT o4 (by simp [fZ]) ?_
    simp only [fZ, List.set_cons_zero, List.set_cons_succ, List.drop_zero, List.take_succ_cons, List.take_zero]
    exact ⟨_, rfl, Ch (o3.ext x4 (by omega)) rfl, (x1.seq x13).new x4 (by omega)⟩
  have n1 : (a == 0) = false := beq_eq_false_iff_ne.2 h0
  by_cases h1 : a = 1
  · subst h1
    have n2 : ((1 : Int) == 1) = true := rfl
    have l1 := Du (b := 1) (off := 0) (l := HU.map (Value.int .i64)) rfl hg1.to.ld
    simp (disch := omega) only [cJ, hC, aD, dM, fA, fN, gM, gJ, gG, gN, iN, gU, dX, fX, fV, fW, fL, eU, gP, fI, gC, gO, gV, gI, eK, gT, gL, gA, kT, kN, nX, oC, nW, oB, oA, nY, nZ, cU, Result.ok.injEq, Next.value.injEq, true_and, and_true, eE, gB, gQ, gR, gS, iK, Int.toNat_natCast, fK, fB, fJ, eT, dZ, dT, eM, dY, cW, cO, if_true, if_false, Bool.false_eq_true, Nat.zero_add, Option.isNone_some, Option.isNone_none, Bool.not_true, Bool.not_false, List.getElem?_cons_succ, List.getElem?_cons_zero, cQ, aZ, bV, bW, bU, bB, dW, dC, dF, cV, aI, eA, bO, aE, dH, dI, dJ, dB, bK, bM, bZ, bA, cA, cH, bE, cL, cK, cT, cM, cG, cB, cE, dO, bX, cP, dQ, bS, cX, aX, cD, dR, bH, aV, aN, aO, aJ, aP, aW, aC, cN, bF, cY, bR, cC, cR, aS, aQ, aT, aY, aR, aL, aG, aB, cZ, aH, aF, bN, bC, bJ, dD, bD, cF, bG, bT, bQ, aK, dS, aU, dL, dN, aM, cI, bY, dK, eL, n1, n2, l1]
    refine DN fun w2 o2 x2 s2 => ?_
    refine Di o2 rfl (wH _) (by simp) fun w3 o3 x3 s3 => ?_
    have o3 : iB w3 w1.heap.size (HU.map (Value.int .i64)) := by
      rw [List.toList_toArray, qP HU 29 rfl] at o3
      · exact o3
      · rfl
    have hsh : kM ⟨w1.heap.size, 0, none⟩ 29 0 1 = ⟨w1.heap.size, 0, none⟩ := sB (by decide)
    have x13 : fS w1 w3 jI := x2.new x3 (by omega)
    simp (disch := omega) only [cJ, hC, aD, dM, fA, fN, gM, gJ, gG, gN, iN, gU, dX, fX, fV, fW, fL, eU, gP, fI, gC, gO, gV, gI, eK, gT, gL, gA, kT, kN, nX, oC, nW, oB, oA, nY, nZ, cU, Result.ok.injEq, Next.value.injEq, true_and, and_true, eE, gB, gQ, gR, gS, iK, Int.toNat_natCast, fK, fB, fJ, eT, dZ, dT, eM, dY, cW, cO, if_true, if_false, Bool.false_eq_true, Nat.zero_add, Option.isNone_some, Option.isNone_none, Bool.not_true, Bool.not_false, List.getElem?_cons_succ, List.getElem?_cons_zero, cQ, aZ, bV, bW, bU, bB, dW, dC, dF, cV, aI, eA, bO, aE, dH, dI, dJ, dB, bK, bM, bZ, bA, cA, cH, bE, cL, cK, cT, cM, cG, cB, cE, dO, bX, cP, dQ, bS, cX, aX, cD, dR, bH, aV, aN, aO, aJ, aP, aW, aC, cN, bF, cY, bR, cC, cR, aS, aQ, aT, aY, aR, aL, aG, aB, cZ, aH, aF, bN, bC, bJ, dD, bD, cF, bG, bT, bQ, aK, dS, aU, dL, dN, aM, cI, bY, dK, eL, hsh]
    refine hP (o1.ext x13 (fun h => h)) rfl (by simp [one]) (by simp) fun w4 o4 x4 s4 => ?_
    refine iT o4 (by simp [fZ]) ?_
    simp only [fZ, List.set_cons_zero, List.set_cons_succ, List.drop_zero, List.take_succ_cons, List.take_zero]
    exact ⟨_, rfl, Ch (o3.ext x4 (by omega)) rfl, (x1.seq x13).new x4 (by omega)⟩
  have n2 : (a == 1) = false := beq_eq_false_iff_ne.2 h1
  by_cases h2 : a = 2
  · subst h2
    have n3 : ((2 : Int) == 2) = true := rfl
    have l1 := DB (b := 2) (off := 0) (l := Hs.map (Value.int .i64)) rfl hg1.tm.ld
    simp (disch := omega) only [cJ, hC, aD, dM, fA, fN, gM, gJ, gG, gN, iN, gU, dX, fX, fV, fW, fL, eU, gP, fI, gC, gO, gV, gI, eK, gT, gL, gA, kT, kN, nX, oC, nW, oB, oA, nY, nZ, cU, Result.ok.injEq, Next.value.injEq, true_and, and_true, eE, gB, gQ, gR, gS, iK, Int.toNat_natCast, fK, fB, fJ, eT, dZ, dT, eM, dY, cW, cO, if_true, if_false, Bool.false_eq_true, Nat.zero_add, Option.isNone_some, Option.isNone_none, Bool.not_true, Bool.not_false, List.getElem?_cons_succ, List.getElem?_cons_zero, cQ, aZ, bV, bW, bU, bB, dW, dC, dF, cV, aI, eA, bO, aE, dH, dI, dJ, dB, bK, bM, bZ, bA, cA, cH, bE, cL, cK, cT, cM, cG, cB, cE, dO, bX, cP, dQ, bS, cX, aX, cD, dR, bH, aV, aN, aO, aJ, aP, aW, aC, cN, bF, cY, bR, cC, cR, aS, aQ, aT, aY, aR, aL, aG, aB, cZ, aH, aF, bN, bC, bJ, dD, bD, cF, bG, bT, bQ, aK, dS, aU, dL, dN, aM, cI, bY, dK, eL, n1, n2, n3, l1]
    refine Ef fun w2 o2 x2 s2 => ?_
    refine Dw o2 rfl (wH _) (by simp) fun w3 o3 x3 s3 => ?_
    have o3 : iB w3 w1.heap.size (Hs.map (Value.int .i64)) := by
      rw [List.toList_toArray, qP Hs 53 rfl] at o3
      · exact o3
      · rfl
    have hsh : kM ⟨w1.heap.size, 0, none⟩ 53 0 1 = ⟨w1.heap.size, 0, none⟩ := sB (by decide)
    have x13 : fS w1 w3 jI := x2.new x3 (by omega)
    simp (disch := omega) only [cJ, hC, aD, dM, fA, fN, gM, gJ, gG, gN, iN, gU, dX, fX, fV, fW, fL, eU, gP, fI, gC, gO, gV, gI, eK, gT, gL, gA, kT, kN, nX, oC, nW, oB, oA, nY, nZ, cU, Result.ok.injEq, Next.value.injEq, true_and, and_true, eE, gB, gQ, gR, gS, iK, Int.toNat_natCast, fK, fB, fJ, eT, dZ, dT, eM, dY, cW, cO, if_true, if_false, Bool.false_eq_true, Nat.zero_add, Option.isNone_some, Option.isNone_none, Bool.not_true, Bool.not_false, List.getElem?_cons_succ, List.getElem?_cons_zero, cQ, aZ, bV, bW, bU, bB, dW, dC, dF, cV, aI, eA, bO, aE, dH, dI, dJ, dB, bK, bM, bZ, bA, cA, cH, bE, cL, cK, cT, cM, cG, cB, cE, dO, bX, cP, dQ, bS, cX, aX, cD, dR, bH, aV, aN, aO, aJ, aP, aW, aC, cN, bF, cY, bR, cC, cR, aS, aQ, aT, aY, aR, aL, aG, aB, cZ, aH, aF, bN, bC, bJ, dD, bD, cF, bG, bT, bQ, aK, dS, aU, dL, dN, aM, cI, bY, dK, eL, hsh]
    refine hP (o1.ext x13 (fun h => h)) rfl (by simp [one]) (by simp) fun w4 o4 x4 s4 => ?_
    refine iT o4 (by simp [fZ]) ?_
    simp only [fZ, List.set_cons_zero, List.set_cons_succ, List.drop_zero, List.take_succ_cons, List.take_zero]
    exact ⟨_, rfl, Ch (o3.ext x4 (by omega)) rfl, (x1.seq x13).new x4 (by omega)⟩
  have n3 : (a == 2) = false := beq_eq_false_iff_ne.2 h2
  simp (disch := omega) only [cJ, hC, aD, dM, fA, fN, gM, gJ, gG, gN, iN, gU, dX, fX, fV, fW, fL, eU, gP, fI, gC, gO, gV, gI, eK, gT, gL, gA, kT, kN, nX, oC, nW, oB, oA, nY, nZ, cU, Result.ok.injEq, Next.value.injEq, true_and, and_true, eE, gB, gQ, gR, gS, iK, Int.toNat_natCast, fK, fB, fJ, eT, dZ, dT, eM, dY, cW, cO, if_true, if_false, Bool.false_eq_true, Nat.zero_add, Option.isNone_some, Option.isNone_none, Bool.not_true, Bool.not_false, List.getElem?_cons_succ, List.getElem?_cons_zero, cQ, aZ, bV, bW, bU, bB, dW, dC, dF, cV, aI, eA, bO, aE, dH, dI, dJ, dB, bK, bM, bZ, bA, cA, cH, bE, cL, cK, cT, cM, cG, cB, cE, dO, bX, cP, dQ, bS, cX, aX, cD, dR, bH, aV, aN, aO, aJ, aP, aW, aC, cN, bF, cY, bR, cC, cR, aS, aQ, aT, aY, aR, aL, aG, aB, cZ, aH, aF, bN, bC, bJ, dD, bD, cF, bG, bT, bQ, aK, dS, aU, dL, dN, aM, cI, bY, dK, eL, n1, n2, n3]
  refine hP o1 rfl (by simp [one]) (by simp) fun w4 o4 x4 s4 => ?_
  refine iT o4 (by simp [fZ]) ?_
  simp only [fZ, List.set_cons_zero, List.set_cons_succ, List.drop_zero, List.take_succ_cons, List.take_zero]
  unfold EX Gu
  rw [if_neg h1, if_neg (by omega), if_neg h0, if_neg h1, if_neg h2]
  exact ⟨_, rfl, Sl.nil _, x1.new x4 (by omega)⟩
def zP (w : World) (base : Nat) (o : Except Int (Nat × List T3)) (t : Value) (e : Int) : Prop := match o with
  | .error e' => t = .agg #[.int .i64 0, .slice none 0 0] ∧ e = e'
  | .ok (lg, L) => (∃ b, GM w base b lg L t) ∧ e = 0
def CH (a : Int) : Except Int (Nat × List T3) := if a = 0 ∨ a = 1 ∨ a = 2 then .ok (EX a, mD (EX a) (Gu a)) else .error 1
theorem zP.form {w : World} {base : Nat} {o : Except Int (Nat × List T3)} {t : Value} {e : Int} (h : zP w base o t e) : ∃ (x : Int) (a : Option Addr) (n c : Nat), t = .agg #[.int .i64 x, .slice a n c] := by
  unfold zP at h
  split at h
  · exact ⟨_, _, _, _, h.1⟩
  · obtain ⟨⟨b, h, _⟩, _⟩ := h
    exact ⟨_, _, _, _, h⟩
theorem zP.ext {w w' : World} {base : Nat} {o : Except Int (Nat × List T3)} {t : Value} {e : Int} {M : Nat → Prop} (h : zP w base o t e) (x : fS w w' M) (hM : ∀ b, base ≤ b → b < w.heap.size → ¬ M b) : zP w' base o t e := by
  unfold zP at *
  split at h
  · exact h
  · obtain ⟨⟨b, ht⟩, he⟩ := h
    have hb := ht.2.1
    have hl := ht.2.2.lt
    exact ⟨⟨b, ht.ext x (hM b hb hl)⟩, he⟩
theorem Bj {a : Int} {w : World} (hg : vA w) :
    gE pg jA #[.int .i64 a] w (fun r w' => ∃ t e, r = .tuple #[t, .int .i64 e] ∧ zP w' w.heap.size (CH a) t e ∧ fS w w' jI) := by
  refine xG ?_
  unfold wO nV
  refine gX fun w1 o1 x1 s1 => ?_
  have z1 := o1.lt
  refine (G8 (hg.ext x1)).mono ?_
  rintro r w2 ⟨v, rfl, hs, x2⟩
  unfold CH
  have z2 := x2.size
  by_cases hk : a = 0 ∨ a = 1 ∨ a = 2
  · rw [if_pos hk]
    refine (E3 (HM hk) hs).mono ?_
    rintro r w3 ⟨b, t, rfl, ⟨rfl, hb, ob⟩, x3⟩
    have z3 := x3.size
    simp (disch := omega) only [cJ, hC, aD, dM, fA, fN, gM, gJ, gG, gN, iN, gU, dX, fX, fV, fW, fL, eU, gP, fI, gC, gO, gV, gI, eK, gT, gL, gA, kT, kN, nX, oC, nW, oB, oA, nY, nZ, cU, Result.ok.injEq, Next.value.injEq, true_and, and_true, eE, gB, gQ, gR, gS, iK, Int.toNat_natCast, fK, fB, fJ, eT, dZ, dT, eM, dY, cW, cO, if_true, if_false, Bool.false_eq_true, Nat.zero_add, Option.isNone_some, Option.isNone_none, Bool.not_true, Bool.not_false, List.getElem?_cons_succ, List.getElem?_cons_zero, cQ, aZ, bV, bW, bU, bB, dW, dC, dF, cV, aI, eA, bO, aE, dH, dI, dJ, dB, bK, bM, bZ, bA, cA, cH, bE, cL, cK, cT, cM, cG, cB, cE, dO, bX, cP, dQ, bS, cX, aX, cD, dR, bH, aV, aN, aO, aJ, aP, aW, aC, cN, bF, cY, bR, cC, cR, aS, aQ, aT, aY, aR, aL, aG, aB, cZ, aH, aF, bN, bC, bJ, dD, bD, cF, bG, bT, bQ, aK, dS, aU, dL, dN, aM, cI, bY, dK, eL]
    have lb := ob.lt
    refine fY ((o1.ext x2 (fun h => h)).ext x3 (fun h => h)) rfl (by simp [one]) (by simp) fun w4 o4 x4 s4 => ?_
    refine kH o4 (by simp [fZ]) ?_
    simp only [fZ, List.set_cons_zero, List.set_cons_succ, List.drop_zero, List.take_succ_cons, List.take_zero]
    exact ⟨_, _, rfl, ⟨⟨b, rfl, by omega, ob.ext x4 (by omega)⟩, rfl⟩, ((x1.seq x2).seq x3).new x4 (by omega)⟩
  · rw [if_neg hk]
    have e1 : EX a = 0 := by unfold EX; rw [if_neg (by omega), if_neg (by omega)]
    have e2 : Gu a = [] := by unfold Gu; rw [if_neg (by omega), if_neg (by omega), if_neg (by omega)]
    rw [e1]
    rw [e2] at hs
    refine (FN (log := 0) (ps := []) (by decide) hs (by simp)).mono ?_
    rintro r w3 ⟨rfl, x3⟩
    simp (disch := omega) only [cJ, hC, aD, dM, fA, fN, gM, gJ, gG, gN, iN, gU, dX, fX, fV, fW, fL, eU, gP, fI, gC, gO, gV, gI, eK, gT, gL, gA, kT, kN, nX, oC, nW, oB, oA, nY, nZ, cU, Result.ok.injEq, Next.value.injEq, true_and, and_true, eE, gB, gQ, gR, gS, iK, Int.toNat_natCast, fK, fB, fJ, eT, dZ, dT, eM, dY, cW, cO, if_true, if_false, Bool.false_eq_true, Nat.zero_add, Option.isNone_some, Option.isNone_none, Bool.not_true, Bool.not_false, List.getElem?_cons_succ, List.getElem?_cons_zero, cQ, aZ, bV, bW, bU, bB, dW, dC, dF, cV, aI, eA, bO, aE, dH, dI, dJ, dB, bK, bM, bZ, bA, cA, cH, bE, cL, cK, cT, cM, cG, cB, cE, dO, bX, cP, dQ, bS, cX, aX, cD, dR, bH, aV, aN, aO, aJ, aP, aW, aC, cN, bF, cY, bR, cC, cR, aS, aQ, aT, aY, aR, aL, aG, aB, cZ, aH, aF, bN, bC, bJ, dD, bD, cF, bG, bT, bQ, aK, dS, aU, dL, dN, aM, cI, bY, dK, eL]
    refine fY ((o1.ext x2 (fun h => h)).ext x3 (fun h => h)) rfl (by simp [one]) (by simp) fun w4 o4 x4 s4 => ?_
    refine kH o4 (by simp [fZ]) ?_
    simp only [fZ, List.set_cons_zero, List.set_cons_succ, List.drop_zero, List.take_succ_cons, List.take_zero]
    exact ⟨_, _, rfl, ⟨rfl, rfl⟩, ((x1.seq x2).seq x3).new x4 (by omega)⟩
def Cs (a : Int) : Int := if a = 0 ∨ a = 2 then 9 else if a = 1 then 8 else 0
theorem EJ (a : Int) (w : World) : gE pg kI #[.int .i64 a] w (fun r w' => r = .int .i64 (Cs a) ∧ w' = w) := by
  refine A0 ?_
  unfold BN pL rL mQ qN rP mZ rK rX
  unfold Cs
  by_cases h0 : a = 0
  · subst h0
    have n1 : ((0 : Int) == 0) = true := rfl
    unfold jF
    simp (disch := omega) only [cJ, hC, aD, dM, fA, fN, gM, gJ, gG, gN, iN, gU, dX, fX, fV, fW, fL, eU, gP, fI, gC, gO, gV, gI, eK, gT, gL, gA, kT, kN, nX, oC, nW, oB, oA, nY, nZ, cU, Result.ok.injEq, Next.value.injEq, true_and, and_true, eE, gB, gQ, gR, gS, iK, Int.toNat_natCast, fK, fB, fJ, eT, dZ, dT, eM, dY, cW, cO, if_true, if_false, Bool.false_eq_true, Nat.zero_add, Option.isNone_some, Option.isNone_none, Bool.not_true, Bool.not_false, List.getElem?_cons_succ, List.getElem?_cons_zero, cQ, aZ, bV, bW, bU, bB, dW, dC, dF, cV, aI, eA, bO, aE, dH, dI, dJ, dB, bK, bM, bZ, bA, cA, cH, bE, cL, cK, cT, cM, cG, cB, cE, dO, bX, cP, dQ, bS, cX, aX, cD, dR, bH, aV, aN, aO, aJ, aP, aW, aC, cN, bF, cY, bR, cC, cR, aS, aQ, aT, aY, aR, aL, aG, aB, cZ, aH, aF, bN, bC, bJ, dD, bD, cF, bG, bT, bQ, aK, dS, aU, dL, dN, aM, cI, bY, dK, eL, n1]
    rfl
  have n1 : (a == 0) = false := beq_eq_false_iff_ne.2 h0
  by_cases h2 : a = 2
  · subst h2
    have n2 : ((2 : Int) == 2) = true := rfl
    unfold jF
    simp (disch := omega) only [cJ, hC, aD, dM, fA, fN, gM, gJ, gG, gN, iN, gU, dX, fX, fV, fW, fL, eU, gP, fI, gC, gO, gV, gI, eK, gT, gL, gA, kT, kN, nX, oC, nW, oB, oA, nY, nZ, cU, Result.ok.injEq, Next.value.injEq, true_and, and_true, eE, gB, gQ, gR, gS, iK, Int.toNat_natCast, fK, fB, fJ, eT, dZ, dT, eM, dY, cW, cO, if_true, if_false, Bool.false_eq_true, Nat.zero_add, Option.isNone_some, Option.isNone_none, Bool.not_true, Bool.not_false, List.getElem?_cons_succ, List.getElem?_cons_zero, cQ, aZ, bV, bW, bU, bB, dW, dC, dF, cV, aI, eA, bO, aE, dH, dI, dJ, dB, bK, bM, bZ, bA, cA, cH, bE, cL, cK, cT, cM, cG, cB, cE, dO, bX, cP, dQ, bS, cX, aX, cD, dR, bH, aV, aN, aO, aJ, aP, aW, aC, cN, bF, cY, bR, cC, cR, aS, aQ, aT, aY, aR, aL, aG, aB, cZ, aH, aF, bN, bC, bJ, dD, bD, cF, bG, bT, bQ, aK, dS, aU, dL, dN, aM, cI, bY, dK, eL, n1, n2]
    rfl
  have n2 : (a == 2) = false := beq_eq_false_iff_ne.2 h2
  rw [if_neg (by omega)]
  by_cases h1 : a = 1
  · subst h1
    have n3 : ((1 : Int) == 1) = true := rfl
    unfold jF
    simp (disch := omega) only [cJ, hC, aD, dM, fA, fN, gM, gJ, gG, gN, iN, gU, dX, fX, fV, fW, fL, eU, gP, fI, gC, gO, gV, gI, eK, gT, gL, gA, kT, kN, nX, oC, nW, oB, oA, nY, nZ, cU, Result.ok.injEq, Next.value.injEq, true_and, and_true, eE, gB, gQ, gR, gS, iK, Int.toNat_natCast, fK, fB, fJ, eT, dZ, dT, eM, dY, cW, cO, if_true, if_false, Bool.false_eq_true, Nat.zero_add, Option.isNone_some, Option.isNone_none, Bool.not_true, Bool.not_false, List.getElem?_cons_succ, List.getElem?_cons_zero, cQ, aZ, bV, bW, bU, bB, dW, dC, dF, cV, aI, eA, bO, aE, dH, dI, dJ, dB, bK, bM, bZ, bA, cA, cH, bE, cL, cK, cT, cM, cG, cB, cE, dO, bX, cP, dQ, bS, cX, aX, cD, dR, bH, aV, aN, aO, aJ, aP, aW, aC, cN, bF, cY, bR, cC, cR, aS, aQ, aT, aY, aR, aL, aG, aB, cZ, aH, aF, bN, bC, bJ, dD, bD, cF, bG, bT, bQ, aK, dS, aU, dL, dN, aM, cI, bY, dK, eL, n1, n2, n3]
  have n3 : (a == 1) = false := beq_eq_false_iff_ne.2 h1
  rw [if_neg h1]
  unfold jF mS
  simp (disch := omega) only [cJ, hC, aD, dM, fA, fN, gM, gJ, gG, gN, iN, gU, dX, fX, fV, fW, fL, eU, gP, fI, gC, gO, gV, gI, eK, gT, gL, gA, kT, kN, nX, oC, nW, oB, oA, nY, nZ, cU, Result.ok.injEq, Next.value.injEq, true_and, and_true, eE, gB, gQ, gR, gS, iK, Int.toNat_natCast, fK, fB, fJ, eT, dZ, dT, eM, dY, cW, cO, if_true, if_false, Bool.false_eq_true, Nat.zero_add, Option.isNone_some, Option.isNone_none, Bool.not_true, Bool.not_false, List.getElem?_cons_succ, List.getElem?_cons_zero, cQ, aZ, bV, bW, bU, bB, dW, dC, dF, cV, aI, eA, bO, aE, dH, dI, dJ, dB, bK, bM, bZ, bA, cA, cH, bE, cL, cK, cT, cM, cG, cB, cE, dO, bX, cP, dQ, bS, cX, aX, cD, dR, bH, aV, aN, aO, aJ, aP, aW, aC, cN, bF, cY, bR, cC, cR, aS, aQ, aT, aY, aR, aL, aG, aB, cZ, aH, aF, bN, bC, bJ, dD, bD, cF, bG, bT, bQ, aK, dS, aU, dL, dN, aM, cI, bY, dK, eL, n1, n2, n3]
end Go.Proofs.YtoepfjgekpdddaaDoor
namespace Go.Pu
open Go Go.En
set_option linter.unusedVariables false
def DR (c : UInt8) : List Bool := (List.range 8).map c.toNat.testBit
def fQ : List UInt8 → List Bool
  | [] => []
  | c :: l => DR c ++ fQ l
def rH : List Bool → Nat
  | [] => 0
  | b :: l => b.toNat + 2 * rH l
theorem qB (c : UInt8) : (DR c).length = 8 := by simp [DR]
theorem lM : ∀ l : List UInt8, (fQ l).length = 8 * l.length
  | [] => rfl
  | c :: l => by rw [fQ, List.length_append, qB, lM l, List.length_cons]; omega
theorem Ft (c : UInt8) {k : Nat} (h : k < 8) : (DR c)[k]? = some (c.toNat.testBit k) := by
  unfold DR
  rw [List.getElem?_map, List.getElem?_range h] <;> rfl
theorem C8 : ∀ (l : List UInt8) (i : Nat) (h : i < 8 * l.length), (fQ l)[i]? = some ((l[i / 8]'(by omega)).toNat.testBit (i % 8))
  | [], i, h => by simp at h
  | c :: l, i, h => by
    rw [fQ]
    rcases Nat.lt_or_ge i 8 with h8 | h8
    · rw [List.getElem?_append_left (by rw [qB]; exact h8), Ft c h8]
      have e : i / 8 = 0 := by omega
      have e2 : i % 8 = i := by omega
      simp [e, e2]
    · rw [List.getElem?_append_right (by rw [qB]; exact h8), qB, C8 l (i - 8) (by simp at h; omega)]
      have e : i / 8 = (i - 8) / 8 + 1 := by omega
      have e2 : (i - 8) % 8 = i % 8 := by omega
      simp [e, e2]
theorem Dt : ∀ l : List Bool, rH l < 2 ^ l.length
  | [] => by simp [rH]
  | b :: l => by
    have := Dt l
    rw [rH, List.length_cons, Nat.pow_succ]
    have : b.toNat ≤ 1 := Bool.toNat_le b
    omega
theorem BJ : ∀ a b : List Bool, rH (a ++ b) = rH a + 2 ^ a.length * rH b
  | [], b => by simp [rH]
  | x :: a, b => by
    rw [List.cons_append, rH, rH, BJ a b, List.length_cons, Nat.pow_succ, Nat.mul_add, ← Nat.mul_assoc, ← Nat.add_assoc, Nat.mul_comm 2 (2 ^ a.length)]
theorem FE (a : List Bool) (x : Bool) : rH (a ++ [x]) = rH a + 2 ^ a.length * x.toNat := by
  rw [BJ]; simp [rH]
theorem HQ {x i : Nat} (h : x < 2 ^ i) (b : Nat) : x ||| (b * 2 ^ i) = x + 2 ^ i * b := by
  rw [Nat.or_comm, Nat.mul_comm b, ← Nat.two_pow_add_eq_or_of_lt h b, Nat.add_comm]
theorem G6 {a b : Nat} (ha : a < 2 ^ 64) (hb : b < 2 ^ 64) : Io .u64 (a : Int) (b : Int) = ((a ||| b : Nat) : Int) := by
  have h := Nat.or_lt_two_pow ha hb
  unfold Io
  have e : IntKind.u64.bits = 64 := rfl
  rw [e, BitVec.ofInt_natCast, BitVec.ofInt_natCast, BitVec.toNat_or, BitVec.toNat_ofNat, BitVec.toNat_ofNat, Nat.mod_eq_of_lt ha, Nat.mod_eq_of_lt hb]
  exact gB (by omega) (by have : ((a ||| b : Nat) : Int) < ((2 ^ 64 : Nat) : Int) := by exact_mod_cast h
                          omega)
theorem Hd {a : Nat} (h : a < 2 ^ 8) : GR .u8 (a : Int) 1 = ((a % 2 : Nat) : Int) := by
  have : ∀ k : Fin 256, GR .u8 (k.val : Int) 1 = ((k.val % 2 : Nat) : Int) := by decide +kernel
  exact this ⟨a, h⟩
theorem FG (x k : Nat) : (x.testBit k).toNat = x / 2 ^ k % 2 := by
  rw [Nat.testBit_eq_decide_div_mod_eq]
  have : x / 2 ^ k % 2 = 0 ∨ x / 2 ^ k % 2 = 1 := by omega
  rcases this with h | h <;> simp [h]
theorem CT {L : List Bool} {at' i : Nat} {b : Bool} (h : L[at' + i]? = some b) : (L.drop at').take (i + 1) = (L.drop at').take i ++ [b] := by
  rw [List.take_add_one, List.getElem?_drop, h] <;> rfl
end Go.Pu
namespace Go.Proofs.YtoepfjgekpdddaaDoor
open Go Go.En Go.Pu
set_option maxRecDepth 4000
set_option linter.unusedSimpArgs false
set_option linter.unusedVariables false
theorem HA {l : List UInt8} {v : Value} {st n : Nat} {w : World} (h : Bs w v l) (hn : n ≤ 64) (hat : st + n ≤ 8 * l.length) (hl : l.length ≤ 1000000000) :
    gE pg sD #[v, .int .i64 st, .int .i64 n] w (fun r w' => r = .int .u64 (rH (((fQ l).drop st).take n)) ∧ w' = w) := by
  refine CL ?_
  unfold C2 uR uC pZ uG uB qG uS
  refine iY.rule (fun m (t : Value × Value) w' => ∃ i : Nat, m = n - i ∧ t = (.int .u64 (rH (((fQ l).drop st).take i) : Nat), .int .i64 i) ∧ i ≤ n ∧ w' = w) n ⟨0, rfl, by simp [rH], by omega, rfl⟩ ?_
  rintro m t w1 ⟨i, rfl, rfl, hi, rfl⟩
  unfold qL
  by_cases hlt : i < n
  · have d1 : decide ((i : Int) < (n : Int)) = true := by simp; omega
    obtain ⟨b, off, c, rfl, hc, hcell⟩ := h.openV (by simp; omega)
    obtain ⟨q, hq⟩ : ∃ q, q = st + i := ⟨_, rfl⟩
    have e0 : (st : Int) + (i : Int) = (q : Int) := by omega
    have e1 : (q : Int).tdiv 8 = ((q / 8 : Nat) : Int) := by rw [Int.tdiv_eq_ediv_of_nonneg (by omega)]; omega
    have e2 : (q : Int).tmod 8 = ((q % 8 : Nat) : Int) := by rw [Int.tmod_eq_emod_of_nonneg (by omega)]; omega
    have hq8 : q / 8 < l.length := by omega
    have hb : (fQ l)[st + i]? = some ((l[q / 8]'hq8).toNat.testBit (q % 8)) := by subst hq; exact C8 l _ (by omega)
    have ht := CT hb
    have g1 := hcell (q / 8) (by simpa using hq8)
    simp only [List.getElem_map, GJ] at g1
    have hx : (l[q / 8]'hq8).toNat < 256 := UInt8.toNat_lt _
    generalize (l[q / 8]'hq8).toNat = x at *
    have e3 : (x : Int).fdiv (2 ^ (min (q % 8) IntKind.u8.bits)) = ((x / 2 ^ (q % 8) : Nat) : Int) := by
      rw [show min (q % 8) IntKind.u8.bits = q % 8 from Nat.min_eq_left (by have : IntKind.u8.bits = 8 := rfl
                                                                            omega), Int.fdiv_eq_ediv_of_nonneg _ (Int.pow_nonneg (by omega))]
      simp
    have hy : x / 2 ^ (q % 8) < 2 ^ 8 := by have := Nat.div_le_self x (2 ^ (q % 8)); omega
    have e4 := Hd hy
    rw [← FG] at e4
    have hbt : (x.testBit (q % 8)).toNat ≤ 1 := Bool.toNat_le _
    have hlen : (((fQ l).drop st).take i).length = i := by rw [List.length_take, List.length_drop, lM]; omega
    have hnb := Dt (((fQ l).drop st).take i)
    have hsn := FE (((fQ l).drop st).take i) (x.testBit (q % 8))
    rw [← ht, hlen] at hsn
    rw [hlen] at hnb
    have hp : 2 ^ i < 2 ^ 64 := Nat.pow_lt_pow_right (by omega) (by omega)
    have hp2 : 2 ^ i ≤ 2 ^ 63 := Nat.pow_le_pow_right (by omega) (by omega)
    generalize (x.testBit (q % 8)).toNat = bt at *
    have hm : bt * 2 ^ i ≤ 2 ^ i := by
      have := Nat.mul_le_mul_right (2 ^ i) hbt
      omega
    have e5 : IntKind.u64.wrap ((bt : Int) * 2 ^ (min i IntKind.u64.bits)) = ((bt * 2 ^ i : Nat) : Int) := by
      rw [show min i IntKind.u64.bits = i from Nat.min_eq_left (by have : IntKind.u64.bits = 64 := rfl
                                                                   omega)]
      have e : (bt : Int) * 2 ^ i = ((bt * 2 ^ i : Nat) : Int) := by simp
      rw [e]
      exact gB (by omega) (by omega)
    have e6 := G6 (a := rH (((fQ l).drop st).take i)) (b := bt * 2 ^ i) (by omega) (by omega)
    rw [HQ hnb, ← hsn] at e6
    simp (disch := omega) only [cJ, eU, d1, fA, e0, eE, List.length_map, dB, gB, aD, gJ, e1, gG, e2, dF, Int.toNat_natCast, dW, g1, cU, fV, e3, gN, e4, bY, fX, e5, iN, e6, and_true, cW]
    exact ⟨n - (i + 1), by omega, i + 1, rfl, rfl, by omega⟩
  · have d1 : decide ((i : Int) < (n : Int)) = false := by simp; omega
    obtain rfl : i = n := by omega
    unfold qJ
    simp (disch := omega) only [cJ, eU, d1, fA, eE, dB, gB, aD, gJ, gG, true_and, cO]
def Er (w : World) (lo hi : Nat) (l : List UInt8) (st : Nat) : Prop := ∃ v, iB w hi [v, .int .i64 st] ∧ Bs w v l ∧ Ii v lo hi
theorem Er.ext {w w' : World} {lo hi st : Nat} {l : List UInt8} {M : Nat → Prop} (h : Er w lo hi l st) (hx : fS w w' M) (hM : ∀ b, lo ≤ b → b ≤ hi → ¬ M b) (hlh : lo ≤ hi) : Er w' lo hi l st := by
  obtain ⟨v, h1, h2, h3⟩ := h
  exact ⟨v, h1.ext hx (hM _ hlh (Nat.le_refl _)), h2.ext hx (h3 M fun b hb hh => hM b hb (by omega)), h3⟩
theorem Ds {v : Value} {l : List UInt8} {w : World} (h : Bs w v l) (hl : l.length ≤ 1000000000) :
    gE pg kP #[v] w (fun r w' => ∃ hi, r = .pointer (some ⟨hi, 0, none⟩) ∧ w.heap.size ≤ hi ∧ hi < w'.heap.size ∧ Er w' w.heap.size hi l 0 ∧ fS w w' jI) := by
  refine wK ?_
  unfold uW lY
  refine (GY h hl).mono ?_
  rintro r w1 ⟨o1, x1⟩
  have hat := wW.atI o1
  have hs := o1.sl
  obtain ⟨a, c, rfl⟩ := o1.len
  simp (disch := omega) only [cJ, bN, aD]
  refine uP fun w2 o2 x2 s2 => ?_
  simp only [Value.cells] at o2
  exact ⟨_, rfl, x1.size, by omega, ⟨_, o2, hs.ext x2 (iL _), hat⟩, x1.seq x2⟩
theorem wU {l : List UInt8} {lo hi st n : Nat} {w : World} (h : Er w lo hi l st) (hlh : lo ≤ hi) (hn : n ≤ 32) (hst : st ≤ 8 * l.length) (hl : l.length ≤ 1000000) :
    gE pg iC #[.pointer (some ⟨hi, 0, none⟩), .int .i64 n] w (fun r w' =>
      (8 * l.length < st + n ∧ r = .tuple #[.int .u64 0, .int .i64 10] ∧ Er w' lo hi l st ∧ fS w w' jI) ∨
      (st + n ≤ 8 * l.length ∧ r = .tuple #[.int .u64 (rH (((fQ l).drop st).take n)), .int .i64 0] ∧ Er w' lo hi l (st + n) ∧ fS w w' (fun y => y = hi))) := by
  refine uK ?_
  obtain ⟨v, o, hs, hat⟩ := h
  unfold sE lH
  have d1 : decide ((n : Int) < 0) = false := by simp
  have d2 : decide ((32 : Int) < (n : Int)) = false := by simp; omega
  have c0 := o.cell (off := 0)
  have c1 := o.cell (off := 1)
  simp only [List.getElem?_cons_zero, List.getElem?_cons_succ] at c0 c1
  obtain ⟨a, n', c, hv, hn', hc, hh⟩ := id hs
  rw [List.length_map] at hn'
  subst hn'
  by_cases hsh : 8 * l.length < st + n
  · have d3 : decide (8 * (l.length : Int) - (st : Int) < (n : Int)) = true := by simp; omega
    subst hv
    have od := kB o
    have c0d := od.cell (off := 0)
    have c1d := od.cell (off := 1)
    simp only [List.getElem?_cons_zero, List.getElem?_cons_succ] at c0d c1d
    simp (disch := omega) only [cJ, bC, Option.isNone_some, gA, true_and, aD, bD, Nat.zero_add, eA, bJ, dD, eT, eK, Bool.false_eq_true, if_false, dZ, eU, d1, fI, d2, c0d, cU, c1d, dC, gM, eE, fN, d3, cW, cO]
    exact .inl ⟨hsh, ⟨_, kB o, hs.ext (fS.dr _ jI) (iL _), hat⟩, fS.dr _ _⟩
  · have d3 : decide (8 * (l.length : Int) - (st : Int) < (n : Int)) = false := by simp; omega
    subst hv
    have c0e := (kB o).cell (off := 0)
    have c1e := (kB o).cell (off := 1)
    have od := kB (kB o)
    have c0d := od.cell (off := 0)
    have c1d := od.cell (off := 1)
    simp only [List.getElem?_cons_zero, List.getElem?_cons_succ] at c0d c1d c0e c1e
    simp (disch := omega) only [cJ, bC, Option.isNone_some, gA, true_and, aD, bD, Nat.zero_add, eA, bJ, dD, eT, eK, Bool.false_eq_true, if_false, dZ, eU, d1, fI, d2, c0e, cU, c1e, c0d, c1d, dC, gM, eE, fN, d3, cO]
    refine (HA (l := l) (st := st) (n := n) ((hs.ext (fS.dr _ jI) (iL _)).ext (fS.dr _ jI) (iL _)) (by omega) (by omega) (by omega)).mono ?_
    rintro r w1 ⟨rfl, rfl⟩
    simp (disch := omega) only [c1d, cU, true_and, aD, fA, eE]
    refine Cq od rfl (by simp) fun w2 o2 x2 s2 => ?_
    simp only [List.set_cons_zero, List.set_cons_succ] at o2
    have e1 : (st : Int) + (n : Int) = ((st + n : Nat) : Int) := by omega
    rw [e1] at o2
    have x02 : fS w w2 (fun y => y = hi) := ((fS.dr _ _).seq (fS.dr _ _)).seq x2
    exact .inr ⟨by omega, ⟨_, o2, hs.ext x02 (hat _ fun b hb hh => by omega), hat⟩, x02⟩
theorem FO {l : List UInt8} {lo hi st : Nat} {w : World} (h : Er w lo hi l st) (hst : st ≤ 1000000000) :
    gE pg jR #[.pointer (some ⟨hi, 0, none⟩)] w (fun r w' => r = .int .i64 (((st + 7) / 8 : Nat)) ∧ w' = w) := by
  refine uO ?_
  obtain ⟨v, o, hs, hat⟩ := h
  have c1 := o.cell (off := 1)
  simp only [List.getElem?_cons_zero, List.getElem?_cons_succ] at c1
  have e1 : ((st : Int) + 7).tdiv 8 = (((st + 7) / 8 : Nat) : Int) := by rw [Int.tdiv_eq_ediv_of_nonneg (by omega)]; omega
  unfold sJ lI
  simp (disch := omega) only [cJ, bC, Option.isNone_some, gA, aD, bD, Nat.zero_add, eA, and_true, c1, cU, fA, eE, gJ, e1, cO]
end Go.Proofs.YtoepfjgekpdddaaDoor
namespace Go.Proofs.YtoepfjgekpdddaaDoor
open Go Go.En Go.Pu
set_option maxRecDepth 4000
set_option linter.unusedSimpArgs false
set_option linter.unusedVariables false
theorem Ii.sub {a : Option Addr} {n c m c' k sz lo hi : Nat} (h : Ii (.slice a n c) lo hi) (hm : m ≤ n) : Ii (.slice (oI a c k sz) m c') lo hi := by
  intro M hM hin
  cases m with
  | zero => unfold GH at hin; split at hin <;> simp_all
  | succ m =>
    obtain ⟨n', rfl⟩ : ∃ n', n = n' + 1 := ⟨n - 1, by omega⟩
    have h1 := h M hM
    cases a with
    | none => unfold oI at hin; split at hin <;> exact hin
    | some x =>
      unfold oI at hin
      have h2 : M x.block := by
        split at hin
        · exact hin
        · rw [Option.map_some] at hin
          have e : (x.add (k * sz)).block = x.block := by unfold Addr.add; split <;> rfl
          have h3 : M (x.add (k * sz)).block := hin
          rwa [e] at h3
      exact h1 h2
end Go.Proofs.YtoepfjgekpdddaaDoor
namespace Go.Pu
open Go Go.En
set_option linter.unusedVariables false
def jP (L : List Bool) (st n : Nat) : Nat := rH ((L.drop st).take n)
theorem vU (L : List Bool) (st n : Nat) : jP L st n < 2 ^ n := by
  have h := Dt ((L.drop st).take n)
  have : ((L.drop st).take n).length ≤ n := by rw [List.length_take]; omega
  exact Nat.lt_of_lt_of_le h (Nat.pow_le_pow_right (by omega) this)
def D1 (L : List Bool) (st left : Nat) : Option (Nat × Nat) :=
  let n := bl (left + 1)
  if L.length < st + (n - 1) then none
  else
    let low := jP L st (n - 1)
    let free := 2 ^ n - 2 - left
    if low < free then some (low, st + (n - 1))
    else if L.length < st + (n - 1) + 1 then none
    else if jP L (st + (n - 1)) 1 = 0 then some (low, st + (n - 1) + 1)
    else some (low + 2 ^ (n - 1) - free, st + (n - 1) + 1)
def Et (L : List Bool) : Nat → Nat → Option (Nat × Nat)
  | 0, _ => none
  | f + 1, st => if L.length < st + 2 then none else if jP L st 2 < 3 then some (jP L st 2, st + 2) else match Et L f (st + 2) with
    | none => none
    | some (k, st') => some (3 + k, st')
def DK (L : List Bool) (sym : Nat) : Nat → Nat → Nat → List Int → Except Int (List Int × Nat)
  | 0, _, _, _ => .error 10
  | f + 1, st, left, ps => if left = 0 then .ok (ps, st) else match D1 L st left with
    | none => .error 10
    | some (v, st1) =>
      if v = 1 then match Et L (L.length + 1) st1 with
        | none => .error 10
        | some (k, st2) => if sym < ps.length + 1 + k then .error 11 else DK L sym f st2 left (ps ++ 0 :: List.replicate k 0)
      else if sym < ps.length + 1 then .error 11 else DK L sym f st1 (left - (gD ((v : Int) - 1)).toNat) (ps ++ [(v : Int) - 1])
theorem Fg {L : List Bool} {st left v st1 : Nat} (h : D1 L st left = some (v, st1)) (h0 : 0 < left) : st < st1 ∧ st1 ≤ L.length ∧ v ≤ left + 1 := by
  have hb1 := Dv (k := left + 1) (by omega)
  have hb2 := Ee (k := left + 1) (by omega)
  have hb3 := DT (left + 1)
  have hn : 2 ≤ bl (left + 1) := by
    rcases Nat.lt_or_ge (bl (left + 1)) 2 with h | h
    · have : bl (left + 1) = 1 := by omega
      rw [this] at hb3; omega
    · exact h
  unfold D1 at h
  simp only at h
  generalize bl (left + 1) = n at *
  obtain ⟨m, rfl⟩ : ∃ m, n = m + 1 := ⟨n - 1, by omega⟩
  rw [Nat.add_sub_cancel] at *
  rw [Nat.pow_succ] at *
  have hl := vU L st m
  generalize 2 ^ m = q at *
  generalize jP L st m = low at *
  split at h
  · cases h
  · split at h
    · obtain ⟨rfl, rfl⟩ := Prod.mk.inj (Option.some.inj h); omega
    · split at h
      · cases h
      · split at h
        · obtain ⟨rfl, rfl⟩ := Prod.mk.inj (Option.some.inj h); omega
        · obtain ⟨rfl, rfl⟩ := Prod.mk.inj (Option.some.inj h); omega
theorem Gz {L : List Bool} : ∀ {f st k st1 : Nat}, Et L f st = some (k, st1) → st < st1 ∧ st1 ≤ L.length ∧ 2 * k ≤ 3 * (st1 - st)
  | 0, st, k, st1, h => by cases h
  | f + 1, st, k, st1, h => by
    rw [Et] at h
    split at h
    · cases h
    · have hl := vU L st 2
      split at h
      · obtain ⟨rfl, rfl⟩ := Prod.mk.inj (Option.some.inj h); omega
      · cases hn : Et L f (st + 2) with
        | none => rw [hn] at h; cases h
        | some x =>
          obtain ⟨k', st'⟩ := x
          rw [hn] at h
          obtain ⟨rfl, rfl⟩ := Prod.mk.inj (Option.some.inj h)
          have := Gz hn
          omega
def tL (L : List Bool) (most : Int) (sym : Nat) : Except Int (Nat × List Int × Nat) :=
  if L.length < 4 then .error 10
  else
    let log := jP L 0 4 + 5
    if most < log ∨ 15 < log then .error 12
    else match DK L sym (L.length + 1) 4 (2 ^ log) [] with
      | .error e => .error e
      | .ok (ps, st) => .ok (log, ps, (st + 7) / 8)
theorem CF : ∀ k : Nat, tY (List.replicate k 0) = 0
  | 0 => rfl
  | k + 1 => by rw [List.replicate_succ, oM, CF k] <;> rfl
theorem A5 {L : List Bool} {sym : Nat} {out : List Int} {stE : Nat} {tot : Int} : ∀ {f st left : Nat} {ps : List Int}, DK L sym f st left ps = .ok (out, stE) → (∀ p ∈ ps, -1 ≤ p) → tY ps + left = tot →
    (left = 0 → ps.length ≤ sym ∧ ps.getLast? ≠ some 0 ∧ 1 ≤ ps.length) → (∀ p ∈ out, -1 ≤ p) ∧ tY out = tot ∧ out.length ≤ sym ∧ out.getLast? ≠ some 0 ∧ 1 ≤ out.length
  | 0, st, left, ps, h, _, _, _ => by cases h
  | f + 1, st, left, ps, h, hlo, hs, hz => by
    rw [DK] at h
    split at h
    · rename_i h0
      cases h
      obtain ⟨z1, z2, z3⟩ := hz h0
      exact ⟨hlo, by omega, z1, z2, z3⟩
    · rename_i h0
      cases hv : D1 L st left with
      | none => rw [hv] at h; cases h
      | some x =>
        obtain ⟨v, st1⟩ := x
        obtain ⟨v1, v2, v3⟩ := Fg hv (by omega)
        rw [hv] at h
        simp only at h
        split at h
        · rename_i hv1
          cases hn : Et L (L.length + 1) st1 with
          | none => rw [hn] at h; cases h
          | some y =>
            obtain ⟨k, st2⟩ := y
            rw [hn] at h
            simp only at h
            split at h
            · cases h
            · refine A5 h ?_ ?_ (fun h => absurd h h0)
              · intro p hp
                rcases List.mem_append.1 hp with hp | hp
                · exact hlo p hp
                · rcases List.mem_cons.1 hp with rfl | hp
                  · omega
                  · rw [List.eq_of_mem_replicate hp]; omega
              · rw [By, oM]
                have e := CF k
                rw [e]
                have : gD 0 = 0 := rfl
                omega
        · rename_i hv1
          split at h
          · cases h
          · have hp1 : -1 ≤ (v : Int) - 1 := by omega
            have hpn := jN hp1
            have hpl : gD ((v : Int) - 1) ≤ left := by unfold gD; split <;> omega
            refine A5 h ?_ ?_ ?_
            · intro p hp
              rcases List.mem_append.1 hp with hp | hp
              · exact hlo p hp
              · rw [List.mem_singleton.1 hp]; exact hp1
            · rw [By, oM]
              have e : tY [] = 0 := rfl
              rw [e]; omega
            · intro _
              rw [List.length_append, List.length_singleton, List.getLast?_concat]
              refine ⟨by omega, ?_, by omega⟩
              intro e
              have := Option.some.inj e
              omega
end Go.Pu
namespace Go.En
open Go
set_option linter.unusedVariables false
set_option linter.unusedSimpArgs false
section
variable {P : Program} {w : World} {t e : TypeId}
theorem Eo {S : Nat → Prop} {sz n m : Nat} {i : TypeInfo} {z : Value} {ty t2 : TypeId} {k : IntKind} (hu : P.underlying t = some (.slice e)) (hu2 : P.underlying t2 = some (.int k)) (hi : P.info? e = some i) (hsz : i.size = sz) (hz : i.zero = some z) (hzs : z.cells.size = sz)
    {v : Value} {l : List Value} (h : Ij w S sz v n l) (hsz0 : 0 < sz) (hone : ∀ y ∈ z.cells.toList, one y = true) (hb : ∀ b, w.heap.size ≤ b → S b)
    (hn : n + m ≤ 9223372036854775807) (hbytes : (n + m) * i.bytes ≤ 140737488355328) (hmb : m * i.bytes ≤ 140737488355328)
    {K : Value → World → Prop} (hk : ∀ v' w', Ij w' S sz v' (n + m) (l ++ (Builtin.zeroCells z.cells m).toList) → fS w w' S → K v' w') : cJ P (lR .append #[t, t2] ty [v, .int k m]) w K := by
  generalize hnews : (Builtin.zeroCells z.cells m).toList = news at *
  have hnl : news.length = m * sz := by rw [← hnews, Array.length_toList, jB, hzs]
  have hone' : ∀ y ∈ news, one y = true := by
    intro y hy
    rw [← hnews] at hy
    simp only [Builtin.zeroCells, Array.toList_map, List.mem_map] at hy
    obtain ⟨j, _, rfl⟩ := hy
    refine hone _ ?_
    have : j % z.cells.size < z.cells.size := Nat.mod_lt _ (by omega)
    rw [getElem!_pos z.cells _ this]
    exact Array.getElem_mem_toList this
  have hmw : IntKind.i64.wrap ((m : Nat) : Int) = (m : Int) := eE (by omega) (by omega)
  have hm0 : ¬ ((m : Int) < 0) := by omega
  have hmx : ¬ ((m : Int) * (i.bytes : Nat) > 2 ^ 48) := by
    have : (m : Int) * (i.bytes : Nat) = ((m * i.bytes : Nat) : Int) := by simp
    rw [this]; omega
  have has : ∀ w, (asInt (.int k m)).run P w = .ok (m : Int) w := fun w => rfl
  have hz' : ∀ w, (zeroValue e).run P w = .ok z w := fun w => by simp [zeroValue, typeInfo, hi, hz]
  have hnw : ∀ w, (if m * sz = 0 then pure #[] else do pure (Builtin.zeroCells (← zeroValue e).cells m) : Sem (Array Value)).run P w = .ok news.toArray w := fun w => by
    by_cases h0 : m * sz = 0
    · rw [if_pos h0, Sem.run_pure]
      have : news = [] := List.length_eq_zero_iff.1 (by omega)
      rw [this]
    · rw [if_neg h0, Sem.run_bind, hz', Result.andThen_ok, Sem.run_pure, ← hnews, Array.toArray_toList]
  have hmax : IntKind.i64.max = 9223372036854775807 := by decide
  have hnot : ¬ (((n + m : Nat) : Int) > IntKind.i64.max) := by rw [hmax]; omega
  have hlen := h.1
  rcases h.2 with ⟨rfl, rfl⟩ | ⟨b, c, rest, rfl, h2, h3, h4, h5⟩
  · have hl0 : l = [] := List.length_eq_zero_iff.1 (by omega)
    subst hl0
    by_cases hm : m = 0
    · subst hm
      have hn0 : news = [] := List.length_eq_zero_iff.1 (by omega)
      subst hn0
      have : (lR .append #[t, t2] ty [.slice none 0 0, .int k (0 : Nat)]).run P w = .ok (.value (.slice none 0 0)) w := by
        unfold lR builtin
        simp only [Builtin.append_, List.getElem?_toArray, List.getElem?_cons_zero, List.getElem?_cons_succ]
        simp only [underlying, typeInfo, Sem.run_bind, run_program, Result.andThen_ok, hu, hu2, hi, Sem.run_pure, gK hi, hsz, has, hmw, hm0, hmx, if_true, if_false, Int.toNat_natCast, Bool.not_true, Bool.false_eq_true, Nat.le_refl, Nat.add_zero, hnw]
      unfold cJ
      rw [this]
      exact hk _ _ ⟨by simp, .inl ⟨rfl, by omega⟩⟩ (fS.refl _ _)
    · have hfit := growslice_fits (need := 0 + m) (old := 0) (bytes := i.bytes) (by omega) (by omega)
      have hfit' : ¬ (Builtin.nextslicecap (0 + m) 0 * i.bytes > 2 ^ 48) := by omega
      have hle : ¬ (0 + m ≤ 0) := by omega
      have hq : (Question.appendCap (0 + m) 0 e).forced = false := rfl
      obtain ⟨r, hr⟩ : ∃ r, (Question.appendCap (0 + m) 0 e).cut (w.tape w.drawn (.appendCap (0 + m) 0 e)) = m + r :=
        ⟨(w.tape w.drawn (.appendCap (0 + m) 0 e)) % (2 ^ 63 - (0 + m)), by simp only [Question.cut]; omega⟩
      have : (lR .append #[t, t2] ty [.slice none 0 0, .int k m]).run P w = .ok (.value (.slice (some ⟨w.heap.size, 0, none⟩) (0 + m) (m + r))) ((dr w).alloc (.cells (news ++ (Builtin.zeroCells z.cells (m + r - (0 + m))).toList).toArray e)) := by
        unfold lR builtin
        simp only [Builtin.append_, List.getElem?_toArray, List.getElem?_cons_zero, List.getElem?_cons_succ]
        simp only [underlying, typeInfo, Sem.run_bind, run_program, Result.andThen_ok, hu, hu2, hi, Sem.run_pure, gK hi, hsz, has, hmw, hm0, hmx, if_true, if_false, Int.toNat_natCast, Bool.not_true, Bool.false_eq_true, hle, hnot, false_and, hfit', run_choose, hq, hr, run_askRoom]
        change ((Sem.run P _ (dr w)).andThen _).andThen _ = _
        simp only [Sem.run_bind, hnw, run_firstCells_none, Result.andThen_ok, hz', Sem.run_pure, newRow, run_newObj]
        have e1 : (#[] ++ news.toArray ++ Builtin.zeroCells z.cells (m + r - (0 + m)) : Array Value) = (news ++ (Builtin.zeroCells z.cells (m + r - (0 + m))).toList).toArray := by
          apply Array.ext'; simp
        rw [e1]
        rfl
      unfold cJ
      rw [this]
      refine hk _ _ ⟨by simp only [List.nil_append]; rw [hnl, Nat.zero_add], .inr ⟨w.heap.size, m + r, (Builtin.zeroCells z.cells (m + r - (0 + m))).toList, by rw [Nat.zero_add], hb _ (Nat.le_refl _), iB.alloc (dr w) _ _, ?_, by omega⟩⟩ ((fS.dr w _).seq (fS.alloc _ _ _))
      simp only [List.nil_append, List.length_append, Array.length_toList, jB, hzs, hnl]
      rw [show m + r - (0 + m) = r from by omega, Nat.add_mul]
  · by_cases hc : n + m ≤ c
    · have hroom : news.length ≤ rest.length := by
        rw [List.length_append, hlen] at h4
        have : (n + m) * sz ≤ c * sz := Nat.mul_le_mul_right _ hc
        rw [Nat.add_mul] at this; omega
      obtain ⟨w', s1, s2, s3, s4, _⟩ := qS (P := P) (M := S) h2 news w (n * sz) 0 (l ++ rest) h3 (by rw [List.length_append, hlen]; omega) hone'
      have : (lR .append #[t, t2] ty [.slice (some ⟨b, 0, none⟩) n c, .int k m]).run P w = .ok (.value (.slice (some ⟨b, 0, none⟩) (n + m) c)) w' := by
        unfold lR builtin
        simp only [Builtin.append_, List.getElem?_toArray, List.getElem?_cons_zero, List.getElem?_cons_succ]
        simp only [underlying, typeInfo, Sem.run_bind, run_program, Result.andThen_ok, hu, hu2, hi, Sem.run_pure, gK hi, hsz, has, hmw, hm0, hmx, if_true, if_false, Int.toNat_natCast, Bool.not_true, Bool.false_eq_true, hc, hnw, sW, Nat.zero_add, s1]
      unfold cJ
      rw [this]
      rw [Nat.add_zero, ← hlen, sQ _ _ _ hroom] at s2
      refine hk _ _ ⟨by rw [List.length_append, hlen, hnl, Nat.add_mul], .inr ⟨b, c, rest.drop news.length, rfl, h2, s2, ?_, hc⟩⟩ s3
      rw [← h4]; simp; omega
    · have hfit := growslice_fits (need := n + m) (old := c) (bytes := i.bytes) (by omega) hbytes
      have hfit' : ¬ (Builtin.nextslicecap (n + m) c * i.bytes > 2 ^ 48) := by omega
      have hq : (Question.appendCap (n + m) c e).forced = false := rfl
      obtain ⟨r, hr⟩ : ∃ r, (Question.appendCap (n + m) c e).cut (w.tape w.drawn (.appendCap (n + m) c e)) = n + m + r :=
        ⟨(w.tape w.drawn (.appendCap (n + m) c e)) % (2 ^ 63 - (n + m)), by simp only [Question.cut]⟩
      have hold : Cl (dr w) sz (.slice (some ⟨b, 0, none⟩) n c) n l := ⟨_, _, rfl, hlen, fun _ => ⟨b, 0, rfl, fun i hi => by
        show w.cell? _ = _
        rw [h3.cell, Nat.zero_add, List.getElem?_append_left hi]⟩⟩
      have : (lR .append #[t, t2] ty [.slice (some ⟨b, 0, none⟩) n c, .int k m]).run P w = .ok (.value (.slice (some ⟨w.heap.size, 0, none⟩) (n + m) (n + m + r))) ((dr w).alloc (.cells (l ++ news ++ (Builtin.zeroCells z.cells (n + m + r - (n + m))).toList).toArray e)) := by
        have hfo := lP (P := P) hold
        unfold lR builtin
        simp only [Builtin.append_, List.getElem?_toArray, List.getElem?_cons_zero, List.getElem?_cons_succ]
        simp only [underlying, typeInfo, Sem.run_bind, run_program, Result.andThen_ok, hu, hu2, hi, Sem.run_pure, gK hi, hsz, has, hmw, hm0, hmx, if_true, if_false, Int.toNat_natCast, Bool.not_true, Bool.false_eq_true, hc, hnot, false_and, hfit', run_choose, hq, hr, run_askRoom]
        change ((Sem.run P _ (dr w)).andThen _).andThen _ = _
        simp only [Sem.run_bind, hnw, hfo, Result.andThen_ok, hz', Sem.run_pure, newRow, run_newObj]
        have e1 : (l.toArray ++ news.toArray ++ Builtin.zeroCells z.cells (n + m + r - (n + m)) : Array Value) = (l ++ news ++ (Builtin.zeroCells z.cells (n + m + r - (n + m))).toList).toArray := by
          apply Array.ext'; simp
        rw [e1]
        rfl
      unfold cJ
      rw [this]
      refine hk _ _ ⟨by rw [List.length_append, hlen, hnl, Nat.add_mul], .inr ⟨w.heap.size, n + m + r, _, rfl, hb _ (Nat.le_refl _), iB.alloc (dr w) _ _, ?_, by omega⟩⟩ ((fS.dr w _).seq (fS.alloc _ _ _))
      simp only [List.length_append, Array.length_toList, jB, hzs, hnl, hlen]
      rw [show n + m + r - (n + m) = r from by omega, Nat.add_mul, Nat.add_mul]
end
end Go.En
namespace Go.Proofs.YtoepfjgekpdddaaDoor
open Go Go.En Go.Pu
set_option maxRecDepth 4000
set_option linter.unusedSimpArgs false
set_option linter.unusedVariables false
theorem FI {left : Nat} (h0 : 0 < left) (h1 : left ≤ 32768) : ∃ m, bl (left + 1) = m + 1 ∧ 1 ≤ m ∧ m ≤ 16 ∧ left + 1 < 2 ^ (m + 1) ∧ 2 ^ m ≤ left + 1 ∧ 2 ^ (m + 1) = 2 * 2 ^ m := by
  have hb2 := Ee (k := left + 1) (by omega)
  have hb3 := DT (left + 1)
  have hb4 := zM (k := left + 1) (n := 17) (by omega)
  have hn : 2 ≤ bl (left + 1) := by
    rcases Nat.lt_or_ge (bl (left + 1)) 2 with h | h
    · have hb1 := Dv (k := left + 1) (by omega)
      have : bl (left + 1) = 1 := by omega
      rw [this] at hb3; omega
    · exact h
  obtain ⟨m, hm⟩ : ∃ m, bl (left + 1) = m + 1 := ⟨bl (left + 1) - 1, by omega⟩
  rw [hm] at hb2 hb3 hb4 hn ⊢
  exact ⟨m, rfl, by omega, by omega, hb3, hb2, by rw [Nat.pow_succ, Nat.mul_comm]⟩
theorem FW (L : List Bool) (f st : Nat) : Et L (f + 1) st = if L.length < st + 2 then none else if jP L st 2 < 3 then some (jP L st 2, st + 2) else match Et L f (st + 2) with
    | none => none
    | some (k, st') => some (3 + k, st') := by rw [Et] <;> rfl
def Hl (w : World) (lo hi : Nat) (l : List UInt8) (o : Option (Nat × Nat)) (r : Value) : Prop := match o with
  | none => r = .tuple #[.int .i64 0, .int .i64 10]
  | some (v, st) => r = .tuple #[.int .i64 v, .int .i64 0] ∧ Er w lo hi l st
theorem Hc {l : List UInt8} {lo hi st left : Nat} {w : World} (h : Er w lo hi l st) (hlh : lo ≤ hi) (hst : st ≤ 8 * l.length) (hl : l.length ≤ 1000000) (h0 : 0 < left) (h1 : left ≤ 32768) :
    gE pg mX #[.pointer (some ⟨hi, 0, none⟩), .int .i64 left] w (fun r w' => Hl w' lo hi l (D1 (fQ l) st left) r ∧ fS w w' (fun y => y = hi)) := by
  refine zN ?_
  obtain ⟨m, hm, hm1, hm2, hf1, hf2, hf3⟩ := FI h0 h1
  unfold yL pS
  have e1 : (left : Int) + 1 = ((left + 1 : Nat) : Int) := by omega
  simp (disch := omega) only [cJ, fA, e1, eE, aD, dB, gB]
  refine (Hn (x := left + 1) (by omega) w).mono ?_
  rintro r w1 ⟨rfl, rfl⟩
  rw [hm]
  have e2 : ((m + 1 : Nat) : Int) - 1 = (m : Int) := by omega
  simp (disch := omega) only [fN, e2, eE, fX, Int.toNat_natCast, aD]
  refine (wU (n := m) h hlh (by omega) hst hl).mono ?_
  have hbl := lM l
  unfold D1
  simp only [hm, Nat.add_sub_cancel]
  rintro r w2 (⟨hsh, rfl, hf, x2⟩ | ⟨hsh, rfl, hf, x2⟩)
  · have n1 : ((10 : Int) != 0) = true := rfl
    rw [if_pos (by omega)]
    simp (disch := omega) only [kT, kN, aD, fL, n1, cW]
    exact ⟨rfl, x2.mono fun _ _ h => h.elim⟩
  · have n1 : ((0 : Int) != 0) = false := rfl
    rw [if_neg (by omega)]
    have hlt := vU (fQ l) st m
    have hnum : rH (((fQ l).drop st).take m) = jP (fQ l) st m := rfl
    rw [hnum]
    have hsh1 := Hu (n := m + 1) (by omega)
    have hsh0 := Hu (n := m) (by omega)
    have hp : 2 ^ m ≤ 2 ^ 16 := Nat.pow_le_pow_right (by omega) hm2
    generalize jP (fQ l) st m = low at *
    rw [hf3] at *
    generalize hq : 2 ^ m = q at *
    have e3 : ((2 * q : Nat) : Int) - 2 - (left : Int) = ((2 * q - 2 - left : Nat) : Int) := by omega
    by_cases hfr : low < 2 * q - 2 - left
    · have d1 : decide ((low : Int) < ((2 * q - 2 - left : Nat) : Int)) = true := by simp only [decide_eq_true_eq]; omega
      rw [if_pos hfr]
      simp (disch := omega) only [kT, kN, hsh1, eE, e3, aD, fL, n1, cO, cN, fA, fN, eU, d1, cW]
      exact ⟨⟨rfl, hf⟩, x2⟩
    · have d1 : decide ((low : Int) < ((2 * q - 2 - left : Nat) : Int)) = false := by simp only [decide_eq_false_iff_not]; omega
      rw [if_neg hfr]
      simp (disch := omega) only [kT, kN, hsh1, eE, e3, aD, fL, n1, cO, cN, fA, fN, eU, d1]
      refine (wU (n := 1) hf hlh (by omega) hsh hl).mono ?_
      rintro r w3 (⟨hs3, rfl, hf3, x3⟩ | ⟨hs3, rfl, hf3, x3⟩)
      · have n1 : ((10 : Int) != 0) = true := rfl
        rw [if_pos (by omega)]
        simp (disch := omega) only [kT, kN, aD, fL, n1, cW]
        exact ⟨rfl, x2.seq (x3.mono fun _ _ h => h.elim)⟩
      · rw [if_neg (by omega)]
        have hnum : rH (((fQ l).drop (st + m)).take 1) = jP (fQ l) (st + m) 1 := rfl
        rw [hnum]
        by_cases hz : jP (fQ l) (st + m) 1 = 0
        · have n2 : (((jP (fQ l) (st + m) 1 : Nat) : Int) == 0) = true := by rw [hz] <;> rfl
          rw [if_pos hz]
          simp (disch := omega) only [kT, kN, aD, fL, n1, cO, fW, n2, cW]
          exact ⟨⟨rfl, hf3⟩, x2.seq x3⟩
        · have n2 : (((jP (fQ l) (st + m) 1 : Nat) : Int) == 0) = false := beq_eq_false_iff_ne.2 (by omega)
          have e4 : (low : Int) + (q : Int) - ((2 * q - 2 - left : Nat) : Int) = ((low + q - (2 * q - 2 - left) : Nat) : Int) := by omega
          rw [if_neg hz]
          simp (disch := omega) only [kT, kN, hsh0, e4, aD, fL, n1, cO, fW, n2]
          exact ⟨⟨rfl, hf3⟩, x2.seq x3⟩
theorem Fp {l : List UInt8} {lo hi st : Nat} {w : World} (h : Er w lo hi l st) (hlh : lo ≤ hi) (hst : st ≤ 8 * l.length) (hl : l.length ≤ 1000000) :
    gE pg lL #[.pointer (some ⟨hi, 0, none⟩)] w (fun r w' => Hl w' lo hi l (Et (fQ l) ((fQ l).length + 1) st) r ∧ fS w w' (fun y => y = hi)) := by
  refine xI ?_
  have hbl := lM l
  unfold wI mC nN kO mY nS kQ nI nF
  refine iY.rule (fun m (t : Value) w' => ∃ k0 st' : Nat, t = .int .i64 k0 ∧ Et (fQ l) ((fQ l).length + 1) st = (match Et (fQ l) m st' with | none => none | some (k, s) => some (k0 + k, s)) ∧ (fQ l).length < 2 * m + st' ∧ st' ≤ 8 * l.length ∧ k0 ≤ 3 * st' ∧ Er w' lo hi l st' ∧ fS w w' (fun y => y = hi)) ((fQ l).length + 1)
    ⟨0, st, rfl, by cases Et (fQ l) ((fQ l).length + 1) st with
      | none => rfl
      | some x => simp, by omega, hst, by omega, h, fS.refl _ _⟩ ?_
  rintro m t w1 ⟨k0, st', rfl, hr, hm, hs', hk0, hf, x1⟩
  obtain ⟨m, rfl⟩ : ∃ m', m = m' + 1 := ⟨m - 1, by omega⟩
  unfold kW
  refine (wU (n := 2) hf hlh (by omega) hs' hl).mono ?_
  rw [FW (fQ l) m st'] at hr
  rintro r w2 (⟨hsh, rfl, hf2, x2⟩ | ⟨hsh, rfl, hf2, x2⟩)
  · have n1 : ((10 : Int) != 0) = true := rfl
    rw [if_pos (by omega)] at hr
    rw [hr]
    simp (disch := omega) only [cJ, kT, kN, aD, fL, n1, cW]
    exact ⟨rfl, x1.seq (x2.mono fun _ _ h => h.elim)⟩
  · have n1 : ((0 : Int) != 0) = false := rfl
    rw [if_neg (by omega)] at hr
    have hlt := vU (fQ l) st' 2
    have hnum : rH (((fQ l).drop st').take 2) = jP (fQ l) st' 2 := rfl
    rw [hnum]
    generalize jP (fQ l) st' 2 = x at *
    have e1 : (k0 : Int) + (x : Int) = ((k0 + x : Nat) : Int) := by omega
    by_cases h3 : x < 3
    · have d1 : decide ((x : Int) < 3) = true := by simp; omega
      rw [if_pos h3] at hr
      rw [hr]
      unfold kR
      simp (disch := omega) only [cJ, kT, kN, aD, fL, n1, cO, cN, eE, eU, d1, cW, fA, e1]
      exact ⟨⟨rfl, hf2⟩, x1.seq x2⟩
    · have d1 : decide ((x : Int) < 3) = false := by simp; omega
      rw [if_neg h3] at hr
      simp (disch := omega) only [cJ, kT, kN, aD, fL, n1, cO, cN, eE, eU, d1, fA, e1]
      refine ⟨m, by omega, k0 + x, st' + 2, rfl, ?_, by omega, by omega, by omega, hf2, x1.seq x2⟩
      rw [hr]
      cases Et (fQ l) m (st' + 2) with
      | none => rfl
      | some y =>
        obtain ⟨k, s⟩ := y
        have : x = 3 := by omega
        subst this
        simp; omega
end Go.Proofs.YtoepfjgekpdddaaDoor
namespace Go.Proofs.YtoepfjgekpdddaaDoor
open Go Go.En Go.Pu
set_option maxRecDepth 4000
set_option linter.unusedSimpArgs false
set_option linter.unusedVariables false
theorem Gq (L : List Bool) (sym f st left : Nat) (ps : List Int) : DK L sym (f + 1) st left ps = if left = 0 then .ok (ps, st) else match D1 L st left with
    | none => .error 10
    | some (v, st1) =>
      if v = 1 then match Et L (L.length + 1) st1 with
        | none => .error 10
        | some (k, st2) => if sym < ps.length + 1 + k then .error 11 else DK L sym f st2 left (ps ++ 0 :: List.replicate k 0)
      else if sym < ps.length + 1 then .error 11 else DK L sym f st1 (left - (gD ((v : Int) - 1)).toNat) (ps ++ [(v : Int) - 1]) := by rw [DK] <;> rfl
theorem Dn (k : Nat) : (Builtin.zeroCells (Value.int .i64 0).cells k).toList = List.replicate k (Value.int .i64 0) := by
  apply List.ext_getElem
  · rw [Array.length_toList, jB, List.length_replicate]; simp [Value.cells]
  · intro i h1 h2
    simp [Builtin.zeroCells, Value.cells, Nat.mod_one]
theorem Hb {n m base : Nat} {ty : TypeId} {w : World} {v : Value} {l : List Value} (h : wW w base 1 v n l) (hb : base ≤ w.heap.size) (hn : (n + m) * 8 ≤ 140737488355328) {K : Value → World → Prop}
    (hk : ∀ v' w', wW w' base 1 v' (n + m) (l ++ List.replicate m (.int .i64 0)) → fS w w' (fun y => base ≤ y) → K v' w') : cJ pg (lR .append #[30, 3] ty [v, .int .i64 m]) w K :=
  Eo (i := Tryd.t3) (S := fun y => base ≤ y) Tryd.underlying30 Tryd.underlying3 qF rfl rfl rfl h (by decide) (by intro y hy; simp [Value.cells] at hy; subst hy; rfl) (fun b hbb => Nat.le_trans hb hbb) (by omega) (by rw [show Tryd.t3.bytes = 8 from rfl]; omega) (by rw [show Tryd.t3.bytes = 8 from rfl]; omega)
    (fun v' w' o x => hk v' w' (by rw [← Dn]; exact o) x)
def Em (w : World) (base : Nat) (o : Except Int (Nat × List Int × Nat)) (r : Value) : Prop := match o with
  | .error e => r = .tuple #[.agg #[.int .i64 0, .slice none 0 0], .int .i64 0, .int .i64 e]
  | .ok (log, ps, used) => ∃ v, r = .tuple #[.agg #[.int .i64 log, v], .int .i64 used, .int .i64 0] ∧ wW w base 1 v ps.length (ps.map (Value.int .i64))
theorem uU {p6 : Nat} {w0 w : World} {e : Int} (o6 : iB w p6 [.int .i64 0, .slice none 0 0]) (hx : fS w0 w jI) (hp : w0.heap.size ≤ p6) {RR : Value → World → Prop}
    (hR : ∀ w', fS w0 w' jI → RR (.tuple #[.agg #[.int .i64 0, .slice none 0 0], .int .i64 0, .int .i64 e]) w') :
    cJ pg (eZ 51 (.pointer (some ⟨p6, 0, none⟩)) (.agg #[.int .i64 0, .slice none 0 0])) w fun _u w => yH pg 51 (.pointer (some ⟨p6, 0, none⟩)) w fun r0 => RR (.tuple #[r0, .int .i64 0, .int .i64 e]) w := by
  refine hP o6 rfl (by simp [one]) (by simp) fun w6 o6 x6 s6 => ?_
  refine iT o6 (by simp [fZ]) ?_
  simp only [fZ, List.set_cons_zero, List.set_cons_succ, List.drop_zero, List.take_succ_cons, List.take_zero]
  exact hR _ (hx.new x6 hp)
theorem Fw {l : List UInt8} {log lo hi p6 pc sym : Nat} {w0 w : World} {res : Except Int (List Int × Nat)} (hlh : lo ≤ hi) (hlp : w0.heap.size ≤ p6) (hl : l.length ≤ 1000000) (h6 : p6 < lo) (hhp : hi < pc) (hsym : sym ≤ 1000000) (hlog : log ≤ 15)
    (o6 : iB w p6 [.int .i64 0, .slice none 0 0]) (oc : iB w pc [.int .i64 log, .slice none 0 0]) (hf : Er w lo hi l 4) (h4 : 4 ≤ 8 * l.length) (hx : fS w0 w jI)
    (hres : DK (fQ l) sym ((fQ l).length + 1) 4 (2 ^ log) [] = res)
    {RR : Value → World → Prop} (hE : ∀ e w', res = .error e → fS w0 w' jI → RR (.tuple #[.agg #[.int .i64 0, .slice none 0 0], .int .i64 0, .int .i64 e]) w')
    (hO : ∀ ps st v w', res = .ok (ps, st) → wW w' w0.heap.size 1 v ps.length (ps.map (Value.int .i64)) → fS w0 w' jI → RR (.tuple #[.agg #[.int .i64 log, v], .int .i64 (((st + 7) / 8 : Nat)), .int .i64 0]) w') :
    kF RR (.int .i64 sym) (.pointer (some ⟨p6, 0, none⟩)) (.pointer (some ⟨hi, 0, none⟩)) (.pointer (some ⟨pc, 0, none⟩)) (.int .i64 (2 ^ log : Nat)) w := by
  have hbl := lM l
  have hp15 : 2 ^ log ≤ 2 ^ 15 := Nat.pow_le_pow_right (by omega) hlog
  unfold kF qR rZ
  have lpc := oc.lt
  refine iY.rule (fun m (t : Value) w' => ∃ (st left : Nat) (ps : List Int) (v : Value), t = .int .i64 left ∧ DK (fQ l) sym m st left ps = res ∧ (fQ l).length < m + st ∧ st ≤ 8 * l.length ∧ left ≤ 32768 ∧ ps.length ≤ 1000000 ∧
      iB w' p6 [.int .i64 0, .slice none 0 0] ∧ iB w' pc [.int .i64 log, v] ∧ wW w' (pc + 1) 1 v ps.length (ps.map (Value.int .i64)) ∧ Er w' lo hi l st ∧ fS w w' (fun y => y = hi ∨ pc ≤ y)) ((fQ l).length + 1)
    ⟨4, 2 ^ log, [], _, rfl, hres, by omega, h4, by omega, by simp, o6, oc, wW.nil _ _ _, hf, fS.refl _ _⟩ ?_
  rintro m t w1 ⟨st, left, ps, v, rfl, hr, hm, hst, hleft, hpl, o61, oc1, ov, hf1, x1⟩
  have z1 := x1.size
  have hx0 := hx.size
  have hx1 : ∀ {w' : World}, fS w w' (fun y => y = hi ∨ pc ≤ y) → fS w0 w' jI := fun h => hx.trans h fun b hb hh => by omega
  obtain ⟨m, rfl⟩ : ∃ m', m = m' + 1 := ⟨m - 1, by omega⟩
  rw [Gq] at hr
  obtain ⟨av, cv, hv⟩ := ov.len
  unfold mW rD
  by_cases h0 : left = 0
  · have d1 : decide ((0 : Int) < (left : Int)) = false := by simp; omega
    rw [if_pos h0] at hr
    subst hv
    have lc := iF (off := 0) (kB oc1) (by simp)
    have lc' := iF (off := 0) oc1 (by simp)
    simp only [List.drop_zero, List.take_succ_cons, List.take_zero] at lc lc'
    unfold mR
    simp (disch := omega) only [cJ, fI, d1, hC, and_true, true_and, aD, lc, cO]
    refine (FO (hf1.ext (fS.dr w1 jI) (fun _ _ _ h => h) hlh) (by omega)).mono ?_
    rintro r w2 ⟨rfl, rfl⟩
    simp (disch := omega) only [lc, true_and]
    refine hP (kB o61) rfl (by simp [one]) (by simp) fun w6 o6 x6 s6 => ?_
    refine iT o6 (by simp [fZ]) ?_
    simp only [fZ, List.set_cons_zero, List.set_cons_succ, List.drop_zero, List.take_succ_cons, List.take_zero]
    have x16 : fS w1 w6 (fun y => y = p6) := (fS.dr w1 _).seq x6
    have ov6 := ov.ext x16 (fun b hb h => by omega)
    refine hO ps st _ w6 hr.symm ⟨ov6.1, ?_⟩ ((hx1 x1).new x16 (by omega))
    rcases ov6.2 with h | ⟨b, c, rest, q1, q2, q3⟩
    · exact .inl h
    · exact .inr ⟨b, c, rest, q1, by omega, q3⟩
  · have d1 : decide ((0 : Int) < (left : Int)) = true := by simp; omega
    rw [if_neg h0] at hr
    simp (disch := omega) only [cJ, fI, d1, aD, cW]
    unfold mK rR qO
    refine (Hc hf1 hlh hst hl (by omega) hleft).mono ?_
    rintro r w2 ⟨hv2, x2⟩
    have x12 : fS w w2 (fun y => y = hi ∨ pc ≤ y) := x1.seq (x2.mono fun y _ h => .inl h)
    have o62 := o61.ext x2 (by omega)
    have oc2 := oc1.ext x2 (by omega)
    have ov2 := ov.ext x2 (fun b hb h => by omega)
    have z2 := x2.size
    cases hval : D1 (fQ l) st left with
    | none =>
      rw [hval] at hr hv2
      obtain rfl := hv2
      have n1 : ((10 : Int) != 0) = true := rfl
      simp (disch := omega) only [cJ, kT, kN, bE, aD, aE, Nat.zero_add, dH, fL, n1, cW]
      exact uU (RR := RR) (e := 10) o62 (hx1 x12) hlp fun w' h => hE _ _ hr.symm h
    | some y =>
      obtain ⟨x, st1⟩ := y
      rw [hval] at hr hv2
      simp only at hr
      obtain ⟨rfl, hf2⟩ := hv2
      obtain ⟨b1, b2, b3⟩ := Fg hval (by omega)
      have n1 : ((0 : Int) != 0) = false := rfl
      simp (disch := omega) only [cJ, kT, kN, bE, aD, aE, Nat.zero_add, dH, fL, n1, cO, fN, eE, fW]
      refine (Dk _ _).mono ?_
      rintro r w3 ⟨rfl, rfl⟩
      have c1 := oc2.cell (off := 1)
      simp only [List.getElem?_cons_zero, List.getElem?_cons_succ] at c1
      have hpp : gD ((x : Int) - 1) ≤ left := by unfold gD; split <;> omega
      have hpn := jN (p := (x : Int) - 1) (by omega)
      obtain ⟨pq, hpq⟩ : ∃ pq : Nat, gD ((x : Int) - 1) = pq := ⟨(gD ((x : Int) - 1)).toNat, by omega⟩
      rw [hpq] at hr hpp ⊢
      rw [Int.toNat_natCast] at hr
      have e1 : (left : Int) - (pq : Int) = ((left - pq : Nat) : Int) := by omega
      simp (disch := omega) only [fN, e1, eE, aD, c1, cU]
      refine C6 (cells := #[.int .i64 ((x : Int) - 1)]) (by decide) (by decide) (by kernel_rfl) fun w4 o4 x4 s4 => ?_
      have z4 := x4.size
      refine AZ (m := 1) (news := [.int .i64 ((x : Int) - 1)]) (ov2.ext x4 (fun _ _ h => h)) (o4.cl (off := 0) (l := [.int .i64 ((x : Int) - 1)]) (n := 1) rfl (fun i hi => by rw [Nat.zero_add])) (by simp [one]) (by omega) (by omega) fun v5 w5 o5 x5 => ?_
      have z5 := x5.size
      obtain ⟨av5, cv5, rfl⟩ := o5.len
      have oc5 := (oc2.ext x4 (fun h => h)).ext x5 (by omega)
      refine C9 oc5 rfl (by simp) fun w6 oc6 x6 s6 => ?_
      simp only [List.set_cons_zero, List.set_cons_succ] at oc6
      have z6 := x6.size
      have ov6 := o5.ext x6 (fun b hb h => by omega)
      have x26 : fS w3 w6 (fun y => pc ≤ y) := ((x4.mono fun _ _ h => h.elim).seq (x5.mono fun y _ h => by omega)).seq (x6.mono fun y _ h => by omega)
      have x16 : fS w w6 (fun y => y = hi ∨ pc ≤ y) := x12.seq (x26.mono fun y _ h => .inr h)
      have o66 := o62.ext x26 (by omega)
      have hf6 := hf2.ext x26 (fun b _ _ => by omega) hlh
      have hsz : pc < w6.heap.size := oc6.lt
      rw [show (ps.map (Value.int .i64) ++ [Value.int .i64 ((x : Int) - 1)]) = (ps ++ [(x : Int) - 1]).map (Value.int .i64) from by simp] at ov6
      have hwl : IntKind.i64.wrap (left : Int) = left := eE (by omega) (by omega)
      have tail : ∀ (ps' : List Int) (st' left' : Nat) (a : Option Addr) (cc : Nat) (w' : World), (if sym < ps'.length then .error 11 else DK (fQ l) sym m st' left' ps') = res → ps'.length ≤ 10000000 → left' ≤ 32768 → st < st' → st' ≤ 8 * l.length →
          iB w' p6 [.int .i64 0, .slice none 0 0] → iB w' pc [.int .i64 log, .slice a ps'.length cc] → wW w' (pc + 1) 1 (.slice a ps'.length cc) ps'.length (ps'.map (Value.int .i64)) → Er w' lo hi l st' → fS w w' (fun y => y = hi ∨ pc ≤ y) →
          lD (fun _ _ _ _ fR w'' => ∃ m', m' < m + 1 ∧ ∃ (st left : Nat) (ps : List Int) (v : Value), fR = .int .i64 left ∧ DK (fQ l) sym m' st left ps = res ∧ (fQ l).length < m' + st ∧ st ≤ 8 * l.length ∧ left ≤ 32768 ∧ ps.length ≤ 1000000 ∧
            iB w'' p6 [.int .i64 0, .slice none 0 0] ∧ iB w'' pc [.int .i64 log, v] ∧ wW w'' (pc + 1) 1 v ps.length (ps.map (Value.int .i64)) ∧ Er w'' lo hi l st ∧ fS w w'' (fun y => y = hi ∨ pc ≤ y)) RR
            (.int .i64 sym) (.pointer (some ⟨p6, 0, none⟩)) (.pointer (some ⟨hi, 0, none⟩)) (.pointer (some ⟨pc, 0, none⟩)) (.int .i64 left') w' := by
        intro ps' st' left' a cc w' q1 q2 q3 q4 q5 q6 q7 q8 q9 q10
        have c1 := q7.cell (off := 1)
        simp only [List.getElem?_cons_zero, List.getElem?_cons_succ] at c1
        unfold lD
        by_cases hgt : sym < ps'.length
        · have d1 : decide ((sym : Int) < (ps'.length : Int)) = true := by simp; omega
          rw [if_pos hgt] at q1
          simp (disch := omega) only [cJ, aE, Nat.zero_add, bE, aD, dH, c1, cU, dI, fI, d1, fB, eK, if_true, cW, dT]
          exact uU (RR := RR) (e := 11) q6 (hx1 q10) hlp fun w' h => hE _ _ q1.symm h
        · have d1 : decide ((sym : Int) < (ps'.length : Int)) = false := by simp; omega
          have d2 : decide ((left' : Int) < 0) = false := by simp
          rw [if_neg hgt] at q1
          simp (disch := omega) only [cJ, aE, Nat.zero_add, bE, aD, dH, c1, cU, dI, fI, d1, eT, eK, Bool.false_eq_true, if_false, dZ, eU, d2, cO]
          exact ⟨m, by omega, st', left', ps', _, rfl, q1, by omega, q5, q3, by omega, q6, q7, q8, q9, q10⟩
      by_cases h1 : x = 1
      · subst h1
        have n2 : (((1 : Nat) : Int) - 1 == 0) = true := rfl
        obtain rfl : pq = 0 := by
          have : gD (((1 : Nat) : Int) - 1) = 0 := rfl
          omega
        rw [if_pos rfl] at hr
        simp (disch := omega) only [n2, cW]
        refine (Fp hf6 hlh (by omega) hl).mono ?_
        rintro r w7 ⟨hv7, x7⟩
        have x17 : fS w w7 (fun y => y = hi ∨ pc ≤ y) := x16.seq (x7.mono fun y _ h => .inl h)
        have o67 := o66.ext x7 (by omega)
        have oc7 := oc6.ext x7 (by omega)
        have ov7 := ov6.ext x7 (fun b hb h => by omega)
        have z7 := x7.size
        cases hno : Et (fQ l) ((fQ l).length + 1) st1 with
        | none =>
          rw [hno] at hr hv7
          obtain rfl := hv7
          have n1 : ((10 : Int) != 0) = true := rfl
          simp (disch := omega) only [kT, kN, aD, fL, n1, cW]
          exact uU (RR := RR) (e := 10) o67 (hx1 x17) hlp fun w' h => hE _ _ hr.symm h
        | some y =>
          obtain ⟨k, st2⟩ := y
          rw [hno] at hr hv7
          simp only at hr
          obtain ⟨rfl, hf7⟩ := hv7
          obtain ⟨k1, k2, k3⟩ := Gz hno
          have n1 : ((0 : Int) != 0) = false := rfl
          by_cases hgt : sym < k
          · have d1 : decide ((sym : Int) < (k : Int)) = true := by simp; omega
            rw [if_pos (by omega)] at hr
            simp (disch := omega) only [kT, kN, aD, fL, n1, cO, fI, d1, cW]
            exact uU (RR := RR) (e := 11) o67 (hx1 x17) hlp fun w' h => hE _ _ hr.symm h
          · have d1 : decide ((sym : Int) < (k : Int)) = false := by simp; omega
            have c7 := oc7.cell (off := 1)
            simp only [List.getElem?_cons_zero, List.getElem?_cons_succ] at c7
            simp (disch := omega) only [kT, kN, aD, fL, n1, cO, fI, d1, c7, cU]
            refine Hb (m := k) ov7 (by omega) (by omega) fun v8 w8 o8 x8 => ?_
            obtain ⟨av8, cv8, rfl⟩ := o8.len
            have z8 := x8.size
            refine C9 (oc7.ext x8 (by omega)) rfl (by simp) fun w9 oc9 x9 s9 => ?_
            simp only [List.set_cons_zero, List.set_cons_succ] at oc9
            have z9 := x9.size
            have x79 : fS w7 w9 (fun y => pc ≤ y) := (x8.mono fun y _ h => by omega).seq (x9.mono fun y _ h => by omega)
            have ov9 := o8.ext x9 (fun b hb h => by omega)
            have hlk : ps.length + 1 + k = (ps ++ 0 :: List.replicate k 0).length := by simp; omega
            have hmk : List.map (Value.int .i64) (ps ++ [((1 : Nat) : Int) - 1]) ++ List.replicate k (Value.int .i64 0) = (ps ++ 0 :: List.replicate k 0).map (Value.int .i64) := by simp
            rw [hmk, hlk] at ov9
            rw [hlk] at hr oc9
            refine tail _ st2 left _ _ w9 hr (by rw [← hlk]; omega) hleft (by omega) (by omega) (o67.ext x79 (by omega)) oc9 ov9 (hf7.ext x79 (fun b _ _ => by omega) hlh) (x17.seq (x79.mono fun y _ h => .inr h))
      · have n2 : ((x : Int) - 1 == 0) = false := beq_eq_false_iff_ne.2 (by omega)
        rw [if_neg h1] at hr
        simp (disch := omega) only [n2, cO]
        rw [show ps.length + 1 = (ps ++ [(x : Int) - 1]).length from by simp] at hr ov6 oc6
        exact tail _ st1 _ _ _ w6 hr (by simp; omega) (by omega) b1 (by omega) o66 oc6 ov6 hf6 x16
theorem ES {bv : Value} {l : List UInt8} {most : Int} {sym : Nat} {w : World} (hb : Bs w bv l) (hl : l.length ≤ 1000000) (hsym : sym ≤ 1000000) :
    gE pg oY #[bv, .int .i64 most, .int .i64 sym] w (fun r w' => Em w' w.heap.size (tL (fQ l) most sym) r ∧ fS w w' jI) := by
  refine Bc ?_
  obtain ⟨RR, hRR⟩ : ∃ RR : Value → World → Prop, RR = fun r w' => Em w' w.heap.size (tL (fQ l) most sym) r ∧ fS w w' jI := ⟨_, rfl⟩
  rw [← hRR]
  have hbl := lM l
  unfold BE pP pU
  refine jX fun w1 o1 x1 s1 => ?_
  refine (Ds (hb.ext x1 (iL _)) (by omega)).mono ?_
  rintro r w2 ⟨hi, rfl, hi1, hi2, hf2, x2⟩
  have z1 := x1.size
  have z2 := x2.size
  simp (disch := omega) only [cJ, bE, aD]
  refine (wU (n := 4) hf2 hi1 (by omega) (by omega) hl).mono ?_
  rintro r w3 (⟨hsh, rfl, hf3, x3⟩ | ⟨hsh, rfl, hf3, x3⟩)
  · have n1 : ((10 : Int) != 0) = true := rfl
    have hrl : tL (fQ l) most sym = .error 10 := by unfold tL; rw [if_pos (by omega)]
    rw [hrl] at hRR
    simp (disch := omega) only [kT, kN, aD, fL, n1, cW]
    exact uU (RR := RR) (e := 10) ((o1.ext x2 (fun h => h)).ext x3 (fun h => h)) ((x1.seq x2).seq x3) (Nat.le_refl _) fun w' h => by rw [hRR]; exact ⟨rfl, h⟩
  · have n1 : ((0 : Int) != 0) = false := rfl
    have hnum : rH (((fQ l).drop 0).take 4) = jP (fQ l) 0 4 := rfl
    have hlt := vU (fQ l) 0 4
    have hrl : tL (fQ l) most sym = (if most < ((jP (fQ l) 0 4 + 5 : Nat) : Int) ∨ 15 < jP (fQ l) 0 4 + 5 then .error 12 else match DK (fQ l) sym ((fQ l).length + 1) 4 (2 ^ (jP (fQ l) 0 4 + 5)) [] with
      | .error e => .error e
      | .ok (ps, st) => .ok (jP (fQ l) 0 4 + 5, ps, (st + 7) / 8)) := by unfold tL; rw [if_neg (by omega)] <;> rfl
    rw [hrl] at hRR
    rw [hnum]
    generalize jP (fQ l) 0 4 = x at *
    have e1 : (x : Int) + 5 = ((x + 5 : Nat) : Int) := by omega
    have x03 : fS w w3 jI := (x1.seq x2).trans x3 fun b hb h => by omega
    have o13 := (o1.ext x2 (fun h => h)).ext x3 (by omega)
    simp (disch := omega) only [kT, kN, aD, fL, n1, cO, cN, eE, fA, e1, bF]
    refine jX fun w4 o4 x4 s4 => ?_
    refine hP o4 rfl (by simp [one]) (by simp) fun w5 o5 x5 s5 => ?_
    simp only [fZ, List.set_cons_zero, List.set_cons_succ] at o5
    have z3 := x3.size
    have z4 := x4.size
    have x05 : fS w w5 jI := (x03.seq x4).new x5 (by omega)
    have x35 : fS w3 w5 jI := x4.new x5 (by omega)
    have o15 := o13.ext x35 (fun h => h)
    have c5 := o5.cell (off := 0)
    simp only [List.getElem?_cons_zero, List.getElem?_cons_succ] at c5
    by_cases hmo : most < ((x + 5 : Nat) : Int)
    · have d1 : decide (most < ((x + 5 : Nat) : Int)) = true := by simpa using hmo
      rw [if_pos (.inl hmo)] at hRR
      simp (disch := omega) only [aI, aD, eA, c5, cU, fI, d1, fB, eK, if_true, cW, dT]
      exact uU (RR := RR) (e := 12) o15 x05 (Nat.le_refl _) fun w' h => by rw [hRR]; exact ⟨rfl, h⟩
    have d1 : decide (most < ((x + 5 : Nat) : Int)) = false := by simpa using hmo
    by_cases h15 : 15 < x + 5
    · have d2 : decide ((15 : Int) < ((x + 5 : Nat) : Int)) = true := by simp; omega
      rw [if_pos (.inr h15)] at hRR
      simp (disch := omega) only [aI, aD, eA, c5, cU, fI, d1, eT, eK, Bool.false_eq_true, if_false, dZ, d2, fX, Int.toNat_natCast, cW]
      exact uU (RR := RR) (e := 12) o15 x05 (Nat.le_refl _) fun w' h => by rw [hRR]; exact ⟨rfl, h⟩
    have d2 : decide ((15 : Int) < ((x + 5 : Nat) : Int)) = false := by simp; omega
    rw [if_neg (by omega)] at hRR
    have hsh := Hu (n := x + 5) (by omega)
    simp (disch := omega) only [aI, aD, eA, c5, cU, fI, d1, eT, eK, Bool.false_eq_true, if_false, dZ, d2, fX, Int.toNat_natCast, hsh, cO]
    have hl5 := o5.lt
    refine Fw (l := l) (w0 := w) (log := x + 5) (res := DK (fQ l) sym ((fQ l).length + 1) 4 (2 ^ (x + 5)) []) (lo := w1.heap.size) hi1 (Nat.le_refl _) hl (by omega) (by omega) hsym (by omega) o15 o5 (hf3.ext x35 (fun _ _ _ h => h) hi1) (by omega) x05 rfl ?_ ?_
    · intro e w' he hx
      rw [hRR, he]
      exact ⟨rfl, hx⟩
    · intro ps st v w' he ho hx
      rw [hRR, he]
      exact ⟨⟨v, rfl, ho⟩, hx⟩
end Go.Proofs.YtoepfjgekpdddaaDoor
namespace Go.Pu
open Go Go.En
set_option linter.unusedVariables false
theorem Gr {L : List Bool} {most : Int} {sym log used : Nat} {ps : List Int} (h : tL L most sym = .ok (log, ps, used)) : (ps.length ≤ 256 → EN log ps) ∧ (log : Int) ≤ most ∧ ps.length ≤ sym := by
  unfold tL at h
  split at h
  · cases h
  · simp only at h
    split at h
    · cases h
    · rename_i h1 h2
      have hpow : ((2 ^ (jP L 0 4 + 5) : Nat) : Int) = (2 : Int) ^ (jP L 0 4 + 5) := by simp
      have hp := Nat.two_pow_pos (jP L 0 4 + 5)
      cases hr : DK L sym (L.length + 1) 4 (2 ^ (jP L 0 4 + 5)) [] with
      | error e => rw [hr] at h; cases h
      | ok x =>
        obtain ⟨p, st⟩ := x
        rw [hr] at h
        cases h
        have e0 : tY [] = 0 := rfl
        obtain ⟨q1, q2, q3, q4, q5⟩ := A5 (tot := (2 : Int) ^ (jP L 0 4 + 5)) hr (by simp) (by rw [e0, hpow]; omega) (fun h => by omega)
        exact ⟨fun hs => ⟨by omega, by omega, q5, hs, q4, q1, q2⟩, by omega, q3⟩
theorem Dh {L : List Bool} {sym : Nat} {e : Int} : ∀ {f st left : Nat} {ps : List Int}, DK L sym f st left ps = .error e → e = 10 ∨ e = 11
  | 0, st, left, ps, h => by cases h; exact .inl rfl
  | f + 1, st, left, ps, h => by
    rw [DK] at h
    split at h
    · cases h
    · split at h
      · cases h; exact .inl rfl
      · split at h
        · split at h
          · cases h; exact .inl rfl
          · split at h
            · cases h; exact .inr rfl
            · exact Dh h
        · split at h
          · cases h; exact .inr rfl
          · exact Dh h
theorem Fx {L : List Bool} {most : Int} {sym : Nat} {e : Int} (h : tL L most sym = .error e) : e ≠ 0 := by
  unfold tL at h
  split at h
  · cases h; decide
  · simp only at h
    split at h
    · cases h; decide
    · split at h
      · rename_i hr
        cases h
        rcases Dh hr with h | h <;> omega
      · cases h
end Go.Pu
namespace Go.Proofs.YtoepfjgekpdddaaDoor
open Go Go.En Go.Pu
set_option maxRecDepth 4000
set_option linter.unusedSimpArgs false
set_option linter.unusedVariables false
def xE (w : World) (base : Nat) (T : Nat × List T3) (v : Value) : Prop := (T = (0, []) ∧ v = .agg #[.int .i64 0, .slice none 0 0]) ∨ ∃ b, GM w base b T.1 T.2 v
theorem xE.nil (w : World) (base : Nat) : xE w base (0, []) (.agg #[.int .i64 0, .slice none 0 0]) := .inl ⟨rfl, rfl⟩
theorem xE.form {w : World} {base : Nat} {T : Nat × List T3} {v : Value} (h : xE w base T v) : ∃ a, v = .agg #[.int .i64 T.1, .slice a T.2.length T.2.length] := by
  rcases h with ⟨rfl, rfl⟩ | ⟨b, rfl, _⟩
  · exact ⟨_, rfl⟩
  · exact ⟨_, rfl⟩
theorem xE.ext {w w' : World} {base : Nat} {T : Nat × List T3} {v : Value} {M : Nat → Prop} (h : xE w base T v) (x : fS w w' M) (hM : ∀ b, base ≤ b → b < w.heap.size → ¬ M b) : xE w' base T v := by
  rcases h with h | ⟨b, h⟩
  · exact .inl h
  · have hb := h.2.1
    have hl := h.2.2.lt
    exact .inr ⟨b, h.ext x (hM b hb hl)⟩
def Ia (w : World) (base : Nat) (o : Except Int ((Nat × List T3) × Nat)) (r : Value) : Prop := match o with
  | .error e => r = .tuple #[.agg #[.int .i64 0, .slice none 0 0], .int .i64 0, .int .i64 e]
  | .ok (T, n) => ∃ t, r = .tuple #[t, .int .i64 n, .int .i64 0] ∧ xE w base T t
def iR (a mode : Int) (l : List UInt8) (old : Nat × List T3) : Except Int ((Nat × List T3) × Nat) :=
  if a < 0 ∨ 2 < a ∨ mode < 0 ∨ 3 < mode then .error 1
  else if mode = 0 then .ok ((EX a, mD (EX a) (Gu a)), 0)
  else if mode = 1 then match l with
    | [] => .error 10
    | x :: _ => if kU a < (x.toNat : Int) then .error 11 else .ok ((0, [((x.toNat : Nat), 0, 0)]), 1)
  else if mode = 3 then if old.2 = [] then .error 11 else .ok (old, 0)
  else match tL (fQ l) (Cs a) (kU a + 1).toNat with
    | .error e => .error e
    | .ok (lg, ps, u) => .ok ((lg, mD lg ps), u)
theorem rN {p : Nat} {w0 w : World} {x : Int} {a : Option Addr} {k c : Nat} {n e : Value} (o : iB w p [.int .i64 0, .slice none 0 0]) (hx : fS w0 w jI) (hp : w0.heap.size ≤ p) {RR : Value → World → Prop}
    (hR : ∀ w', fS w0 w' jI → fS w w' (fun y => y = p) → RR (.tuple #[.agg #[.int .i64 x, .slice a k c], n, e]) w') :
    cJ pg (eZ 26 (.pointer (some ⟨p, 0, none⟩)) (.agg #[.int .i64 x, .slice a k c])) w fun _u w => yH pg 26 (.pointer (some ⟨p, 0, none⟩)) w fun r0 => RR (.tuple #[r0, n, e]) w := by
  refine fY o rfl (by simp [one]) (by simp) fun w6 o6 x6 s6 => ?_
  refine kH o6 (by simp [fZ]) ?_
  simp only [fZ, List.set_cons_zero, List.set_cons_succ, List.drop_zero, List.take_succ_cons, List.take_zero]
  exact hR _ (hx.new x6 hp) x6
theorem FX {a : Int} (h : 0 ≤ a ∧ a ≤ 2) : 28 ≤ kU a ∧ kU a ≤ 60 := by
  unfold kU
  split
  · omega
  · split
    · omega
    · rw [if_pos (by omega)]; omega
theorem Gv {a : Int} (h : ¬ (0 ≤ a ∧ a ≤ 2)) : kU a = -1 := by
  unfold kU
  rw [if_neg (by omega), if_neg (by omega), if_neg (by omega)]
theorem Ce {a mode : Int} {bv ov : Value} {l : List UInt8} {T : Nat × List T3} {base : Nat} {w : World} (hg : vA w) (hb : Bs w bv l) (hl : mode = 2 → l.length ≤ 1000000) (ho : xE w base T ov) (hbase : base ≤ w.heap.size) (hlb : l.length ≤ 9223372036854775807) (hT : T.2.length ≤ 1000000) :
    gE pg kJ #[.int .i64 a, .int .i64 mode, bv, ov] w (fun r w' => Ia w' base (iR a mode l T) r ∧ fS w w' jI) := by
  refine A9 ?_
  obtain ⟨RR, hRR⟩ : ∃ RR : Value → World → Prop, RR = fun r w' => Ia w' base (iR a mode l T) r ∧ fS w w' jI := ⟨_, rfl⟩
  rw [← hRR]
  obtain ⟨oa, rfl⟩ := ho.form
  obtain ⟨ba, bc, rfl, _⟩ := hb.len
  rw [List.length_map] at hb
  rw [List.length_map]
  unfold Bz rI
  refine uP fun w1 o1 x1 s1 => ?_
  simp only [Value.cells] at o1
  refine gX fun w2 o2 x2 s2 => ?_
  have x12 := x1.seq x2
  have z2 := x12.size
  refine (HJ (hg.ext x12)).mono ?_
  rintro r w3 ⟨rfl, x3⟩
  have o1 := (o1.ext x2 (fun h => h)).ext x3 (fun h => h)
  have o2 := o2.ext x3 (fun h => h)
  have x13 := x12.seq x3
  have z3 := x3.size
  have hg3 := hg.ext x13
  have err : ∀ {e : Int} {w' : World}, iR a mode l T = .error e → fS w w' jI → RR (.tuple #[.agg #[.int .i64 0, .slice none 0 0], .int .i64 0, .int .i64 e]) w' := fun h x => by
    rw [hRR]; refine ⟨?_, x⟩; rw [h] <;> rfl
  have good : ∀ {T' : Nat × List T3} {n : Nat} {w' : World} {t : Value}, iR a mode l T = .ok (T', n) → xE w' base T' t → fS w w' jI → RR (.tuple #[t, .int .i64 n, .int .i64 0]) w' := fun h ht x => by
    rw [hRR]; refine ⟨?_, x⟩; rw [h]; exact ⟨_, rfl, ht⟩
  by_cases ha : 0 ≤ a ∧ a ≤ 2
  rotate_left
  · have d1 : decide (kU a < 0) = true := by rw [Gv ha] <;> rfl
    have hE : iR a mode l T = .error 1 := by unfold iR; rw [if_pos (by omega)]
    simp (disch := omega) only [cJ, hC, aD, dM, fA, fN, gM, gJ, gG, gN, iN, gU, dX, fX, fV, fW, fL, eU, gP, fI, gC, gO, gV, gI, eK, gT, gL, gA, kT, kN, nX, oC, nW, oB, oA, nY, nZ, cU, Result.ok.injEq, Next.value.injEq, true_and, and_true, eE, gB, gQ, gR, gS, iK, Int.toNat_natCast, fK, fB, fJ, eT, dZ, dT, eM, dY, cW, cO, if_true, if_false, Bool.false_eq_true, Nat.zero_add, Option.isNone_some, Option.isNone_none, Bool.not_true, Bool.not_false, List.getElem?_cons_succ, List.getElem?_cons_zero, cQ, aZ, bV, bW, bU, bB, dW, dC, dF, cV, aI, eA, bO, aE, dH, dI, dJ, dB, bK, bM, bZ, bA, cA, cH, bE, cL, cK, cT, cM, cG, cB, cE, dO, bX, cP, dQ, bS, cX, aX, cD, dR, bH, aV, aN, aO, aJ, aP, aW, aC, cN, bF, cY, bR, cC, cR, aS, aQ, aT, aY, aR, aL, aG, aB, cZ, aH, aF, bN, bC, bJ, dD, bD, cF, bG, bT, bQ, aK, dS, aU, dL, dN, aM, cI, bY, dK, eL, d1]
    exact rN o2 x13 (by omega) fun w' x _ => err hE x
  obtain ⟨hl1, hl2⟩ := FX ha
  have d1 : decide (kU a < 0) = false := by simp; omega
  by_cases hm0 : mode < 0
  · have d2 : decide (mode < 0) = true := by simp; omega
    have hE : iR a mode l T = .error 1 := by unfold iR; rw [if_pos (by omega)]
    simp (disch := omega) only [cJ, hC, aD, dM, fA, fN, gM, gJ, gG, gN, iN, gU, dX, fX, fV, fW, fL, eU, gP, fI, gC, gO, gV, gI, eK, gT, gL, gA, kT, kN, nX, oC, nW, oB, oA, nY, nZ, cU, Result.ok.injEq, Next.value.injEq, true_and, and_true, eE, gB, gQ, gR, gS, iK, Int.toNat_natCast, fK, fB, fJ, eT, dZ, dT, eM, dY, cW, cO, if_true, if_false, Bool.false_eq_true, Nat.zero_add, Option.isNone_some, Option.isNone_none, Bool.not_true, Bool.not_false, List.getElem?_cons_succ, List.getElem?_cons_zero, cQ, aZ, bV, bW, bU, bB, dW, dC, dF, cV, aI, eA, bO, aE, dH, dI, dJ, dB, bK, bM, bZ, bA, cA, cH, bE, cL, cK, cT, cM, cG, cB, cE, dO, bX, cP, dQ, bS, cX, aX, cD, dR, bH, aV, aN, aO, aJ, aP, aW, aC, cN, bF, cY, bR, cC, cR, aS, aQ, aT, aY, aR, aL, aG, aB, cZ, aH, aF, bN, bC, bJ, dD, bD, cF, bG, bT, bQ, aK, dS, aU, dL, dN, aM, cI, bY, dK, eL, d1, d2]
    exact rN o2 x13 (by omega) fun w' x _ => err hE x
  have d2 : decide (mode < 0) = false := by simp; omega
  by_cases hm3 : 3 < mode
  · have d3 : decide (3 < mode) = true := by simp; omega
    have hE : iR a mode l T = .error 1 := by unfold iR; rw [if_pos (by omega)]
    simp (disch := omega) only [cJ, hC, aD, dM, fA, fN, gM, gJ, gG, gN, iN, gU, dX, fX, fV, fW, fL, eU, gP, fI, gC, gO, gV, gI, eK, gT, gL, gA, kT, kN, nX, oC, nW, oB, oA, nY, nZ, cU, Result.ok.injEq, Next.value.injEq, true_and, and_true, eE, gB, gQ, gR, gS, iK, Int.toNat_natCast, fK, fB, fJ, eT, dZ, dT, eM, dY, cW, cO, if_true, if_false, Bool.false_eq_true, Nat.zero_add, Option.isNone_some, Option.isNone_none, Bool.not_true, Bool.not_false, List.getElem?_cons_succ, List.getElem?_cons_zero, cQ, aZ, bV, bW, bU, bB, dW, dC, dF, cV, aI, eA, bO, aE, dH, dI, dJ, dB, bK, bM, bZ, bA, cA, cH, bE, cL, cK, cT, cM, cG, cB, cE, dO, bX, cP, dQ, bS, cX, aX, cD, dR, bH, aV, aN, aO, aJ, aP, aW, aC, cN, bF, cY, bR, cC, cR, aS, aQ, aT, aY, aR, aL, aG, aB, cZ, aH, aF, bN, bC, bJ, dD, bD, cF, bG, bT, bQ, aK, dS, aU, dL, dN, aM, cI, bY, dK, eL, d1, d2, d3]
    exact rN o2 x13 (by omega) fun w' x _ => err hE x
  have d3 : decide (3 < mode) = false := by simp; omega
  have hno : ¬ (a < 0 ∨ 2 < a ∨ mode < 0 ∨ 3 < mode) := by omega
  by_cases m0 : mode = 0
  · subst m0
    have n1 : ((0 : Int) == 0) = true := rfl
    have hE : iR a 0 l T = .ok ((EX a, mD (EX a) (Gu a)), 0) := by unfold iR; rw [if_neg hno, if_pos rfl]
    simp (disch := omega) only [cJ, hC, aD, dM, fA, fN, gM, gJ, gG, gN, iN, gU, dX, fX, fV, fW, fL, eU, gP, fI, gC, gO, gV, gI, eK, gT, gL, gA, kT, kN, nX, oC, nW, oB, oA, nY, nZ, cU, Result.ok.injEq, Next.value.injEq, true_and, and_true, eE, gB, gQ, gR, gS, iK, Int.toNat_natCast, fK, fB, fJ, eT, dZ, dT, eM, dY, cW, cO, if_true, if_false, Bool.false_eq_true, Nat.zero_add, Option.isNone_some, Option.isNone_none, Bool.not_true, Bool.not_false, List.getElem?_cons_succ, List.getElem?_cons_zero, cQ, aZ, bV, bW, bU, bB, dW, dC, dF, cV, aI, eA, bO, aE, dH, dI, dJ, dB, bK, bM, bZ, bA, cA, cH, bE, cL, cK, cT, cM, cG, cB, cE, dO, bX, cP, dQ, bS, cX, aX, cD, dR, bH, aV, aN, aO, aJ, aP, aW, aC, cN, bF, cY, bR, cC, cR, aS, aQ, aT, aY, aR, aL, aG, aB, cZ, aH, aF, bN, bC, bJ, dD, bD, cF, bG, bT, bQ, aK, dS, aU, dL, dN, aM, cI, bY, dK, eL, d1, d2, d3, n1]
    refine (Bj hg3).mono ?_
    rintro r w4 ⟨t, e, rfl, ht, x4⟩
    unfold zP CH at ht
    rw [if_pos (by omega)] at ht
    obtain ⟨⟨b, ht, hb1, ob⟩, rfl⟩ := ht
    subst ht
    have z4 := x4.size
    simp (disch := omega) only [cJ, hC, aD, dM, fA, fN, gM, gJ, gG, gN, iN, gU, dX, fX, fV, fW, fL, eU, gP, fI, gC, gO, gV, gI, eK, gT, gL, gA, kT, kN, nX, oC, nW, oB, oA, nY, nZ, cU, Result.ok.injEq, Next.value.injEq, true_and, and_true, eE, gB, gQ, gR, gS, iK, Int.toNat_natCast, fK, fB, fJ, eT, dZ, dT, eM, dY, cW, cO, if_true, if_false, Bool.false_eq_true, Nat.zero_add, Option.isNone_some, Option.isNone_none, Bool.not_true, Bool.not_false, List.getElem?_cons_succ, List.getElem?_cons_zero, cQ, aZ, bV, bW, bU, bB, dW, dC, dF, cV, aI, eA, bO, aE, dH, dI, dJ, dB, bK, bM, bZ, bA, cA, cH, bE, cL, cK, cT, cM, cG, cB, cE, dO, bX, cP, dQ, bS, cX, aX, cD, dR, bH, aV, aN, aO, aJ, aP, aW, aC, cN, bF, cY, bR, cC, cR, aS, aQ, aT, aY, aR, aL, aG, aB, cZ, aH, aF, bN, bC, bJ, dD, bD, cF, bG, bT, bQ, aK, dS, aU, dL, dN, aM, cI, bY, dK, eL]
    refine gX fun w5 o5 x5 s5 => ?_
    refine fY o5 rfl (by simp [one]) (by simp) fun w6 o6 x6 s6 => ?_
    have l1 := oT (off := 0) o6 (by simp [fZ])
    simp only [fZ, List.set_cons_zero, List.set_cons_succ, List.drop_zero, List.take_succ_cons, List.take_zero] at l1
    have hbl := ob.lt
    simp (disch := omega) only [cJ, hC, aD, dM, fA, fN, gM, gJ, gG, gN, iN, gU, dX, fX, fV, fW, fL, eU, gP, fI, gC, gO, gV, gI, eK, gT, gL, gA, kT, kN, nX, oC, nW, oB, oA, nY, nZ, cU, Result.ok.injEq, Next.value.injEq, true_and, and_true, eE, gB, gQ, gR, gS, iK, Int.toNat_natCast, fK, fB, fJ, eT, dZ, dT, eM, dY, cW, cO, if_true, if_false, Bool.false_eq_true, Nat.zero_add, Option.isNone_some, Option.isNone_none, Bool.not_true, Bool.not_false, List.getElem?_cons_succ, List.getElem?_cons_zero, cQ, aZ, bV, bW, bU, bB, dW, dC, dF, cV, aI, eA, bO, aE, dH, dI, dJ, dB, bK, bM, bZ, bA, cA, cH, bE, cL, cK, cT, cM, cG, cB, cE, dO, bX, cP, dQ, bS, cX, aX, cD, dR, bH, aV, aN, aO, aJ, aP, aW, aC, cN, bF, cY, bR, cC, cR, aS, aQ, aT, aY, aR, aL, aG, aB, cZ, aH, aF, bN, bC, bJ, dD, bD, cF, bG, bT, bQ, aK, dS, aU, dL, dN, aM, cI, bY, dK, eL, l1]
    have x46 : fS w3 w6 jI := x4.seq (x5.new x6 (Nat.le_refl _))
    refine rN (o2.ext x46 (fun h => h)) (x13.seq x46) (by omega) fun w' x x7 => good hE (.inr ⟨b, rfl, by omega, ?_⟩) x
    exact ((ob.ext x5 (fun h => h)).ext x6 (by omega)).ext x7 (by omega)
  have n1 : (mode == 0) = false := beq_eq_false_iff_ne.2 m0
  by_cases m1 : mode = 1
  · subst m1
    have n2 : ((1 : Int) == 1) = true := rfl
    cases l with
    | nil =>
      have hE : iR a 1 [] T = .error 10 := by unfold iR; rw [if_neg hno, if_neg (by omega), if_pos rfl]
      have n3 : ((0 : Int) == 0) = true := rfl
      have e0 : ((([] : List UInt8).length : Nat) : Int) = 0 := rfl
      simp (disch := omega) only [cJ, hC, aD, dM, fA, fN, gM, gJ, gG, gN, iN, gU, dX, fX, fV, fW, fL, eU, gP, fI, gC, gO, gV, gI, eK, gT, gL, gA, kT, kN, nX, oC, nW, oB, oA, nY, nZ, cU, Result.ok.injEq, Next.value.injEq, true_and, and_true, eE, gB, gQ, gR, gS, iK, Int.toNat_natCast, fK, fB, fJ, eT, dZ, dT, eM, dY, cW, cO, if_true, if_false, Bool.false_eq_true, Nat.zero_add, Option.isNone_some, Option.isNone_none, Bool.not_true, Bool.not_false, List.getElem?_cons_succ, List.getElem?_cons_zero, cQ, aZ, bV, bW, bU, bB, dW, dC, dF, cV, aI, eA, bO, aE, dH, dI, dJ, dB, bK, bM, bZ, bA, cA, cH, bE, cL, cK, cT, cM, cG, cB, cE, dO, bX, cP, dQ, bS, cX, aX, cD, dR, bH, aV, aN, aO, aJ, aP, aW, aC, cN, bF, cY, bR, cC, cR, aS, aQ, aT, aY, aR, aL, aG, aB, cZ, aH, aF, bN, bC, bJ, dD, bD, cF, bG, bT, bQ, aK, dS, aU, dL, dN, aM, cI, bY, dK, eL, d1, d2, d3, n1, n2, e0, n3]
      exact rN o2 x13 (by omega) fun w' x _ => err hE x
    | cons y l =>
      have n3 : ((((y :: l).length : Nat) : Int) == 0) = false := by simp; omega
      obtain ⟨b, off, c, hv, _, hcell⟩ := (hb.ext x13 (iL _)).openV (by simp)
      have g1 := hcell 0 (by simp)
      simp only [List.map_cons, List.getElem_cons_zero, Nat.add_zero] at g1
      simp only [List.length_map, Value.slice.injEq] at hv
      obtain ⟨rfl, _, rfl⟩ := hv
      have t0 : (0 : Int).toNat = 0 := rfl
      have g0 : (w3.cell? ⟨b, off, none⟩) = some (.int .u8 (y.toNat : Nat)) := g1
      have hy := y.toNat_lt
      have hpos : (0 : Int) < ((y :: l).length : Nat) := by rw [List.length_cons]; omega
      by_cases hyl : kU a < (y.toNat : Int)
      · have d4 : decide (kU a < (y.toNat : Int)) = true := by simpa using hyl
        have hE : iR a 1 (y :: l) T = .error 11 := by unfold iR; rw [if_neg hno, if_neg (by omega), if_pos rfl]; exact if_pos hyl
        simp (disch := omega) only [cJ, hC, aD, dM, fA, fN, gM, gJ, gG, gN, iN, gU, dX, fX, fV, fW, fL, eU, gP, fI, gC, gO, gV, gI, eK, gT, gL, gA, kT, kN, nX, oC, nW, oB, oA, nY, nZ, cU, Result.ok.injEq, Next.value.injEq, true_and, and_true, eE, gB, gQ, gR, gS, iK, Int.toNat_natCast, fK, fB, fJ, eT, dZ, dT, eM, dY, cW, cO, if_true, if_false, Bool.false_eq_true, Nat.zero_add, Option.isNone_some, Option.isNone_none, Bool.not_true, Bool.not_false, List.getElem?_cons_succ, List.getElem?_cons_zero, cQ, aZ, bV, bW, bU, bB, dW, dC, dF, cV, aI, eA, bO, aE, dH, dI, dJ, dB, bK, bM, bZ, bA, cA, cH, bE, cL, cK, cT, cM, cG, cB, cE, dO, bX, cP, dQ, bS, cX, aX, cD, dR, bH, aV, aN, aO, aJ, aP, aW, aC, cN, bF, cY, bR, cC, cR, aS, aQ, aT, aY, aR, aL, aG, aB, cZ, aH, aF, bN, bC, bJ, dD, bD, cF, bG, bT, bQ, aK, dS, aU, dL, dN, aM, cI, bY, dK, eL, d1, d2, d3, n1, n2, n3, t0, Nat.add_zero, g0, d4, hpos]
        exact rN o2 x13 (by omega) fun w' x _ => err hE x
      · have d4 : decide (kU a < (y.toNat : Int)) = false := by simpa using hyl
        have hE : iR a 1 (y :: l) T = .ok ((0, [((y.toNat : Nat), 0, 0)]), 1) := by unfold iR; rw [if_neg hno, if_neg (by omega), if_pos rfl]; exact if_neg hyl
        simp (disch := omega) only [cJ, hC, aD, dM, fA, fN, gM, gJ, gG, gN, iN, gU, dX, fX, fV, fW, fL, eU, gP, fI, gC, gO, gV, gI, eK, gT, gL, gA, kT, kN, nX, oC, nW, oB, oA, nY, nZ, cU, Result.ok.injEq, Next.value.injEq, true_and, and_true, eE, gB, gQ, gR, gS, iK, Int.toNat_natCast, fK, fB, fJ, eT, dZ, dT, eM, dY, cW, cO, if_true, if_false, Bool.false_eq_true, Nat.zero_add, Option.isNone_some, Option.isNone_none, Bool.not_true, Bool.not_false, List.getElem?_cons_succ, List.getElem?_cons_zero, cQ, aZ, bV, bW, bU, bB, dW, dC, dF, cV, aI, eA, bO, aE, dH, dI, dJ, dB, bK, bM, bZ, bA, cA, cH, bE, cL, cK, cT, cM, cG, cB, cE, dO, bX, cP, dQ, bS, cX, aX, cD, dR, bH, aV, aN, aO, aJ, aP, aW, aC, cN, bF, cY, bR, cC, cR, aS, aQ, aT, aY, aR, aL, aG, aB, cZ, aH, aF, bN, bC, bJ, dD, bD, cF, bG, bT, bQ, aK, dS, aU, dL, dN, aM, cI, bY, dK, eL, d1, d2, d3, n1, n2, n3, t0, Nat.add_zero, g0, d4, hpos]
        refine (HY (y.toNat : Nat) _).mono ?_
        rintro r w4 ⟨b, ⟨rfl, hb1, ob⟩, x4⟩
        have z4 := x4.size
        have hbl := ob.lt
        refine rN (o2.ext x4 (fun h => h)) (x13.seq x4) (by omega) fun w' x x7 => good hE (.inr ⟨b, rfl, by omega, ?_⟩) x
        exact ob.ext x7 (by omega)
  have n2 : (mode == 1) = false := beq_eq_false_iff_ne.2 m1
  by_cases m3 : mode = 3
  · subst m3
    have n3 : ((3 : Int) == 3) = true := rfl
    have c1 := o1.cell (off := 1)
    simp only [List.getElem?_cons_zero, List.getElem?_cons_succ] at c1
    have l1 := oT (off := 0) o1 (by simp)
    simp only [List.drop_zero, List.take_succ_cons, List.take_zero] at l1
    by_cases h0 : T.2 = []
    · have n4 : (((T.2.length : Nat) : Int) == 0) = true := by rw [h0] <;> rfl
      have hE : iR a 3 l T = .error 11 := by unfold iR; rw [if_neg hno, if_neg (by omega), if_neg (by omega), if_pos rfl, if_pos h0]
      simp (disch := omega) only [cJ, hC, aD, dM, fA, fN, gM, gJ, gG, gN, iN, gU, dX, fX, fV, fW, fL, eU, gP, fI, gC, gO, gV, gI, eK, gT, gL, gA, kT, kN, nX, oC, nW, oB, oA, nY, nZ, cU, Result.ok.injEq, Next.value.injEq, true_and, and_true, eE, gB, gQ, gR, gS, iK, Int.toNat_natCast, fK, fB, fJ, eT, dZ, dT, eM, dY, cW, cO, if_true, if_false, Bool.false_eq_true, Nat.zero_add, Option.isNone_some, Option.isNone_none, Bool.not_true, Bool.not_false, List.getElem?_cons_succ, List.getElem?_cons_zero, cQ, aZ, bV, bW, bU, bB, dW, dC, dF, cV, aI, eA, bO, aE, dH, dI, dJ, dB, bK, bM, bZ, bA, cA, cH, bE, cL, cK, cT, cM, cG, cB, cE, dO, bX, cP, dQ, bS, cX, aX, cD, dR, bH, aV, aN, aO, aJ, aP, aW, aC, cN, bF, cY, bR, cC, cR, aS, aQ, aT, aY, aR, aL, aG, aB, cZ, aH, aF, bN, bC, bJ, dD, bD, cF, bG, bT, bQ, aK, dS, aU, dL, dN, aM, cI, bY, dK, eL, d1, d2, d3, n1, n2, n3, c1, n4]
      exact rN o2 x13 (by omega) fun w' x _ => err hE x
    · have n4 : (((T.2.length : Nat) : Int) == 0) = false := by
        have := List.length_pos_iff.2 h0
        simp; exact h0
      have hE : iR a 3 l T = .ok (T, 0) := by unfold iR; rw [if_neg hno, if_neg (by omega), if_neg (by omega), if_pos rfl, if_neg h0]
      simp (disch := omega) only [cJ, hC, aD, dM, fA, fN, gM, gJ, gG, gN, iN, gU, dX, fX, fV, fW, fL, eU, gP, fI, gC, gO, gV, gI, eK, gT, gL, gA, kT, kN, nX, oC, nW, oB, oA, nY, nZ, cU, Result.ok.injEq, Next.value.injEq, true_and, and_true, eE, gB, gQ, gR, gS, iK, Int.toNat_natCast, fK, fB, fJ, eT, dZ, dT, eM, dY, cW, cO, if_true, if_false, Bool.false_eq_true, Nat.zero_add, Option.isNone_some, Option.isNone_none, Bool.not_true, Bool.not_false, List.getElem?_cons_succ, List.getElem?_cons_zero, cQ, aZ, bV, bW, bU, bB, dW, dC, dF, cV, aI, eA, bO, aE, dH, dI, dJ, dB, bK, bM, bZ, bA, cA, cH, bE, cL, cK, cT, cM, cG, cB, cE, dO, bX, cP, dQ, bS, cX, aX, cD, dR, bH, aV, aN, aO, aJ, aP, aW, aC, cN, bF, cY, bR, cC, cR, aS, aQ, aT, aY, aR, aL, aG, aB, cZ, aH, aF, bN, bC, bJ, dD, bD, cF, bG, bT, bQ, aK, dS, aU, dL, dN, aM, cI, bY, dK, eL, d1, d2, d3, n1, n2, n3, c1, n4, l1]
      refine rN o2 x13 (by omega) fun w' x x7 => good hE ?_ x
      rcases ho with ⟨e, _⟩ | ⟨b, e, hb1, ob⟩
      · rw [e] at h0; exact absurd rfl h0
      · have hbl := ob.lt
        exact .inr ⟨b, e, hb1, (ob.ext x13 (fun h => h)).ext x7 (by omega)⟩
  have n3 : (mode == 3) = false := beq_eq_false_iff_ne.2 m3
  have m2 : mode = 2 := by omega
  have hl2 := hl m2
  simp (disch := omega) only [cJ, hC, aD, dM, fA, fN, gM, gJ, gG, gN, iN, gU, dX, fX, fV, fW, fL, eU, gP, fI, gC, gO, gV, gI, eK, gT, gL, gA, kT, kN, nX, oC, nW, oB, oA, nY, nZ, cU, Result.ok.injEq, Next.value.injEq, true_and, and_true, eE, gB, gQ, gR, gS, iK, Int.toNat_natCast, fK, fB, fJ, eT, dZ, dT, eM, dY, cW, cO, if_true, if_false, Bool.false_eq_true, Nat.zero_add, Option.isNone_some, Option.isNone_none, Bool.not_true, Bool.not_false, List.getElem?_cons_succ, List.getElem?_cons_zero, cQ, aZ, bV, bW, bU, bB, dW, dC, dF, cV, aI, eA, bO, aE, dH, dI, dJ, dB, bK, bM, bZ, bA, cA, cH, bE, cL, cK, cT, cM, cG, cB, cE, dO, bX, cP, dQ, bS, cX, aX, cD, dR, bH, aV, aN, aO, aJ, aP, aW, aC, cN, bF, cY, bR, cC, cR, aS, aQ, aT, aY, aR, aL, aG, aB, cZ, aH, aF, bN, bC, bJ, dD, bD, cF, bG, bT, bQ, aK, dS, aU, dL, dN, aM, cI, bY, dK, eL, d1, d2, d3, n1, n2, n3]
  refine (EJ a _).mono ?_
  rintro r w4 ⟨rfl, hw⟩
  rw [hw]
  clear hw w4
  have e1 : kU a + 1 = ((kU a + 1).toNat : Int) := by omega
  rw [e1]
  refine (ES (hb.ext x13 (iL _)) hl2 (by omega)).mono ?_
  rintro r w4 ⟨hr, x4⟩
  have z4 := x4.size
  have hsym : (kU a + 1).toNat ≤ 61 := by omega
  have hE0 : iR a mode l T = match tL (fQ l) (Cs a) (kU a + 1).toNat with
    | .error e => .error e
    | .ok (lg, ps, u) => .ok ((lg, mD lg ps), u) := by unfold iR; rw [if_neg hno, if_neg m0, if_neg m1, if_neg m3]
  cases hrl : tL (fQ l) (Cs a) (kU a + 1).toNat with
  | error e =>
    rw [hrl] at hr hE0
    have hr : r = _ := hr
    subst hr
    have he := Fx hrl
    have n4 : (e != 0) = true := by simpa using he
    have hE : iR a mode l T = .error e := hE0
    simp (disch := omega) only [cJ, hC, aD, dM, fA, fN, gM, gJ, gG, gN, iN, gU, dX, fX, fV, fW, fL, eU, gP, fI, gC, gO, gV, gI, eK, gT, gL, gA, kT, kN, nX, oC, nW, oB, oA, nY, nZ, cU, Result.ok.injEq, Next.value.injEq, true_and, and_true, eE, gB, gQ, gR, gS, iK, Int.toNat_natCast, fK, fB, fJ, eT, dZ, dT, eM, dY, cW, cO, if_true, if_false, Bool.false_eq_true, Nat.zero_add, Option.isNone_some, Option.isNone_none, Bool.not_true, Bool.not_false, List.getElem?_cons_succ, List.getElem?_cons_zero, cQ, aZ, bV, bW, bU, bB, dW, dC, dF, cV, aI, eA, bO, aE, dH, dI, dJ, dB, bK, bM, bZ, bA, cA, cH, bE, cL, cK, cT, cM, cG, cB, cE, dO, bX, cP, dQ, bS, cX, aX, cD, dR, bH, aV, aN, aO, aJ, aP, aW, aC, cN, bF, cY, bR, cC, cR, aS, aQ, aT, aY, aR, aL, aG, aB, cZ, aH, aF, bN, bC, bJ, dD, bD, cF, bG, bT, bQ, aK, dS, aU, dL, dN, aM, cI, bY, dK, eL]
    refine jX fun w5 o5 x5 s5 => ?_
    refine hP o5 rfl (by simp [one]) (by simp) fun w6 o6 x6 s6 => ?_
    simp (disch := omega) only [cJ, hC, aD, dM, fA, fN, gM, gJ, gG, gN, iN, gU, dX, fX, fV, fW, fL, eU, gP, fI, gC, gO, gV, gI, eK, gT, gL, gA, kT, kN, nX, oC, nW, oB, oA, nY, nZ, cU, Result.ok.injEq, Next.value.injEq, true_and, and_true, eE, gB, gQ, gR, gS, iK, Int.toNat_natCast, fK, fB, fJ, eT, dZ, dT, eM, dY, cW, cO, if_true, if_false, Bool.false_eq_true, Nat.zero_add, Option.isNone_some, Option.isNone_none, Bool.not_true, Bool.not_false, List.getElem?_cons_succ, List.getElem?_cons_zero, cQ, aZ, bV, bW, bU, bB, dW, dC, dF, cV, aI, eA, bO, aE, dH, dI, dJ, dB, bK, bM, bZ, bA, cA, cH, bE, cL, cK, cT, cM, cG, cB, cE, dO, bX, cP, dQ, bS, cX, aX, cD, dR, bH, aV, aN, aO, aJ, aP, aW, aC, cN, bF, cY, bR, cC, cR, aS, aQ, aT, aY, aR, aL, aG, aB, cZ, aH, aF, bN, bC, bJ, dD, bD, cF, bG, bT, bQ, aK, dS, aU, dL, dN, aM, cI, bY, dK, eL, n4]
    have x46 : fS w3 w6 jI := x4.seq (x5.new x6 (Nat.le_refl _))
    exact rN (o2.ext x46 (fun h => h)) (x13.seq x46) (by omega) fun w' x _ => err hE x
  | ok y =>
    obtain ⟨lg, ps, u⟩ := y
    rw [hrl] at hr hE0
    obtain ⟨v, rfl, hv⟩ := hr
    obtain ⟨hmay, hlg, hpl⟩ := Gr hrl
    have hm := hmay (by omega)
    have hE : iR a mode l T = .ok ((lg, mD lg ps), u) := hE0
    obtain ⟨va, vc, rfl⟩ := hv.len
    have hs := hv.sl
    have n4 : ((0 : Int) != 0) = false := rfl
    simp (disch := omega) only [cJ, hC, aD, dM, fA, fN, gM, gJ, gG, gN, iN, gU, dX, fX, fV, fW, fL, eU, gP, fI, gC, gO, gV, gI, eK, gT, gL, gA, kT, kN, nX, oC, nW, oB, oA, nY, nZ, cU, Result.ok.injEq, Next.value.injEq, true_and, and_true, eE, gB, gQ, gR, gS, iK, Int.toNat_natCast, fK, fB, fJ, eT, dZ, dT, eM, dY, cW, cO, if_true, if_false, Bool.false_eq_true, Nat.zero_add, Option.isNone_some, Option.isNone_none, Bool.not_true, Bool.not_false, List.getElem?_cons_succ, List.getElem?_cons_zero, cQ, aZ, bV, bW, bU, bB, dW, dC, dF, cV, aI, eA, bO, aE, dH, dI, dJ, dB, bK, bM, bZ, bA, cA, cH, bE, cL, cK, cT, cM, cG, cB, cE, dO, bX, cP, dQ, bS, cX, aX, cD, dR, bH, aV, aN, aO, aJ, aP, aW, aC, cN, bF, cY, bR, cC, cR, aS, aQ, aT, aY, aR, aL, aG, aB, cZ, aH, aF, bN, bC, bJ, dD, bD, cF, bG, bT, bQ, aK, dS, aU, dL, dN, aM, cI, bY, dK, eL]
    refine jX fun w5 o5 x5 s5 => ?_
    refine hP o5 rfl (by simp [one]) (by simp) fun w6 o6 x6 s6 => ?_
    have l1 := iF (off := 0) o6 (by simp [fZ])
    simp only [fZ, List.set_cons_zero, List.set_cons_succ, List.drop_zero, List.take_succ_cons, List.take_zero] at l1
    have x46 : fS w4 w6 jI := x5.new x6 (Nat.le_refl _)
    have z6 := x46.size
    simp (disch := omega) only [cJ, hC, aD, dM, fA, fN, gM, gJ, gG, gN, iN, gU, dX, fX, fV, fW, fL, eU, gP, fI, gC, gO, gV, gI, eK, gT, gL, gA, kT, kN, nX, oC, nW, oB, oA, nY, nZ, cU, Result.ok.injEq, Next.value.injEq, true_and, and_true, eE, gB, gQ, gR, gS, iK, Int.toNat_natCast, fK, fB, fJ, eT, dZ, dT, eM, dY, cW, cO, if_true, if_false, Bool.false_eq_true, Nat.zero_add, Option.isNone_some, Option.isNone_none, Bool.not_true, Bool.not_false, List.getElem?_cons_succ, List.getElem?_cons_zero, cQ, aZ, bV, bW, bU, bB, dW, dC, dF, cV, aI, eA, bO, aE, dH, dI, dJ, dB, bK, bM, bZ, bA, cA, cH, bE, cL, cK, cT, cM, cG, cB, cE, dO, bX, cP, dQ, bS, cX, aX, cD, dR, bH, aV, aN, aO, aJ, aP, aW, aC, cN, bF, cY, bR, cC, cR, aS, aQ, aT, aY, aR, aL, aG, aB, cZ, aH, aF, bN, bC, bJ, dD, bD, cF, bG, bT, bQ, aK, dS, aU, dL, dN, aM, cI, bY, dK, eL, n4, l1]
    refine (E3 hm (hs.ext x46 (iL _))).mono ?_
    rintro r w7 ⟨b, t, rfl, ⟨rfl, hb1, ob⟩, x7⟩
    have z7 := x7.size
    have hbl := ob.lt
    simp (disch := omega) only [cJ, hC, aD, dM, fA, fN, gM, gJ, gG, gN, iN, gU, dX, fX, fV, fW, fL, eU, gP, fI, gC, gO, gV, gI, eK, gT, gL, gA, kT, kN, nX, oC, nW, oB, oA, nY, nZ, cU, Result.ok.injEq, Next.value.injEq, true_and, and_true, eE, gB, gQ, gR, gS, iK, Int.toNat_natCast, fK, fB, fJ, eT, dZ, dT, eM, dY, cW, cO, if_true, if_false, Bool.false_eq_true, Nat.zero_add, Option.isNone_some, Option.isNone_none, Bool.not_true, Bool.not_false, List.getElem?_cons_succ, List.getElem?_cons_zero, cQ, aZ, bV, bW, bU, bB, dW, dC, dF, cV, aI, eA, bO, aE, dH, dI, dJ, dB, bK, bM, bZ, bA, cA, cH, bE, cL, cK, cT, cM, cG, cB, cE, dO, bX, cP, dQ, bS, cX, aX, cD, dR, bH, aV, aN, aO, aJ, aP, aW, aC, cN, bF, cY, bR, cC, cR, aS, aQ, aT, aY, aR, aL, aG, aB, cZ, aH, aF, bN, bC, bJ, dD, bD, cF, bG, bT, bQ, aK, dS, aU, dL, dN, aM, cI, bY, dK, eL]
    refine gX fun w8 o8 x8 s8 => ?_
    refine fY o8 rfl (by simp [one]) (by simp) fun w9 o9 x9 s9 => ?_
    have l2 := oT (off := 0) o9 (by simp [fZ])
    simp only [fZ, List.set_cons_zero, List.set_cons_succ, List.drop_zero, List.take_succ_cons, List.take_zero] at l2
    simp (disch := omega) only [cJ, hC, aD, dM, fA, fN, gM, gJ, gG, gN, iN, gU, dX, fX, fV, fW, fL, eU, gP, fI, gC, gO, gV, gI, eK, gT, gL, gA, kT, kN, nX, oC, nW, oB, oA, nY, nZ, cU, Result.ok.injEq, Next.value.injEq, true_and, and_true, eE, gB, gQ, gR, gS, iK, Int.toNat_natCast, fK, fB, fJ, eT, dZ, dT, eM, dY, cW, cO, if_true, if_false, Bool.false_eq_true, Nat.zero_add, Option.isNone_some, Option.isNone_none, Bool.not_true, Bool.not_false, List.getElem?_cons_succ, List.getElem?_cons_zero, cQ, aZ, bV, bW, bU, bB, dW, dC, dF, cV, aI, eA, bO, aE, dH, dI, dJ, dB, bK, bM, bZ, bA, cA, cH, bE, cL, cK, cT, cM, cG, cB, cE, dO, bX, cP, dQ, bS, cX, aX, cD, dR, bH, aV, aN, aO, aJ, aP, aW, aC, cN, bF, cY, bR, cC, cR, aS, aQ, aT, aY, aR, aL, aG, aB, cZ, aH, aF, bN, bC, bJ, dD, bD, cF, bG, bT, bQ, aK, dS, aU, dL, dN, aM, cI, bY, dK, eL, n4, l2]
    have x49 : fS w3 w9 jI := ((x4.seq x46).seq x7).seq (x8.new x9 (Nat.le_refl _))
    refine rN (o2.ext x49 (fun h => h)) (x13.seq x49) (by omega) fun w' x x10 => good hE (.inr ⟨b, rfl, by omega, ?_⟩) x
    exact ((ob.ext x8 (fun h => h)).ext x9 (by omega)).ext x10 (by omega)
end Go.Proofs.YtoepfjgekpdddaaDoor
namespace Go.Proofs.YtoepfjgekpdddaaDoor
open Go Go.En Go.Pu
set_option maxRecDepth 4000
set_option linter.unusedSimpArgs false
set_option linter.unusedVariables false
theorem xE.tbl {w : World} {base : Nat} {T : Nat × List T3} {v : Value} (h : xE w base T v) (hne : T.2 ≠ []) : ∃ b, GM w base b T.1 T.2 v := by
  rcases h with ⟨rfl, _⟩ | h
  · exact absurd rfl hne
  · exact h
theorem FM {w : World} (hg : vA w) : gE pg pH #[] w (fun r w' => r = .bool true ∧ fS w w' jI) := by
  refine AY ?_
  unfold BG rO rA
  refine BL (cells := #[.int .u8 7]) (by decide) (by decide) (by kernel_rfl) fun w1 o1 x1 s1 => ?_
  have hb : Bs w1 (.slice (some ⟨w.heap.size, 0, none⟩) 1 1) [7] := iB.whole (l := [7]) (c := 1) o1 (by simp)
  have hE : iR 0 1 [7] (0, []) = .ok ((0, [(7, 0, 0)]), 1) := by rfl
  simp (disch := omega) only [cJ, hC, aD, dM, fA, fN, gM, gJ, gG, gN, iN, gU, dX, fX, fV, fW, fL, eU, gP, fI, gC, gO, gV, gI, eK, gT, gL, gA, kT, kN, nX, oC, nW, oB, oA, nY, nZ, cU, Result.ok.injEq, Next.value.injEq, true_and, and_true, eE, gB, gQ, gR, gS, iK, Int.toNat_natCast, fK, fB, fJ, eT, dZ, dT, eM, dY, cW, cO, if_true, if_false, Bool.false_eq_true, Nat.zero_add, Option.isNone_some, Option.isNone_none, Bool.not_true, Bool.not_false, List.getElem?_cons_succ, List.getElem?_cons_zero, cQ, aZ, bV, bW, bU, bB, dW, dC, dF, cV, aI, eA, bO, aE, dH, dI, dJ, dB, bK, bM, bZ, bA, cA, cH, bE, cL, cK, cT, cM, cG, cB, cE, dO, bX, cP, dQ, bS, cX, aX, cD, dR, bH, aV, aN, aO, aJ, aP, aW, aC, cN, bF, cY, bR, cC, cR, aS, aQ, aT, aY, aR, aL, aG, aB, cZ, aH, aF, bN, bC, bJ, dD, bD, cF, bG, bT, bQ, aK, dS, aU, dL, dN, aM, cI, bY, dK, eL]
  refine (Ce (a := 0) (mode := 1) (l := [7]) (T := (0, [])) (base := w.heap.size) (hg.ext x1) hb (by omega) (xE.nil _ _) (by omega) (by simp) (by simp)).mono ?_
  rintro r w2 ⟨hr, x2⟩
  rw [hE] at hr
  obtain ⟨t, rfl, ht⟩ := hr
  obtain ⟨b, ht, hb1, ob⟩ := ht.tbl (by simp)
  subst ht
  have lb := ob.lt
  have z1 := x1.size
  have z2 := x2.size
  simp (disch := omega) only [cJ, hC, aD, dM, fA, fN, gM, gJ, gG, gN, iN, gU, dX, fX, fV, fW, fL, eU, gP, fI, gC, gO, gV, gI, eK, gT, gL, gA, kT, kN, nX, oC, nW, oB, oA, nY, nZ, cU, Result.ok.injEq, Next.value.injEq, true_and, and_true, eE, gB, gQ, gR, gS, iK, Int.toNat_natCast, fK, fB, fJ, eT, dZ, dT, eM, dY, cW, cO, if_true, if_false, Bool.false_eq_true, Nat.zero_add, Option.isNone_some, Option.isNone_none, Bool.not_true, Bool.not_false, List.getElem?_cons_succ, List.getElem?_cons_zero, cQ, aZ, bV, bW, bU, bB, dW, dC, dF, cV, aI, eA, bO, aE, dH, dI, dJ, dB, bK, bM, bZ, bA, cA, cH, bE, cL, cK, cT, cM, cG, cB, cE, dO, bX, cP, dQ, bS, cX, aX, cD, dR, bH, aV, aN, aO, aJ, aP, aW, aC, cN, bF, cY, bR, cC, cR, aS, aQ, aT, aY, aR, aL, aG, aB, cZ, aH, aF, bN, bC, bJ, dD, bD, cF, bG, bT, bQ, aK, dS, aU, dL, dN, aM, cI, bY, dK, eL]
  refine gX fun w3 o3 x3 s3 => ?_
  refine fY o3 rfl (by simp [one]) (by simp) fun w4 o4 x4 s4 => ?_
  simp only [fZ, List.set_cons_zero, List.set_cons_succ] at o4
  have x24 : fS w2 w4 jI := x3.new x4 (Nat.le_refl _)
  have x04 := (x1.seq x2).seq x24
  have z4 := x24.size
  have ob4 := (ob.ext x3 (fun h => h)).ext x4 (by omega)
  refine (Bj (a := 2) (hg.ext x04)).mono ?_
  rintro r w5 ⟨t, e, rfl, ht, x5⟩
  obtain ⟨⟨b5, ht, hb5, ob5⟩, rfl⟩ : (∃ b, GM w5 w4.heap.size b (EX 2) (mD (EX 2) (Gu 2)) t) ∧ e = 0 := ht
  subst ht
  have z5 := x5.size
  simp (disch := omega) only [cJ, hC, aD, dM, fA, fN, gM, gJ, gG, gN, iN, gU, dX, fX, fV, fW, fL, eU, gP, fI, gC, gO, gV, gI, eK, gT, gL, gA, kT, kN, nX, oC, nW, oB, oA, nY, nZ, cU, Result.ok.injEq, Next.value.injEq, true_and, and_true, eE, gB, gQ, gR, gS, iK, Int.toNat_natCast, fK, fB, fJ, eT, dZ, dT, eM, dY, cW, cO, if_true, if_false, Bool.false_eq_true, Nat.zero_add, Option.isNone_some, Option.isNone_none, Bool.not_true, Bool.not_false, List.getElem?_cons_succ, List.getElem?_cons_zero, cQ, aZ, bV, bW, bU, bB, dW, dC, dF, cV, aI, eA, bO, aE, dH, dI, dJ, dB, bK, bM, bZ, bA, cA, cH, bE, cL, cK, cT, cM, cG, cB, cE, dO, bX, cP, dQ, bS, cX, aX, cD, dR, bH, aV, aN, aO, aJ, aP, aW, aC, cN, bF, cY, bR, cC, cR, aS, aQ, aT, aY, aR, aL, aG, aB, cZ, aH, aF, bN, bC, bJ, dD, bD, cF, bG, bT, bQ, aK, dS, aU, dL, dN, aM, cI, bY, dK, eL]
  refine gX fun w6 o6 x6 s6 => ?_
  refine fY o6 rfl (by simp [one]) (by simp) fun w7 o7 x7 s7 => ?_
  simp only [fZ, List.set_cons_zero, List.set_cons_succ] at o7
  have x57 : fS w5 w7 jI := x6.new x7 (Nat.le_refl _)
  have z7 := x57.size
  refine (Bj (a := 3) (hg.ext ((x04.seq x5).seq x57))).mono ?_
  rintro r w8 ⟨t, e, rfl, ht, x8⟩
  obtain ⟨rfl, rfl⟩ : t = .agg #[.int .i64 0, .slice none 0 0] ∧ e = 1 := ht
  have z8 := x8.size
  simp (disch := omega) only [cJ, hC, aD, dM, fA, fN, gM, gJ, gG, gN, iN, gU, dX, fX, fV, fW, fL, eU, gP, fI, gC, gO, gV, gI, eK, gT, gL, gA, kT, kN, nX, oC, nW, oB, oA, nY, nZ, cU, Result.ok.injEq, Next.value.injEq, true_and, and_true, eE, gB, gQ, gR, gS, iK, Int.toNat_natCast, fK, fB, fJ, eT, dZ, dT, eM, dY, cW, cO, if_true, if_false, Bool.false_eq_true, Nat.zero_add, Option.isNone_some, Option.isNone_none, Bool.not_true, Bool.not_false, List.getElem?_cons_succ, List.getElem?_cons_zero, cQ, aZ, bV, bW, bU, bB, dW, dC, dF, cV, aI, eA, bO, aE, dH, dI, dJ, dB, bK, bM, bZ, bA, cA, cH, bE, cL, cK, cT, cM, cG, cB, cE, dO, bX, cP, dQ, bS, cX, aX, cD, dR, bH, aV, aN, aO, aJ, aP, aW, aC, cN, bF, cY, bR, cC, cR, aS, aQ, aT, aY, aR, aL, aG, aB, cZ, aH, aF, bN, bC, bJ, dD, bD, cF, bG, bT, bQ, aK, dS, aU, dL, dN, aM, cI, bY, dK, eL]
  refine gX fun w9 o9 x9 s9 => ?_
  refine fY o9 rfl (by simp [one]) (by simp) fun wa oa xa sa => ?_
  have x8a : fS w8 wa jI := x9.new xa (Nat.le_refl _)
  have x4a : fS w4 wa jI := ((x5.seq x57).seq x8).seq x8a
  have c1 := (o4.ext x4a (fun h => h)).cell (off := 1)
  have c2 := ((o7.ext x8 (fun h => h)).ext x8a (fun h => h)).cell (off := 1)
  have c3 := (ob4.ext x4a (fun h => h)).cell (off := 0)
  simp only [List.getElem?_cons_zero, List.getElem?_cons_succ, fe] at c1 c2 c3
  have hlen : (mD (EX 2) (Gu 2)).length = 64 := by rw [xJ] <;> rfl
  have n1 : (((([(7, 0, 0)] : List T3).length : Nat) : Int) == 1) = true := rfl
  have n1' : ((((1 : Nat)) : Int) == 1) = true := rfl
  have n2 : ((7 : Int) == 7) = true := rfl
  have n3 : ((1 : Int) == 1) = true := rfl
  have n4 : ((0 : Int) == 0) = true := rfl
  have n5 : ((((mD (EX 2) (Gu 2)).length : Nat) : Int) == 64) = true := by rw [hlen] <;> rfl
  have n6 : (Cs 1 == 8) = true := rfl
  have n7 : (Cs 7 == 0) = true := rfl
  have t0 : (0 : Int).toNat = 0 := rfl
  have hl1 : (([(7, 0, 0)] : List T3).length) = 1 := rfl
  unfold nD rG nL
  simp (disch := omega) only [cJ, hC, aD, dM, fA, fN, gM, gJ, gG, gN, iN, gU, dX, fX, fV, fW, fL, eU, gP, fI, gC, gO, gV, gI, eK, gT, gL, gA, kT, kN, nX, oC, nW, oB, oA, nY, nZ, cU, Result.ok.injEq, Next.value.injEq, true_and, and_true, eE, gB, gQ, gR, gS, iK, Int.toNat_natCast, fK, fB, fJ, eT, dZ, dT, eM, dY, cW, cO, if_true, if_false, Bool.false_eq_true, Nat.zero_add, Option.isNone_some, Option.isNone_none, Bool.not_true, Bool.not_false, List.getElem?_cons_succ, List.getElem?_cons_zero, cQ, aZ, bV, bW, bU, bB, dW, dC, dF, cV, aI, eA, bO, aE, dH, dI, dJ, dB, bK, bM, bZ, bA, cA, cH, bE, cL, cK, cT, cM, cG, cB, cE, dO, bX, cP, dQ, bS, cX, aX, cD, dR, bH, aV, aN, aO, aJ, aP, aW, aC, cN, bF, cY, bR, cC, cR, aS, aQ, aT, aY, aR, aL, aG, aB, cZ, aH, aF, bN, bC, bJ, dD, bD, cF, bG, bT, bQ, aK, dS, aU, dL, dN, aM, cI, bY, dK, eL, c1, c2, c3, t0, hl1, Nat.zero_mul, n1, n1', n2, n3, n4, n5]
  refine (EJ 1 _).mono ?_
  rintro r wb ⟨rfl, hw⟩
  rw [hw]
  clear hw wb
  simp (disch := omega) only [cJ, hC, aD, dM, fA, fN, gM, gJ, gG, gN, iN, gU, dX, fX, fV, fW, fL, eU, gP, fI, gC, gO, gV, gI, eK, gT, gL, gA, kT, kN, nX, oC, nW, oB, oA, nY, nZ, cU, Result.ok.injEq, Next.value.injEq, true_and, and_true, eE, gB, gQ, gR, gS, iK, Int.toNat_natCast, fK, fB, fJ, eT, dZ, dT, eM, dY, cW, cO, if_true, if_false, Bool.false_eq_true, Nat.zero_add, Option.isNone_some, Option.isNone_none, Bool.not_true, Bool.not_false, List.getElem?_cons_succ, List.getElem?_cons_zero, cQ, aZ, bV, bW, bU, bB, dW, dC, dF, cV, aI, eA, bO, aE, dH, dI, dJ, dB, bK, bM, bZ, bA, cA, cH, bE, cL, cK, cT, cM, cG, cB, cE, dO, bX, cP, dQ, bS, cX, aX, cD, dR, bH, aV, aN, aO, aJ, aP, aW, aC, cN, bF, cY, bR, cC, cR, aS, aQ, aT, aY, aR, aL, aG, aB, cZ, aH, aF, bN, bC, bJ, dD, bD, cF, bG, bT, bQ, aK, dS, aU, dL, dN, aM, cI, bY, dK, eL, n6]
  refine (EJ 7 _).mono ?_
  rintro r wb ⟨rfl, hw⟩
  rw [hw]
  clear hw wb
  simp (disch := omega) only [cJ, hC, aD, dM, fA, fN, gM, gJ, gG, gN, iN, gU, dX, fX, fV, fW, fL, eU, gP, fI, gC, gO, gV, gI, eK, gT, gL, gA, kT, kN, nX, oC, nW, oB, oA, nY, nZ, cU, Result.ok.injEq, Next.value.injEq, true_and, and_true, eE, gB, gQ, gR, gS, iK, Int.toNat_natCast, fK, fB, fJ, eT, dZ, dT, eM, dY, cW, cO, if_true, if_false, Bool.false_eq_true, Nat.zero_add, Option.isNone_some, Option.isNone_none, Bool.not_true, Bool.not_false, List.getElem?_cons_succ, List.getElem?_cons_zero, cQ, aZ, bV, bW, bU, bB, dW, dC, dF, cV, aI, eA, bO, aE, dH, dI, dJ, dB, bK, bM, bZ, bA, cA, cH, bE, cL, cK, cT, cM, cG, cB, cE, dO, bX, cP, dQ, bS, cX, aX, cD, dR, bH, aV, aN, aO, aJ, aP, aW, aC, cN, bF, cY, bR, cC, cR, aS, aQ, aT, aY, aR, aL, aG, aB, cZ, aH, aF, bN, bC, bJ, dD, bD, cF, bG, bT, bQ, aK, dS, aU, dL, dN, aM, cI, bY, dK, eL, n7]
  exact x04.seq x4a
theorem D6 {kind : Nat} {y : UInt8} {bv : Value} {more : List UInt8} {w : World} (hg : vA w) (hk : kind < 256) (hb : Bs w bv more) (hl : more.length ≤ 9223372036854775807) :
    gE pg kV #[.int .u8 kind, .int .u8 (y.toNat : Nat), bv] w (fun r w' => r = .bool true ∧ fS w w' jI) := by
  refine wM ?_
  unfold uX mB mG
  obtain ⟨ba, bc, rfl, _⟩ := hb.len
  rw [List.length_map] at hb
  rw [List.length_map]
  refine (FM hg).mono ?_
  rintro r w1 ⟨rfl, x1⟩
  have z1 := x1.size
  by_cases h50 : 50 < more.length
  · have d1 : decide ((50 : Int) < (more.length : Int)) = true := by simp; omega
    simp (disch := omega) only [cJ, hC, aD, dM, fA, fN, gM, gJ, gG, gN, iN, gU, dX, fX, fV, fW, fL, eU, gP, fI, gC, gO, gV, gI, eK, gT, gL, gA, kT, kN, nX, oC, nW, oB, oA, nY, nZ, cU, Result.ok.injEq, Next.value.injEq, true_and, and_true, eE, gB, gQ, gR, gS, iK, Int.toNat_natCast, fK, fB, fJ, eT, dZ, dT, eM, dY, cW, cO, if_true, if_false, Bool.false_eq_true, Nat.zero_add, Option.isNone_some, Option.isNone_none, Bool.not_true, Bool.not_false, List.getElem?_cons_succ, List.getElem?_cons_zero, cQ, aZ, bV, bW, bU, bB, dW, dC, dF, cV, aI, eA, bO, aE, dH, dI, dJ, dB, bK, bM, bZ, bA, cA, cH, bE, cL, cK, cT, cM, cG, cB, cE, dO, bX, cP, dQ, bS, cX, aX, cD, dR, bH, aV, aN, aO, aJ, aP, aW, aC, cN, bF, cY, bR, cC, cR, aS, aQ, aT, aY, aR, aL, aG, aB, cZ, aH, aF, bN, bC, bJ, dD, bD, cF, bG, bT, bQ, aK, dS, aU, dL, dN, aM, cI, bY, dK, eL, d1]
    exact x1
  have d1 : decide ((50 : Int) < (more.length : Int)) = false := by simp; omega
  have e1 : (kind : Int).tmod 3 = ((kind % 3 : Nat) : Int) := by rw [Int.tmod_eq_emod_of_nonneg (by omega)]; omega
  have hk3 : kind % 3 < 3 := Nat.mod_lt _ (by omega)
  generalize kind % 3 = k at *
  simp (disch := omega) only [cJ, hC, aD, dM, fA, fN, gM, gJ, gG, gN, iN, gU, dX, fX, fV, fW, fL, eU, gP, fI, gC, gO, gV, gI, eK, gT, gL, gA, kT, kN, nX, oC, nW, oB, oA, nY, nZ, cU, Result.ok.injEq, Next.value.injEq, true_and, and_true, eE, gB, gQ, gR, gS, iK, Int.toNat_natCast, fK, fB, fJ, eT, dZ, dT, eM, dY, cW, cO, if_true, if_false, Bool.false_eq_true, Nat.zero_add, Option.isNone_some, Option.isNone_none, Bool.not_true, Bool.not_false, List.getElem?_cons_succ, List.getElem?_cons_zero, cQ, aZ, bV, bW, bU, bB, dW, dC, dF, cV, aI, eA, bO, aE, dH, dI, dJ, dB, bK, bM, bZ, bA, cA, cH, bE, cL, cK, cT, cM, cG, cB, cE, dO, bX, cP, dQ, bS, cX, aX, cD, dR, bH, aV, aN, aO, aJ, aP, aW, aC, cN, bF, cY, bR, cC, cR, aS, aQ, aT, aY, aR, aL, aG, aB, cZ, aH, aF, bN, bC, bJ, dD, bD, cF, bG, bT, bQ, aK, dS, aU, dL, dN, aM, cI, bY, dK, eL, d1, e1]
  refine C6 (cells := #[.int .i64 35, .int .i64 31, .int .i64 52]) (by decide) (by decide) (by kernel_rfl) fun w2 o2 x2 s2 => ?_
  have z2 := x2.size
  have ck := o2.cell (off := k)
  have hck : (#[Value.int .i64 35, Value.int .i64 31, Value.int .i64 52] : Array Value).toList[k]? = some (.int .i64 (kU k)) := by
    rcases (show k = 0 ∨ k = 1 ∨ k = 2 by omega) with rfl | rfl | rfl <;> rfl
  rw [hck] at ck
  have hy := y.toNat_lt
  simp (disch := omega) only [cJ, hC, aD, dM, fA, fN, gM, gJ, gG, gN, iN, gU, dX, fX, fV, fW, fL, eU, gP, fI, gC, gO, gV, gI, eK, gT, gL, gA, kT, kN, nX, oC, nW, oB, oA, nY, nZ, cU, Result.ok.injEq, Next.value.injEq, true_and, and_true, eE, gB, gQ, gR, gS, iK, Int.toNat_natCast, fK, fB, fJ, eT, dZ, dT, eM, dY, cW, cO, if_true, if_false, Bool.false_eq_true, Nat.zero_add, Option.isNone_some, Option.isNone_none, Bool.not_true, Bool.not_false, List.getElem?_cons_succ, List.getElem?_cons_zero, cQ, aZ, bV, bW, bU, bB, dW, dC, dF, cV, aI, eA, bO, aE, dH, dI, dJ, dB, bK, bM, bZ, bA, cA, cH, bE, cL, cK, cT, cM, cG, cB, cE, dO, bX, cP, dQ, bS, cX, aX, cD, dR, bH, aV, aN, aO, aJ, aP, aW, aC, cN, bF, cY, bR, cC, cR, aS, aQ, aT, aY, aR, aL, aG, aB, cZ, aH, aF, bN, bC, bJ, dD, bD, cF, bG, bT, bQ, aK, dS, aU, dL, dN, aM, cI, bY, dK, eL, ck]
  refine BL (cells := #[.int .u8 (y.toNat : Nat)]) (by decide) (by decide) (by kernel_rfl) fun w3 o3 x3 s3 => ?_
  have z3 := x3.size
  refine kZ (m := 1) (base := w3.heap.size) (news := [.int .u8 (y.toNat : Nat)]) (wW.nil _ _ _) (o3.cl (off := 0) (l := [.int .u8 (y.toNat : Nat)]) (n := 1) rfl (fun i hi => by rw [Nat.zero_add])) (by simp [one]) (Nat.le_refl _) (by omega) fun v4 w4 o4 x4 => ?_
  rw [List.nil_append] at o4
  have x4 : fS w3 w4 jI := x4.mono fun b hb h => by omega
  have z4 := x4.size
  have x04 := ((x1.seq x2).seq x3).seq x4
  have hcl := (hb.ext x04 (iL _)).cl
  rw [List.length_map] at hcl
  refine kZ o4 hcl (FV _) z4 (by omega) fun v5 w5 o5 x5 => ?_
  have x5 : fS w3 w5 jI := x4.trans x5 fun b hb h => by omega
  have z5 := x5.size
  have x05 := ((x1.seq x2).seq x3).seq x5
  have hb5 : Bs w5 v5 (y :: more) := o5.sl
  refine (Ce (a := (k : Nat)) (mode := 1) (l := y :: more) (T := (0, [])) (base := w5.heap.size) (hg.ext x05) hb5 (by omega) (xE.nil _ _) (by omega) (by simp; omega) (by simp)).mono ?_
  rintro r w6 ⟨hr, x6⟩
  have z6 := x6.size
  have hkk : ¬ ((k : Int) < 0 ∨ 2 < (k : Int) ∨ (1 : Int) < 0 ∨ (3 : Int) < 1) := by omega
  have wy : IntKind.i64.wrap (y.toNat : Int) = (y.toNat : Int) := eE (by omega) (by omega)
  by_cases hlt : kU (k : Nat) < (y.toNat : Int)
  · have hE : iR (k : Nat) 1 (y :: more) (0, []) = .error 11 := by unfold iR; rw [if_neg hkk, if_neg (by omega), if_pos rfl]; exact if_pos hlt
    rw [hE] at hr
    have hr : r = _ := hr
    subst hr
    simp (disch := omega) only [cJ, hC, aD, dM, fA, fN, gM, gJ, gG, gN, iN, gU, dX, fX, fV, fW, fL, eU, gP, fI, gC, gO, gV, gI, eK, gT, gL, gA, kT, kN, nX, oC, nW, oB, oA, nY, nZ, cU, Result.ok.injEq, Next.value.injEq, true_and, and_true, eE, gB, gQ, gR, gS, iK, Int.toNat_natCast, fK, fB, fJ, eT, dZ, dT, eM, dY, cW, cO, if_true, if_false, Bool.false_eq_true, Nat.zero_add, Option.isNone_some, Option.isNone_none, Bool.not_true, Bool.not_false, List.getElem?_cons_succ, List.getElem?_cons_zero, cQ, aZ, bV, bW, bU, bB, dW, dC, dF, cV, aI, eA, bO, aE, dH, dI, dJ, dB, bK, bM, bZ, bA, cA, cH, bE, cL, cK, cT, cM, cG, cB, cE, dO, bX, cP, dQ, bS, cX, aX, cD, dR, bH, aV, aN, aO, aJ, aP, aW, aC, cN, bF, cY, bR, cC, cR, aS, aQ, aT, aY, aR, aL, aG, aB, cZ, aH, aF, bN, bC, bJ, dD, bD, cF, bG, bT, bQ, aK, dS, aU, dL, dN, aM, cI, bY, dK, eL]
    refine gX fun w7 o7 x7 s7 => ?_
    refine fY o7 rfl (by simp [one]) (by simp) fun w8 o8 x8 s8 => ?_
    have x68 : fS w6 w8 jI := x7.new x8 (Nat.le_refl _)
    unfold jC kA
    simp (disch := omega) only [cJ, hC, aD, dM, fA, fN, gM, gJ, gG, gN, iN, gU, dX, fX, fV, fW, fL, eU, gP, fI, gC, gO, gV, gI, eK, gT, gL, gA, kT, kN, nX, oC, nW, oB, oA, nY, nZ, cU, Result.ok.injEq, Next.value.injEq, true_and, and_true, eE, gB, gQ, gR, gS, iK, Int.toNat_natCast, fK, fB, fJ, eT, dZ, dT, eM, dY, cW, cO, if_true, if_false, Bool.false_eq_true, Nat.zero_add, Option.isNone_some, Option.isNone_none, Bool.not_true, Bool.not_false, List.getElem?_cons_succ, List.getElem?_cons_zero, cQ, aZ, bV, bW, bU, bB, dW, dC, dF, cV, aI, eA, bO, aE, dH, dI, dJ, dB, bK, bM, bZ, bA, cA, cH, bE, cL, cK, cT, cM, cG, cB, cE, dO, bX, cP, dQ, bS, cX, aX, cD, dR, bH, aV, aN, aO, aJ, aP, aW, aC, cN, bF, cY, bR, cC, cR, aS, aQ, aT, aY, aR, aL, aG, aB, cZ, aH, aF, bN, bC, bJ, dD, bD, cF, bG, bT, bQ, aK, dS, aU, dL, dN, aM, cI, bY, dK, eL]
    refine (Ce (a := (k : Nat)) (mode := 1) (l := []) (T := (0, [])) (base := w8.heap.size) (hg.ext ((x05.seq x6).seq x68)) (Sl.nil _) (by omega) (xE.nil _ _) (by omega) (by simp) (by simp)).mono ?_
    rintro r w9 ⟨hr, x9⟩
    have hE : iR (k : Nat) 1 [] (0, []) = .error 10 := by unfold iR; rw [if_neg hkk, if_neg (by omega), if_pos rfl]
    rw [hE] at hr
    have hr : r = _ := hr
    subst hr
    simp (disch := omega) only [cJ, hC, aD, dM, fA, fN, gM, gJ, gG, gN, iN, gU, dX, fX, fV, fW, fL, eU, gP, fI, gC, gO, gV, gI, eK, gT, gL, gA, kT, kN, nX, oC, nW, oB, oA, nY, nZ, cU, Result.ok.injEq, Next.value.injEq, true_and, and_true, eE, gB, gQ, gR, gS, iK, Int.toNat_natCast, fK, fB, fJ, eT, dZ, dT, eM, dY, cW, cO, if_true, if_false, Bool.false_eq_true, Nat.zero_add, Option.isNone_some, Option.isNone_none, Bool.not_true, Bool.not_false, List.getElem?_cons_succ, List.getElem?_cons_zero, cQ, aZ, bV, bW, bU, bB, dW, dC, dF, cV, aI, eA, bO, aE, dH, dI, dJ, dB, bK, bM, bZ, bA, cA, cH, bE, cL, cK, cT, cM, cG, cB, cE, dO, bX, cP, dQ, bS, cX, aX, cD, dR, bH, aV, aN, aO, aJ, aP, aW, aC, cN, bF, cY, bR, cC, cR, aS, aQ, aT, aY, aR, aL, aG, aB, cZ, aH, aF, bN, bC, bJ, dD, bD, cF, bG, bT, bQ, aK, dS, aU, dL, dN, aM, cI, bY, dK, eL]
    refine gX fun wa oa xa sa => ?_
    refine fY oa rfl (by simp [one]) (by simp) fun wb ob xb sb => ?_
    have d2 : decide (kU (k : Nat) < (y.toNat : Int)) = true := by simpa using hlt
    have n1 : ((11 : Int) == 11) = true := rfl
    have n2 : ((10 : Int) == 10) = true := rfl
    simp (disch := omega) only [cJ, hC, aD, dM, fA, fN, gM, gJ, gG, gN, iN, gU, dX, fX, fV, fW, fL, eU, gP, fI, gC, gO, gV, gI, eK, gT, gL, gA, kT, kN, nX, oC, nW, oB, oA, nY, nZ, cU, Result.ok.injEq, Next.value.injEq, true_and, and_true, eE, gB, gQ, gR, gS, iK, Int.toNat_natCast, fK, fB, fJ, eT, dZ, dT, eM, dY, cW, cO, if_true, if_false, Bool.false_eq_true, Nat.zero_add, Option.isNone_some, Option.isNone_none, Bool.not_true, Bool.not_false, List.getElem?_cons_succ, List.getElem?_cons_zero, cQ, aZ, bV, bW, bU, bB, dW, dC, dF, cV, aI, eA, bO, aE, dH, dI, dJ, dB, bK, bM, bZ, bA, cA, cH, bE, cL, cK, cT, cM, cG, cB, cE, dO, bX, cP, dQ, bS, cX, aX, cD, dR, bH, aV, aN, aO, aJ, aP, aW, aC, cN, bF, cY, bR, cC, cR, aS, aQ, aT, aY, aR, aL, aG, aB, cZ, aH, aF, bN, bC, bJ, dD, bD, cF, bG, bT, bQ, aK, dS, aU, dL, dN, aM, cI, bY, dK, eL, wy, d2, n1, n2]
    exact (((x05.seq x6).seq x68).seq x9).seq (xa.new xb (Nat.le_refl _))
  · have hE : iR (k : Nat) 1 (y :: more) (0, []) = .ok ((0, [((y.toNat : Nat), 0, 0)]), 1) := by unfold iR; rw [if_neg hkk, if_neg (by omega), if_pos rfl]; exact if_neg hlt
    rw [hE] at hr
    obtain ⟨t, rfl, ht⟩ := hr
    obtain ⟨b, ht, hb1, ob⟩ := ht.tbl (by simp)
    subst ht
    have lb := ob.lt
    simp (disch := omega) only [cJ, hC, aD, dM, fA, fN, gM, gJ, gG, gN, iN, gU, dX, fX, fV, fW, fL, eU, gP, fI, gC, gO, gV, gI, eK, gT, gL, gA, kT, kN, nX, oC, nW, oB, oA, nY, nZ, cU, Result.ok.injEq, Next.value.injEq, true_and, and_true, eE, gB, gQ, gR, gS, iK, Int.toNat_natCast, fK, fB, fJ, eT, dZ, dT, eM, dY, cW, cO, if_true, if_false, Bool.false_eq_true, Nat.zero_add, Option.isNone_some, Option.isNone_none, Bool.not_true, Bool.not_false, List.getElem?_cons_succ, List.getElem?_cons_zero, cQ, aZ, bV, bW, bU, bB, dW, dC, dF, cV, aI, eA, bO, aE, dH, dI, dJ, dB, bK, bM, bZ, bA, cA, cH, bE, cL, cK, cT, cM, cG, cB, cE, dO, bX, cP, dQ, bS, cX, aX, cD, dR, bH, aV, aN, aO, aJ, aP, aW, aC, cN, bF, cY, bR, cC, cR, aS, aQ, aT, aY, aR, aL, aG, aB, cZ, aH, aF, bN, bC, bJ, dD, bD, cF, bG, bT, bQ, aK, dS, aU, dL, dN, aM, cI, bY, dK, eL]
    refine gX fun w7 o7 x7 s7 => ?_
    refine fY o7 rfl (by simp [one]) (by simp) fun w8 o8 x8 s8 => ?_
    simp only [fZ, List.set_cons_zero, List.set_cons_succ] at o8
    have x68 : fS w6 w8 jI := x7.new x8 (Nat.le_refl _)
    have ob8 := (ob.ext x7 (fun h => h)).ext x8 (by omega)
    unfold jC kA
    simp (disch := omega) only [cJ, hC, aD, dM, fA, fN, gM, gJ, gG, gN, iN, gU, dX, fX, fV, fW, fL, eU, gP, fI, gC, gO, gV, gI, eK, gT, gL, gA, kT, kN, nX, oC, nW, oB, oA, nY, nZ, cU, Result.ok.injEq, Next.value.injEq, true_and, and_true, eE, gB, gQ, gR, gS, iK, Int.toNat_natCast, fK, fB, fJ, eT, dZ, dT, eM, dY, cW, cO, if_true, if_false, Bool.false_eq_true, Nat.zero_add, Option.isNone_some, Option.isNone_none, Bool.not_true, Bool.not_false, List.getElem?_cons_succ, List.getElem?_cons_zero, cQ, aZ, bV, bW, bU, bB, dW, dC, dF, cV, aI, eA, bO, aE, dH, dI, dJ, dB, bK, bM, bZ, bA, cA, cH, bE, cL, cK, cT, cM, cG, cB, cE, dO, bX, cP, dQ, bS, cX, aX, cD, dR, bH, aV, aN, aO, aJ, aP, aW, aC, cN, bF, cY, bR, cC, cR, aS, aQ, aT, aY, aR, aL, aG, aB, cZ, aH, aF, bN, bC, bJ, dD, bD, cF, bG, bT, bQ, aK, dS, aU, dL, dN, aM, cI, bY, dK, eL]
    refine (Ce (a := (k : Nat)) (mode := 1) (l := []) (T := (0, [])) (base := w8.heap.size) (hg.ext ((x05.seq x6).seq x68)) (Sl.nil _) (by omega) (xE.nil _ _) (by omega) (by simp) (by simp)).mono ?_
    rintro r w9 ⟨hr, x9⟩
    have hE : iR (k : Nat) 1 [] (0, []) = .error 10 := by unfold iR; rw [if_neg hkk, if_neg (by omega), if_pos rfl]
    rw [hE] at hr
    have hr : r = _ := hr
    subst hr
    simp (disch := omega) only [cJ, hC, aD, dM, fA, fN, gM, gJ, gG, gN, iN, gU, dX, fX, fV, fW, fL, eU, gP, fI, gC, gO, gV, gI, eK, gT, gL, gA, kT, kN, nX, oC, nW, oB, oA, nY, nZ, cU, Result.ok.injEq, Next.value.injEq, true_and, and_true, eE, gB, gQ, gR, gS, iK, Int.toNat_natCast, fK, fB, fJ, eT, dZ, dT, eM, dY, cW, cO, if_true, if_false, Bool.false_eq_true, Nat.zero_add, Option.isNone_some, Option.isNone_none, Bool.not_true, Bool.not_false, List.getElem?_cons_succ, List.getElem?_cons_zero, cQ, aZ, bV, bW, bU, bB, dW, dC, dF, cV, aI, eA, bO, aE, dH, dI, dJ, dB, bK, bM, bZ, bA, cA, cH, bE, cL, cK, cT, cM, cG, cB, cE, dO, bX, cP, dQ, bS, cX, aX, cD, dR, bH, aV, aN, aO, aJ, aP, aW, aC, cN, bF, cY, bR, cC, cR, aS, aQ, aT, aY, aR, aL, aG, aB, cZ, aH, aF, bN, bC, bJ, dD, bD, cF, bG, bT, bQ, aK, dS, aU, dL, dN, aM, cI, bY, dK, eL]
    refine gX fun wa oa xa sa => ?_
    refine fY oa rfl (by simp [one]) (by simp) fun wb o2b xb sb => ?_
    have x9b : fS w8 wb jI := x9.seq (xa.new xb (Nat.le_refl _))
    have d2 : decide (kU (k : Nat) < (y.toNat : Int)) = false := by simpa using hlt
    have o8b := o8.ext x9b (fun h => h)
    have obb := ob8.ext x9b (fun h => h)
    have c0 := o8b.cell (off := 0)
    have c1 := o8b.cell (off := 1)
    have k0 := obb.cell (off := 0)
    have k1 := obb.cell (off := 1)
    have k2 := obb.cell (off := 2)
    simp only [List.getElem?_cons_zero, List.getElem?_cons_succ, fe] at c0 c1 k0 k1 k2
    have n1 : ((0 : Int) == 0) = true := rfl
    have n1' : (((0 : Nat) : Int) == 0) = true := rfl
    have n2 : ((10 : Int) == 10) = true := rfl
    have n3 : ((1 : Int) == 1) = true := rfl
    have n3' : ((((1 : Nat)) : Int) == 1) = true := rfl
    have n4 : ((y.toNat : Int) == (y.toNat : Int)) = true := by simp
    have t0 : (0 : Int).toNat = 0 := rfl
    have hl1 : (([((y.toNat : Nat), 0, 0)] : List T3).length) = 1 := rfl
    simp (disch := omega) only [cJ, hC, aD, dM, fA, fN, gM, gJ, gG, gN, iN, gU, dX, fX, fV, fW, fL, eU, gP, fI, gC, gO, gV, gI, eK, gT, gL, gA, kT, kN, nX, oC, nW, oB, oA, nY, nZ, cU, Result.ok.injEq, Next.value.injEq, true_and, and_true, eE, gB, gQ, gR, gS, iK, Int.toNat_natCast, fK, fB, fJ, eT, dZ, dT, eM, dY, cW, cO, if_true, if_false, Bool.false_eq_true, Nat.zero_add, Option.isNone_some, Option.isNone_none, Bool.not_true, Bool.not_false, List.getElem?_cons_succ, List.getElem?_cons_zero, cQ, aZ, bV, bW, bU, bB, dW, dC, dF, cV, aI, eA, bO, aE, dH, dI, dJ, dB, bK, bM, bZ, bA, cA, cH, bE, cL, cK, cT, cM, cG, cB, cE, dO, bX, cP, dQ, bS, cX, aX, cD, dR, bH, aV, aN, aO, aJ, aP, aW, aC, cN, bF, cY, bR, cC, cR, aS, aQ, aT, aY, aR, aL, aG, aB, cZ, aH, aF, bN, bC, bJ, dD, bD, cF, bG, bT, bQ, aK, dS, aU, dL, dN, aM, cI, bY, dK, eL, wy, d2]
    unfold kD mE jZ
    simp (disch := omega) only [cJ, hC, aD, dM, fA, fN, gM, gJ, gG, gN, iN, gU, dX, fX, fV, fW, fL, eU, gP, fI, gC, gO, gV, gI, eK, gT, gL, gA, kT, kN, nX, oC, nW, oB, oA, nY, nZ, cU, Result.ok.injEq, Next.value.injEq, true_and, and_true, eE, gB, gQ, gR, gS, iK, Int.toNat_natCast, fK, fB, fJ, eT, dZ, dT, eM, dY, cW, cO, if_true, if_false, Bool.false_eq_true, Nat.zero_add, Option.isNone_some, Option.isNone_none, Bool.not_true, Bool.not_false, List.getElem?_cons_succ, List.getElem?_cons_zero, cQ, aZ, bV, bW, bU, bB, dW, dC, dF, cV, aI, eA, bO, aE, dH, dI, dJ, dB, bK, bM, bZ, bA, cA, cH, bE, cL, cK, cT, cM, cG, cB, cE, dO, bX, cP, dQ, bS, cX, aX, cD, dR, bH, aV, aN, aO, aJ, aP, aW, aC, cN, bF, cY, bR, cC, cR, aS, aQ, aT, aY, aR, aL, aG, aB, cZ, aH, aF, bN, bC, bJ, dD, bD, cF, bG, bT, bQ, aK, dS, aU, dL, dN, aM, cI, bY, dK, eL, c0, c1, k0, k1, k2, t0, hl1, Nat.zero_mul, n1, n1', n2, n3, n3', n4]
    exact (((x05.seq x6).seq x68).seq x9b)
theorem Dl {kind sym : Nat} {bv : Value} {more : List UInt8} {w : World} (hg : vA w) (hk : kind < 256) (hs : sym < 256) (hb : Bs w bv more) (hl : more.length ≤ 9223372036854775807) :
    gE pg kV #[.int .u8 kind, .int .u8 sym, bv] w (fun r w' => r = .bool true ∧ fS w w' jI) := by
  obtain ⟨y, rfl⟩ : ∃ y : UInt8, y.toNat = sym := ⟨UInt8.ofNat sym, by simp; omega⟩
  exact D6 hg hk hb hl
end Go.Proofs.YtoepfjgekpdddaaDoor
namespace Go.En
open Go Go.ChangeShapes Go.WideShapes Go.ChangeAt Go.RowKit
theorem CW {H : Type} {enc : TypeId × Value → H} {P : Program} (hl : laidOutB P = true) {W W' : World} (hb : Below W.heap.size W W') : ∀ (ts : List TypeId) (vs : List Value) (ds : List (DataW H)) (ps : List MemPlace),
    (ts.all fun t => P.readableRec t && decide (t < P.types.size)) = true → DataW.TrodAll enc P W 0 (fun _ => true) true ts vs ds ps → (∀ x ∈ ps, x.block < W.heap.size) →
    DataW.TrodAll enc P W' 0 (fun b => decide (b < W.heap.size)) true ts vs ds ps := by
  intro ts
  induction ts with
  | nil =>
    intro vs ds ps _ h _
    cases vs <;> cases ds <;> simp [DataW.TrodAll] at h ⊢
    exact h
  | cons t ts ih =>
    intro vs ds ps hr h hlt
    cases vs with
    | nil => simp [DataW.TrodAll] at h
    | cons v vs =>
      cases ds with
      | nil => simp [DataW.TrodAll] at h
      | cons d ds =>
        obtain ⟨p, q, h1, h2, rfl⟩ := h
        rw [List.all_cons, Bool.and_eq_true, Bool.and_eq_true, decide_eq_true_eq] at hr
        exact ⟨p, q, Below.trod hl hr.1.1 hr.1.2 h1 hb (fun x hx => hlt x (List.mem_append_left _ hx)), ih _ _ _ hr.2 h2 (fun x hx => hlt x (List.mem_append_right _ hx)), rfl⟩
theorem Gj {H : Type} {enc : TypeId × Value → H} {P : Program} {f : Func} {s : ChangeSpec} {apart fresh handsOn : Bool} {tb : TypeId} {W W' : World} {args : Array Value} {ds gs : List (DataW H)} {before : List MemPlace}
    (hl : laidOutB P = true) (hr : (f.params.toList.all fun t => P.readableRec t && decide (t < P.types.size)) = true) (hres : f.resultTypes = #[tb]) (hbool : P.underlying tb = some .bool)
    (hW : DataW.Whole enc P f.params.toList s.vars apart W args.toList ds gs before) (hvars : s.vars = []) (h1 : (s.fn H (ds ++ gs)).results = [.lit (.bool true)]) (h2 : (s.fn H (ds ++ gs)).args = ds) (h3 : (s.fn H (ds ++ gs)).vars = [])
    (hx : fS W W' jI) : s.post enc P f apart fresh handsOn false W args (.bool true) W' := by
  have hb := hx.below
  have hlt : ∀ x ∈ before, x.block < W.heap.size := fun x hx => hW.lt x hx
  have hW' := hW
  obtain ⟨p, q, hA, hV, rfl, _, _⟩ := hW
  rw [hvars] at hV
  obtain ⟨_, rfl⟩ := trodVars_none hV
  rw [List.append_nil] at hW' hlt
  refine ⟨ds, gs, p, [], p, [], hW', ?_, ?_, ?_, hb.frame _, fun h => by cases h⟩
  · rw [h1, hres]
    exact trodAll_cons_mk (shut_bool hbool _) trodAll_mk0
  · rw [h2]; exact CW hl hb _ _ _ _ hr hA hlt
  · rw [h3, hvars] <;> rfl
theorem G0 {H : Type} {enc : TypeId × Value → H} {P : Program} {W : World} {base b0 : Nat} {r : Reach} {sp : Nat → Bool} {hd : Bool} {t e : TypeId} {k : IntKind} {v : Value} {d : DataW H} {ps : List MemPlace} (ht : P.underlying t = some (.slice e)) (he : P.underlying e = some (.int k)) (hc : P.cellsOf e = 1)
    (hval : Value.okWide P W r b0 t v) (h : DataW.Trod enc P W base sp hd t v d ps) :
    ∃ zs : List Int, Sl W v (zs.map (Value.int k)) ∧ zs.length ≤ 9223372036854775807 ∧ ∀ z ∈ zs, (Lit.int k z).wf = true := by
  obtain ⟨a0, len, cap, rfl⟩ := okWide_slice ht hval
  obtain ⟨fuel, hf⟩ := h
  rcases open_ints ht he hc hf with ⟨hcs, -⟩ | ⟨a, len', cap', zs, hcs, _, hl, hm, hz, -, hcell, hwz⟩
  · have : Value.slice a0 len cap = .slice none 0 0 := by simpa [Value.cells] using hcs
    cases this
    exact ⟨[], ⟨none, 0, 0, rfl, rfl, Nat.le_refl _, fun h => absurd h (by simp)⟩, by simp, by simp⟩
  · have : Value.slice a0 len cap = .slice (some a) len' cap' := by simpa [Value.cells] using hcs
    cases this
    unfold maxLen at hm
    have hle : len ≤ zs.length := by rw [hz]; split <;> omega
    refine ⟨zs.take len, ⟨some a, len, cap, rfl, by rw [List.length_map, List.length_take]; omega, hl, fun h0 => ?_⟩, by rw [List.length_take]; omega, fun z hz => hwz z (List.mem_of_mem_take hz)⟩
    obtain ⟨b, off, spot⟩ := a
    have hs : spot = none := by
      have h0 := hcell 0 (by omega)
      unfold World.cell? at h0
      split at h0
      · cases spot
        · rfl
        · simp [Addr.add] at h0
      · cases h0
    subst hs
    refine ⟨b, off, rfl, fun i hi => ?_⟩
    rw [← sW, hcell i (by omega), List.getElem?_map, List.getElem?_take_of_lt hi, List.getD_eq_getElem?_getD, List.getElem?_eq_getElem (by omega)]
    rfl
theorem Gn (zs : List Int) (h : ∀ z ∈ zs, (Lit.int .u8 z).wf = true) : ∃ l : List UInt8, zs.map (Value.int .u8) = l.map GJ ∧ l.length = zs.length := by
  refine ⟨zs.map fun z => UInt8.ofNat z.toNat, ?_, by simp⟩
  rw [List.map_map]
  refine List.map_congr_left fun z hz => ?_
  have := h z hz
  have hx : 0 ≤ z ∧ z ≤ 255 := by simpa [Lit.wf, IntKind.min, IntKind.max, IntKind.signed, IntKind.bits] using this
  show _ = GJ (UInt8.ofNat z.toNat)
  unfold GJ
  rw [UInt8.toNat_ofNat']
  congr 1
  omega
end Go.En

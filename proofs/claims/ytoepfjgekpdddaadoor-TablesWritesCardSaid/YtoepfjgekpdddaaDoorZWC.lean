/- Parts of the proof of TablesWrites: merged and given short names by a program of ours. -/
import Derived.Laws.Strings
import Derived.Test.YtoepfjgekpdddaaDoorZWB
namespace Go.En
open Go
theorem uE.len {w : World} {b sz n : Nat} {v : Value} {l : List Value} (h : uE w b sz v n l) : ∃ a c, v = .slice a n c := by
  rcases h.2 with ⟨rfl, rfl⟩ | ⟨x, c, r, rfl, _⟩
  · exact ⟨_, _, rfl⟩
  · exact ⟨_, _, rfl⟩
theorem Sl.nil (w : World) : Sl w (.slice none 0 0) [] := ⟨none, 0, 0, rfl, rfl, Nat.le_refl _, fun h => absurd h (by simp)⟩
theorem jL.whole {w : World} {b c : Nat} {l : List UInt8} (h : jL w b (l.map RD)) (hc : l.length ≤ c) : Bs w (.slice (some ⟨b, 0, none⟩) l.length c) l :=
  h.bs hc fun i hi => by rw [Nat.zero_add]; simp [hi]
theorem Sl.drop' {w : World} {a : Option Addr} {n c : Nat} {l : List Value} (h : Sl w (.slice a n c) l) {k : Nat} (hk : k ≤ n) : Sl w (.slice (sL a c k 1) (n - k) (c - k)) (l.drop k) := by
  have h' := h
  obtain ⟨a', n', c', e, hn, hc, hh⟩ := h'
  cases e
  by_cases h0 : n = 0
  · exact ⟨_, _, _, rfl, by rw [List.length_drop]; omega, by omega, fun h => by omega⟩
  · obtain ⟨b, off, rfl, _⟩ := hh (by omega)
    exact h.drop hk
theorem Sl.openV {w : World} {v : Value} {l : List Value} (h : Sl w v l) (h0 : 0 < l.length) : ∃ b off c, v = .slice (some ⟨b, off, none⟩) l.length c ∧ l.length ≤ c ∧ ∀ i, (h : i < l.length) → w.cell? ⟨b, off + i, none⟩ = some l[i] := by
  obtain ⟨a, n, c, rfl, hn, hc, h⟩ := h
  subst hn
  obtain ⟨b, off, rfl, hh⟩ := h h0
  exact ⟨b, off, c, rfl, hc, fun i hi => by rw [hh i hi]; simp [hi]⟩
theorem Sl.openI {w : World} {v : Value} {k : IntKind} {l : List Int} (h : Sl w v (l.map (Value.int k))) (h0 : 0 < l.length) : ∃ b off c, v = .slice (some ⟨b, off, none⟩) l.length c ∧ l.length ≤ c ∧ ∀ i, (h : i < l.length) → w.cell? ⟨b, off + i, none⟩ = some (.int k l[i]) := by
  obtain ⟨b, off, c, e, hc, hh⟩ := h.openV (by simpa using h0)
  simp only [List.length_map] at e hc hh
  exact ⟨b, off, c, e, hc, fun i hi => by rw [hh i hi]; simp⟩
theorem Sl.lenI {w : World} {v : Value} {k : IntKind} {l : List Int} (h : Sl w v (l.map (Value.int k))) : ∃ a c, v = .slice a l.length c ∧ l.length ≤ c := by
  obtain ⟨a, c, e, hc⟩ := h.len
  simp only [List.length_map] at e hc
  exact ⟨a, c, e, hc⟩
def Gg (n : Nat) (l : List Value) : List Value := (List.replicate n l).flatten
theorem MH (n : Nat) (l : List Value) : (Gg n l).length = n * l.length := by
  unfold Gg; rw [List.length_flatten]; simp
theorem Wm : ∀ (n : Nat) (l : List Value) (j : Nat) (_ : j < n * l.length) (h0 : 0 < l.length), (Gg n l)[j]? = some (l[j % l.length]'(Nat.mod_lt _ h0)) := by
  intro n
  induction n with
  | zero => intro l j h; simp at h
  | succ n ih =>
    intro l j h h0
    unfold Gg
    rw [List.replicate_succ, List.flatten_cons]
    by_cases hj : j < l.length
    · rw [List.getElem?_append_left hj, List.getElem?_eq_getElem hj]
      simp only [Nat.mod_eq_of_lt hj]
    · rw [List.getElem?_append_right (by omega)]
      have := ih l (j - l.length) (by rw [Nat.succ_mul] at h; omega) h0
      unfold Gg at this
      rw [this]
      simp only [← Nat.mod_eq_sub_mod (show j ≥ l.length by omega)]
theorem WZ {P : Program} {w : World} {t e : TypeId} {k : IntKind} {i : TypeInfo} {z : Value} {sz : Nat} (hu : P.underlying t = some (.slice e)) (hi : P.info? e = some i) (h1 : i.size = sz) (hsz : 0 < sz) (hz : i.zero = some z) (hz1 : z.cells.size = sz) {n : Int} (h0 : 0 ≤ n) (hn : i.bytes * n ≤ 2 ^ 48) (hn2 : n ≤ 9223372036854775807)
    {K : Value → World → Prop}
    (hk : ∀ w', jL w' w.heap.size (Gg n.toNat z.cells.toList) → gS w w' jR → w'.heap.size = w.heap.size + 1 → K (.slice (some ⟨w.heap.size, 0, none⟩) n.toNat n.toNat) w') :
    cO P (sI t (.int k n) (.int k n)) w K := by
  have hw : IntKind.i64.wrap n = n := eL (by omega) hn2
  have hl : z.cells.toList.length = sz := by simpa using hz1
  have harr : (Array.range (n.toNat * sz)).map (fun j => z.cells[j % z.cells.size]!) = (Gg n.toNat z.cells.toList).toArray := by
    apply Array.ext
    · simp [MH, hz1]
    · intro j h1 h2
      have hj : j < n.toNat * sz := by simpa using h1
      have := Wm n.toNat z.cells.toList j (by rw [hl]; exact hj) (by rw [hl]; exact hsz)
      have hm : j % z.cells.size < z.cells.size := Nat.mod_lt _ (by omega)
      simp only [Array.getElem_map, Array.getElem_range, List.getElem_toArray]
      rw [getElem!_pos z.cells _ hm]
      rw [List.getElem?_eq_getElem (by rw [MH, hl]; exact hj)] at this
      have := Option.some.inj this
      rw [this]
      simp
  have hz' : (zeroValue e).run P w = .ok z w := by simp [zeroValue, typeInfo, hi, hz]
  have : (sI t (.int k n) (.int k n)).run P w = .ok (.value (.slice (some ⟨w.heap.size, 0, none⟩) n.toNat n.toNat)) (w.alloc (.cells (Gg n.toNat z.cells.toList).toArray e)) := by
    unfold sI
    rw [pU]
    have t1 : (decide (n < 0) || decide ((i.bytes : Int) * n > 2 ^ 48) || decide (n < 0) || decide (n > n)) = false := by
      simp only [Bool.or_eq_false_iff, decide_eq_false_iff_not]; omega
    by_cases hn0 : n.toNat * sz = 0
    · simp only [Instr.makeSlice, underlying, typeInfo, asInt, asIntOf, pure_bind, Sem.run_bind, run_program, Result.andThen_ok, hu, hi, Sem.run_pure, hw, t1, Bool.false_eq_true, if_false, run_askRoom, kO hi, h1, hn0, if_true, newRow, run_newObj]
      have hn : n.toNat = 0 := by rcases Nat.mul_eq_zero.1 hn0 with h | h <;> omega
      have : (Array.range 0).map (fun x => (#[] : Array Value)[x % (#[] : Array Value).size]!) = (Gg n.toNat z.cells.toList).toArray := by rw [hn]; simp [Gg]
      rw [this]
      rfl
    · simp only [Instr.makeSlice, underlying, typeInfo, asInt, asIntOf, pure_bind, Sem.run_bind, run_program, Result.andThen_ok, hu, hi, Sem.run_pure, hw, t1, Bool.false_eq_true, if_false, run_askRoom, kO hi, h1, hn0, hz', newRow, run_newObj, harr]
      rfl
  unfold cO
  rw [this]
  exact hk _ (jL.alloc _ _ _) (gS.alloc _ _ _) (by simp)
abbrev T3 := Int × Int × Int
def fe (k : IntKind) : List T3 → List Value
  | [] => []
  | e :: r => .int k e.1 :: .int .i64 e.2.1 :: .int .i64 e.2.2 :: fe k r
theorem lY (k : IntKind) : ∀ L : List T3, (fe k L).length = L.length * 3
  | [] => rfl
  | e :: r => by simp [fe, lY k r]; omega
theorem SY (k : IntKind) : ∀ L M : List T3, fe k (L ++ M) = fe k L ++ fe k M
  | [], _ => rfl
  | e :: r, M => by simp [fe, SY k r M]
theorem O1 (k : IntKind) : ∀ (L : List T3) (i : Nat) (h : i < L.length), (fe k L)[i * 3]? = some (.int k L[i].1) ∧ (fe k L)[i * 3 + 1]? = some (.int .i64 L[i].2.1) ∧ (fe k L)[i * 3 + 2]? = some (.int .i64 L[i].2.2)
  | [], i, h => by simp at h
  | e :: r, 0, _ => ⟨rfl, rfl, rfl⟩
  | e :: r, i + 1, h => by
    have := O1 k r i (by simpa using h)
    rw [Nat.add_mul]
    exact this
theorem OF (k : IntKind) : ∀ (L : List T3) (i : Nat) (h : i < L.length) (x : Int), (fe k L).set (i * 3) (.int k x) = fe k (L.set i (x, L[i].2)) ∧ (fe k L).set (i * 3 + 1) (.int .i64 x) = fe k (L.set i (L[i].1, x, L[i].2.2)) ∧ (fe k L).set (i * 3 + 2) (.int .i64 x) = fe k (L.set i (L[i].1, L[i].2.1, x))
  | [], i, h, _ => by simp at h
  | e :: r, 0, _, x => ⟨rfl, rfl, rfl⟩
  | e :: r, i + 1, h, x => by
    have := OF k r i (by simpa using h) x
    rw [Nat.add_mul]
    obtain ⟨h1, h2, h3⟩ := this
    refine ⟨?_, ?_, ?_⟩
    · show (_ :: _ :: _ :: (fe k r).set (i * 3) _) = _; rw [h1] <;> rfl
    · show (_ :: _ :: _ :: (fe k r).set (i * 3 + 1) _) = _; rw [h2] <;> rfl
    · show (_ :: _ :: _ :: (fe k r).set (i * 3 + 2) _) = _; rw [h3] <;> rfl
theorem VP (k : IntKind) (x : Int) : ∀ n : Nat, Gg n [.int k x, .int .i64 0, .int .i64 0] = fe k (List.replicate n (x, 0, 0))
  | 0 => rfl
  | n + 1 => by
    have := VP k x n
    unfold Gg at this ⊢
    rw [List.replicate_succ, List.flatten_cons, this, List.replicate_succ] <;> rfl
end Go.En
namespace Go.Proofs.YtoepfjgekpdddaaDoor
open Go Go.En
set_option linter.unusedVariables false
set_option maxRecDepth 4000
theorem Vo : (pg).info? 5 = some Tryd.t5 := by kernel_rfl
theorem Bv {n : Nat} {ps : List (Nat × Value)} {cells : Array Value} {w : World} (h1 : ¬ n * 1 > 2 ^ 24) (h0 : ¬ n * 1 = 0) (hf : Go.Instr.fill (fun j => some (j * 1, 1)) ((Array.range (n * 1)).map ((Tryd.t5.zero.get!).cells[· % (Tryd.t5.zero.get!).cells.size]!)) ps = some cells) {K : Value → World → Prop} (hk : ∀ w', jL w' w.heap.size cells.toList → gS w w' jR → w'.heap.size = w.heap.size + 1 → K (.slice (some ⟨w.heap.size, 0, none⟩) n n) w') : cO pg (iE 22 n ps) w K := zX (i := Tryd.t5) Tryd.underlying22 Vo rfl h1 h0 hf hk
theorem cS  (w : World) : (iH 26 []).run pg w = .ok (.value (.agg #[(.int .i64 0), (.slice none 0 0)])) w := by kernel_rfl
theorem VO : (pg).info? 26 = some Tryd.t26 := by kernel_rfl
theorem kR {w : World} {K : Value → World → Prop} (hk : ∀ w', jL w' w.heap.size [(.int .i64 0), (.slice none 0 0)] → gS w w' jR → w'.heap.size = w.heap.size + 1 → K (.pointer (some ⟨w.heap.size, 0, none⟩)) w') : cO pg (jB 26) w K := oB (i := Tryd.t26) VO rfl hk
theorem jM {b off : Nat} {cs : List Value} {w : World} {xs : Array Value} {K : Value → World → Prop} (ho : jL w b cs) (hs : xs.size = 2) (hv : ∀ x ∈ xs.toList, one x = true) (h : off + 2 ≤ cs.length) (hk : ∀ w', jL w' b (fV cs off xs.toList) → gS w w' (fun x => x = b) → w'.heap.size = w.heap.size → K undef w') : cO pg (fG 26 (.pointer (some ⟨b, off, none⟩)) (.agg xs)) w K := pF (v := .agg xs) VO ho hs hv h hk
theorem Z0 : (pg).info? 24 = some Tryd.t24 := by kernel_rfl
theorem aZ (b o : Nat) (w : World) : (fF 26 (.pointer (some ⟨b, o, none⟩)) 1).run pg w = .ok (.value (.pointer (some ⟨b, o + 1, none⟩))) w := nJ (i := 1) Tryd.underlying26 rfl Z0 (by decide) _
theorem bU (x : Addr) (w : World) : (eQ 24 (.pointer (some x))).run pg w = Xa (w.cell? x) w (Ui pg 24 x w) := Tx Tryd.underlying24 rfl x w
theorem bV {ty : TypeId} (x : Option Addr) (n c : Nat) (w : World) : (nA .len #[24] ty [.slice x n c]).run pg w = .ok (.value (.int .i64 n)) w := PQ Tryd.underlying24 x n c
theorem S9 : (pg).info? 32 = some Tryd.t32 := by kernel_rfl
theorem bT {k : IntKind} {a : Int} (b o n c : Nat) (w : World) (h0 : 0 ≤ a) (h1 : a < n) : (iF 24 (.slice (some ⟨b, o, none⟩) n c) (.int k a)).run pg w = .ok (.value (.pointer (some ⟨b, o + a.toNat * 3, none⟩))) w := Td rfl Tryd.underlying24 S9 b o n c h0 h1
theorem bC (b o : Nat) (w : World) : (fF 32 (.pointer (some ⟨b, o, none⟩)) 0).run pg w = .ok (.value (.pointer (some ⟨b, o, none⟩))) w := nJ (i := 0) Tryd.underlying32 rfl Vo (by decide) _
theorem eA (x : Addr) (w : World) : (eQ 5 (.pointer (some x))).run pg w = Xa (w.cell? x) w (Ui pg 5 x w) := Tx Tryd.underlying5 rfl x w
theorem nY {b off : Nat} {cs : List Value} {w : World} (ho : jL w b cs) (h : off + 2 ≤ cs.length) {K : Value → Prop} (hk : K (.agg ((cs.drop off).take 2).toArray)) : qB pg 26 (.pointer (some ⟨b, off, none⟩)) w K := Mb Tryd.underlying26 rfl VO ho h hk
theorem nZ {b off : Nat} {cs : List Value} {w : World} (ho : jL w b cs) (h : off + 2 ≤ cs.length) : (eQ 26 (.pointer (some ⟨b, off, none⟩))).run pg w = .ok (.value (.agg ((cs.drop off).take 2).toArray)) w := G5 Tryd.underlying26 rfl VO ho h
theorem dG {ty : TypeId} (x : Option Addr) (n c : Nat) (w : World) : (nA .len #[22] ty [.slice x n c]).run pg w = .ok (.value (.int .i64 n)) w := PQ Tryd.underlying22 x n c
theorem dH {k : IntKind} {a : Int} (b o n c : Nat) (w : World) (h0 : 0 ≤ a) (h1 : a < n) : (iF 22 (.slice (some ⟨b, o, none⟩) n c) (.int k a)).run pg w = .ok (.value (.pointer (some ⟨b, o + a.toNat, none⟩))) w := IA rfl Tryd.underlying22 Vo b o n c h0 h1
theorem dC {k : IntKind} (a : Int) (w : World) : (mL 5 3 (.int k a)).run pg w = .ok (.value (.int .i64 (IntKind.i64.wrap a))) w := FC Tryd.underlying5 Tryd.underlying3
theorem VX : (pg).info? 51 = some Tryd.t51 := by kernel_rfl
theorem kZ {w : World} {K : Value → World → Prop} (hk : ∀ w', jL w' w.heap.size [(.int .i64 0), (.slice none 0 0)] → gS w w' jR → w'.heap.size = w.heap.size + 1 → K (.pointer (some ⟨w.heap.size, 0, none⟩)) w') : cO pg (jB 51) w K := oB (i := Tryd.t51) VX rfl hk
theorem jF {b off : Nat} {cs : List Value} {w : World} {xs : Array Value} {K : Value → World → Prop} (ho : jL w b cs) (hs : xs.size = 2) (hv : ∀ x ∈ xs.toList, one x = true) (h : off + 2 ≤ cs.length) (hk : ∀ w', jL w' b (fV cs off xs.toList) → gS w w' (fun x => x = b) → w'.heap.size = w.heap.size → K undef w') : cO pg (fG 51 (.pointer (some ⟨b, off, none⟩)) (.agg xs)) w K := pF (v := .agg xs) VX ho hs hv h hk
theorem kC {b off : Nat} {cs : List Value} {w : World} (ho : jL w b cs) (h : off + 2 ≤ cs.length) : (eQ 51 (.pointer (some ⟨b, off, none⟩))).run pg w = .ok (.value (.agg ((cs.drop off).take 2).toArray)) w := G5 Tryd.underlying51 rfl VX ho h
theorem CW : (pg).info? 3 = some Tryd.t3 := by kernel_rfl
theorem aW (b o : Nat) (w : World) : (fF 51 (.pointer (some ⟨b, o, none⟩)) 0).run pg w = .ok (.value (.pointer (some ⟨b, o, none⟩))) w := nJ (i := 0) Tryd.underlying51 rfl CW (by decide) _
theorem eI (x : Addr) (w : World) : (eQ 3 (.pointer (some x))).run pg w = Xa (w.cell? x) w (Ui pg 3 x w) := Tx Tryd.underlying3 rfl x w
theorem bR (n0 : Int) (a1 : Option Addr) (l1 c1 : Nat) (w : World) : (iH 26 [(0, (.int .i64 n0)), (1, (.slice a1 l1 c1))]).run pg w = .ok (.value (.agg #[(.int .i64 n0), (.slice a1 l1 c1)])) w := by kernel_rfl
theorem Yi : (pg).info? 30 = some Tryd.t30 := by kernel_rfl
theorem aJ (b o : Nat) (w : World) : (fF 51 (.pointer (some ⟨b, o, none⟩)) 1).run pg w = .ok (.value (.pointer (some ⟨b, o + 1, none⟩))) w := nJ (i := 1) Tryd.underlying51 rfl Yi (by decide) _
theorem dF (x : Addr) (w : World) : (eQ 30 (.pointer (some x))).run pg w = Xa (w.cell? x) w (Ui pg 30 x w) := Tx Tryd.underlying30 rfl x w
theorem dI {ty : TypeId} (x : Option Addr) (n c : Nat) (w : World) : (nA .len #[30] ty [.slice x n c]).run pg w = .ok (.value (.int .i64 n)) w := PQ Tryd.underlying30 x n c
theorem Tf {k : IntKind} {n : Int} {w : World} {K : Value → World → Prop} (h0 : 0 ≤ n) (hn : 8 * n ≤ 2 ^ 48) (hk : ∀ w', jL w' w.heap.size (List.replicate n.toNat (.int .i64 0)) → gS w w' jR → w'.heap.size = w.heap.size + 1 → K (.slice (some ⟨w.heap.size, 0, none⟩) n.toNat n.toNat) w') : cO pg (sI 30 (.int k n) (.int k n)) w K := Yb (i := Tryd.t3) Tryd.underlying30 CW rfl rfl rfl h0 hn (by omega) hk
theorem dJ {k : IntKind} {a : Int} (b o n c : Nat) (w : World) (h0 : 0 ≤ a) (h1 : a < n) : (iF 30 (.slice (some ⟨b, o, none⟩) n c) (.int k a)).run pg w = .ok (.value (.pointer (some ⟨b, o + a.toNat, none⟩))) w := IA rfl Tryd.underlying30 CW b o n c h0 h1
theorem yW {b off : Nat} {cs : List Value} {w : World} {v : Value} {K : Value → World → Prop} (ho : jL w b cs) (hv : one v = true) (h : off < cs.length) (hk : ∀ w', jL w' b (cs.set off v) → gS w w' (fun x => x = b) → w'.heap.size = w.heap.size → K undef w') : cO pg (fG 3 (.pointer (some ⟨b, off, none⟩)) v) w K := Ab CW rfl ho hv h hk
theorem dD {k : IntKind} (a : Int) (w : World) : (mL 3 75 (.int k a)).run pg w = .ok (.value (.int .u64 (IntKind.u64.wrap a))) w := FC Tryd.underlying3 Tryd.underlying75
theorem bL (b o : Nat) (w : World) : (fF 32 (.pointer (some ⟨b, o, none⟩)) 1).run pg w = .ok (.value (.pointer (some ⟨b, o + 1, none⟩))) w := nJ (i := 1) Tryd.underlying32 rfl CW (by decide) _
theorem bN (b o : Nat) (w : World) : (fF 32 (.pointer (some ⟨b, o, none⟩)) 2).run pg w = .ok (.value (.pointer (some ⟨b, o + 2, none⟩))) w := nJ (i := 2) Tryd.underlying32 rfl CW (by decide) _
theorem mE {b off : Nat} {cs : List Value} {w : World} (ho : jL w b cs) (h : off + 2 ≤ cs.length) {K : Value → Prop} (hk : K (.agg ((cs.drop off).take 2).toArray)) : qB pg 51 (.pointer (some ⟨b, off, none⟩)) w K := Mb Tryd.underlying51 rfl VX ho h hk
theorem X4 : (pg).info? 76 = some Tryd.t76 := by kernel_rfl
theorem Ts {b off : Nat} {l : List Value} {w : World} (hl : l.length = 36) (h : ∀ j, j < l.length → w.cell? ⟨b, off + j, none⟩ = l[j]?) : (eQ 76 (.pointer (some ⟨b, off, none⟩))).run pg w = .ok (.value (.agg l.toArray)) w := MX Tryd.underlying76 rfl X4 hl.symm h
theorem UP {w : World} {K : Value → World → Prop} (hk : ∀ w', jL w' w.heap.size [(.int .i64 0), (.int .i64 0), (.int .i64 0), (.int .i64 0), (.int .i64 0), (.int .i64 0), (.int .i64 0), (.int .i64 0), (.int .i64 0), (.int .i64 0), (.int .i64 0), (.int .i64 0), (.int .i64 0), (.int .i64 0), (.int .i64 0), (.int .i64 0), (.int .i64 0), (.int .i64 0), (.int .i64 0), (.int .i64 0), (.int .i64 0), (.int .i64 0), (.int .i64 0), (.int .i64 0), (.int .i64 0), (.int .i64 0), (.int .i64 0), (.int .i64 0), (.int .i64 0), (.int .i64 0), (.int .i64 0), (.int .i64 0), (.int .i64 0), (.int .i64 0), (.int .i64 0), (.int .i64 0)] → gS w w' jR → w'.heap.size = w.heap.size + 1 → K (.pointer (some ⟨w.heap.size, 0, none⟩)) w') : cO pg (jB 76) w K := oB (i := Tryd.t76) X4 rfl hk
theorem TU {b off : Nat} {cs : List Value} {w : World} {xs : Array Value} {K : Value → World → Prop} (ho : jL w b cs) (hs : xs.size = 36) (hv : ∀ x ∈ xs.toList, one x = true) (h : off + 36 ≤ cs.length) (hk : ∀ w', jL w' b (fV cs off xs.toList) → gS w w' (fun x => x = b) → w'.heap.size = w.heap.size → K undef w') : cO pg (fG 76 (.pointer (some ⟨b, off, none⟩)) (.agg xs)) w K := pF (v := .agg xs) X4 ho hs hv h hk
theorem cB  (b o : Nat) (w : World)  : (mM 76 (.pointer (some ⟨b, o, none⟩)) none none none).run pg w = .ok (.value (.slice (some (qP ⟨b, o, none⟩ 36 (0) 1)) (36 - 0) (36 - 0))) w := xK Tryd.underlying76 CW _
theorem bA (n0 : Int) (a1 : Option Addr) (l1 c1 : Nat) (w : World) : (iH 51 [(0, (.int .i64 n0)), (1, (.slice a1 l1 c1))]).run pg w = .ok (.value (.agg #[(.int .i64 n0), (.slice a1 l1 c1)])) w := by kernel_rfl
theorem Xh : (pg).info? 77 = some Tryd.t77 := by kernel_rfl
theorem TE {b off : Nat} {l : List Value} {w : World} (hl : l.length = 29) (h : ∀ j, j < l.length → w.cell? ⟨b, off + j, none⟩ = l[j]?) : (eQ 77 (.pointer (some ⟨b, off, none⟩))).run pg w = .ok (.value (.agg l.toArray)) w := MX Tryd.underlying77 rfl Xh hl.symm h
theorem T2 {w : World} {K : Value → World → Prop} (hk : ∀ w', jL w' w.heap.size [(.int .i64 0), (.int .i64 0), (.int .i64 0), (.int .i64 0), (.int .i64 0), (.int .i64 0), (.int .i64 0), (.int .i64 0), (.int .i64 0), (.int .i64 0), (.int .i64 0), (.int .i64 0), (.int .i64 0), (.int .i64 0), (.int .i64 0), (.int .i64 0), (.int .i64 0), (.int .i64 0), (.int .i64 0), (.int .i64 0), (.int .i64 0), (.int .i64 0), (.int .i64 0), (.int .i64 0), (.int .i64 0), (.int .i64 0), (.int .i64 0), (.int .i64 0), (.int .i64 0)] → gS w w' jR → w'.heap.size = w.heap.size + 1 → K (.pointer (some ⟨w.heap.size, 0, none⟩)) w') : cO pg (jB 77) w K := oB (i := Tryd.t77) Xh rfl hk
theorem TT {b off : Nat} {cs : List Value} {w : World} {xs : Array Value} {K : Value → World → Prop} (ho : jL w b cs) (hs : xs.size = 29) (hv : ∀ x ∈ xs.toList, one x = true) (h : off + 29 ≤ cs.length) (hk : ∀ w', jL w' b (fV cs off xs.toList) → gS w w' (fun x => x = b) → w'.heap.size = w.heap.size → K undef w') : cO pg (fG 77 (.pointer (some ⟨b, off, none⟩)) (.agg xs)) w K := pF (v := .agg xs) Xh ho hs hv h hk
theorem cF  (b o : Nat) (w : World)  : (mM 77 (.pointer (some ⟨b, o, none⟩)) none none none).run pg w = .ok (.value (.slice (some (qP ⟨b, o, none⟩ 29 (0) 1)) (29 - 0) (29 - 0))) w := xK Tryd.underlying77 CW _
theorem Ye : (pg).info? 78 = some Tryd.t78 := by kernel_rfl
theorem Tw {b off : Nat} {l : List Value} {w : World} (hl : l.length = 53) (h : ∀ j, j < l.length → w.cell? ⟨b, off + j, none⟩ = l[j]?) : (eQ 78 (.pointer (some ⟨b, off, none⟩))).run pg w = .ok (.value (.agg l.toArray)) w := MX Tryd.underlying78 rfl Ye hl.symm h
theorem T4 {w : World} {K : Value → World → Prop} (hk : ∀ w', jL w' w.heap.size [(.int .i64 0), (.int .i64 0), (.int .i64 0), (.int .i64 0), (.int .i64 0), (.int .i64 0), (.int .i64 0), (.int .i64 0), (.int .i64 0), (.int .i64 0), (.int .i64 0), (.int .i64 0), (.int .i64 0), (.int .i64 0), (.int .i64 0), (.int .i64 0), (.int .i64 0), (.int .i64 0), (.int .i64 0), (.int .i64 0), (.int .i64 0), (.int .i64 0), (.int .i64 0), (.int .i64 0), (.int .i64 0), (.int .i64 0), (.int .i64 0), (.int .i64 0), (.int .i64 0), (.int .i64 0), (.int .i64 0), (.int .i64 0), (.int .i64 0), (.int .i64 0), (.int .i64 0), (.int .i64 0), (.int .i64 0), (.int .i64 0), (.int .i64 0), (.int .i64 0), (.int .i64 0), (.int .i64 0), (.int .i64 0), (.int .i64 0), (.int .i64 0), (.int .i64 0), (.int .i64 0), (.int .i64 0), (.int .i64 0), (.int .i64 0), (.int .i64 0), (.int .i64 0), (.int .i64 0)] → gS w w' jR → w'.heap.size = w.heap.size + 1 → K (.pointer (some ⟨w.heap.size, 0, none⟩)) w') : cO pg (jB 78) w K := oB (i := Tryd.t78) Ye rfl hk
theorem TK {b off : Nat} {cs : List Value} {w : World} {xs : Array Value} {K : Value → World → Prop} (ho : jL w b cs) (hs : xs.size = 53) (hv : ∀ x ∈ xs.toList, one x = true) (h : off + 53 ≤ cs.length) (hk : ∀ w', jL w' b (fV cs off xs.toList) → gS w w' (fun x => x = b) → w'.heap.size = w.heap.size → K undef w') : cO pg (fG 78 (.pointer (some ⟨b, off, none⟩)) (.agg xs)) w K := pF (v := .agg xs) Ye ho hs hv h hk
theorem cG  (b o : Nat) (w : World)  : (mM 78 (.pointer (some ⟨b, o, none⟩)) none none none).run pg w = .ok (.value (.slice (some (qP ⟨b, o, none⟩ 53 (0) 1)) (53 - 0) (53 - 0))) w := xK Tryd.underlying78 CW _
theorem bF  (w : World) : (iH 51 []).run pg w = .ok (.value (.agg #[(.int .i64 0), (.slice none 0 0)])) w := by kernel_rfl
theorem cJ (n0 : Int) (w : World) : (iH 32 [(0, (.int .u8 n0))]).run pg w = .ok (.value (.agg #[(.int .u8 n0), (.int .i64 0), (.int .i64 0)])) w := by kernel_rfl
theorem QV {n : Nat} {ps : List (Nat × Value)} {cells : Array Value} {w : World} (h1 : ¬ n * 3 > 2 ^ 24) (h0 : ¬ n * 3 = 0) (hf : Go.Instr.fill (fun j => some (j * 3, 3)) ((Array.range (n * 3)).map ((Tryd.t32.zero.get!).cells[· % (Tryd.t32.zero.get!).cells.size]!)) ps = some cells) {K : Value → World → Prop} (hk : ∀ w', jL w' w.heap.size cells.toList → gS w w' jR → w'.heap.size = w.heap.size + 1 → K (.slice (some ⟨w.heap.size, 0, none⟩) n n) w') : cO pg (iE 24 n ps) w K := zX (i := Tryd.t32) Tryd.underlying24 S9 rfl h1 h0 hf hk
theorem cL (a0 : Option Addr) (l0 c0 : Nat) (w : World) : (iH 26 [(1, (.slice a0 l0 c0))]).run pg w = .ok (.value (.agg #[(.int .i64 0), (.slice a0 l0 c0)])) w := by kernel_rfl
theorem Pt {k : IntKind} {n : Int} {w : World} {K : Value → World → Prop} (h0 : 0 ≤ n) (hn : 24 * n ≤ 2 ^ 48) (hk : ∀ w', jL w' w.heap.size (Gg n.toNat [(.int .u8 0), (.int .i64 0), (.int .i64 0)]) → gS w w' jR → w'.heap.size = w.heap.size + 1 → K (.slice (some ⟨w.heap.size, 0, none⟩) n.toNat n.toNat) w') : cO pg (sI 24 (.int k n) (.int k n)) w K := WZ (i := Tryd.t32) Tryd.underlying24 S9 rfl (by decide) rfl rfl h0 hn (by omega) hk
theorem cZ {k : IntKind} (a : Int) (w : World) : (mL 3 5 (.int k a)).run pg w = .ok (.value (.int .u8 (IntKind.u8.wrap a))) w := FC Tryd.underlying3 Tryd.underlying5
theorem RX {b off : Nat} {cs : List Value} {w : World} {v : Value} {K : Value → World → Prop} (ho : jL w b cs) (hv : one v = true) (h : off < cs.length) (hk : ∀ w', jL w' b (cs.set off v) → gS w w' (fun x => x = b) → w'.heap.size = w.heap.size → K undef w') : cO pg (fG 5 (.pointer (some ⟨b, off, none⟩)) v) w K := Ab Vo rfl ho hv h hk
theorem cK {k : IntKind} (a : Int) (w : World) : (mL 75 56 (.int k a)).run pg w = .ok (.value (.int .u32 (IntKind.u32.wrap a))) w := FC Tryd.underlying75 Tryd.underlying56
theorem Vx : (pg).info? 109 = some Tryd.t109 := by kernel_rfl
theorem TF {b off : Nat} {l : List Value} {w : World} (hl : l.length = 20) (h : ∀ j, j < l.length → w.cell? ⟨b, off + j, none⟩ = l[j]?) : (eQ 109 (.pointer (some ⟨b, off, none⟩))).run pg w = .ok (.value (.agg l.toArray)) w := MX Tryd.underlying109 rfl Vx hl.symm h
theorem UK {w : World} {K : Value → World → Prop} (hk : ∀ w', jL w' w.heap.size [(.int .i64 0), (.int .i64 0), (.int .i64 0), (.int .i64 0), (.int .i64 0), (.int .i64 0), (.int .i64 0), (.int .i64 0), (.int .i64 0), (.int .i64 0), (.int .i64 0), (.int .i64 0), (.int .i64 0), (.int .i64 0), (.int .i64 0), (.int .i64 0), (.int .i64 0), (.int .i64 0), (.int .i64 0), (.int .i64 0)] → gS w w' jR → w'.heap.size = w.heap.size + 1 → K (.pointer (some ⟨w.heap.size, 0, none⟩)) w') : cO pg (jB 109) w K := oB (i := Tryd.t109) Vx rfl hk
theorem TC {b off : Nat} {cs : List Value} {w : World} {xs : Array Value} {K : Value → World → Prop} (ho : jL w b cs) (hs : xs.size = 20) (hv : ∀ x ∈ xs.toList, one x = true) (h : off + 20 ≤ cs.length) (hk : ∀ w', jL w' b (fV cs off xs.toList) → gS w w' (fun x => x = b) → w'.heap.size = w.heap.size → K undef w') : cO pg (fG 109 (.pointer (some ⟨b, off, none⟩)) (.agg xs)) w K := pF (v := .agg xs) Vx ho hs hv h hk
theorem cD  (b o : Nat) (w : World)  : (mM 109 (.pointer (some ⟨b, o, none⟩)) none none none).run pg w = .ok (.value (.slice (some (qP ⟨b, o, none⟩ 20 (0) 1)) (20 - 0) (20 - 0))) w := xK Tryd.underlying109 CW _
theorem U4 : (pg).info? 110 = some Tryd.t110 := by kernel_rfl
theorem Tt {b off : Nat} {l : List Value} {w : World} (hl : l.length = 21) (h : ∀ j, j < l.length → w.cell? ⟨b, off + j, none⟩ = l[j]?) : (eQ 110 (.pointer (some ⟨b, off, none⟩))).run pg w = .ok (.value (.agg l.toArray)) w := MX Tryd.underlying110 rfl U4 hl.symm h
theorem Uq {w : World} {K : Value → World → Prop} (hk : ∀ w', jL w' w.heap.size [(.int .i64 0), (.int .i64 0), (.int .i64 0), (.int .i64 0), (.int .i64 0), (.int .i64 0), (.int .i64 0), (.int .i64 0), (.int .i64 0), (.int .i64 0), (.int .i64 0), (.int .i64 0), (.int .i64 0), (.int .i64 0), (.int .i64 0), (.int .i64 0), (.int .i64 0), (.int .i64 0), (.int .i64 0), (.int .i64 0), (.int .i64 0)] → gS w w' jR → w'.heap.size = w.heap.size + 1 → K (.pointer (some ⟨w.heap.size, 0, none⟩)) w') : cO pg (jB 110) w K := oB (i := Tryd.t110) U4 rfl hk
theorem TI {b off : Nat} {cs : List Value} {w : World} {xs : Array Value} {K : Value → World → Prop} (ho : jL w b cs) (hs : xs.size = 21) (hv : ∀ x ∈ xs.toList, one x = true) (h : off + 21 ≤ cs.length) (hk : ∀ w', jL w' b (fV cs off xs.toList) → gS w w' (fun x => x = b) → w'.heap.size = w.heap.size → K undef w') : cO pg (fG 110 (.pointer (some ⟨b, off, none⟩)) (.agg xs)) w K := pF (v := .agg xs) U4 ho hs hv h hk
theorem cH  (b o : Nat) (w : World)  : (mM 110 (.pointer (some ⟨b, o, none⟩)) none none none).run pg w = .ok (.value (.slice (some (qP ⟨b, o, none⟩ 21 (0) 1)) (21 - 0) (21 - 0))) w := xK Tryd.underlying110 CW _
theorem cC {k : IntKind} (a : Int) (w : World) : (mL 56 5 (.int k a)).run pg w = .ok (.value (.int .u8 (IntKind.u8.wrap a))) w := FC Tryd.underlying56 Tryd.underlying5
theorem dR {k : IntKind} {a : Int} (x : ByteArray) (w : World) (h0 : 0 ≤ a) (h1 : a.toNat < x.size) : (UO 9 (.string x) (.int k a)).run pg w = .ok (.value (.int .u8 (x[a.toNat]'h1).toNat)) w := Zy Tryd.underlying9 x h0 h1
theorem bW {k : IntKind} (a : Int) (w : World) : (mL 83 5 (.int k a)).run pg w = .ok (.value (.int .u8 (IntKind.u8.wrap a))) w := FC Tryd.underlying83 Tryd.underlying5
theorem cU {ox oy : Operand} (x : Option Addr) (n c : Nat) (w : World) : (eF .eql 22 ox oy (.slice x n c) (.slice none 0 0)).run pg w = .ok (.value (.bool x.isNone)) w := YO Tryd.underlying22 x n c
theorem Ib {base n m : Nat} {ty : TypeId} {w : World} {v x : Value} {l news : List Value} (h : uE w base 1 v n l) (hx : Cl w 1 x m news) (hone : ∀ y ∈ news, one y = true) (hb : base ≤ w.heap.size) (hbytes : (n + m) * 1 ≤ 140737488355328) {K : Value → World → Prop} (hk : ∀ v' w', uE w' base 1 v' (n + m) (l ++ news) → gS w w' (fun y => base ≤ y) → K v' w') : cO pg (nA .append #[22, 22] ty [v, x]) w K := C7 (i := Tryd.t5) Tryd.underlying22 Tryd.underlying22 Vo rfl rfl rfl h hx hone hb (by omega) hbytes (by decide) hk
end Go.Proofs.YtoepfjgekpdddaaDoor
namespace Go.Proofs.YtoepfjgekpdddaaDoor
open Go Go.En
set_option linter.unusedVariables false
set_option maxRecDepth 4000
theorem Gx {n : Nat} {ps : List (Nat × Value)} {cells : Array Value} {w : World} (h1 : ¬ n * 1 > 2 ^ 24) (h0 : ¬ n * 1 = 0) (hf : Go.Instr.fill (fun j => some (j * 1, 1)) ((Array.range (n * 1)).map ((Tryd.t3.zero.get!).cells[· % (Tryd.t3.zero.get!).cells.size]!)) ps = some cells) {K : Value → World → Prop} (hk : ∀ w', jL w' w.heap.size cells.toList → gS w w' jR → w'.heap.size = w.heap.size + 1 → K (.slice (some ⟨w.heap.size, 0, none⟩) n n) w') : cO pg (iE 30 n ps) w K := zX (i := Tryd.t3) Tryd.underlying30 CW rfl h1 h0 hf hk
theorem SK {b off : Nat} {cs : List Value} {w : World} (ho : jL w b cs) (h : off + 3 ≤ cs.length) : (eQ 32 (.pointer (some ⟨b, off, none⟩))).run pg w = .ok (.value (.agg ((cs.drop off).take 3).toArray)) w := G5 Tryd.underlying32 rfl S9 ho h
theorem dT {ox oy : Operand} (c d : Bool) (w : World) : (eF .eql 4 ox oy (.bool c) (.bool d)).run pg w = .ok (.value (.bool (c == d))) w := Zf c d Tryd.underlying4
end Go.Proofs.YtoepfjgekpdddaaDoor
namespace Go.Proofs.YtoepfjgekpdddaaDoor
open Go Go.En
set_option linter.unusedVariables false
set_option maxRecDepth 4000
theorem bS (b o : Nat) (w : World) : (fF 26 (.pointer (some ⟨b, o, none⟩)) 0).run pg w = .ok (.value (.pointer (some ⟨b, o, none⟩))) w := nJ (i := 0) Tryd.underlying26 rfl CW (by decide) _
end Go.Proofs.YtoepfjgekpdddaaDoor
namespace Go.Proofs.YtoepfjgekpdddaaDoor
open Go Go.En
set_option linter.unusedVariables false
set_option maxRecDepth 4000
theorem cV {ty : TypeId} (x : Option Addr) (n c : Nat) (w : World) : (nA .len #[38] ty [.slice x n c]).run pg w = .ok (.value (.int .i64 n)) w := PQ Tryd.underlying38 x n c
theorem KV {l : List UInt8} {v : Value} {w : World} (h : Bs w v l) : (mL 22 9 v).run pg w = .ok (.value (.string ⟨l.toArray⟩)) w := Xb Tryd.underlying22 Tryd.underlying9 Tryd.underlying5 h
theorem aY  (w : World) : (iH 42 []).run pg w = .ok (.value (.agg #[(.int .i64 0), (.slice none 0 0)])) w := by kernel_rfl
theorem VV : (pg).info? 42 = some Tryd.t42 := by kernel_rfl
theorem kK {w : World} {K : Value → World → Prop} (hk : ∀ w', jL w' w.heap.size [(.int .i64 0), (.slice none 0 0)] → gS w w' jR → w'.heap.size = w.heap.size + 1 → K (.pointer (some ⟨w.heap.size, 0, none⟩)) w') : cO pg (jB 42) w K := oB (i := Tryd.t42) VV rfl hk
theorem kE {b off : Nat} {cs : List Value} {w : World} {xs : Array Value} {K : Value → World → Prop} (ho : jL w b cs) (hs : xs.size = 2) (hv : ∀ x ∈ xs.toList, one x = true) (h : off + 2 ≤ cs.length) (hk : ∀ w', jL w' b (fV cs off xs.toList) → gS w w' (fun x => x = b) → w'.heap.size = w.heap.size → K undef w') : cO pg (fG 42 (.pointer (some ⟨b, off, none⟩)) (.agg xs)) w K := pF (v := .agg xs) VV ho hs hv h hk
theorem kM {b off : Nat} {cs : List Value} {w : World} (ho : jL w b cs) (h : off + 2 ≤ cs.length) : (eQ 42 (.pointer (some ⟨b, off, none⟩))).run pg w = .ok (.value (.agg ((cs.drop off).take 2).toArray)) w := G5 Tryd.underlying42 rfl VV ho h
theorem Z9 : (pg).info? 57 = some Tryd.t57 := by kernel_rfl
theorem Rf {w : World} {K : Value → World → Prop} (hk : ∀ w', jL w' w.heap.size [(.int .u32 0), (.int .u32 0), (.int .u32 0), (.int .u32 0), (.int .u32 0), (.int .u32 0), (.int .u32 0), (.int .u32 0), (.int .u32 0), (.int .u32 0), (.int .u32 0), (.int .u32 0), (.int .u32 0), (.int .u32 0), (.int .u32 0), (.int .u32 0), (.int .u32 0), (.int .u32 0), (.int .u32 0), (.int .u32 0), (.int .u32 0), (.int .u32 0), (.int .u32 0), (.int .u32 0), (.int .u32 0), (.int .u32 0), (.int .u32 0), (.int .u32 0), (.int .u32 0), (.int .u32 0), (.int .u32 0), (.int .u32 0), (.int .u32 0), (.int .u32 0), (.int .u32 0), (.int .u32 0), (.int .u32 0), (.int .u32 0), (.int .u32 0), (.int .u32 0), (.int .u32 0), (.int .u32 0), (.int .u32 0), (.int .u32 0), (.int .u32 0), (.int .u32 0), (.int .u32 0), (.int .u32 0), (.int .u32 0), (.int .u32 0), (.int .u32 0), (.int .u32 0), (.int .u32 0), (.int .u32 0), (.int .u32 0), (.int .u32 0), (.int .u32 0), (.int .u32 0), (.int .u32 0), (.int .u32 0), (.int .u32 0), (.int .u32 0), (.int .u32 0), (.int .u32 0), (.int .u32 0), (.int .u32 0), (.int .u32 0), (.int .u32 0), (.int .u32 0), (.int .u32 0), (.int .u32 0), (.int .u32 0), (.int .u32 0), (.int .u32 0), (.int .u32 0), (.int .u32 0), (.int .u32 0), (.int .u32 0), (.int .u32 0), (.int .u32 0), (.int .u32 0), (.int .u32 0), (.int .u32 0), (.int .u32 0), (.int .u32 0), (.int .u32 0), (.int .u32 0), (.int .u32 0), (.int .u32 0), (.int .u32 0), (.int .u32 0), (.int .u32 0), (.int .u32 0), (.int .u32 0), (.int .u32 0), (.int .u32 0), (.int .u32 0), (.int .u32 0), (.int .u32 0), (.int .u32 0), (.int .u32 0), (.int .u32 0), (.int .u32 0), (.int .u32 0), (.int .u32 0), (.int .u32 0), (.int .u32 0), (.int .u32 0), (.int .u32 0), (.int .u32 0), (.int .u32 0), (.int .u32 0), (.int .u32 0), (.int .u32 0), (.int .u32 0), (.int .u32 0), (.int .u32 0), (.int .u32 0), (.int .u32 0), (.int .u32 0), (.int .u32 0), (.int .u32 0), (.int .u32 0), (.int .u32 0), (.int .u32 0), (.int .u32 0), (.int .u32 0), (.int .u32 0), (.int .u32 0), (.int .u32 0), (.int .u32 0), (.int .u32 0), (.int .u32 0), (.int .u32 0), (.int .u32 0), (.int .u32 0), (.int .u32 0), (.int .u32 0), (.int .u32 0), (.int .u32 0), (.int .u32 0), (.int .u32 0), (.int .u32 0), (.int .u32 0), (.int .u32 0), (.int .u32 0), (.int .u32 0), (.int .u32 0), (.int .u32 0), (.int .u32 0), (.int .u32 0), (.int .u32 0), (.int .u32 0), (.int .u32 0), (.int .u32 0), (.int .u32 0), (.int .u32 0), (.int .u32 0), (.int .u32 0), (.int .u32 0), (.int .u32 0), (.int .u32 0), (.int .u32 0), (.int .u32 0), (.int .u32 0), (.int .u32 0), (.int .u32 0), (.int .u32 0), (.int .u32 0), (.int .u32 0), (.int .u32 0), (.int .u32 0), (.int .u32 0), (.int .u32 0), (.int .u32 0), (.int .u32 0), (.int .u32 0), (.int .u32 0), (.int .u32 0), (.int .u32 0), (.int .u32 0), (.int .u32 0), (.int .u32 0), (.int .u32 0), (.int .u32 0), (.int .u32 0), (.int .u32 0), (.int .u32 0), (.int .u32 0), (.int .u32 0), (.int .u32 0), (.int .u32 0), (.int .u32 0), (.int .u32 0), (.int .u32 0), (.int .u32 0), (.int .u32 0), (.int .u32 0), (.int .u32 0), (.int .u32 0), (.int .u32 0), (.int .u32 0), (.int .u32 0), (.int .u32 0), (.int .u32 0), (.int .u32 0), (.int .u32 0), (.int .u32 0), (.int .u32 0), (.int .u32 0), (.int .u32 0), (.int .u32 0), (.int .u32 0), (.int .u32 0), (.int .u32 0), (.int .u32 0), (.int .u32 0), (.int .u32 0), (.int .u32 0), (.int .u32 0), (.int .u32 0), (.int .u32 0), (.int .u32 0), (.int .u32 0), (.int .u32 0), (.int .u32 0), (.int .u32 0), (.int .u32 0), (.int .u32 0), (.int .u32 0), (.int .u32 0), (.int .u32 0), (.int .u32 0), (.int .u32 0), (.int .u32 0), (.int .u32 0), (.int .u32 0), (.int .u32 0), (.int .u32 0), (.int .u32 0), (.int .u32 0), (.int .u32 0), (.int .u32 0), (.int .u32 0), (.int .u32 0), (.int .u32 0), (.int .u32 0), (.int .u32 0), (.int .u32 0), (.int .u32 0), (.int .u32 0), (.int .u32 0), (.int .u32 0), (.int .u32 0), (.int .u32 0), (.int .u32 0)] → gS w w' jR → w'.heap.size = w.heap.size + 1 → K (.pointer (some ⟨w.heap.size, 0, none⟩)) w') : cO pg (jB 57) w K := oB (i := Tryd.t57) Z9 rfl hk
theorem SG : (pg).info? 56 = some Tryd.t56 := by kernel_rfl
theorem cI {k : IntKind} {a : Int} (b o : Nat) (w : World) (h0 : 0 ≤ a) (h1 : a < 256) : (iF 57 (.pointer (some ⟨b, o, none⟩)) (.int k a)).run pg w = .ok (.value (.pointer (some ⟨b, o + a.toNat, none⟩))) w := Ti rfl Tryd.underlying57 SG b o h0 (by simpa using h1)
theorem dQ (x : Addr) (w : World) : (eQ 56 (.pointer (some x))).run pg w = Xa (w.cell? x) w (Ui pg 56 x w) := Tx Tryd.underlying56 rfl x w
theorem W6 {b off : Nat} {cs : List Value} {w : World} {v : Value} {K : Value → World → Prop} (ho : jL w b cs) (hv : one v = true) (h : off < cs.length) (hk : ∀ w', jL w' b (cs.set off v) → gS w w' (fun x => x = b) → w'.heap.size = w.heap.size → K undef w') : cO pg (fG 56 (.pointer (some ⟨b, off, none⟩)) v) w K := Ab SG rfl ho hv h hk
theorem bH {k : IntKind} {hi : Int} (b o : Nat) (w : World) (h0 : 0 ≤ hi) (h1 : hi ≤ 256) : (mM 57 (.pointer (some ⟨b, o, none⟩)) none (some (.int k hi)) none).run pg w = .ok (.value (.slice (some (qP ⟨b, o, none⟩ 256 (0) 1)) (hi.toNat - 0) (256 - 0))) w := UH Tryd.underlying57 SG _ h0 (by simpa using h1)
theorem Hi {n : Nat} {ps : List (Nat × Value)} {cells : Array Value} {w : World} (h1 : ¬ n * 1 > 2 ^ 24) (h0 : ¬ n * 1 = 0) (hf : Go.Instr.fill (fun j => some (j * 1, 1)) ((Array.range (n * 1)).map ((Tryd.t56.zero.get!).cells[· % (Tryd.t56.zero.get!).cells.size]!)) ps = some cells) {K : Value → World → Prop} (hk : ∀ w', jL w' w.heap.size cells.toList → gS w w' jR → w'.heap.size = w.heap.size + 1 → K (.slice (some ⟨w.heap.size, 0, none⟩) n n) w') : cO pg (iE 38 n ps) w K := zX (i := Tryd.t56) Tryd.underlying38 SG rfl h1 h0 hf hk
theorem GS {base n m : Nat} {ty : TypeId} {w : World} {v x : Value} {l news : List Value} (h : uE w base 1 v n l) (hx : Cl w 1 x m news) (hone : ∀ y ∈ news, one y = true) (hb : base ≤ w.heap.size) (hbytes : (n + m) * 4 ≤ 140737488355328) {K : Value → World → Prop} (hk : ∀ v' w', uE w' base 1 v' (n + m) (l ++ news) → gS w w' (fun y => base ≤ y) → K v' w') : cO pg (nA .append #[38, 38] ty [v, x]) w K := C7 (i := Tryd.t56) Tryd.underlying38 Tryd.underlying38 SG rfl rfl rfl h hx hone hb (by omega) hbytes (by decide) hk
theorem mY {b off : Nat} {cs : List Value} {w : World} (ho : jL w b cs) (h : off + 2 ≤ cs.length) {K : Value → Prop} (hk : K (.agg ((cs.drop off).take 2).toArray)) : qB pg 42 (.pointer (some ⟨b, off, none⟩)) w K := Mb Tryd.underlying42 rfl VV ho h hk
theorem Ze : (pg).info? 40 = some Tryd.t40 := by kernel_rfl
theorem aO (b o : Nat) (w : World) : (fF 42 (.pointer (some ⟨b, o, none⟩)) 1).run pg w = .ok (.value (.pointer (some ⟨b, o + 1, none⟩))) w := nJ (i := 1) Tryd.underlying42 rfl Ze (by decide) _
theorem aI (x : Addr) (w : World) : (eQ 40 (.pointer (some x))).run pg w = Xa (w.cell? x) w (Ui pg 40 x w) := Tx Tryd.underlying40 rfl x w
theorem aP {ty : TypeId} (x : Option Addr) (n c : Nat) (w : World) : (nA .len #[40] ty [.slice x n c]).run pg w = .ok (.value (.int .i64 n)) w := PQ Tryd.underlying40 x n c
theorem VZ : (pg).info? 65 = some Tryd.t65 := by kernel_rfl
theorem nF {w : World} {K : Value → World → Prop} (hk : ∀ w', jL w' w.heap.size [(.int .i64 0), (.slice none 0 0)] → gS w w' jR → w'.heap.size = w.heap.size + 1 → K (.pointer (some ⟨w.heap.size, 0, none⟩)) w') : cO pg (jB 65) w K := oB (i := Tryd.t65) VZ rfl hk
theorem kV {b off : Nat} {cs : List Value} {w : World} {xs : Array Value} {K : Value → World → Prop} (ho : jL w b cs) (hs : xs.size = 2) (hv : ∀ x ∈ xs.toList, one x = true) (h : off + 2 ≤ cs.length) (hk : ∀ w', jL w' b (fV cs off xs.toList) → gS w w' (fun x => x = b) → w'.heap.size = w.heap.size → K undef w') : cO pg (fG 65 (.pointer (some ⟨b, off, none⟩)) (.agg xs)) w K := pF (v := .agg xs) VZ ho hs hv h hk
theorem mG {b off : Nat} {cs : List Value} {w : World} (ho : jL w b cs) (h : off + 2 ≤ cs.length) : (eQ 65 (.pointer (some ⟨b, off, none⟩))).run pg w = .ok (.value (.agg ((cs.drop off).take 2).toArray)) w := G5 Tryd.underlying65 rfl VZ ho h
theorem aK (b o : Nat) (w : World) : (fF 42 (.pointer (some ⟨b, o, none⟩)) 0).run pg w = .ok (.value (.pointer (some ⟨b, o, none⟩))) w := nJ (i := 0) Tryd.underlying42 rfl CW (by decide) _
theorem V3 : (pg).info? 70 = some Tryd.t70 := by kernel_rfl
theorem aM {k : IntKind} {a : Int} (b o n c : Nat) (w : World) (h0 : 0 ≤ a) (h1 : a < n) : (iF 40 (.slice (some ⟨b, o, none⟩) n c) (.int k a)).run pg w = .ok (.value (.pointer (some ⟨b, o + a.toNat * 3, none⟩))) w := Td rfl Tryd.underlying40 V3 b o n c h0 h1
theorem oY {b off : Nat} {cs : List Value} {w : World} (ho : jL w b cs) (h : off + 3 ≤ cs.length) : (eQ 70 (.pointer (some ⟨b, off, none⟩))).run pg w = .ok (.value (.agg ((cs.drop off).take 3).toArray)) w := G5 Tryd.underlying70 rfl V3 ho h
theorem aT (n0 : Int) (w : World) : (iH 42 [(0, (.int .i64 n0))]).run pg w = .ok (.value (.agg #[(.int .i64 n0), (.slice none 0 0)])) w := by kernel_rfl
theorem TM {w : World} {K : Value → World → Prop} (hk : ∀ w', jL w' w.heap.size [(.int .u8 0), (.int .i64 0), (.int .i64 0)] → gS w w' jR → w'.heap.size = w.heap.size + 1 → K (.pointer (some ⟨w.heap.size, 0, none⟩)) w') : cO pg (jB 32) w K := oB (i := Tryd.t32) S9 rfl hk
theorem SP {b off : Nat} {cs : List Value} {w : World} {xs : Array Value} {K : Value → World → Prop} (ho : jL w b cs) (hs : xs.size = 3) (hv : ∀ x ∈ xs.toList, one x = true) (h : off + 3 ≤ cs.length) (hk : ∀ w', jL w' b (fV cs off xs.toList) → gS w w' (fun x => x = b) → w'.heap.size = w.heap.size → K undef w') : cO pg (fG 32 (.pointer (some ⟨b, off, none⟩)) (.agg xs)) w K := pF (v := .agg xs) S9 ho hs hv h hk
theorem aE (n0 : Int) (n1 : Int) (n2 : Int) (w : World) : (iH 70 [(0, (.int .i64 n0)), (1, (.int .i64 n1)), (2, (.int .i64 n2))]).run pg w = .ok (.value (.agg #[(.int .i64 n0), (.int .i64 n1), (.int .i64 n2)])) w := by kernel_rfl
theorem pX {n : Nat} {ps : List (Nat × Value)} {cells : Array Value} {w : World} (h1 : ¬ n * 3 > 2 ^ 24) (h0 : ¬ n * 3 = 0) (hf : Go.Instr.fill (fun j => some (j * 3, 3)) ((Array.range (n * 3)).map ((Tryd.t70.zero.get!).cells[· % (Tryd.t70.zero.get!).cells.size]!)) ps = some cells) {K : Value → World → Prop} (hk : ∀ w', jL w' w.heap.size cells.toList → gS w w' jR → w'.heap.size = w.heap.size + 1 → K (.slice (some ⟨w.heap.size, 0, none⟩) n n) w') : cO pg (iE 40 n ps) w K := zX (i := Tryd.t70) Tryd.underlying40 V3 rfl h1 h0 hf hk
theorem mN {base n m : Nat} {ty : TypeId} {w : World} {v x : Value} {l news : List Value} (h : uE w base 3 v n l) (hx : Cl w 3 x m news) (hone : ∀ y ∈ news, one y = true) (hb : base ≤ w.heap.size) (hbytes : (n + m) * 24 ≤ 140737488355328) {K : Value → World → Prop} (hk : ∀ v' w', uE w' base 3 v' (n + m) (l ++ news) → gS w w' (fun y => base ≤ y) → K v' w') : cO pg (nA .append #[40, 40] ty [v, x]) w K := C7 (i := Tryd.t70) Tryd.underlying40 Tryd.underlying40 V3 rfl rfl rfl h hx hone hb (by omega) hbytes (by decide) hk
theorem wQ {b off : Nat} {cs : List Value} {w : World} {v : Value} {K : Value → World → Prop} (ho : jL w b cs) (hv : one v = true) (h : off < cs.length) (hk : ∀ w', jL w' b (cs.set off v) → gS w w' (fun x => x = b) → w'.heap.size = w.heap.size → K undef w') : cO pg (fG 40 (.pointer (some ⟨b, off, none⟩)) v) w K := Ab Ze rfl ho hv h hk
theorem cM {k : IntKind} (a : Int) (w : World) : (mL 83 3 (.int k a)).run pg w = .ok (.value (.int .i64 (IntKind.i64.wrap a))) w := FC Tryd.underlying83 Tryd.underlying3
theorem bG (n0 : Int) (w : World) : (iH 51 [(0, (.int .i64 n0))]).run pg w = .ok (.value (.agg #[(.int .i64 n0), (.slice none 0 0)])) w := by kernel_rfl
theorem Gb {base n m : Nat} {ty : TypeId} {w : World} {v x : Value} {l news : List Value} (h : uE w base 1 v n l) (hx : Cl w 1 x m news) (hone : ∀ y ∈ news, one y = true) (hb : base ≤ w.heap.size) (hbytes : (n + m) * 8 ≤ 140737488355328) {K : Value → World → Prop} (hk : ∀ v' w', uE w' base 1 v' (n + m) (l ++ news) → gS w w' (fun y => base ≤ y) → K v' w') : cO pg (nA .append #[30, 30] ty [v, x]) w K := C7 (i := Tryd.t3) Tryd.underlying30 Tryd.underlying30 CW rfl rfl rfl h hx hone hb (by omega) hbytes (by decide) hk
theorem Pa {b off : Nat} {cs : List Value} {w : World} {v : Value} {K : Value → World → Prop} (ho : jL w b cs) (hv : one v = true) (h : off < cs.length) (hk : ∀ w', jL w' b (cs.set off v) → gS w w' (fun x => x = b) → w'.heap.size = w.heap.size → K undef w') : cO pg (fG 30 (.pointer (some ⟨b, off, none⟩)) v) w K := Ab Yi rfl ho hv h hk
theorem cY {k : IntKind} {a : Int} (b o n c : Nat) (w : World) (h0 : 0 ≤ a) (h1 : a < n) : (iF 38 (.slice (some ⟨b, o, none⟩) n c) (.int k a)).run pg w = .ok (.value (.pointer (some ⟨b, o + a.toNat, none⟩))) w := IA rfl Tryd.underlying38 SG b o n c h0 h1
theorem bP {k : IntKind} (a : Int) (w : World) : (mL 56 83 (.int k a)).run pg w = .ok (.value (.int .u64 (IntKind.u64.wrap a))) w := FC Tryd.underlying56 Tryd.underlying83
theorem bY {k : IntKind} {hi : Int} (a : Option Addr) (n c : Nat) (w : World) (h0 : 0 ≤ hi) (h1 : hi ≤ c) : (mM 38 (.slice a n c) none (some (.int k hi)) none).run pg w = .ok (.value (.slice (sL a c (0) 1) (hi.toNat - 0) (c - 0))) w := VE Tryd.underlying38 SG _ n c h0 h1
theorem cP {k : IntKind} (a : Int) (w : World) : (mL 3 83 (.int k a)).run pg w = .ok (.value (.int .u64 (IntKind.u64.wrap a))) w := FC Tryd.underlying3 Tryd.underlying83
theorem aQ (n0 : Int) (w : World) : (iH 70 [(0, (.int .i64 n0))]).run pg w = .ok (.value (.agg #[(.int .i64 n0), (.int .i64 0), (.int .i64 0)])) w := by kernel_rfl
theorem aV (a0 : Option Addr) (l0 c0 : Nat) (w : World) : (iH 42 [(1, (.slice a0 l0 c0))]).run pg w = .ok (.value (.agg #[(.int .i64 0), (.slice a0 l0 c0)])) w := by kernel_rfl
theorem mX {b off : Nat} {cs : List Value} {w : World} (ho : jL w b cs) (h : off + 2 ≤ cs.length) {K : Value → Prop} (hk : K (.agg ((cs.drop off).take 2).toArray)) : qB pg 65 (.pointer (some ⟨b, off, none⟩)) w K := Mb Tryd.underlying65 rfl VZ ho h hk
theorem aU (a0 : Option Addr) (l0 c0 : Nat) (w : World) : (iH 99 [(0, (.slice a0 l0 c0))]).run pg w = .ok (.value (.agg #[(.slice a0 l0 c0), (.int .i64 0)])) w := by kernel_rfl
theorem VR : (pg).info? 99 = some Tryd.t99 := by kernel_rfl
theorem sN {w : World} {K : Value → World → Prop} (hk : ∀ w', jL w' w.heap.size [(.slice none 0 0), (.int .i64 0)] → gS w w' jR → w'.heap.size = w.heap.size + 1 → K (.pointer (some ⟨w.heap.size, 0, none⟩)) w') : cO pg (jB 99) w K := oB (i := Tryd.t99) VR rfl hk
theorem iB {b off : Nat} {cs : List Value} {w : World} {xs : Array Value} {K : Value → World → Prop} (ho : jL w b cs) (hs : xs.size = 2) (hv : ∀ x ∈ xs.toList, one x = true) (h : off + 2 ≤ cs.length) (hk : ∀ w', jL w' b (fV cs off xs.toList) → gS w w' (fun x => x = b) → w'.heap.size = w.heap.size → K undef w') : cO pg (fG 99 (.pointer (some ⟨b, off, none⟩)) (.agg xs)) w K := pF (v := .agg xs) VR ho hs hv h hk
theorem jJ {b off : Nat} {cs : List Value} {w : World} (ho : jL w b cs) (h : off + 2 ≤ cs.length) : (eQ 99 (.pointer (some ⟨b, off, none⟩))).run pg w = .ok (.value (.agg ((cs.drop off).take 2).toArray)) w := G5 Tryd.underlying99 rfl VR ho h
theorem aX  (w : World) : (iH 65 []).run pg w = .ok (.value (.agg #[(.int .i64 0), (.slice none 0 0)])) w := by kernel_rfl
theorem aR (n0 : Int) (w : World) : (iH 65 [(0, (.int .i64 n0))]).run pg w = .ok (.value (.agg #[(.int .i64 n0), (.slice none 0 0)])) w := by kernel_rfl
theorem aD (b o : Nat) (w : World) : (fF 65 (.pointer (some ⟨b, o, none⟩)) 0).run pg w = .ok (.value (.pointer (some ⟨b, o, none⟩))) w := nJ (i := 0) Tryd.underlying65 rfl CW (by decide) _
theorem aB (b o : Nat) (w : World) : (fF 65 (.pointer (some ⟨b, o, none⟩)) 1).run pg w = .ok (.value (.pointer (some ⟨b, o + 1, none⟩))) w := nJ (i := 1) Tryd.underlying65 rfl Yi (by decide) _
theorem aC (b o : Nat) (w : World) : (fF 70 (.pointer (some ⟨b, o, none⟩)) 0).run pg w = .ok (.value (.pointer (some ⟨b, o, none⟩))) w := nJ (i := 0) Tryd.underlying70 rfl CW (by decide) _
theorem ZP : (pg).info? 106 = some Tryd.t106 := by kernel_rfl
theorem TR {w : World} {K : Value → World → Prop} (hk : ∀ w', jL w' w.heap.size [(.int .i64 0), (.int .i64 0), (.int .i64 0), (.int .i64 0), (.int .i64 0), (.int .i64 0), (.int .i64 0), (.int .i64 0), (.int .i64 0), (.int .i64 0), (.int .i64 0), (.int .i64 0), (.int .i64 0), (.int .i64 0), (.int .i64 0), (.int .i64 0), (.int .i64 0), (.int .i64 0), (.int .i64 0), (.int .i64 0), (.int .i64 0), (.int .i64 0), (.int .i64 0), (.int .i64 0), (.int .i64 0), (.int .i64 0), (.int .i64 0), (.int .i64 0), (.int .i64 0), (.int .i64 0), (.int .i64 0), (.int .i64 0), (.int .i64 0), (.int .i64 0), (.int .i64 0), (.int .i64 0), (.int .i64 0), (.int .i64 0), (.int .i64 0), (.int .i64 0), (.int .i64 0), (.int .i64 0), (.int .i64 0), (.int .i64 0), (.int .i64 0), (.int .i64 0), (.int .i64 0), (.int .i64 0), (.int .i64 0), (.int .i64 0), (.int .i64 0), (.int .i64 0), (.int .i64 0), (.int .i64 0), (.int .i64 0), (.int .i64 0), (.int .i64 0), (.int .i64 0), (.int .i64 0), (.int .i64 0), (.int .i64 0), (.int .i64 0), (.int .i64 0), (.int .i64 0), (.int .i64 0), (.int .i64 0), (.int .i64 0), (.int .i64 0), (.int .i64 0), (.int .i64 0), (.int .i64 0), (.int .i64 0), (.int .i64 0), (.int .i64 0), (.int .i64 0), (.int .i64 0), (.int .i64 0), (.int .i64 0), (.int .i64 0), (.int .i64 0), (.int .i64 0), (.int .i64 0), (.int .i64 0), (.int .i64 0), (.int .i64 0), (.int .i64 0), (.int .i64 0), (.int .i64 0), (.int .i64 0), (.int .i64 0), (.int .i64 0), (.int .i64 0), (.int .i64 0), (.int .i64 0), (.int .i64 0), (.int .i64 0), (.int .i64 0), (.int .i64 0), (.int .i64 0), (.int .i64 0), (.int .i64 0), (.int .i64 0), (.int .i64 0), (.int .i64 0), (.int .i64 0), (.int .i64 0), (.int .i64 0), (.int .i64 0), (.int .i64 0), (.int .i64 0), (.int .i64 0), (.int .i64 0), (.int .i64 0), (.int .i64 0), (.int .i64 0), (.int .i64 0), (.int .i64 0), (.int .i64 0), (.int .i64 0), (.int .i64 0), (.int .i64 0), (.int .i64 0), (.int .i64 0), (.int .i64 0), (.int .i64 0), (.int .i64 0), (.int .i64 0), (.int .i64 0), (.int .i64 0), (.int .i64 0), (.int .i64 0), (.int .i64 0), (.int .i64 0), (.int .i64 0), (.int .i64 0), (.int .i64 0), (.int .i64 0), (.int .i64 0), (.int .i64 0), (.int .i64 0), (.int .i64 0), (.int .i64 0), (.int .i64 0), (.int .i64 0), (.int .i64 0), (.int .i64 0), (.int .i64 0), (.int .i64 0), (.int .i64 0), (.int .i64 0), (.int .i64 0), (.int .i64 0), (.int .i64 0), (.int .i64 0), (.int .i64 0), (.int .i64 0), (.int .i64 0), (.int .i64 0), (.int .i64 0), (.int .i64 0), (.int .i64 0), (.int .i64 0), (.int .i64 0), (.int .i64 0), (.int .i64 0), (.int .i64 0), (.int .i64 0), (.int .i64 0), (.int .i64 0), (.int .i64 0), (.int .i64 0), (.int .i64 0), (.int .i64 0), (.int .i64 0), (.int .i64 0), (.int .i64 0), (.int .i64 0), (.int .i64 0), (.int .i64 0), (.int .i64 0), (.int .i64 0), (.int .i64 0), (.int .i64 0), (.int .i64 0), (.int .i64 0), (.int .i64 0), (.int .i64 0), (.int .i64 0), (.int .i64 0), (.int .i64 0), (.int .i64 0), (.int .i64 0), (.int .i64 0), (.int .i64 0), (.int .i64 0), (.int .i64 0), (.int .i64 0), (.int .i64 0), (.int .i64 0), (.int .i64 0), (.int .i64 0), (.int .i64 0), (.int .i64 0), (.int .i64 0), (.int .i64 0), (.int .i64 0), (.int .i64 0), (.int .i64 0), (.int .i64 0), (.int .i64 0), (.int .i64 0), (.int .i64 0), (.int .i64 0), (.int .i64 0), (.int .i64 0), (.int .i64 0), (.int .i64 0), (.int .i64 0), (.int .i64 0), (.int .i64 0), (.int .i64 0), (.int .i64 0), (.int .i64 0), (.int .i64 0), (.int .i64 0), (.int .i64 0), (.int .i64 0), (.int .i64 0), (.int .i64 0), (.int .i64 0), (.int .i64 0), (.int .i64 0), (.int .i64 0), (.int .i64 0), (.int .i64 0), (.int .i64 0), (.int .i64 0), (.int .i64 0), (.int .i64 0), (.int .i64 0), (.int .i64 0), (.int .i64 0), (.int .i64 0), (.int .i64 0), (.int .i64 0), (.int .i64 0), (.int .i64 0), (.int .i64 0), (.int .i64 0), (.int .i64 0), (.int .i64 0), (.int .i64 0), (.int .i64 0), (.int .i64 0), (.int .i64 0), (.int .i64 0)] → gS w w' jR → w'.heap.size = w.heap.size + 1 → K (.pointer (some ⟨w.heap.size, 0, none⟩)) w') : cO pg (jB 106) w K := oB (i := Tryd.t106) ZP rfl hk
theorem dB {k : IntKind} {a : Int} (b o : Nat) (w : World) (h0 : 0 ≤ a) (h1 : a < 256) : (iF 106 (.pointer (some ⟨b, o, none⟩)) (.int k a)).run pg w = .ok (.value (.pointer (some ⟨b, o + a.toNat, none⟩))) w := Ti rfl Tryd.underlying106 CW b o h0 (by simpa using h1)
theorem aH (b o : Nat) (w : World) : (fF 70 (.pointer (some ⟨b, o, none⟩)) 1).run pg w = .ok (.value (.pointer (some ⟨b, o + 1, none⟩))) w := nJ (i := 1) Tryd.underlying70 rfl CW (by decide) _
theorem aG (b o : Nat) (w : World) : (fF 70 (.pointer (some ⟨b, o, none⟩)) 2).run pg w = .ok (.value (.pointer (some ⟨b, o + 2, none⟩))) w := nJ (i := 2) Tryd.underlying70 rfl CW (by decide) _
theorem bM (a0 : Option Addr) (l0 c0 : Nat) (w : World) : (iH 113 [(0, (.slice a0 l0 c0))]).run pg w = .ok (.value (.agg #[(.slice a0 l0 c0), (.int .i64 0)])) w := by kernel_rfl
theorem bB {ox oy : Operand} (x : Option Addr) (w : World) : (eF .eql 81 ox oy (.pointer x) (.pointer none)).run pg w = .ok (.value (.bool x.isNone)) w := Xz Tryd.underlying81 x
theorem Xy : (pg).info? 22 = some Tryd.t22 := by kernel_rfl
theorem bK (b o : Nat) (w : World) : (fF 113 (.pointer (some ⟨b, o, none⟩)) 0).run pg w = .ok (.value (.pointer (some ⟨b, o, none⟩))) w := nJ (i := 0) Tryd.underlying113 rfl Xy (by decide) _
theorem dE (x : Addr) (w : World) : (eQ 22 (.pointer (some x))).run pg w = Xa (w.cell? x) w (Ui pg 22 x w) := Tx Tryd.underlying22 rfl x w
theorem bE (b o : Nat) (w : World) : (fF 113 (.pointer (some ⟨b, o, none⟩)) 1).run pg w = .ok (.value (.pointer (some ⟨b, o + 1, none⟩))) w := nJ (i := 1) Tryd.underlying113 rfl CW (by decide) _
theorem bZ  (w : World) : (iH 116 []).run pg w = .ok (.value (.agg #[(.slice none 0 0), (.int .i64 0)])) w := by kernel_rfl
theorem bD {ox oy : Operand} (x : Option Addr) (w : World) : (eF .eql 91 ox oy (.pointer x) (.pointer none)).run pg w = .ok (.value (.bool x.isNone)) w := Xz Tryd.underlying91 x
theorem bQ (b o : Nat) (w : World) : (fF 116 (.pointer (some ⟨b, o, none⟩)) 1).run pg w = .ok (.value (.pointer (some ⟨b, o + 1, none⟩))) w := nJ (i := 1) Tryd.underlying116 rfl CW (by decide) _
theorem bO (b o : Nat) (w : World) : (fF 116 (.pointer (some ⟨b, o, none⟩)) 0).run pg w = .ok (.value (.pointer (some ⟨b, o, none⟩))) w := nJ (i := 0) Tryd.underlying116 rfl Xy (by decide) _
theorem Ut {b off : Nat} {cs : List Value} {w : World} {v : Value} {K : Value → World → Prop} (ho : jL w b cs) (hv : one v = true) (h : off < cs.length) (hk : ∀ w', jL w' b (cs.set off v) → gS w w' (fun x => x = b) → w'.heap.size = w.heap.size → K undef w') : cO pg (fG 22 (.pointer (some ⟨b, off, none⟩)) v) w K := Ab Xy rfl ho hv h hk
theorem aL (n0 : Int) (a1 : Option Addr) (l1 c1 : Nat) (w : World) : (iH 65 [(0, (.int .i64 n0)), (1, (.slice a1 l1 c1))]).run pg w = .ok (.value (.agg #[(.int .i64 n0), (.slice a1 l1 c1)])) w := by kernel_rfl
theorem dS {ty : TypeId} (x : ByteArray) (w : World) : (nA .len #[9] ty [.string x]).run pg w = .ok (.value (.int .i64 x.size)) w := ZI Tryd.underlying9 x
theorem YZ : (pg).info? 4 = some Tryd.t4 := by kernel_rfl
theorem Vr {n : Nat} {ps : List (Nat × Value)} {cells : Array Value} {w : World} (h1 : ¬ n * 1 > 2 ^ 24) (h0 : ¬ n * 1 = 0) (hf : Go.Instr.fill (fun j => some (j * 1, 1)) ((Array.range (n * 1)).map ((Tryd.t4.zero.get!).cells[· % (Tryd.t4.zero.get!).cells.size]!)) ps = some cells) {K : Value → World → Prop} (hk : ∀ w', jL w' w.heap.size cells.toList → gS w w' jR → w'.heap.size = w.heap.size + 1 → K (.slice (some ⟨w.heap.size, 0, none⟩) n n) w') : cO pg (iE 96 n ps) w K := zX (i := Tryd.t4) Tryd.underlying96 YZ rfl h1 h0 hf hk
theorem KP {base n m : Nat} {ty : TypeId} {w : World} {v x : Value} {l news : List Value} (h : uE w base 1 v n l) (hx : Cl w 1 x m news) (hone : ∀ y ∈ news, one y = true) (hb : base ≤ w.heap.size) (hbytes : (n + m) * 1 ≤ 140737488355328) {K : Value → World → Prop} (hk : ∀ v' w', uE w' base 1 v' (n + m) (l ++ news) → gS w w' (fun y => base ≤ y) → K v' w') : cO pg (nA .append #[96, 96] ty [v, x]) w K := C7 (i := Tryd.t4) Tryd.underlying96 Tryd.underlying96 YZ rfl rfl rfl h hx hone hb (by omega) hbytes (by decide) hk
theorem mH {b off : Nat} {cs : List Value} {w : World} (ho : jL w b cs) (h : off + 2 ≤ cs.length) {K : Value → Prop} (hk : K (.agg ((cs.drop off).take 2).toArray)) : qB pg 99 (.pointer (some ⟨b, off, none⟩)) w K := Mb Tryd.underlying99 rfl VR ho h hk
theorem Z7 : (pg).info? 96 = some Tryd.t96 := by kernel_rfl
theorem aS (b o : Nat) (w : World) : (fF 99 (.pointer (some ⟨b, o, none⟩)) 0).run pg w = .ok (.value (.pointer (some ⟨b, o, none⟩))) w := nJ (i := 0) Tryd.underlying99 rfl Z7 (by decide) _
theorem dM (x : Addr) (w : World) : (eQ 96 (.pointer (some x))).run pg w = Xa (w.cell? x) w (Ui pg 96 x w) := Tx Tryd.underlying96 rfl x w
theorem dL {ty : TypeId} (x : Option Addr) (n c : Nat) (w : World) : (nA .len #[96] ty [.slice x n c]).run pg w = .ok (.value (.int .i64 n)) w := PQ Tryd.underlying96 x n c
theorem aN (b o : Nat) (w : World) : (fF 99 (.pointer (some ⟨b, o, none⟩)) 1).run pg w = .ok (.value (.pointer (some ⟨b, o + 1, none⟩))) w := nJ (i := 1) Tryd.underlying99 rfl CW (by decide) _
theorem bX {k k' : IntKind} {lo hi : Int} (a : Option Addr) (n c : Nat) (w : World) (h0 : 0 ≤ lo) (h1 : lo ≤ hi) (h2 : hi ≤ c) : (mM 96 (.slice a n c) (some (.int k lo)) (some (.int k' hi)) none).run pg w = .ok (.value (.slice (sL a c (lo.toNat) 1) (hi.toNat - lo.toNat) (c - lo.toNat))) w := TL Tryd.underlying96 YZ _ n c h0 h1 h2
theorem cA {k : IntKind} (a : Int) (w : World) : (mL 5 83 (.int k a)).run pg w = .ok (.value (.int .u64 (IntKind.u64.wrap a))) w := FC Tryd.underlying5 Tryd.underlying83
theorem dN {k : IntKind} {a : Int} (b o n c : Nat) (w : World) (h0 : 0 ≤ a) (h1 : a < n) : (iF 96 (.slice (some ⟨b, o, none⟩) n c) (.int k a)).run pg w = .ok (.value (.pointer (some ⟨b, o + a.toNat, none⟩))) w := IA rfl Tryd.underlying96 YZ b o n c h0 h1
theorem eS (x : Addr) (w : World) : (eQ 4 (.pointer (some x))).run pg w = Xa (w.cell? x) w (Ui pg 4 x w) := Tx Tryd.underlying4 rfl x w
end Go.Proofs.YtoepfjgekpdddaaDoor
namespace Go.Pu
set_option linter.unusedVariables false
def iA (p : Int) : Int := if p < 0 then 1 else p
def Sg : Int → List Int → Bool
  | left, [] => left == 0
  | left, p :: r => if p < -1 ∨ left < iA p then false else Sg (left - iA p) r
def pB (ps : List Int) : Int := (ps.map iA).sum
def Tm (log : Int) (ps : List Int) : Bool := decide (5 ≤ log ∧ log ≤ 15 ∧ 1 ≤ ps.length ∧ ps.length ≤ 256 ∧ ps.getLast? ≠ some 0)
def Iw (log : Int) (ps : List Int) : Bool := Tm log ps && Sg (2 ^ log.toNat) ps
theorem rK (p : Int) (ps : List Int) : pB (p :: ps) = iA p + pB ps := by simp [pB]
theorem Bt (a b : List Int) : pB (a ++ b) = pB a + pB b := by simp [pB]
theorem mJ {p : Int} (h : -1 ≤ p) : 0 ≤ iA p := by unfold iA; split <;> omega
theorem Bp {ps : List Int} (h : ∀ p ∈ ps, -1 ≤ p) : 0 ≤ pB ps := by
  induction ps with
  | nil => simp [pB]
  | cons p r ih =>
    rw [rK]
    have := mJ (h p (by simp))
    have := ih fun q hq => h q (List.mem_cons_of_mem _ hq)
    omega
theorem N5 : ∀ {ps : List Int} {left : Int}, Sg left ps = true ↔ (∀ p ∈ ps, -1 ≤ p) ∧ pB ps = left
  | [], left => by simp [Sg, pB]; constructor <;> intro h <;> omega
  | p :: r, left => by
    rw [Sg, rK]
    by_cases h : p < -1 ∨ left < iA p
    · rw [if_pos h]
      constructor
      · intro h; cases h
      · rintro ⟨h1, h2⟩
        have hp := h1 p (by simp)
        have := Bp (ps := r) fun q hq => h1 q (List.mem_cons_of_mem _ hq)
        omega
    · rw [if_neg h, N5]
      constructor
      · rintro ⟨h1, h2⟩
        exact ⟨fun q hq => by rcases List.mem_cons.1 hq with rfl | hq; · omega
                              · exact h1 q hq, by omega⟩
      · rintro ⟨h1, h2⟩
        exact ⟨fun q hq => h1 q (List.mem_cons_of_mem _ hq), by omega⟩
structure Jo (log : Nat) (ps : List Int) : Prop where
  log5 : 5 ≤ log
  log15 : log ≤ 15
  len1 : 1 ≤ ps.length
  len256 : ps.length ≤ 256
  last : ps.getLast? ≠ some 0
  low : ∀ p ∈ ps, -1 ≤ p
  sum : pB ps = 2 ^ log
theorem Jo.b {log : Nat} {ps : List Int} (h : Jo log ps) : Iw log ps = true := by
  unfold Iw Tm
  simp only [Bool.and_eq_true, decide_eq_true_eq]
  have h1 := h.log5
  have h2 := h.log15
  refine ⟨⟨by omega, by omega, h.len1, h.len256, h.last⟩, ?_⟩
  rw [N5, Int.toNat_natCast]
  exact ⟨h.low, h.sum⟩
theorem T0 {log : Nat} (h : log ≤ 15) : (2 : Int) ^ log ≤ 32768 := by
  have : 2 ^ log ≤ 2 ^ 15 := Nat.pow_le_pow_right (by omega) h
  have e : ((2 ^ log : Nat) : Int) = (2 : Int) ^ log := by simp
  omega
theorem Uy (log : Nat) : (1 : Int) ≤ 2 ^ log := by
  have : 1 ≤ 2 ^ log := Nat.one_le_two_pow
  have e : ((2 ^ log : Nat) : Int) = (2 : Int) ^ log := by simp
  omega
theorem RF {ps : List Int} (h : ∀ p ∈ ps, -1 ≤ p) {p : Int} (hp : p ∈ ps) : iA p ≤ pB ps := by
  induction ps with
  | nil => cases hp
  | cons q r ih =>
    rw [rK]
    have h0 := mJ (h q (by simp))
    have h1 := Bp (ps := r) fun q hq => h q (List.mem_cons_of_mem _ hq)
    rcases List.mem_cons.1 hp with rfl | hp
    · omega
    · have := ih (fun q hq => h q (List.mem_cons_of_mem _ hq)) hp
      omega
end Go.Pu
namespace Go.Proofs.YtoepfjgekpdddaaDoor
open Go Go.En Go.Pu
set_option maxRecDepth 4000
set_option linter.unusedSimpArgs false
set_option linter.unusedVariables false
theorem RC (p : Int) (w : World) : hJ pg oE #[.int .i64 p] w (fun r w' => r = .int .i64 (iA p) ∧ w' = w) := by
  refine Nh ?_
  unfold iA
  by_cases h : p < 0
  · have d : decide (p < 0) = true := by simpa using h
    simp (disch := omega) only [Hj, wB, cO, eY, d, aF, and_true, dA]
    rw [if_pos h]
  · have d : decide (p < 0) = false := by simpa using h
    simp (disch := omega) only [Hj, wB, cO, eY, d, aF, and_true, cQ]
    rw [if_neg h]
theorem GK {ps : List Int} (h : 0 < ps.length) : (ps.getLast? = some 0) ↔ ps[ps.length - 1]'(by omega) = 0 := by
  rw [List.getLast?_eq_getElem?, List.getElem?_eq_getElem (by omega)]
  simp
theorem Y5 {log : Int} {sv : Value} {ps : List Int} {w : World} (hs : Sl w sv (ps.map (Value.int .i64))) (hl : ps.length ≤ 9223372036854775807) :
    hJ pg zQ #[.agg #[.int .i64 log, sv]] w (fun r w' => r = .bool (Iw log ps) ∧ gS w w' jR) := by
  refine Rp ?_
  unfold Se FR E7
  obtain ⟨a, c, rfl, hc⟩ := hs.lenI
  refine nR fun w1 o1 x1 s1 => ?_
  have hs0 := hs
  have hs := hs.ext x1 (iQ _)
  have c0 := o1.cell (off := 0)
  have c1 := o1.cell (off := 1)
  simp only [Value.cells, List.getElem?_cons_zero, List.getElem?_cons_succ] at c0 c1
  have no : ¬ (5 ≤ log ∧ log ≤ 15 ∧ 1 ≤ ps.length ∧ ps.length ≤ 256 ∧ ps.getLast? ≠ some 0) → Iw log ps = false := fun h => by
    unfold Iw Tm; rw [decide_eq_false h] <;> rfl
  by_cases h1 : log < 5
  · have d1 : decide (log < 5) = true := by simpa using h1
    simp (disch := omega) only [cO, aW, aF, aJ, Nat.zero_add, eI, c0, cX, eY, d1, fD, eP, if_true, dA, dV]
    exact ⟨by rw [no (by omega)], x1⟩
  have d1 : decide (log < 5) = false := by simpa using h1
  by_cases h2 : 15 < log
  · have d2 : decide (15 < log) = true := by simpa using h2
    simp (disch := omega) only [cO, aW, aF, aJ, Nat.zero_add, eI, c0, cX, eY, d1, eZ, eP, Bool.false_eq_true, if_false, dZ, fJ, d2, fD, if_true, dA, dV]
    exact ⟨by rw [no (by omega)], x1⟩
  have d2 : decide (15 < log) = false := by simpa using h2
  by_cases h3 : ps.length < 1
  · have d3 : decide ((ps.length : Int) < 1) = true := by simp; omega
    simp (disch := omega) only [cO, aW, aF, aJ, Nat.zero_add, eI, c0, cX, eY, d1, eZ, eP, Bool.false_eq_true, if_false, dZ, fJ, d2, dF, c1, dI, d3, fD, if_true, dA, dV]
    exact ⟨by rw [no (by omega)], x1⟩
  have d3 : decide ((ps.length : Int) < 1) = false := by simp; omega
  by_cases h4 : 256 < ps.length
  · have d4 : decide ((256 : Int) < (ps.length : Int)) = true := by simp; omega
    simp (disch := omega) only [cO, aW, aF, aJ, Nat.zero_add, eI, c0, cX, eY, d1, eZ, eP, Bool.false_eq_true, if_false, dZ, fJ, d2, dF, c1, dI, d3, d4, fD, if_true, dA, dV]
    exact ⟨by rw [no (by omega)], x1⟩
  have d4 : decide ((256 : Int) < (ps.length : Int)) = false := by simp; omega
  obtain ⟨b, off, c', e, hc', hcell⟩ := hs.openI (by omega)
  cases e
  have e1 : ((ps.length : Int) - 1) = ((ps.length - 1 : Nat) : Int) := by omega
  have g1 := hcell (ps.length - 1) (by omega)
  by_cases h5 : ps[ps.length - 1]'(by omega) = 0
  · have d5 : (ps[ps.length - 1]'(by omega) == 0) = true := by simpa using h5
    simp (disch := omega) only [cO, aW, aF, aJ, Nat.zero_add, eI, c0, cX, eY, d1, eZ, eP, Bool.false_eq_true, if_false, dZ, fJ, d2, dF, c1, dI, d3, d4, fL, e1, eL, dJ, Int.toNat_natCast, g1, fR, d5, fT, dA]
    exact ⟨by rw [no (fun h => h.2.2.2.2 ((GK (by omega)).2 h5))], x1⟩
  have d5 : (ps[ps.length - 1]'(by omega) == 0) = false := by simpa using h5
  obtain ⟨l, rfl⟩ : ∃ l : Nat, log = l := ⟨log.toNat, by omega⟩
  have hsh : IntKind.i64.wrap (1 * 2 ^ (min l IntKind.i64.bits)) = (2 : Int) ^ l := by
    have : ∀ k : Fin 16, IntKind.i64.wrap (1 * 2 ^ (min k.val IntKind.i64.bits)) = (2 : Int) ^ k.val := by decide
    exact this ⟨l, by omega⟩
  have hyes : Iw (l : Int) ps = Sg (2 ^ l) ps := by
    unfold Iw Tm
    rw [decide_eq_true ⟨by omega, by omega, by omega, by omega, fun h => h5 ((GK (by omega)).1 h)⟩, Int.toNat_natCast] <;> rfl
  simp (disch := omega) only [cO, aW, aF, aJ, Nat.zero_add, eI, c0, cX, eY, d1, eZ, eP, Bool.false_eq_true, if_false, dZ, fJ, d2, dF, c1, dI, d3, d4, fL, e1, eL, dJ, Int.toNat_natCast, g1, fR, d5, fT, hsh, cQ]
  unfold AR FY Ff A8 F7
  simp (disch := omega) only [cO, aJ, Nat.zero_add, aF, dF, c1, cX, dI]
  have hp15 := T0 (log := l) (by omega)
  have hp1 := Uy l
  refine iY.rule (fun m t w' => ∃ (i : Nat) (left : Int), m = ps.length - i ∧ t = (.int .i64 left, .int .i64 i) ∧ i ≤ ps.length ∧ 0 ≤ left ∧ left ≤ 32768 ∧ Sg (2 ^ l) ps = Sg left (ps.drop i) ∧ gS w w' jR) ps.length
    ⟨0, 2 ^ l, rfl, rfl, by omega, by omega, hp15, rfl, x1⟩ ?_
  rintro m t w2 ⟨i, left, rfl, rfl, hi, hl0, hl1, hf, x2⟩
  by_cases hlt : i < ps.length
  · have d6 : decide ((i : Int) < (ps.length : Int)) = true := by simp; omega
    have hsw := hs0.ext x2 (iQ _)
    obtain ⟨b', off', c', e, _, hcell2⟩ := hsw.openI (by omega)
    cases e
    have g2 := hcell2 i hlt
    have hd : ps.drop i = ps[i] :: ps.drop (i + 1) := List.drop_eq_getElem_cons hlt
    rw [hd, Sg] at hf
    by_cases h6 : ps[i] < -1
    · have d7 : decide (ps[i] < -1) = true := by simpa using h6
      simp (disch := omega) only [rJ, cO, eY, d6, dJ, Int.toNat_natCast, fB, eL, aF, eI, g2, cX, d7, fD, eP, if_true, dA, dV]
      rw [if_pos (.inl h6)] at hf
      exact ⟨by rw [hyes, hf], x2⟩
    have d7 : decide (ps[i] < -1) = false := by simpa using h6
    simp (disch := omega) only [rJ, cO, eY, d6, dJ, Int.toNat_natCast, fB, eL, aF, eI, g2, cX, d7, eZ, eP, Bool.false_eq_true, if_false, dZ, dA]
    refine (RC _ _).mono ?_
    rintro r w3 ⟨rfl, rfl⟩
    by_cases h7 : left < iA ps[i]
    · have d8 : decide (left < iA ps[i]) = true := by simpa using h7
      simp (disch := omega) only [fJ, d8, aF, dA]
      rw [if_pos (.inr h7)] at hf
      exact ⟨by rw [hyes, hf], x2⟩
    have d8 : decide (left < iA ps[i]) = false := by simpa using h7
    simp (disch := omega) only [fJ, d8, aF, cQ]
    refine (RC _ _).mono ?_
    rintro r w3 ⟨rfl, rfl⟩
    rw [if_neg (by omega)] at hf
    have hpn := mJ (p := ps[i]) (by omega)
    simp (disch := omega) only [fL, eL, aF]
    exact ⟨ps.length - (i + 1), by omega, i + 1, left - iA ps[i], rfl, rfl, by omega, by omega, by omega, hf, x2⟩
  · have d6 : decide ((i : Int) < (ps.length : Int)) = false := by simp; omega
    rw [List.drop_of_length_le (by omega), Sg] at hf
    unfold rJ A3
    simp (disch := omega) only [cO, eY, d6, fB, eL, aF, fR, cQ]
    exact ⟨by rw [hyes, hf], x2⟩
end Go.Proofs.YtoepfjgekpdddaaDoor
namespace Go.Pu
set_option linter.unusedVariables false
def Yj (n a : Nat) : Nat := (a + n / 2 + n / 8 + 3) % n
def Nw (n high : Nat) : Nat → Nat → Nat
  | 0, a => a
  | f + 1, a => if a < high then a else Nw n high f (Yj n a)
def Ky : List Int → Nat → Nat → List Int → Nat × List Int
  | [], _, high, arr => (high, arr)
  | p :: r, s, high, arr => if p = -1 then Ky r (s + 1) (high - 1) (arr.set (high - 1) s) else Ky r (s + 1) high arr
def nI : List Int → Nat → List Nat
  | [], _ => []
  | p :: r, s => List.replicate p.toNat s ++ nI r (s + 1)
def wS (n high : Nat) : List Nat → Nat → List Int → List Int
  | [], _, arr => arr
  | s :: r, a, arr => wS n high r (Nw n high n (Yj n a)) (arr.set a s)
def tT (x0 : Int) (log : Nat) (ps : List Int) : List Int :=
  wS (2 ^ log) (Ky ps 0 (2 ^ log) (List.replicate (2 ^ log) x0)).1 (nI ps 0) 0 (Ky ps 0 (2 ^ log) (List.replicate (2 ^ log) x0)).2
def pos (n j : Nat) : Nat := (j * (n / 2 + n / 8 + 3)) % n
theorem CK (n j : Nat) : Yj n (pos n j) = pos n (j + 1) := by
  unfold Yj pos
  rw [Nat.add_assoc, Nat.add_assoc, Nat.mod_add_mod, Nat.add_mul, Nat.one_mul, Nat.add_assoc]
theorem Y1 {s : Nat} (hs : s % 2 = 1) : ∀ (k x : Nat), 2 ^ k ∣ s * x → 2 ^ k ∣ x := by
  intro k
  induction k with
  | zero => intro x _; simp
  | succ k ih =>
    intro x h
    have h2 : 2 ∣ s * x := Nat.dvd_trans ⟨2 ^ k, by rw [Nat.pow_succ, Nat.mul_comm]⟩ h
    have hx : x % 2 = 0 := by
      have : (s * x) % 2 = 0 := Nat.mod_eq_zero_of_dvd h2
      rw [Nat.mul_mod, hs, Nat.one_mul, Nat.mod_mod] at this
      exact this
    obtain ⟨y, rfl⟩ : ∃ y, x = 2 * y := ⟨x / 2, by omega⟩
    rw [Nat.pow_succ, Nat.mul_comm (2 ^ k) 2, show s * (2 * y) = 2 * (s * y) by rw [Nat.mul_left_comm]] at h
    rw [Nat.pow_succ, Nat.mul_comm (2 ^ k) 2]
    exact Nat.mul_dvd_mul_left 2 (ih y (Nat.dvd_of_mul_dvd_mul_left (by omega) h))
theorem X7 {log : Nat} (h : 5 ≤ log) : (2 ^ log / 2 + 2 ^ log / 8 + 3) % 2 = 1 := by
  obtain ⟨k, rfl⟩ : ∃ k, log = k + 5 := ⟨log - 5, by omega⟩
  have : 2 ^ (k + 5) = 32 * 2 ^ k := by rw [Nat.pow_add, Nat.mul_comm]
  omega
theorem YA {log : Nat} (h : 5 ≤ log) {i j : Nat} (hij : i < j) (hj : j < 2 ^ log) : pos (2 ^ log) i ≠ pos (2 ^ log) j := by
  unfold pos
  generalize hst : 2 ^ log / 2 + 2 ^ log / 8 + 3 = st
  have hodd : st % 2 = 1 := by rw [← hst]; exact X7 h
  intro e
  have hle : i * st ≤ j * st := Nat.mul_le_mul_right _ (by omega)
  have hd : 2 ^ log ∣ st * (j - i) := by
    rw [Nat.mul_comm, Nat.sub_mul]
    exact Nat.dvd_of_mod_eq_zero (Nat.sub_mod_eq_zero_of_mod_eq e.symm)
  have := Nat.le_of_dvd (by omega) (Y1 hodd _ _ hd)
  omega
theorem Xi : ∀ (n : Nat) (l : List Nat), l.Nodup → (∀ a ∈ l, a < n) → l.length ≤ n := by
  intro n
  induction n with
  | zero => intro l _ h; cases l with
    | nil => simp
    | cons a r => exact absurd (h a (by simp)) (by omega)
  | succ n ih =>
    intro l hd h
    by_cases hn : n ∈ l
    · have := ih (l.erase n) (hd.erase n) (fun a ha => by
        have h1 := h a (List.mem_of_mem_erase ha)
        have h2 : a ≠ n := fun e => by subst e; exact hd.not_mem_erase ha
        omega)
      rw [List.length_erase_of_mem hn] at this
      omega
    · have := ih l hd (fun a ha => by
        have h1 := h a ha
        have h2 : a ≠ n := fun e => by subst e; exact hn ha
        omega)
      omega
theorem SX {n : Nat} {l : List Nat} (hd : l.Nodup) (h : ∀ a ∈ l, a < n) (hl : l.length = n) {a : Nat} (ha : a < n) : a ∈ l := by
  refine Classical.byContradiction fun hn => ?_
  have := Xi n (a :: l) (List.nodup_cons.2 ⟨hn, hd⟩) (fun b hb => (List.mem_cons.1 hb).elim (fun e => e ▸ ha) (h b))
  simp at this; omega
def mI (n high j : Nat) : List Nat := ((List.range' j (n - j)).map (pos n)).filter (· < high)
theorem Ip {n high j : Nat} (h : j < n) : mI n high j = if pos n j < high then pos n j :: mI n high (j + 1) else mI n high (j + 1) := by
  unfold mI
  rw [show n - j = (n - (j + 1)) + 1 from by omega, List.range'_succ, List.map_cons, List.filter_cons]
  simp
theorem NZ (n high : Nat) : mI n high n = [] := by unfold mI; simp
theorem Sd {n : Nat} (h : 0 < n) (j : Nat) : pos n j < n := Nat.mod_lt _ h
theorem Iz (n : Nat) : pos n 0 = 0 := by simp [pos]
theorem aaE (n : Nat) : pos n n = 0 := by simp [pos, Nat.mul_mod_right]
theorem WH {n high : Nat} (hh : 0 < high) : ∀ (d j f : Nat), j + d = n → d ≤ f → Nw n high f (pos n j) = (mI n high j).headD 0 := by
  intro d
  induction d with
  | zero =>
    intro j f hj _
    obtain rfl : j = n := by omega
    rw [NZ, aaE]
    cases f with
    | zero => rfl
    | succ f => unfold Nw; rw [if_pos hh] <;> rfl
  | succ d ih =>
    intro j f hj hf
    obtain ⟨f, rfl⟩ : ∃ g, f = g + 1 := ⟨f - 1, by omega⟩
    rw [Ip (by omega)]
    unfold Nw
    split
    · rfl
    · rw [CK]; exact ih (j + 1) f (by omega) (by omega)
def Ig : List (Nat × Nat) → List Int → List Int
  | [], arr => arr
  | (q, s) :: r, arr => Ig r (arr.set q s)
theorem U0 {n high : Nat} (hh : 0 < high) : ∀ (syms : List Nat) (j a : Nat) (arr : List Int), j ≤ n → syms.length ≤ (mI n high j).length → (syms ≠ [] → (mI n high j).headD 0 = a) →
    wS n high syms a arr = Ig ((mI n high j).zip syms) arr := by
  intro syms
  induction syms with
  | nil => intro j a arr _ _ _; simp [wS, Ig]
  | cons s r ih =>
    intro j a arr hj hlen ha
    have ha := ha (by simp)
    have key : ∀ (d j : Nat), j + d = n → (s :: r).length ≤ (mI n high j).length → (mI n high j).headD 0 = a → ∃ i, i < n ∧ j ≤ i ∧ pos n i = a ∧ mI n high j = a :: mI n high (i + 1) := by
      intro d
      induction d with
      | zero =>
        intro j hj hl _
        obtain rfl : j = n := by omega
        rw [NZ] at hl; simp at hl
      | succ d ihd =>
        intro j hj hl hd
        have e := Ip (high := high) (show j < n by omega)
        by_cases hp : pos n j < high
        · rw [if_pos hp] at e
          rw [e] at hd
          have : pos n j = a := hd
          exact ⟨j, by omega, Nat.le_refl _, this, by rw [e, this]⟩
        · rw [if_neg hp] at e
          rw [e] at hl hd ⊢
          obtain ⟨i, h1, h2, h3, h4⟩ := ihd (j + 1) (by omega) hl hd
          exact ⟨i, h1, by omega, h3, h4⟩
    obtain ⟨i, h1, h2, h3, h4⟩ := key (n - j) j (by omega) hlen ha
    rw [h4] at hlen ⊢
    simp only [List.length_cons] at hlen
    rw [wS, List.zip_cons_cons, Ig]
    refine ih (i + 1) _ _ (by omega) (by omega) (fun hr => ?_)
    rw [← h3, CK]
    exact (WH hh (n - (i + 1)) (i + 1) n (by omega) (by omega)).symm
end Go.Pu
namespace Go.Pu
set_option linter.unusedVariables false
def pL : List Int → Nat → List Nat
  | [], _ => []
  | p :: r, s => if p = -1 then s :: pL r (s + 1) else pL r (s + 1)
def Tn (l : List Nat) : List Int := l.map Int.ofNat
theorem S1 : ∀ (ps : List Int) (s high : Nat) (arr : List Int), (pL ps s).length ≤ high → high ≤ arr.length →
    Ky ps s high arr = (high - (pL ps s).length, arr.take (high - (pL ps s).length) ++ Tn (pL ps s).reverse ++ arr.drop high) := by
  intro ps
  induction ps with
  | nil => intro s high arr h1 h2; simp [Ky, pL, Tn]
  | cons p r ih =>
    intro s high arr h1 h2
    unfold Ky pL
    unfold pL at h1
    by_cases hp : p = -1
    · rw [if_pos hp, if_pos hp]
      rw [if_pos hp] at h1
      simp only [List.length_cons] at h1 ⊢
      rw [ih (s + 1) (high - 1) _ (by omega) (by simp; omega)]
      congr 1
      · omega
      · have hlt : high - 1 < arr.length := by omega
        rw [List.take_set_of_le (by omega), show high - 1 - (pL r (s + 1)).length = high - ((pL r (s + 1)).length + 1) from by omega]
        have : (arr.set (high - 1) (s : Int)).drop (high - 1) = (s : Int) :: arr.drop high := by
          rw [List.drop_eq_getElem_cons (by simp; omega)]
          simp only [List.getElem_set_self]
          rw [show high - 1 + 1 = high from by omega, List.drop_set_of_lt (by omega)]
        rw [this]
        simp [Tn]
    · rw [if_neg hp, if_neg hp]
      rw [if_neg hp] at h1
      exact ih (s + 1) high arr h1 h2
theorem NG : ∀ (l : List (Nat × Nat)) (arr : List Int), (Ig l arr).length = arr.length
  | [], _ => rfl
  | (q, s) :: r, arr => by rw [Ig, NG]; simp
theorem HX {q : Nat} : ∀ (l : List (Nat × Nat)) (arr : List Int), (∀ x ∈ l, x.1 ≠ q) → (Ig l arr)[q]? = arr[q]?
  | [], _, _ => rfl
  | (a, s) :: r, arr, h => by
    rw [Ig, HX r _ fun x hx => h x (List.mem_cons_of_mem _ hx), List.getElem?_set_ne (h (a, s) (by simp))]
theorem WO : ∀ (us : List Nat) (ss : List Nat) (arr : List Int) (t : Nat), us.Nodup → us.length = ss.length → (∀ q ∈ us, q < arr.length) → (ht : t < us.length) → (ht' : t < ss.length) →
    (Ig (us.zip ss) arr)[us[t]]? = some (ss[t] : Int) := by
  intro us
  induction us with
  | nil => intro ss arr t _ _ _ ht; simp at ht
  | cons u us ih =>
    intro ss arr t hd hl hb ht ht'
    cases ss with
    | nil => simp at hl
    | cons x ss =>
      obtain ⟨h1, h2⟩ := List.nodup_cons.1 hd
      rw [List.zip_cons_cons, Ig]
      cases t with
      | zero =>
        simp only [List.getElem_cons_zero]
        rw [HX _ _ (fun y hy => fun e => h1 (by have := (List.of_mem_zip (a := y.1) (b := y.2) hy).1; rw [e] at this; exact this))]
        have : u < arr.length := hb u (by simp)
        simp [this]
      | succ t =>
        simp only [List.getElem_cons_succ]
        exact ih ss _ t h2 (by simpa using hl) (fun q hq => by simpa using hb q (List.mem_cons_of_mem _ hq)) (by simpa using ht) (by simpa using ht')
theorem R6 : ∀ (n : Nat) (l : List Nat), l.Nodup → (∀ a ∈ l, a < n) → l.length = n → l.Perm (List.range n) := by
  intro n
  induction n with
  | zero => intro l _ _ h; rw [List.length_eq_zero_iff.1 h]; exact List.Perm.refl _
  | succ n ih =>
    intro l hd h hl
    have hn : n ∈ l := SX hd h hl (by omega)
    have p1 := List.perm_cons_erase hn
    have p2 := ih (l.erase n) (hd.erase n) (fun a ha => by
      have h1 := h a (List.mem_of_mem_erase ha)
      have h2 : a ≠ n := fun e => by subst e; exact hd.not_mem_erase ha
      omega) (by rw [List.length_erase_of_mem hn]; omega)
    rw [List.range_succ]
    exact p1.trans ((p2.cons n).trans (List.perm_append_singleton n _).symm)
theorem UN : ∀ (ps : List Int) (s : Nat), (∀ p ∈ ps, -1 ≤ p) → ((nI ps s).length : Int) + (pL ps s).length = pB ps := by
  intro ps
  induction ps with
  | nil => intro s _; simp [nI, pL, pB]
  | cons p r ih =>
    intro s h
    have := ih (s + 1) fun q hq => h q (List.mem_cons_of_mem _ hq)
    have hp := h p (by simp)
    rw [rK]
    unfold nI pL iA
    by_cases h1 : p = -1
    · rw [if_pos h1, if_pos (by omega)]; subst h1; simp; omega
    · rw [if_neg h1, if_neg (by omega)]; simp; omega
theorem U1 : ∀ (ps : List Int) (s i : Nat), (nI ps s).count (s + i) = if h : i < ps.length then ps[i].toNat else 0 := by
  intro ps
  induction ps with
  | nil => intro s i; simp [nI]
  | cons p r ih =>
    intro s i
    have low : ∀ (ps : List Int) (s a : Nat), a < s → (nI ps s).count a = 0 := by
      intro ps
      induction ps with
      | nil => intro s a _; simp [nI]
      | cons p r ih =>
        intro s a h
        unfold nI
        rw [List.count_append, ih (s + 1) a (by omega), List.count_replicate]
        simp; omega
    unfold nI
    rw [List.count_append, List.count_replicate]
    cases i with
    | zero => rw [Nat.add_zero, low r (s + 1) s (by omega)]; simp
    | succ i =>
      rw [show s + (i + 1) = s + 1 + i from by omega, ih (s + 1) i]
      have : (s == s + 1 + i) = false := by simp; omega
      rw [this]; simp
theorem VK : ∀ (ps : List Int) (s i : Nat), (pL ps s).count (s + i) = if h : i < ps.length then (if ps[i] = -1 then 1 else 0) else 0 := by
  intro ps
  induction ps with
  | nil => intro s i; simp [pL]
  | cons p r ih =>
    intro s i
    have low : ∀ (ps : List Int) (s a : Nat), a < s → (pL ps s).count a = 0 := by
      intro ps
      induction ps with
      | nil => intro s a _; simp [pL]
      | cons p r ih =>
        intro s a h
        unfold pL
        split
        · rw [List.count_cons, ih (s + 1) a (by omega)]; simp; omega
        · exact ih (s + 1) a (by omega)
    unfold pL
    cases i with
    | zero =>
      rw [Nat.add_zero]
      by_cases h : p = -1
      · rw [if_pos h, List.count_cons, low r (s + 1) s (by omega)]; simp [h]
      · rw [if_neg h, low r (s + 1) s (by omega)]; simp [h]
    | succ i =>
      have e : s + (i + 1) = s + 1 + i := by omega
      by_cases h : p = -1
      · rw [if_pos h, List.count_cons, e, ih (s + 1) i]
        have : (s == s + 1 + i) = false := by simp; omega
        rw [this]; simp
      · rw [if_neg h, e, ih (s + 1) i]; simp
theorem Yz : ∀ (ps : List Int) (s i : Nat) (h : i < ps.length), ps[i] = -1 → (pL ps s)[(ps.take i).count (-1)]? = some (s + i) := by
  intro ps
  induction ps with
  | nil => intro s i h; simp at h
  | cons p r ih =>
    intro s i h hp
    unfold pL
    cases i with
    | zero => simp only [List.getElem_cons_zero] at hp; rw [if_pos hp]; simp
    | succ i =>
      simp only [List.getElem_cons_succ] at hp
      have := ih (s + 1) i (by simpa using h) hp
      rw [List.take_succ_cons, List.count_cons]
      by_cases h1 : p = -1
      · rw [if_pos h1]; simp only [h1, beq_self_eq_true, if_true, List.getElem?_cons_succ]; rw [this]; congr 1; omega
      · rw [if_neg h1]
        have : (p == -1) = false := by simpa using h1
        rw [this]; simp only [Bool.false_eq_true, if_false, Nat.add_zero]
        rw [‹(pL r (s + 1))[_]? = _›]; congr 1; omega
theorem JN {log high : Nat} (hl : 5 ≤ log) (hh : high ≤ 2 ^ log) : (mI (2 ^ log) high 0).Nodup ∧ (∀ a ∈ mI (2 ^ log) high 0, a < high) ∧ (mI (2 ^ log) high 0).length = high := by
  have hn : 0 < 2 ^ log := Nat.two_pow_pos log
  have hnd : ((List.range (2 ^ log)).map (pos (2 ^ log))).Nodup := by
    rw [List.nodup_iff_pairwise_ne, List.pairwise_map]
    refine List.pairwise_iff_getElem.2 fun i j hi hj hij => ?_
    simp only [List.length_range] at hi hj
    simp only [List.getElem_range]
    exact YA hl hij hj
  have hp := R6 (2 ^ log) _ hnd (fun a ha => by
    obtain ⟨j, _, rfl⟩ := List.mem_map.1 ha
    exact Sd hn j) (by simp)
  unfold mI
  rw [Nat.sub_zero, ← List.range_eq_range']
  refine ⟨hnd.filter _, fun a ha => by simpa using (List.mem_filter.1 ha).2, ?_⟩
  rw [(hp.filter _).length_eq]
  have : ∀ m : Nat, high ≤ m → ((List.range m).filter (· < high)).length = high := by
    intro m
    induction m with
    | zero => intro h; simp; omega
    | succ m ih =>
      intro h
      rw [List.range_succ, List.filter_append, List.length_append]
      by_cases hm : high ≤ m
      · rw [ih hm]; simp; omega
      · have : high = m + 1 := by omega
        subst this
        have : (List.range m).filter (fun x => decide (x < m + 1)) = List.range m := List.filter_eq_self.2 fun a ha => by have := List.mem_range.1 ha; simp; omega
        rw [this]; simp
  exact this _ hh
structure Zj (log : Nat) (ps : List Int) (S : List Int) : Prop where
  len : S.length = 2 ^ log
  cnt : ∀ s (h : s < ps.length), S.count (s : Int) = (iA ps[s]).toNat
  rng : ∀ x ∈ S, ∃ s : Nat, s < ps.length ∧ x = s
  top : ∀ s (h : s < ps.length), ps[s] = -1 → S[2 ^ log - 1 - (ps.take s).count (-1)]? = some (s : Int)
theorem ST (l : List Nat) (s : Nat) : (Tn l).count (s : Int) = l.count s := by
  induction l with
  | nil => rfl
  | cons a r ih =>
    show List.count _ (Int.ofNat a :: Tn r) = _
    rw [List.count_cons, List.count_cons, ih]
    congr 1
    by_cases h : a = s
    · subst h; simp
    · simp [h]; omega
theorem XF : ∀ (ps : List Int) (s : Nat), ∀ x ∈ nI ps s, s ≤ x ∧ x < s + ps.length := by
  intro ps
  induction ps with
  | nil => intro s x h; simp [nI] at h
  | cons p r ih =>
    intro s x h
    unfold nI at h
    rcases List.mem_append.1 h with h | h
    · have := (List.mem_replicate.1 h).2; simp; omega
    · have := ih (s + 1) x h; simp; omega
theorem Xr : ∀ (ps : List Int) (s : Nat), ∀ x ∈ pL ps s, s ≤ x ∧ x < s + ps.length := by
  intro ps
  induction ps with
  | nil => intro s x h; simp [pL] at h
  | cons p r ih =>
    intro s x h
    unfold pL at h
    split at h
    · rcases List.mem_cons.1 h with rfl | h
      · simp
      · have := ih (s + 1) x h; simp; omega
    · have := ih (s + 1) x h; simp; omega
theorem Iy {log : Nat} {ps : List Int} (h : Jo log ps) (x0 : Int) :
    ∃ low : List Int, tT x0 log ps = low ++ Tn (pL ps 0).reverse ∧ low.Perm (Tn (nI ps 0)) ∧ ((pL ps 0).length + low.length = 2 ^ log) ∧
      (∀ t (h1 : t < (mI (2 ^ log) (nI ps 0).length 0).length) (h2 : t < (nI ps 0).length), low[(mI (2 ^ log) (nI ps 0).length 0)[t]]? = some ((nI ps 0)[t] : Int)) := by
  have hrl := UN ps 0 h.low
  rw [h.sum] at hrl
  have hpow : ((2 ^ log : Nat) : Int) = (2 : Int) ^ log := by simp
  obtain ⟨m, hm⟩ : ∃ m, m = (pL ps 0).length := ⟨_, rfl⟩
  obtain ⟨hi, hhi⟩ : ∃ x, x = (nI ps 0).length := ⟨_, rfl⟩
  rw [← hm, ← hhi] at hrl
  have hsum : hi + m = 2 ^ log := by omega
  have ht := S1 ps 0 (2 ^ log) (List.replicate (2 ^ log) x0) (by omega) (by simp)
  rw [← hm, show 2 ^ log - m = hi from by omega] at ht
  have e2 : (List.replicate (2 ^ log) x0).take hi = List.replicate hi x0 := by rw [List.take_replicate]; congr 1; omega
  have e3 : (List.replicate (2 ^ log) x0).drop (2 ^ log) = [] := by simp
  rw [e2, e3, List.append_nil] at ht
  unfold tT
  rw [ht]
  simp only
  obtain ⟨u1, u2, u3⟩ := JN (high := hi) h.log5 (by omega)
  by_cases h0 : hi = 0
  · have hr : nI ps 0 = [] := List.length_eq_zero_iff.1 (by omega)
    rw [hr, h0]
    refine ⟨[], by simp [wS], by simp [Tn], by simp; omega, fun t _ h2 => by simp at h2⟩
  · have hp := U0 (n := 2 ^ log) (high := hi) (by omega) (nI ps 0) 0 0 (List.replicate hi x0 ++ Tn (pL ps 0).reverse) (by omega) (by rw [u3]; omega) (fun _ => by
      rw [Ip (Nat.two_pow_pos log), Iz, if_pos (by omega)] <;> rfl)
    rw [hp]
    generalize hU : mI (2 ^ log) hi 0 = U at *
    have hb : ∀ q ∈ U, q < (List.replicate hi x0 ++ Tn (pL ps 0).reverse).length := fun q hq => by have := u2 q hq; simp; omega
    obtain ⟨R, hR⟩ : ∃ R, R = Ig (U.zip (nI ps 0)) (List.replicate hi x0 ++ Tn (pL ps 0).reverse) := ⟨_, rfl⟩
    have hRl : R.length = hi + m := by rw [hR, NG]; simp [Tn, hm]
    have hRd : R.drop hi = Tn (pL ps 0).reverse := by
      apply List.ext_getElem?
      intro i
      rw [List.getElem?_drop, hR, HX _ _ (fun x hx => by
        have := u2 _ (List.of_mem_zip (a := x.1) (b := x.2) hx).1
        omega), List.getElem?_append_right (by simp)]
      simp
    have hget : ∀ t (h1 : t < U.length) (h2 : t < (nI ps 0).length), R[U[t]]? = some ((nI ps 0)[t] : Int) := fun t h1 h2 => by
      rw [hR]; exact WO U _ _ t u1 (by omega) hb h1 h2
    rw [← hR]
    refine ⟨R.take hi, by rw [← hRd, List.take_append_drop], ?_, by rw [List.length_take]; omega, fun t h1 h2 => ?_⟩
    · have p1 : (U.map fun q => R.getD q 0).Perm ((List.range hi).map fun q => R.getD q 0) := (R6 hi U u1 u2 u3).map _
      have p2 : (U.map fun q => R.getD q 0) = Tn (nI ps 0) := by
        apply List.ext_getElem
        · simp [Tn]; omega
        · intro t h1 h2
          simp only [List.length_map] at h1
          have := hget t h1 (by omega)
          simp only [List.getElem_map, Tn, List.getD_eq_getElem?_getD, this]
          rfl
      have p3 : ((List.range hi).map fun q => R.getD q 0) = R.take hi := by
        apply List.ext_getElem
        · simp; omega
        · intro q h1 h2
          simp only [List.length_map, List.length_range] at h1
          simp only [List.getElem_map, List.getElem_range, List.getElem_take, List.getD_eq_getElem?_getD]
          rw [List.getElem?_eq_getElem (by omega)] <;> rfl
      rw [p2, p3] at p1
      exact p1.symm
    · subst hhi
      simp only [hU] at h1 ⊢
      have := hget t h1 h2
      rw [List.getElem?_take_of_lt (u2 _ (List.getElem_mem h1))]
      exact this
theorem GJ {log : Nat} {ps : List Int} (h : Jo log ps) (x0 : Int) : Zj log ps (tT x0 log ps) := by
  obtain ⟨low, e, hp, hl, _⟩ := Iy h x0
  rw [e]
  refine ⟨by simp [Tn]; omega, fun s hs => ?_, fun x hx => ?_, fun s hs hps => ?_⟩
  · rw [List.count_append, hp.count_eq, ST, ST, List.count_reverse]
    have h1 := U1 ps 0 s
    have h2 := VK ps 0 s
    rw [Nat.zero_add] at h1 h2
    rw [h1, h2, dif_pos hs, dif_pos hs]
    have := h.low _ (List.getElem_mem hs)
    unfold iA
    split <;> split <;> omega
  · rcases List.mem_append.1 hx with hx | hx
    · have hx := hp.mem_iff.1 hx
      obtain ⟨s, hs, rfl⟩ := List.mem_map.1 hx
      exact ⟨s, by have := XF ps 0 s hs; omega, rfl⟩
    · obtain ⟨s, hs, rfl⟩ := List.mem_map.1 hx
      exact ⟨s, by have := Xr ps 0 s (List.mem_reverse.1 hs); omega, rfl⟩
  · have h1 := Yz ps 0 s hs hps
    rw [Nat.zero_add] at h1
    have hlt : (ps.take s).count (-1) < (pL ps 0).length := by
      rcases Nat.lt_or_ge ((ps.take s).count (-1)) (pL ps 0).length with h | h
      · exact h
      · rw [List.getElem?_eq_none h] at h1; cases h1
    rw [List.getElem?_append_right (by omega)]
    unfold Tn
    rw [List.getElem?_map, List.getElem?_reverse (by omega), show (pL ps 0).length - 1 - (2 ^ log - 1 - List.count (-1) (List.take s ps) - low.length) = (ps.take s).count (-1) from by omega, h1]
    rfl
theorem WF {log : Nat} {ps : List Int} (h : Jo log ps) (x y : Int) : tT x log ps = tT y log ps := by
  obtain ⟨a, e1, p1, l1, g1⟩ := Iy h x
  obtain ⟨b, e2, p2, l2, g2⟩ := Iy h y
  rw [e1, e2]
  congr 1
  apply List.ext_getElem?
  intro q
  have hrl : (nI ps 0).length = a.length := by rw [p1.length_eq]; simp [Tn]
  by_cases hq : q < a.length
  · obtain ⟨u1, u2, u3⟩ := JN (high := (nI ps 0).length) h.log5 (by omega)
    have hm := SX u1 u2 u3 (a := q) (by omega)
    obtain ⟨t, ht, rfl⟩ := List.getElem_of_mem hm
    rw [g1 t ht (by omega), g2 t ht (by omega)]
  · rw [List.getElem?_eq_none (by omega), List.getElem?_eq_none (by omega)]
end Go.Pu
namespace Go.Pu
set_option linter.unusedVariables false
def bl (k : Nat) : Nat := if k = 0 then 0 else k.log2 + 1
theorem YM : bl 0 = 0 := rfl
theorem QC (k : Nat) : k < 2 ^ bl k := by
  unfold bl
  split
  · subst_vars; simp
  · exact Nat.lt_log2_self
theorem QE {k : Nat} (h : k ≠ 0) : 2 ^ (bl k - 1) ≤ k := by
  unfold bl
  rw [if_neg h, Nat.add_sub_cancel]
  exact Nat.log2_self_le h
theorem KH {k : Nat} (h : k ≠ 0) : 1 ≤ bl k := by unfold bl; rw [if_neg h]; omega
theorem Bw {k n : Nat} (h : k < 2 ^ n) : bl k ≤ n := by
  by_cases h0 : k = 0
  · subst h0; simp [bl]
  · rcases Nat.lt_or_ge n (bl k) with hh | hh
    · have h1 := QE h0
      have := Nat.pow_le_pow_right (n := 2) (by omega) (show n ≤ bl k - 1 by omega)
      omega
    · exact hh
theorem Y7 {k n : Nat} (h1 : 2 ^ n ≤ k) (h2 : k < 2 ^ (n + 1)) : bl k = n + 1 := by
  have h0 : k ≠ 0 := by have := Nat.two_pow_pos n; omega
  have a := Bw h2
  have b := QC k
  rcases Nat.lt_or_ge (bl k) (n + 1) with h | h
  · have := Nat.pow_le_pow_right (n := 2) (by omega) (show bl k ≤ n by omega)
    omega
  · omega
def ZZ (ps S : List Int) (i : Nat) : Nat := (iA (ps.getD (S.getD i 0).toNat 0)).toNat + (S.take i).count (S.getD i 0)
def Cv (log : Nat) (x : Int) (k : Nat) : Int × Int × Int := (x, ((log + 1 - bl k : Nat) : Int), ((k * 2 ^ (log + 1 - bl k) : Nat) : Int) - 2 ^ log)
def Qz (log : Nat) (ps S : List Int) (i : Nat) : Int × Int × Int := Cv log (S.getD i 0) (ZZ ps S i)
def mD (log : Nat) (ps : List Int) : List (Int × Int × Int) := (List.range (2 ^ log)).map (Qz log ps (tT 0 log ps))
theorem mO (log : Nat) (ps : List Int) : (mD log ps).length = 2 ^ log := by simp [mD]
theorem SL {S : List Int} {i : Nat} (h : i < S.length) : (S.take i).count S[i] + 1 ≤ S.count S[i] := by
  have e : S = S.take i ++ S[i] :: S.drop (i + 1) := by rw [← List.drop_eq_getElem_cons h, List.take_append_drop]
  have : S.count S[i] = (S.take i ++ S[i] :: S.drop (i + 1)).count S[i] := by rw [← e]
  rw [this, List.count_append, List.count_cons]; simp
theorem St {log : Nat} {ps : List Int} (h : Jo log ps) {s : Nat} (hs : s < ps.length) : (iA ps[s]).toNat ≤ 2 ^ log := by
  have := RF h.low (List.getElem_mem hs)
  rw [h.sum] at this
  have hpow : ((2 ^ log : Nat) : Int) = (2 : Int) ^ log := by simp
  rw [← hpow] at this
  exact Int.toNat_le.2 this
theorem VJ {log : Nat} {ps S : List Int} (h : Jo log ps) (L : Zj log ps S) {i : Nat} (hi : i < 2 ^ log) :
    ∃ s : Nat, ∃ hs : s < ps.length, S.getD i 0 = (s : Int) ∧ 1 ≤ (iA ps[s]).toNat ∧ (iA ps[s]).toNat ≤ 2 ^ log ∧ ZZ ps S i = (iA ps[s]).toNat + (S.take i).count (s : Int) ∧ (S.take i).count (s : Int) < (iA ps[s]).toNat := by
  have hil : i < S.length := by rw [L.len]; exact hi
  have hg : S.getD i 0 = S[i] := by rw [List.getD_eq_getElem?_getD, List.getElem?_eq_getElem hil] <;> rfl
  obtain ⟨s, hs, e⟩ := L.rng _ (List.getElem_mem hil)
  have hc := SL hil
  rw [e, L.cnt s hs] at hc
  refine ⟨s, hs, by rw [hg, e], by omega, St h hs, ?_, by omega⟩
  unfold ZZ
  rw [hg, e, Int.toNat_natCast, List.getD_eq_getElem?_getD, List.getElem?_eq_getElem hs] <;> rfl
theorem Xc {log k : Nat} (h1 : 1 ≤ k) (h2 : k < 2 ^ (log + 1)) : 2 ^ log ≤ k * 2 ^ (log + 1 - bl k) ∧ (k + 1) * 2 ^ (log + 1 - bl k) ≤ 2 ^ (log + 1) ∧ bl k ≤ log + 1 ∧ 1 ≤ bl k := by
  have a := Bw h2
  have b := KH (k := k) (by omega)
  have c := QE (k := k) (by omega)
  have d := QC k
  refine ⟨?_, ?_, a, b⟩
  · calc 2 ^ log = 2 ^ (bl k - 1) * 2 ^ (log + 1 - bl k) := by rw [← Nat.pow_add]; congr 1; omega
      _ ≤ k * 2 ^ (log + 1 - bl k) := Nat.mul_le_mul_right _ c
  · calc (k + 1) * 2 ^ (log + 1 - bl k) ≤ 2 ^ bl k * 2 ^ (log + 1 - bl k) := Nat.mul_le_mul_right _ d
      _ = 2 ^ (log + 1) := by rw [← Nat.pow_add]; congr 1; omega
theorem VT (n j : Nat) (hn : 0 < n) : ∃ d, d < n ∧ pos n (j + d) = 0 := by
  refine ⟨(n - j % n) % n, Nat.mod_lt _ hn, ?_⟩
  unfold pos
  have : (j + (n - j % n) % n) % n = 0 := by
    rw [Nat.add_mod_mod]
    have h1 := Nat.mod_lt j hn
    have h2 := Nat.div_add_mod j n
    have : j + (n - j % n) = n * (j / n + 1) := by
      rw [Nat.mul_add, Nat.mul_one]
      generalize n * (j / n) = y at *
      generalize j % n = r at *
      omega
    rw [this, Nat.mul_mod_right]
  rw [Nat.mul_mod, this, Nat.zero_mul, Nat.zero_mod]
theorem IB {n high : Nat} (hn : 0 < n) (hh : 0 < high) (j : Nat) : ∃ d, (∀ e, e < d → high ≤ pos n (j + e)) ∧ pos n (j + d) < high ∧ Nw n high n (pos n j) = pos n (j + d) := by
  obtain ⟨D, hD, h0⟩ := VT n j hn
  have key : ∀ (D f j : Nat), D ≤ f → pos n (j + D) < high → ∃ d, (∀ e, e < d → high ≤ pos n (j + e)) ∧ pos n (j + d) < high ∧ Nw n high f (pos n j) = pos n (j + d) := by
    intro D
    induction D with
    | zero =>
      intro f j _ h
      refine ⟨0, fun e he => by omega, h, ?_⟩
      rw [Nat.add_zero] at h ⊢
      cases f with
      | zero => rfl
      | succ f => unfold Nw; rw [if_pos h]
    | succ D ih =>
      intro f j hf h
      obtain ⟨f, rfl⟩ : ∃ g, f = g + 1 := ⟨f - 1, by omega⟩
      by_cases hj : pos n j < high
      · exact ⟨0, fun e he => by omega, hj, by unfold Nw; rw [if_pos hj] <;> rfl⟩
      · obtain ⟨d, h1, h2, h3⟩ := ih f (j + 1) (by omega) (by rw [show j + 1 + D = j + (D + 1) from by omega]; exact h)
        refine ⟨d + 1, fun e he => ?_, by rw [show j + (d + 1) = j + 1 + d from by omega]; exact h2, ?_⟩
        · cases e with
          | zero => rw [Nat.add_zero]; omega
          | succ e => rw [show j + (e + 1) = j + 1 + e from by omega]; exact h1 e (by omega)
        · unfold Nw; rw [if_neg hj, CK, h3]; congr 1; omega
  exact key D n j (by omega) (by rw [h0]; exact hh)
theorem QF {log : Nat} {ps : List Int} (h : Jo log ps) (x0 : Int) : ∃ arr, Ky ps 0 (2 ^ log) (List.replicate (2 ^ log) x0) = ((nI ps 0).length, arr) ∧ arr.length = 2 ^ log ∧ (pL ps 0).length + (nI ps 0).length = 2 ^ log ∧ tT x0 log ps = wS (2 ^ log) (nI ps 0).length (nI ps 0) 0 arr := by
  have hrl := UN ps 0 h.low
  rw [h.sum] at hrl
  have hpow : ((2 ^ log : Nat) : Int) = (2 : Int) ^ log := by simp
  have hsum : (pL ps 0).length + (nI ps 0).length = 2 ^ log := by omega
  have ht := S1 ps 0 (2 ^ log) (List.replicate (2 ^ log) x0) (by omega) (by simp)
  rw [show 2 ^ log - (pL ps 0).length = (nI ps 0).length from by omega] at ht
  refine ⟨_, ht, ?_, hsum, ?_⟩
  · simp [Tn]; omega
  · unfold tT; rw [ht]
end Go.Pu
namespace Go.En
open Go
set_option linter.unusedVariables false
section
variable {P : Program} {w : World} {t e : TypeId}
theorem Ue {i : TypeInfo} (hu : P.underlying t = some (.slice e)) (hi : P.info? e = some i)
    {K : Value → World → Prop} (hk : ∀ w', jL w' w.heap.size [] → gS w w' jR → w'.heap.size = w.heap.size + 1 → K (.slice (some ⟨w.heap.size, 0, none⟩) 0 0) w') :
    cO P (iE t 0 []) w K := by
  have : (iE t 0 []).run P w = .ok (.value (.slice (some ⟨w.heap.size, 0, none⟩) 0 0)) (w.alloc (.cells ([] : List Value).toArray e)) := by
    unfold iE; rw [pU]
    have h1 : ¬ (0 > 2 ^ 24) := by omega
    have e : ∀ f : Nat → Value, Array.map f (Array.range 0) = #[] := fun f => by simp
    simp only [Instr.buildSlice, underlying, pure_bind, Sem.run_bind, run_program, Result.andThen_ok, hu, Sem.run_pure, kO hi, Nat.zero_mul, h1, if_false, if_true, newRow, run_newObj, Instr.fill, e]
    rfl
  unfold cO
  rw [this]
  exact hk _ (jL.alloc _ _ _) (gS.alloc _ _ _) (by simp)
def At (v : Value) (b : Nat) : Prop := ∀ M : Nat → Prop, ¬ M b → ¬ Vy v M
theorem At.nil (c b : Nat) (a : Option Addr) : At (.slice a 0 c) b := fun M h => by unfold Vy; split <;> simp_all
theorem At.at (b o n c : Nat) : At (.slice (some ⟨b, o, none⟩) n c) b := fun M h => by
  unfold Vy; split
  · rename_i x m _ e
    obtain ⟨rfl, _⟩ : (⟨b, o, none⟩ : Addr) = x ∧ _ := by simpa using e
    exact h
  · simp
theorem uE.at' {w : World} {base sz n : Nat} {v : Value} {l : List Value} (h : uE w base sz v n l) (hb : base < w.heap.size) : ∃ b, base ≤ b ∧ b < w.heap.size ∧ At v b := by
  rcases h.2 with ⟨rfl, rfl⟩ | ⟨b, c, rest, rfl, h2, h3, h4, h5⟩
  · exact ⟨base, Nat.le_refl _, hb, At.nil _ _ _⟩
  · exact ⟨b, h2, h3.lt, At.at _ _ _ _⟩
end
end Go.En
namespace Go.Proofs.YtoepfjgekpdddaaDoor
open Go Go.En Go.Pu
set_option maxRecDepth 4000
set_option linter.unusedSimpArgs false
set_option linter.unusedVariables false
theorem IG (n : Nat) (hn : n ≤ 40) (w : World) : hJ pg nC #[.int .i64 n] w (fun r w' => r = .int .i64 (2 ^ n) ∧ w' = w) := by
  refine OK ?_
  unfold QG DK Dr yF Dc D8 yS D0
  refine iY.rule (fun m t w' => ∃ i : Nat, m = n - i ∧ t = (.int .i64 (2 ^ i), .int .i64 i) ∧ i ≤ n ∧ w' = w) n ⟨0, rfl, rfl, by omega, rfl⟩ ?_
  rintro m t w' ⟨i, rfl, rfl, hi, rfl⟩
  by_cases hlt : i < n
  · have d1 : decide ((i : Int) < (n : Int)) = true := by simp; omega
    have d2 : decide ((i : Int) < 40) = true := by simp; omega
    have hb : (2 : Int) ^ i ≤ 549755813888 := by
      have : 2 ^ i ≤ 2 ^ 39 := Nat.pow_le_pow_right (by omega) (by omega)
      have e : ((2 ^ i : Nat) : Int) = (2 : Int) ^ i := by simp
      omega
    have hp := Uy i
    simp (disch := omega) only [sP, cO, eY, d1, fX, eL, fB, aF, fK, eP, if_true, dZ, d2, and_true, dA]
    exact ⟨n - (i + 1), by omega, i + 1, rfl, by rw [Int.pow_succ] <;> rfl, by omega⟩
  · have d1 : decide ((i : Int) < (n : Int)) = false := by simp; omega
    have : i = n := by omega
    subst this
    simp (disch := omega) only [sP, cO, eY, d1, fX, fB, eL, aF, yY, true_and, fM, eP, Bool.false_eq_true, if_false, cQ, dV]
def VD : ByteArray := ⟨#[0, 1, 2, 2, 3, 3, 3, 3, 4, 4, 4, 4, 4, 4, 4, 4, 5, 5, 5, 5, 5, 5, 5, 5, 5, 5, 5, 5, 5, 5, 5, 5, 6, 6, 6, 6, 6, 6, 6, 6, 6, 6, 6, 6, 6, 6, 6, 6, 6, 6, 6, 6, 6, 6, 6, 6, 6, 6, 6, 6, 6, 6, 6, 6, 7, 7, 7, 7, 7, 7, 7, 7, 7, 7, 7, 7, 7, 7, 7, 7, 7, 7, 7, 7, 7, 7, 7, 7, 7, 7, 7, 7, 7, 7, 7, 7, 7, 7, 7, 7, 7, 7, 7, 7, 7, 7, 7, 7, 7, 7, 7, 7, 7, 7, 7, 7, 7, 7, 7, 7, 7, 7, 7, 7, 7, 7, 7, 7, 8, 8, 8, 8, 8, 8, 8, 8, 8, 8, 8, 8, 8, 8, 8, 8, 8, 8, 8, 8, 8, 8, 8, 8, 8, 8, 8, 8, 8, 8, 8, 8, 8, 8, 8, 8, 8, 8, 8, 8, 8, 8, 8, 8, 8, 8, 8, 8, 8, 8, 8, 8, 8, 8, 8, 8, 8, 8, 8, 8, 8, 8, 8, 8, 8, 8, 8, 8, 8, 8, 8, 8, 8, 8, 8, 8, 8, 8, 8, 8, 8, 8, 8, 8, 8, 8, 8, 8, 8, 8, 8, 8, 8, 8, 8, 8, 8, 8, 8, 8, 8, 8, 8, 8, 8, 8, 8, 8, 8, 8, 8, 8, 8, 8, 8, 8, 8, 8, 8, 8, 8, 8, 8, 8, 8, 8, 8, 8]⟩
theorem OY : VD.size = 256 := by decide
set_option maxRecDepth 100000 in
theorem XX (x : Nat) (h : x < 256) : (VD[x]'(by rw [OY]; exact h)).toNat = bl x := by
  have : ∀ k : Fin 256, (VD.data[k.val]!).toNat = bl k.val := by decide +kernel
  have h2 := this ⟨x, h⟩
  simp only at h2
  rw [← h2]
  have hs : x < VD.data.size := by have := OY; exact (show VD.data.size = 256 from this) ▸ h
  rw [getElem!_pos VD.data x hs]
  rfl
theorem RM {x j : Nat} (h : 2 ^ j ≤ x) : bl x = bl (x / 2 ^ j) + j := by
  have hp := Nat.two_pow_pos j
  have h0 : x / 2 ^ j ≠ 0 := by
    have := Nat.div_pos h hp
    omega
  have a := QE h0
  have b := QC (x / 2 ^ j)
  have c := KH h0
  obtain ⟨m, hm⟩ : ∃ m, bl (x / 2 ^ j) = m + 1 := ⟨bl (x / 2 ^ j) - 1, by omega⟩
  rw [hm, Nat.add_sub_cancel] at a
  rw [hm] at b ⊢
  have h1 : 2 ^ (m + j) ≤ x := by
    rw [Nat.pow_add]
    exact Nat.le_trans (Nat.mul_le_mul_right _ a) (Nat.div_mul_le_self _ _)
  have h2 : x < 2 ^ (m + j + 1) := by
    rw [show m + j + 1 = (m + 1) + j from by omega, Nat.pow_add]
    exact (Nat.div_lt_iff_lt_mul hp).1 b
  rw [Y7 h1 h2]; omega
theorem Us {x n : Nat} (hx : x < 256) (hn : n ≤ 1000) (R : Value → World → Prop) (w : World) (h : R (.int .i64 ((n + bl x : Nat) : Int)) w) :
    oK R (.int .u64 x) (.int .i64 n) w := by
  have hg := XX x hx
  have hs := OY
  have hb : bl x ≤ 8 := Bw (n := 8) (by omega)
  unfold oK
  change cO pg _ w fun t21 w => cO pg (UO 9 (.string VD) t21) w _
  simp (disch := omega) only [cO, bW, iK, aF, dR, Int.toNat_natCast, hg, dC, eL, fB]
  rw [Int.natCast_add] at h
  exact h
theorem Sy (a b : Nat) : ((a : Int)).fdiv (b : Int) = ((a / b : Nat) : Int) := by rw [Int.fdiv_eq_ediv_of_nonneg _ (by omega)] <;> rfl
theorem RI (x j : Nat) (hj : j ≤ 64) : ((x : Int)).fdiv (2 ^ (min (j : Nat) IntKind.u64.bits)) = ((x / 2 ^ j : Nat) : Int) := by
  have e : min j IntKind.u64.bits = j := by simp only [IntKind.bits]; omega
  rw [e, ← Sy]; simp
theorem YQ (x : Nat) (hx : x < 18446744073709551616) (w : World) : hJ pg rQ #[.int .u64 x] w (fun r w' => r = .int .i64 (bl x : Nat) ∧ w' = w) := by
  refine Io ?_
  unfold Hw wM wI
  have step8 : ∀ (y n : Nat), y < 65536 → n ≤ 64 → n + bl y = bl x → oM (fun r w' => r = .int .i64 (bl x : Nat) ∧ w' = w) (.int .u64 y) (.int .i64 n) w := by
    intro y n hy hn e
    unfold oM wL
    by_cases h : 256 ≤ y
    · have d : decide ((256 : Int) ≤ (y : Int)) = true := by simp; omega
      have sh := RI y 8 (by omega)
      have hq : y / 2 ^ 8 < 256 := by omega
      have := RM (x := y) (j := 8) (by omega)
      have e2 : (n : Int) + 8 = ((n + 8 : Nat) : Int) := by omega
      simp (disch := omega) only [cO, fZ, d, gC, fB, e2, eL, aF, dA]
      rw [show (8 : Int).toNat = 8 from rfl, sh]
      exact Us hq (by omega) _ _ ⟨by rw [← e, this]; congr 2; omega, rfl⟩
    · have d : decide ((256 : Int) ≤ (y : Int)) = false := by simp; omega
      simp (disch := omega) only [cO, fZ, d, gC, fB, eL, aF, cQ]
      exact Us (by omega) (by omega) _ _ ⟨by rw [e], rfl⟩
  have step16 : ∀ (y n : Nat), y < 4294967296 → n ≤ 32 → n + bl y = bl x → oF (fun r w' => r = .int .i64 (bl x : Nat) ∧ w' = w) (.int .u64 y) (.int .i64 n) w := by
    intro y n hy hn e
    unfold oF wP
    by_cases h : 65536 ≤ y
    · have d : decide ((65536 : Int) ≤ (y : Int)) = true := by simp; omega
      have sh := RI y 16 (by omega)
      have hq : y / 2 ^ 16 < 65536 := by omega
      have := RM (x := y) (j := 16) (by omega)
      have e2 : (n : Int) + 16 = ((n + 16 : Nat) : Int) := by omega
      simp (disch := omega) only [cO, fZ, d, gC, fB, e2, eL, aF, dA]
      rw [show (16 : Int).toNat = 16 from rfl, sh]
      exact step8 _ _ hq (by omega) (by rw [← e, this]; omega)
    · have d : decide ((65536 : Int) ≤ (y : Int)) = false := by simp; omega
      simp (disch := omega) only [cO, fZ, d, gC, fB, eL, aF, cQ]
      exact step8 _ _ (by omega) (by omega) e
  by_cases h : 4294967296 ≤ x
  · have d : decide ((4294967296 : Int) ≤ (x : Int)) = true := by simp; omega
    have sh := RI x 32 (by omega)
    have hq : x / 2 ^ 32 < 4294967296 := by omega
    have := RM (x := x) (j := 32) (by omega)
    simp (disch := omega) only [cO, fZ, d, gC, aF, dA]
    rw [show (32 : Int).toNat = 32 from rfl, sh]
    exact step16 _ 32 hq (by omega) (by rw [this]; omega)
  · have d : decide ((4294967296 : Int) ≤ (x : Int)) = false := by simp; omega
    simp (disch := omega) only [cO, fZ, d, gC, aF, cQ]
    exact step16 _ 0 (by omega) (by omega) (by omega)
theorem Xj (x : Nat) (hx : x < 18446744073709551616) (w : World) : hJ pg pG #[.int .u64 x] w (fun r w' => r = .int .i64 (bl x : Nat) ∧ w' = w) := by
  refine Lw ?_
  simp (disch := omega) only [JR, AD, cO, cK, aF, cQ]
  exact YQ x hx w
theorem Ub {n : Nat} (h : n ≤ 20) : IntKind.i64.wrap (1 * 2 ^ (min n IntKind.i64.bits)) = ((2 ^ n : Nat) : Int) := by
  have : ∀ k : Fin 21, IntKind.i64.wrap (1 * 2 ^ (min k.val IntKind.i64.bits)) = ((2 ^ k.val : Nat) : Int) := by decide
  exact this ⟨n, by omega⟩
theorem V2 {v : Value} {l : List UInt8} {w : World} (h : Bs w v l) (hl : l.length ≤ 1000000000) :
    hJ pg nM #[v] w (fun r w' => uE w' w.heap.size 1 r l.length (l.map RD) ∧ gS w w' jR) := by
  refine GR ?_
  have h1 := h
  obtain ⟨a, n, c, rfl, hn, hc, hh⟩ := h
  rw [List.length_map] at hn
  unfold EX rX
  cases a with
  | none =>
    have h0 : l = [] := by
      cases l with
      | nil => rfl
      | cons x l => obtain ⟨b, off, h, _⟩ := hh (by simp at hn; omega); cases h
    subst h0
    simp (disch := omega) only [cO, cU, Option.isNone_none, aF, dA]
    exact ⟨uE.nil _ _ _, gS.refl _ _⟩
  | some x =>
    simp (disch := omega) only [cO, cU, Option.isNone_some, aF, cQ]
    refine Ue Tryd.underlying22 Vo fun w1 o1 x1 s1 => ?_
    have hcl1 := (h1.ext x1 (iQ _)).cl
    rw [List.length_map] at hcl1
    have hos : uE w1 w.heap.size 1 (.slice (some ⟨w.heap.size, 0, none⟩) 0 0) 0 [] := ⟨rfl, .inr ⟨_, 0, [], rfl, Nat.le_refl _, o1, rfl, Nat.le_refl _⟩⟩
    refine Ib hos hcl1 (ZK _) x1.size (by omega) fun v3 w3 o3 x3 => ?_
    rw [Nat.zero_add, List.nil_append] at o3
    exact ⟨o3, x1.trans x3 fun b hb h => Nat.not_le_of_lt hb h⟩
def ZT (v : Value) (lo hi : Nat) : Prop := ∀ M : Nat → Prop, (∀ b, lo ≤ b → b < hi → ¬ M b) → ¬ Vy v M
theorem uE.atI {w : World} {base sz n : Nat} {v : Value} {l : List Value} (h : uE w base sz v n l) : ZT v base w.heap.size := by
  intro M hM
  rcases h.2 with ⟨rfl, rfl⟩ | ⟨b, c, rest, rfl, h2, h3, h4, h5⟩
  · exact fun h => h
  · exact At.at b 0 n c M (hM b h2 h3.lt)
theorem XV {w : World} {a : Option Addr} {n c : Nat} {l : List Value} (h : Sl w (.slice a n c) l) {k : Nat} (hk : k ≤ n) : Sl w (.slice a k c) (l.take k) := by
  obtain ⟨a', n', c', e, hn, hc, hh⟩ := h
  cases e
  refine ⟨a, k, c, rfl, by rw [List.length_take]; omega, by omega, fun h0 => ?_⟩
  obtain ⟨b, off, ha, hcell⟩ := hh (by omega)
  refine ⟨b, off, ha, fun i hi => ?_⟩
  rw [hcell i (by omega), List.getElem?_take_of_lt (by omega)]
theorem YH {w : World} {a : Option Addr} {n c : Nat} {l : List Value} (h : Sl w (.slice a n c) l) (h0 : 0 < n) : ∃ b off, a = some ⟨b, off, none⟩ ∧ ∀ i, i < n → w.cell? ⟨b, off + i, none⟩ = l[i]? := by
  obtain ⟨a', n', c', e, hn, hc, hh⟩ := h
  cases e
  exact hh h0
end Go.Proofs.YtoepfjgekpdddaaDoor
namespace Go.Proofs.YtoepfjgekpdddaaDoor
open Go Go.En Go.Pu
set_option maxRecDepth 4000
set_option linter.unusedSimpArgs false
set_option linter.unusedVariables false
theorem Xq {ps : List Int} {i : Nat} (hi : i < ps.length) : pB (ps.take (i + 1)) = pB (ps.take i) + iA ps[i] := by
  rw [List.take_add_one, List.getElem?_eq_getElem hi, Bt]; simp [pB]
theorem Yf {log : Int} {sv : Value} {ps : List Int} {w : World} (hs : Sl w sv (ps.map (Value.int .i64))) (hl : ps.length ≤ 9223372036854775807) :
    hJ pg EQ #[.agg #[.int .i64 log, sv]] w (fun r w' => r = .bool (Iw log ps) ∧ gS w w' jR) := by
  refine Sm ?_
  unfold SS Fv Fz
  obtain ⟨a, c, rfl, hc⟩ := hs.lenI
  refine nR fun w1 o1 x1 s1 => ?_
  have hs0 := hs.ext x1 (iQ _)
  have c0 := o1.cell (off := 0)
  have c1 := o1.cell (off := 1)
  simp only [Value.cells, List.getElem?_cons_zero, List.getElem?_cons_succ] at c0 c1
  have no : ¬ (5 ≤ log ∧ log ≤ 15 ∧ 1 ≤ ps.length ∧ ps.length ≤ 256 ∧ ps.getLast? ≠ some 0) → Iw log ps = false := fun h => by
    unfold Iw Tm; rw [decide_eq_false h] <;> rfl
  by_cases h1 : log < 5
  · have d1 : decide (log < 5) = true := by simpa using h1
    simp (disch := omega) only [cO, aD, aF, aB, Nat.zero_add, eI, c0, cX, eY, d1, fD, eP, if_true, dA, dV]
    exact ⟨by rw [no (by omega)], x1⟩
  have d1 : decide (log < 5) = false := by simpa using h1
  by_cases h2 : 15 < log
  · have d2 : decide (15 < log) = true := by simpa using h2
    simp (disch := omega) only [cO, aD, aF, aB, Nat.zero_add, eI, c0, cX, eY, d1, eZ, eP, Bool.false_eq_true, if_false, dZ, fJ, d2, fD, if_true, dA, dV]
    exact ⟨by rw [no (by omega)], x1⟩
  have d2 : decide (15 < log) = false := by simpa using h2
  by_cases h3 : ps.length < 1
  · have d3 : ((ps.length : Int) == 0) = true := by rw [beq_iff_eq]; omega
    simp (disch := omega) only [cO, aD, aF, aB, Nat.zero_add, eI, c0, cX, eY, d1, eZ, eP, Bool.false_eq_true, if_false, dZ, fJ, d2, dF, c1, dI, fR, d3, fD, if_true, dA, dV]
    exact ⟨by rw [no (by omega)], x1⟩
  have d3 : ((ps.length : Int) == 0) = false := by rw [beq_eq_false_iff_ne]; omega
  by_cases h4 : 256 < ps.length
  · have d4 : decide ((256 : Int) < (ps.length : Int)) = true := by simp; omega
    simp (disch := omega) only [cO, aD, aF, aB, Nat.zero_add, eI, c0, cX, eY, d1, eZ, eP, Bool.false_eq_true, if_false, dZ, fJ, d2, dF, c1, dI, fR, d3, d4, fD, if_true, dA, dV]
    exact ⟨by rw [no (by omega)], x1⟩
  have d4 : decide ((256 : Int) < (ps.length : Int)) = false := by simp; omega
  obtain ⟨b, off, c', e, hc', hcell⟩ := hs0.openI (by omega)
  cases e
  have e1 : ((ps.length : Int) - 1) = ((ps.length - 1 : Nat) : Int) := by omega
  have g1 := hcell (ps.length - 1) (by omega)
  by_cases h5 : ps[ps.length - 1]'(by omega) = 0
  · have d5 : (ps[ps.length - 1]'(by omega) == 0) = true := by simpa using h5
    simp (disch := omega) only [cO, aD, aF, aB, Nat.zero_add, eI, c0, cX, eY, d1, eZ, eP, Bool.false_eq_true, if_false, dZ, fJ, d2, dF, c1, dI, fR, d3, d4, fL, e1, eL, dJ, Int.toNat_natCast, g1, d5, dA]
    exact ⟨by rw [no (fun h => h.2.2.2.2 ((GK (by omega)).2 h5))], x1⟩
  have d5 : (ps[ps.length - 1]'(by omega) == 0) = false := by simpa using h5
  obtain ⟨l, rfl⟩ : ∃ l : Nat, log = l := ⟨log.toNat, by omega⟩
  have hyes : Iw (l : Int) ps = Sg (2 ^ l) ps := by
    unfold Iw Tm
    rw [decide_eq_true ⟨by omega, by omega, by omega, by omega, fun h => h5 ((GK (by omega)).1 h)⟩, Int.toNat_natCast] <;> rfl
  simp (disch := omega) only [cO, aD, aF, aB, Nat.zero_add, eI, c0, cX, eY, d1, eZ, eP, Bool.false_eq_true, if_false, dZ, fJ, d2, dF, c1, dI, fR, d3, d4, fL, e1, eL, dJ, Int.toNat_natCast, g1, d5, cQ]
  unfold AQ F1 FL Be F6
  have hp15 := T0 (log := l) (by omega)
  refine iY.rule (fun m t w' => ∃ (i : Nat), m = ps.length - i ∧ t = (.int .i64 (pB (ps.take i)), .int .i64 i) ∧ i ≤ ps.length ∧ 0 ≤ pB (ps.take i) ∧ pB (ps.take i) ≤ 32768 * i ∧ (∀ p ∈ ps.take i, -1 ≤ p) ∧ gS w w' jR ∧ gS w1 w' jR) ps.length
    ⟨0, rfl, by simp [pB], by omega, by simp [pB], by simp [pB], by simp, x1, gS.refl _ _⟩ ?_
  rintro m t w2 ⟨i, rfl, rfl, hi, hs0', hs1, hlo, x2, x12⟩
  have o2 := o1.ext x12 (fun h => h)
  have c0 := o2.cell (off := 0)
  have c1 := o2.cell (off := 1)
  simp only [Value.cells, List.getElem?_cons_zero, List.getElem?_cons_succ] at c0 c1
  by_cases hlt : i < ps.length
  · have d6 : decide ((i : Int) < (ps.length : Int)) = true := by simp; omega
    obtain ⟨b', off', c', e, _, hcell2⟩ := (hs.ext x2 (iQ _)).openI (by omega)
    cases e
    have g2 := hcell2 i hlt
    have bad : ¬ (-1 ≤ ps[i] ∧ ps[i] ≤ 32768) → Iw (l : Int) ps = false := fun h => by
      rw [hyes, ← Bool.not_eq_true, N5]
      rintro ⟨k1, k2⟩
      have := RF k1 (List.getElem_mem hlt)
      have := k1 _ (List.getElem_mem hlt)
      unfold iA at *
      split at * <;> omega
    by_cases h6 : ps[i] < -1
    · have d7 : decide (ps[i] < -1) = true := by simpa using h6
      unfold qF tX uB xN zL yJ
      simp (disch := omega) only [cO, aB, Nat.zero_add, aF, dF, c1, cX, dI, eY, d6, dJ, Int.toNat_natCast, eI, g2, d7, fD, eP, if_true, dA, dV]
      exact ⟨by rw [bad (by omega)], x2⟩
    have d7 : decide (ps[i] < -1) = false := by simpa using h6
    by_cases h7 : 32768 < ps[i]
    · have d8 : decide (32768 < ps[i]) = true := by simpa using h7
      unfold qF tX uB xN zL yJ
      simp (disch := omega) only [cO, aB, Nat.zero_add, aF, dF, c1, cX, dI, eY, d6, dJ, Int.toNat_natCast, eI, g2, d7, eZ, eP, Bool.false_eq_true, if_false, dZ, fJ, d8, dA]
      exact ⟨by rw [bad (by omega)], x2⟩
    have d8 : decide (32768 < ps[i]) = false := by simpa using h7
    have hts := Xq hlt
    have hlow : ∀ p ∈ ps.take (i + 1), -1 ≤ p := fun p hp => by
      rw [List.take_add_one, List.getElem?_eq_getElem hlt] at hp
      rcases List.mem_append.1 hp with hp | hp
      · exact hlo p hp
      · simp at hp; omega
    unfold qF tX uB xN zL yJ
    by_cases h8 : ps[i] < 0
    · have d9 : decide (ps[i] < 0) = true := by simpa using h8
      have e : iA ps[i] = 1 := by unfold iA; rw [if_pos h8]
      simp (disch := omega) only [cO, aB, Nat.zero_add, yN, fB, eL, xU, aF, dF, c1, cX, dI, eY, d6, dJ, Int.toNat_natCast, eI, g2, d7, d9, dA, eZ, eP, Bool.false_eq_true, if_false, dZ, fJ, d8, cQ]
      exact ⟨ps.length - (i + 1), by omega, i + 1, rfl, by rw [hts, e] <;> rfl, by omega, by omega, by omega, hlow, x2, x12⟩
    · have d9 : decide (ps[i] < 0) = false := by simpa using h8
      have e : iA ps[i] = ps[i] := by unfold iA; rw [if_neg h8]
      simp (disch := omega) only [cO, aB, Nat.zero_add, yN, fB, eL, xU, aF, dF, c1, cX, dI, eY, d6, dJ, Int.toNat_natCast, eI, g2, d7, d9, cQ, eZ, eP, Bool.false_eq_true, if_false, dZ, fJ, d8, dA]
      exact ⟨ps.length - (i + 1), by omega, i + 1, rfl, by rw [hts, e] <;> rfl, by omega, by omega, by omega, hlow, x2, x12⟩
  · have d6 : decide ((i : Int) < (ps.length : Int)) = false := by simp; omega
    unfold qF tX CR
    simp (disch := omega) only [cO, aB, Nat.zero_add, aD, aF, eI, dF, c1, cX, dI, eY, d6, c0, cQ]
    refine (IG l (by omega) _).mono ?_
    rintro r w3 ⟨rfl, rfl⟩
    rw [List.take_of_length_le (by omega)] at hlo ⊢
    simp (disch := omega) only [fR, aF]
    refine ⟨?_, x2⟩
    rw [hyes]
    congr 1
    rw [Bool.eq_iff_iff, N5, beq_iff_eq]
    exact ⟨fun h => ⟨hlo, h⟩, fun h => h.2⟩
def Uw (log : Int) (ps : List Int) (most : Int) : Int := if Iw log ps = false then 1 else if most < log then 12 else 0
theorem VM {log most : Int} {sv : Value} {ps : List Int} {w : World} (hs : Sl w sv (ps.map (Value.int .i64))) (hl : ps.length ≤ 9223372036854775807) :
    hJ pg zG #[.agg #[.int .i64 log, sv], .int .i64 most] w (fun r w' => r = .int .i64 (Uw log ps most) ∧ gS w w' jR) := by
  refine Oa ?_
  unfold MT Cc
  refine nR fun w1 o1 x1 s1 => ?_
  have hs := hs.ext x1 (iQ _)
  rw [show eQ 51 = eQ 51 from rfl]
  have l1 := kC o1 (off := 0) (by simp [Value.cells])
  simp only [Value.cells, List.drop_zero, List.take_succ_cons, List.take_zero] at l1
  simp (disch := omega) only [cO, l1, aW, aF, eI]
  refine (Y5 hs hl).mono ?_
  rintro r w2 ⟨rfl, x2⟩
  have o2 := o1.ext x2 (fun h => h)
  have c0 := o2.cell (off := 0)
  simp only [Value.cells, List.getElem?_cons_zero] at c0
  unfold Uw
  cases hm : Iw log ps with
  | false =>
    simp (disch := omega) only [gD, Bool.not_false, if_true, true_and, aF, dA]
    exact x1.seq x2
  | true =>
    by_cases h : most < log
    · have d : decide (most < log) = true := by simpa using h
      simp (disch := omega) only [gD, Bool.not_true, aF, c0, cX, fJ, d, dA, cQ]
      exact ⟨by simp [h], x1.seq x2⟩
    · have d : decide (most < log) = false := by simpa using h
      simp (disch := omega) only [gD, Bool.not_true, aF, c0, cX, fJ, d, cQ]
      exact ⟨by simp [h], x1.seq x2⟩
theorem Vi {log most : Int} {sv : Value} {ps : List Int} {w : World} (hs : Sl w sv (ps.map (Value.int .i64))) (hl : ps.length ≤ 9223372036854775807) :
    hJ pg AL #[.agg #[.int .i64 log, sv], .int .i64 most] w (fun r w' => r = .int .i64 (Uw log ps most) ∧ gS w w' jR) := by
  refine Pg ?_
  unfold Qu C3
  refine nR fun w1 o1 x1 s1 => ?_
  have hs := hs.ext x1 (iQ _)
  have l1 := mG o1 (off := 0) (by simp [Value.cells])
  simp only [Value.cells, List.drop_zero, List.take_succ_cons, List.take_zero] at l1
  simp (disch := omega) only [cO, l1, aD, aF, eI]
  refine (Yf hs hl).mono ?_
  rintro r w2 ⟨rfl, x2⟩
  have o2 := o1.ext x2 (fun h => h)
  have c0 := o2.cell (off := 0)
  simp only [Value.cells, List.getElem?_cons_zero] at c0
  unfold Uw
  cases hm : Iw log ps with
  | false =>
    simp (disch := omega) only [gD, Bool.not_false, if_true, true_and, aF, dA]
    exact x1.seq x2
  | true =>
    by_cases h : most < log
    · have d : decide (most < log) = true := by simpa using h
      simp (disch := omega) only [gD, Bool.not_true, aF, c0, cX, fJ, d, dA, cQ]
      exact ⟨by simp [h], x1.seq x2⟩
    · have d : decide (most < log) = false := by simpa using h
      simp (disch := omega) only [gD, Bool.not_true, aF, c0, cX, fJ, d, cQ]
      exact ⟨by simp [h], x1.seq x2⟩
end Go.Proofs.YtoepfjgekpdddaaDoor
namespace Go.Proofs.YtoepfjgekpdddaaDoor
open Go Go.En Go.Pu
set_option maxRecDepth 4000
set_option linter.unusedSimpArgs false
set_option linter.unusedVariables false
def m3 (L : List Int) : List T3 := L.map fun x => (x, 0, 0)
theorem ZM (L : List Int) (i : Nat) (h : i < L.length) (x : Int) : (m3 L).set i (x, ((m3 L)[i]'(by simpa [m3] using h)).2) = m3 (L.set i x) := by
  unfold m3; rw [List.map_set]; simp
theorem RW {k : IntKind} {L : List Int} {i : Nat} (h : i < L.length) (x : Int) : (fe k (m3 L)).set (i * 3) (.int k x) = fe k (m3 (L.set i x)) := by
  rw [(OF k (m3 L) i (by simpa [m3] using h) x).1, ZM L i h x]
theorem SC (n high s : Nat) (r : List Nat) (a : Nat) (arr : List Int) : wS n high (s :: r) a arr = wS n high r (Nw n high n (Yj n a)) (arr.set a s) := rfl
theorem S3 {ps : List Int} {i : Nat} (h : i < ps.length) : nI (ps.drop i) i = List.replicate ps[i].toNat i ++ nI (ps.drop (i + 1)) (i + 1) := by
  rw [List.drop_eq_getElem_cons h, nI]
theorem ZJ {w0 w : World} {N high j : Nat} (hN : 0 < N) (hN2 : N ≤ 32768) (hh : 0 < high) (hhN : high ≤ N) (hx : gS w0 w jR)
    {ov sv a b c d e : Value} {k : Value → Value → Value → Value → Value → Value → Value → Value → Value → Value → World → Prop}
    (hk : ∃ j', Nw N high N (Yj N (pos N j)) = pos N j' ∧ k (.int .i64 N) ov (.int .i64 high) (.int .i64 (pos N j' : Nat)) sv a b c d e w) :
    Bc k (.int .i64 N) ov (.int .i64 high) (.int .i64 (pos N j : Nat)) sv a b c d e w := by
  obtain ⟨dd, h1, h2, h3⟩ := IB hN hh (j + 1)
  obtain ⟨j', hj', hk⟩ := hk
  rw [CK, h3] at hj'
  rw [← hj'] at hk
  unfold Bc
  refine iY.rule (fun m t w' => ∃ q : Nat, m = dd - q ∧ t = .int .i64 (pos N (j + q) : Nat) ∧ q ≤ dd ∧ w' = w) dd ⟨0, rfl, rfl, by omega, rfl⟩ ?_
  rintro m t w' ⟨q, rfl, rfl, hq, rfl⟩
  have hp := Sd hN (j + q)
  have e1 : ((N : Int)).fdiv (2 ^ (min 1 IntKind.i64.bits)) = ((N / 2 : Nat) : Int) := by
    have : (2 : Int) ^ (min 1 IntKind.i64.bits) = ((2 : Nat) : Int) := by decide
    rw [this, Sy]
  have e3 : ((N : Int)).fdiv (2 ^ (min 3 IntKind.i64.bits)) = ((N / 8 : Nat) : Int) := by
    have : (2 : Int) ^ (min 3 IntKind.i64.bits) = ((8 : Nat) : Int) := by decide
    rw [this, Sy]
  have t1 : (1 : Int).toNat = 1 := rfl
  have t3 : (3 : Int).toNat = 3 := rfl
  have e4 : (((pos N (j + q) : Nat) : Int) + ((N / 2 : Nat) : Int) + ((N / 8 : Nat) : Int) + 3).tmod (N : Int) = ((pos N (j + q + 1) : Nat) : Int) := by
    rw [Int.tmod_eq_emod_of_nonneg (by omega), ← CK]
    unfold Yj
    simp
  unfold Bb
  by_cases hd : q = dd
  · subst hd
    have d1 : decide (((pos N (j + q + 1) : Nat) : Int) < (high : Int)) = true := by
      simp only [decide_eq_true_eq]
      rw [show j + 1 + q = j + q + 1 from by omega] at h2
      omega
    simp (disch := omega) only [cO, gC, t1, e1, t3, e3, aF, fB, eL, fY, e4, eY, d1, and_true, dA]
    rw [show j + 1 + q = j + q + 1 from by omega] at hk
    exact hk
  · have d1 : decide (((pos N (j + q + 1) : Nat) : Int) < (high : Int)) = false := by
      have := h1 q (by omega)
      rw [show j + 1 + q = j + q + 1 from by omega] at this
      simp only [decide_eq_false_iff_not]
      omega
    simp (disch := omega) only [cO, gC, t1, e1, t3, e3, aF, fB, eL, fY, e4, eY, d1, and_true, cQ]
    exact ⟨dd - (q + 1), by omega, q + 1, rfl, rfl, by omega⟩
theorem Uk {log : Nat} {sv : Value} {ps : List Int} {w : World} (hm : Jo log ps) (hs : Sl w sv (ps.map (Value.int .i64))) :
    hJ pg zJ #[.agg #[.int .i64 log, sv]] w (fun r w' => ∃ b, r = .slice (some ⟨b, 0, none⟩) (2 ^ log) (2 ^ log) ∧ w.heap.size ≤ b ∧ jL w' b (fe .u8 (m3 (tT 0 log ps))) ∧ gS w w' jR) := by
  refine QQ ?_
  have h5 := hm.log5
  have h15 := hm.log15
  have hlen := hm.len256
  obtain ⟨arr0, ht, hal, hsum, hfin⟩ := QF hm 0
  rw [hfin]
  have hN1 : 2 ^ 5 ≤ 2 ^ log := Nat.pow_le_pow_right (by omega) h5
  have hN2 : 2 ^ log ≤ 2 ^ 15 := Nat.pow_le_pow_right (by omega) h15
  have hsh : IntKind.i64.wrap (1 * 2 ^ (min log IntKind.i64.bits)) = ((2 ^ log : Nat) : Int) := by
    have : ∀ k : Fin 16, IntKind.i64.wrap (1 * 2 ^ (min k.val IntKind.i64.bits)) = ((2 ^ k.val : Nat) : Int) := by decide
    exact this ⟨log, by omega⟩
  clear hfin
  generalize hN : 2 ^ log = N at *
  generalize hhigh : (nI ps 0).length = high at *
  unfold R1 DN De
  refine nR fun w1 o1 x1 s1 => ?_
  have hs1 := hs.ext x1 (iQ _)
  have c0 := o1.cell (off := 0)
  have c1 := o1.cell (off := 1)
  simp only [Value.cells, List.getElem?_cons_zero, List.getElem?_cons_succ] at c0 c1
  obtain ⟨a, c, rfl, hc⟩ := hs.lenI
  simp (disch := omega) only [cO, aW, aF, eI, c0, cX, fT, Int.toNat_natCast, hsh]
  refine Pt (by omega) (by omega) fun w2 o2 x2 s2 => ?_
  rw [Int.toNat_natCast, VP] at o2
  rw [Int.toNat_natCast]
  have o2 : jL w2 w1.heap.size (fe .u8 (m3 (List.replicate N 0))) := by unfold m3; rw [List.map_replicate]; exact o2
  have x02 : gS w w2 jR := x1.seq x2
  have ob2 := o1.ext x2 (fun h => h)
  have c1 := ob2.cell (off := 1)
  simp only [Value.cells, List.getElem?_cons_zero, List.getElem?_cons_succ] at c1
  unfold wZ D2 Dh yK Dg
  simp (disch := omega) only [cO, aJ, Nat.zero_add, aF, dF, c1, cX, dI]
  have hw1 : w.heap.size ≤ w1.heap.size := x1.size
  refine iY.rule (fun m t w' => ∃ (i hg : Nat) (arr : List Int), m = ps.length - i ∧ t = (.int .i64 hg, .int .i64 i) ∧ i ≤ ps.length ∧ (pL (ps.drop i) i).length ≤ hg ∧ hg ≤ N ∧ arr.length = N ∧ Ky (ps.drop i) i hg arr = (high, arr0) ∧ jL w' w1.heap.size (fe .u8 (m3 arr)) ∧ gS w w' jR ∧ jL w' w.heap.size (Value.cells (.agg #[.int .i64 log, .slice a ps.length c])).toList) ps.length
    ⟨0, N, _, rfl, rfl, by omega, by rw [List.drop_zero]; omega, by omega, by simp, by rw [List.drop_zero]; exact ht, o2, x02, ob2⟩ ?_
  rintro m t w3 ⟨i, hg, arr, rfl, rfl, hi, hng, hgN, harr, htop, o3, x3, ob3⟩
  by_cases hlt : i < ps.length
  · have d1 : decide ((i : Int) < (ps.length : Int)) = true := by simp; omega
    obtain ⟨b', off', c', e, _, hcell⟩ := (hs.ext x3 (iQ _)).openI (by omega)
    cases e
    have g1 := hcell i hlt
    have hd : ps.drop i = ps[i] :: ps.drop (i + 1) := List.drop_eq_getElem_cons hlt
    rw [hd, pL] at hng
    rw [hd, Ky] at htop
    unfold sU xH zD
    by_cases hp : ps[i] = -1
    · have d2 : (ps[i] == -1) = true := by simpa using hp
      rw [if_pos hp] at hng htop
      simp only [List.length_cons] at hng
      have e1 : (hg : Int) - 1 = ((hg - 1 : Nat) : Int) := by omega
      simp (disch := omega) only [cO, eY, d1, dJ, Int.toNat_natCast, fL, e1, eL, cZ, iK, fB, aF, bT, Nat.zero_add, bC, eI, g1, cX, fR, d2, dA]
      refine RX o3 rfl (by rw [lY]; simp [m3]; omega) fun w4 o4 x4 s4 => ?_
      rw [RW (by omega)] at o4
      exact ⟨ps.length - (i + 1), by omega, i + 1, hg - 1, _, rfl, rfl, by omega, by omega, by omega, by simp [harr], htop, o4, x3.new x4 hw1, ob3.ext x4 (by omega)⟩
    · have d2 : (ps[i] == -1) = false := by simpa using hp
      rw [if_neg hp] at hng htop
      simp (disch := omega) only [cO, eY, d1, dJ, Int.toNat_natCast, fL, eL, cZ, iK, fB, aF, eI, g1, cX, fR, d2, cQ, dA]
      exact ⟨ps.length - (i + 1), by omega, i + 1, hg, arr, rfl, rfl, by omega, by omega, by omega, harr, htop, o3, x3, ob3⟩
  · have d1 : decide ((i : Int) < (ps.length : Int)) = false := by simp; omega
    rw [List.drop_of_length_le (by omega), Ky] at htop
    obtain ⟨rfl, rfl⟩ : hg = high ∧ arr = arr0 := by simpa using htop
    have c1 := ob3.cell (off := 1)
    simp only [Value.cells, List.getElem?_cons_zero, List.getElem?_cons_succ] at c1
    unfold sU xH xG CZ yI Dw Dm wU Ed
    simp (disch := omega) only [cO, eY, d1, fL, eL, cZ, aF, aJ, Nat.zero_add, dF, c1, cX, dI, cQ]
    clear d1 hlt hi hng htop
    have hbig : jL w3 w1.heap.size (fe .u8 (m3 arr)) := o3
    refine iY.rule (fun m t w' => ∃ (s j : Nat) (ar : List Int), m = ps.length - s ∧ t = (.int .i64 (pos N j : Nat), .int .i64 s) ∧ s ≤ ps.length ∧ ar.length = N ∧ wS N hg (nI (ps.drop s) s) (pos N j) ar = wS N hg (nI ps 0) 0 arr ∧ (nI (ps.drop s) s).length ≤ hg ∧ jL w' w1.heap.size (fe .u8 (m3 ar)) ∧ gS w w' jR) ps.length
      ⟨0, 0, arr, rfl, by rw [Iz] <;> rfl, by omega, harr, by rw [Iz, List.drop_zero], by rw [List.drop_zero, hhigh]; exact Nat.le_refl _, o3, x3⟩ ?_
    rintro m t w4 ⟨s, j, ar, rfl, rfl, hs4, har, hpl, hrl, o4, x4⟩
    by_cases hlt : s < ps.length
    · have d1 : decide ((s : Int) < (ps.length : Int)) = true := by simp; omega
      obtain ⟨b', off', c', e, _, hcell⟩ := (hs.ext x4 (iQ _)).openI (by omega)
      cases e
      have g1 := hcell s hlt
      obtain ⟨q, hq⟩ : ∃ q, q = ps[s].toNat := ⟨_, rfl⟩
      have emax : (if (0 : Int) > ps[s] then (0 : Int) else ps[s]) = (q : Int) := by rw [hq]; split <;> omega
      rw [S3 hlt, ← hq] at hpl hrl
      have hqN : q ≤ N := by simp at hrl; omega
      unfold sX yE xZ Ec DP Ef yX D9 DR
      simp (disch := omega) only [cO, eY, d1, dJ, Int.toNat_natCast, aF, eI, g1, cX, gG, emax, dA]
      unfold wW DL
      refine iY.rule (fun m t w' => ∃ (k j : Nat) (ar : List Int), m = q - k ∧ t = (.int .i64 (pos N j : Nat), .int .i64 k) ∧ k ≤ q ∧ ar.length = N ∧ wS N hg (List.replicate (q - k) s ++ nI (ps.drop (s + 1)) (s + 1)) (pos N j) ar = wS N hg (nI ps 0) 0 arr ∧ jL w' w1.heap.size (fe .u8 (m3 ar)) ∧ gS w w' jR) q
        ⟨0, j, ar, rfl, rfl, by omega, har, hpl, o4, x4⟩ ?_
      rintro m t w5 ⟨k, j5, ar5, rfl, rfl, hk, har5, hpl5, o5, x5⟩
      by_cases hkq : k < q
      · have d2 : decide ((k : Int) < (q : Int)) = true := by simp; omega
        have hp := Sd (n := N) (by omega) j5
        have hhg : 0 < hg := by simp at hrl; omega
        unfold tB xB wV Fc Fm Fn
        simp (disch := omega) only [cO, eY, d2, cZ, iK, bT, Int.toNat_natCast, Nat.zero_add, aF, bC, dA]
        refine RX o5 rfl (by rw [lY]; simp [m3]; omega) fun w6 o6 x6 s6 => ?_
        rw [RW (by omega)] at o6
        unfold A9
        rw [show q - k = (q - (k + 1)) + 1 from by omega, List.replicate_succ, List.cons_append, SC] at hpl5
        obtain ⟨d, _, hd2, hd3⟩ := IB (n := N) (high := hg) (by omega) hhg (j5 + 1)
        have hsk : Nw N hg N (Yj N (pos N j5)) = pos N (j5 + 1 + d) := by rw [CK]; exact hd3
        refine ZJ (w0 := w) (by omega) hN2 hhg hgN (x5.new x6 hw1) ⟨j5 + 1 + d, hsk, ?_⟩
        rw [hsk] at hpl5
        unfold AX
        simp (disch := omega) only [cO, fB, eL, aF]
        exact ⟨q - (k + 1), by omega, k + 1, j5 + 1 + d, _, rfl, rfl, by omega, by simp [har5], hpl5, o6, x5.new x6 hw1⟩
      · have d2 : decide ((k : Int) < (q : Int)) = false := by simp; omega
        rw [show q - k = 0 from by omega, List.replicate_zero, List.nil_append] at hpl5
        unfold tB xB AO
        simp (disch := omega) only [cO, eY, d2, fB, eL, aF, cQ]
        exact ⟨ps.length - (s + 1), by omega, s + 1, j5, ar5, rfl, rfl, by omega, har5, hpl5, by simp at hrl; omega, o5, x5⟩
    · have d1 : decide ((s : Int) < (ps.length : Int)) = false := by simp; omega
      rw [List.drop_of_length_le (by omega), nI, wS] at hpl
      unfold sX yE Bi
      simp (disch := omega) only [cO, eY, d1, aF, cQ]
      exact ⟨_, rfl, hw1, by rw [← hpl]; exact o4, x4⟩
end Go.Proofs.YtoepfjgekpdddaaDoor
namespace Go.Proofs.YtoepfjgekpdddaaDoor
open Go Go.En Go.Pu
set_option maxRecDepth 4000
set_option linter.unusedSimpArgs false
set_option linter.unusedVariables false
def Es (log : Nat) (ps S : List Int) (i : Nat) : List T3 := (List.range (2 ^ log)).map fun j => if j < i then Qz log ps S j else (S.getD j 0, 0, 0)
def UU (ps S : List Int) (i : Nat) : List Int := (List.range ps.length).map fun s => iA (ps.getD s 0) + ((S.take i).count (s : Int) : Nat)
theorem V1 {log : Nat} {ps S : List Int} (h : S.length = 2 ^ log) : Es log ps S 0 = m3 S := by
  unfold Es m3
  apply List.ext_getElem
  · simp [h]
  · intro i h1 h2
    simp only [List.length_map, List.length_range] at h1
    simp only [List.getElem_map, List.getElem_range, Nat.not_lt_zero, if_false, List.getD_eq_getElem?_getD]
    rw [List.getElem?_eq_getElem (by omega)] <;> rfl
theorem XD (log : Nat) (ps : List Int) : Es log ps (tT 0 log ps) (2 ^ log) = mD log ps := by
  unfold Es mD
  refine List.map_congr_left fun j hj => ?_
  rw [if_pos (List.mem_range.1 hj)]
theorem zZ (log : Nat) (ps S : List Int) (i : Nat) : (Es log ps S i).length = 2 ^ log := by simp [Es]
theorem Xs {log : Nat} {ps S : List Int} {i : Nat} (h : i < 2 ^ log) : (Es log ps S i)[i]'(by rw [zZ]; exact h) = (S.getD i 0, 0, 0) := by
  unfold Es; simp
theorem XQ {log : Nat} {ps S : List Int} {i : Nat} (_ : i < 2 ^ log) : (Es log ps S i).set i (Qz log ps S i) = Es log ps S (i + 1) := by
  unfold Es
  apply List.ext_getElem
  · simp
  · intro j h1 h2
    rw [List.getElem_set]
    simp only [List.getElem_map, List.getElem_range]
    by_cases hij : i = j
    · subst hij; simp
    · rw [if_neg hij]
      by_cases hj : j < i
      · rw [if_pos hj, if_pos (by omega)]
      · rw [if_neg hj, if_neg (by omega)]
theorem Lc (ps S : List Int) (i : Nat) : (UU ps S i).length = ps.length := by simp [UU]
theorem Xf (ps S : List Int) : UU ps S 0 = ps.map iA := by
  unfold UU
  apply List.ext_getElem
  · simp
  · intro i h1 h2
    simp only [List.length_map, List.length_range] at h1
    simp only [List.getElem_map, List.getElem_range, List.take_zero, List.count_nil, List.getD_eq_getElem?_getD]
    rw [List.getElem?_eq_getElem h1]; simp
theorem TS {ps S : List Int} {i s : Nat} (h : s < ps.length) : (UU ps S i)[s]'(by rw [Lc]; exact h) = iA ps[s] + ((S.take i).count (s : Int) : Nat) := by
  unfold UU
  simp only [List.getElem_map, List.getElem_range, List.getD_eq_getElem?_getD]
  rw [List.getElem?_eq_getElem h] <;> rfl
theorem Y2 {ps S : List Int} {i s : Nat} (h : i < S.length) (hs : s < ps.length) (e : S[i] = (s : Int)) : (UU ps S i).set s (iA ps[s] + ((S.take i).count (s : Int) : Nat) + 1) = UU ps S (i + 1) := by
  apply List.ext_getElem
  · simp [UU]
  · intro j h1 h2
    have hj : j < ps.length := by simpa [UU] using h2
    rw [List.getElem_set, TS hj, TS hj, List.take_add_one, List.getElem?_eq_getElem h, List.count_append]
    simp only [Option.toList, e, List.count_singleton]
    by_cases hij : s = j
    · subst hij; simp; omega
    · have : ((s : Int) == (j : Int)) = false := by simp; omega
      rw [if_neg hij, this]; simp
theorem YY {k b : Nat} (hb : b ≤ 64) (h : k * 2 ^ b ≤ 9223372036854775807) : IntKind.i64.wrap ((k : Int) * 2 ^ (min b IntKind.i64.bits)) = ((k * 2 ^ b : Nat) : Int) := by
  have e : min b IntKind.i64.bits = b := by simp only [IntKind.bits]; omega
  rw [e]
  have : (k : Int) * 2 ^ b = ((k * 2 ^ b : Nat) : Int) := by simp
  rw [this]
  exact eL (by omega) (by omega)
section
variable {log : Nat} {ps S : List Int} {w0 w1 : World} {p1 p2 p4 b nb N : Nat} {sv : Value}
theorem Va (hm : Jo log ps) (L : Zj log ps S) (hN : 2 ^ log = N) {i : Nat} (hlt : i < N) {w3 : World}
    (on3 : jL w3 nb ((UU ps S i).map (Value.int .i64))) (ob3 : jL w3 b (fe .u8 (Es log ps S i)))
    (o13 : jL w3 p1 [.int .i64 log, sv]) (o43 : jL w3 p4 [.int .i64 log, .slice (some ⟨b, 0, none⟩) N N])
    (hne : p1 ≠ b ∧ p4 ≠ b ∧ nb ≠ b ∧ p1 ≠ nb ∧ p4 ≠ nb) {t2 : Value} {kn : Value → Value → Value → Value → Value → Value → World → Prop}
    (hk : ∀ w', jL w' nb ((UU ps S (i + 1)).map (Value.int .i64)) → jL w' b (fe .u8 (Es log ps S (i + 1))) → gS w3 w' (fun y => y = nb ∨ y = b) →
      kn (.pointer (some ⟨p1, 0, none⟩)) t2 (.pointer (some ⟨p4, 0, none⟩)) (.slice (some ⟨nb, 0, none⟩) ps.length ps.length) (.int .i64 N) (.int .i64 ((i + 1 : Nat) : Int)) w') :
    yR kn (.pointer (some ⟨p1, 0, none⟩)) t2 (.pointer (some ⟨p4, 0, none⟩)) (.slice (some ⟨nb, 0, none⟩) ps.length ps.length) (.int .i64 N) (.int .i64 i) w3 := by
  have h5 := hm.log5
  have h15 := hm.log15
  have hlen := hm.len256
  have hN2 : 2 ^ log ≤ 2 ^ 15 := Nat.pow_le_pow_right (by omega) h15
  have hSl : S.length = 2 ^ log := L.len
  have c40 := o43.cell (off := 0)
  have c41 := o43.cell (off := 1)
  have c10 := o13.cell (off := 0)
  simp only [List.getElem?_cons_zero, List.getElem?_cons_succ] at c40 c41 c10
  have hltN : i < 2 ^ log := by omega
  obtain ⟨s, hsl, hsS, hp1, hp2, hk', hcnt⟩ := VJ hm L hltN
  obtain ⟨k, hkk⟩ : ∃ k, k = ZZ ps S i := ⟨_, rfl⟩
  rw [← hkk] at hk'
  have hk2 : k < 2 ^ (log + 1) := by rw [Nat.pow_succ]; omega
  obtain ⟨eb1, eb2, eb3, eb4⟩ := Xc (log := log) (k := k) (by omega) hk2
  have hel : i < (Es log ps S i).length := by rw [zZ]; exact hltN
  obtain ⟨f0, f1, f2⟩ := O1 .u8 (Es log ps S i) i hel
  rw [Xs hltN] at f0
  simp only at f0
  rw [hsS] at f0
  have g0 := ob3.cell (off := i * 3)
  rw [f0] at g0
  have hnx : ((UU ps S i).map (Value.int .i64))[s]? = some (.int .i64 k) := by
    rw [List.getElem?_map, List.getElem?_eq_getElem (by rw [Lc]; exact hsl), TS hsl, hk']
    simp; omega
  have gn := on3.cell (off := s)
  rw [hnx] at gn
  have hkb : k < 131072 := by
    have : 2 ^ (log + 1) ≤ 2 ^ 16 := Nat.pow_le_pow_right (by omega) (by omega)
    omega
  have hpn := mJ (hm.low _ (List.getElem_mem hsl))
  have hSi : S[i]'(by omega) = (s : Int) := by rw [← hsS, List.getD_eq_getElem?_getD, List.getElem?_eq_getElem (by omega)] <;> rfl
  have hns := Y2 (ps := ps) (S := S) (i := i) (s := s) (by omega) hsl hSi
  have hkv : iA ps[s] + ((S.take i).count (s : Int) : Nat) + 1 = (k : Int) + 1 := by rw [hk']; omega
  rw [hkv] at hns
  have hent : Qz log ps S i = Cv log (s : Int) k := by unfold Qz; rw [hsS, ← hkk]
  have hes := XQ (log := log) (ps := ps) (S := S) (i := i) hltN
  rw [hent] at hes
  have hE0 : (Es log ps S i)[i]'hel = ((s : Int), 0, 0) := by rw [Xs hltN, hsS]
  clear hkk hcnt
  unfold yR Ha Hd GL
  simp (disch := omega) only [cO, aZ, Nat.zero_add, aF, bU, c41, cX, bT, Int.toNat_natCast, gB, bC, eA, g0, dJ, eI, gn, fB, eL]
  refine yW on3 rfl (by simp [Lc]; omega) fun w4 on4 x4 s4 => ?_
  rw [← List.map_set, hns] at on4
  unfold CI Hm
  have o14 := lA (o13.ext x4 (by omega))
  have o44 := o43.ext x4 (by omega)
  have ob4 := ob3.ext x4 (by omega)
  have c10 := o14.cell (off := 0)
  simp only [List.getElem?_cons_zero] at c10
  simp (disch := omega) only [cO, aW, dD, fU, gY, Result.ok.injEq, Next.value.injEq, and_true, gB, aF, bL, true_and, eI, c10, cX]
  refine (Xj k (by omega) _).mono ?_
  rintro r w5 ⟨rfl, rfl⟩
  obtain ⟨nbits, hnbits⟩ : ∃ x, x = log + 1 - bl k := ⟨_, rfl⟩
  have e2 : (log : Int) - (bl k : Int) + 1 = (nbits : Int) := by omega
  have e3 : IntKind.i64.wrap ((log : Int) - (bl k : Int)) = (log : Int) - (bl k : Int) := eL (by omega) (by omega)
  simp (disch := omega) only [c10, cX, fL, e3, aF, fB, e2, eL, true_and]
  have ob4 := lA ob4
  refine yW ob4 rfl (by rw [lY, zZ]; omega) fun w5 ob5 x5 s5 => ?_
  rw [(OF .u8 (Es log ps S i) i hel _).2.1, hE0] at ob5
  unfold CE
  have o45 := lA ((lA o44).ext x5 (by omega))
  have ob5 := lA ob5
  have on5 := lA ((lA on4).ext x5 (by omega))
  have c41 := o45.cell (off := 1)
  simp only [List.getElem?_cons_zero, List.getElem?_cons_succ] at c41
  have hel5 : i < ((Es log ps S i).set i ((s : Int), (nbits : Int), 0)).length := by simpa using hel
  obtain ⟨-, f1, -⟩ := O1 .u8 _ i hel5
  simp only [List.getElem_set_self] at f1
  have g1 := ob5.cell (off := i * 3 + 1)
  rw [f1] at g1
  have hnb2 : k * 2 ^ nbits ≤ 2 ^ 16 := by
    rw [hnbits]
    have : 2 ^ (log + 1) ≤ 2 ^ 16 := Nat.pow_le_pow_right (by omega) (by omega)
    have := Nat.mul_le_mul_right (2 ^ (log + 1 - bl k)) (show k ≤ k + 1 by omega)
    omega
  have e4 := YY (k := k) (b := nbits) (by omega) (by omega)
  have e5 : (((k * 2 ^ nbits : Nat) : Int) - (N : Int)) = (Cv log (s : Int) k).2.2 := by
    unfold Cv
    simp only
    rw [← hnbits, ← hN]
    simp
  have e6 : IntKind.i64.wrap (((k * 2 ^ nbits : Nat) : Int) - (N : Int)) = ((k * 2 ^ nbits : Nat) : Int) - (N : Int) := eL (by omega) (by omega)
  rw [e5] at e6
  have e7 : (Cv log (s : Int) k) = ((s : Int), (nbits : Int), (Cv log (s : Int) k).2.2) := by unfold Cv; rw [hnbits]
  generalize hq : k * 2 ^ nbits = q at *
  generalize hbase : (Cv log (s : Int) k).2.2 = base at *
  simp (disch := omega) only [cO, gB, aZ, Nat.zero_add, aF, bN, true_and, bU, c41, cX, bV, bL, eI, g1, fT, Int.toNat_natCast, e4, fL, e5, e6]
  refine yW ob5 rfl (by rw [lY]; simp [zZ]; omega) fun w6 ob6 x6 s6 => ?_
  rw [(OF .u8 _ i hel5 _).2.2] at ob6
  simp only [List.getElem_set_self, List.set_set] at ob6
  rw [← e7, hes] at ob6
  have xx : gS w3 w6 (fun y => y = nb ∨ y = b) :=
    ((((x4.mono fun _ _ h => .inl h : gS w3 w4 (fun y => y = nb ∨ y = b)).seq (gS.dr _ _)).seq (x5.mono fun _ _ h => .inr h)).seq (gS.dr _ _)).seq (x6.mono fun _ _ h => .inr h)
  unfold CS
  simp (disch := omega) only [cO, fB, eL, aF]
  exact hk _ (on5.ext x6 (by omega)) ob6 xx
theorem Wq (hm : Jo log ps) (L : Zj log ps S) (hN : 2 ^ log = N) {w3 : World}
    (on3 : jL w3 nb ((UU ps S 0).map (Value.int .i64))) (ob3 : jL w3 b (fe .u8 (m3 S)))
    (o13 : jL w3 p1 [.int .i64 log, sv]) (o23 : jL w3 p2 [.int .i64 0, .slice none 0 0]) (o43 : jL w3 p4 [.int .i64 log, .slice (some ⟨b, 0, none⟩) N N])
    (hne : p1 ≠ b ∧ p4 ≠ b ∧ nb ≠ b ∧ p1 ≠ nb ∧ p4 ≠ nb ∧ p2 ≠ b ∧ p2 ≠ nb) (hlo : w0.heap.size ≤ p2 ∧ w0.heap.size ≤ b ∧ w0.heap.size ≤ nb) (hx : gS w0 w3 jR) {R : Value → World → Prop}
    (hR : ∀ w', jL w' b (fe .u8 (Es log ps S N)) → gS w0 w' jR → R (.tuple #[.agg #[.int .i64 log, .slice (some ⟨b, 0, none⟩) N N], .int .i64 0]) w') :
    uG R (.pointer (some ⟨p1, 0, none⟩)) (.pointer (some ⟨p2, 0, none⟩)) (.pointer (some ⟨p4, 0, none⟩)) (.slice (some ⟨nb, 0, none⟩) ps.length ps.length) w3 := by
  have hN2 : 2 ^ log ≤ 2 ^ 15 := Nat.pow_le_pow_right (by omega) hm.log15
  have c41 := o43.cell (off := 1)
  simp only [List.getElem?_cons_zero, List.getElem?_cons_succ] at c41
  unfold uG FK FP Bh FM
  simp (disch := omega) only [cO, aZ, Nat.zero_add, aF, bU, c41, cX, bV]
  have ob0 : jL w3 b (fe .u8 (Es log ps S 0)) := by rw [V1 L.len]; exact ob3
  refine iY.rule (fun m t w' => ∃ i : Nat, m = N - i ∧ t = .int .i64 i ∧ i ≤ N ∧ jL w' nb ((UU ps S i).map (Value.int .i64)) ∧ jL w' b (fe .u8 (Es log ps S i)) ∧ gS w3 w' (fun y => y = nb ∨ y = b)) N
    ⟨0, rfl, rfl, by omega, on3, ob0, gS.refl _ _⟩ ?_
  rintro m t w4 ⟨i, rfl, rfl, hi, on4, ob4, x4⟩
  unfold AV Fj
  have o44 := o43.ext x4 (by omega)
  have o24 := o23.ext x4 (by omega)
  by_cases hlt : i < N
  · have d1 : decide ((i : Int) < (N : Int)) = true := by simp only [decide_eq_true_eq]; omega
    simp (disch := omega) only [cO, eY, d1, aF, dA]
    refine Va hm L hN hlt on4 ob4 (o13.ext x4 (by omega)) o44 ⟨hne.1, hne.2.1, hne.2.2.1, hne.2.2.2.1, hne.2.2.2.2.1⟩ fun w5 on5 ob5 x5 => ?_
    exact ⟨N - (i + 1), by omega, i + 1, rfl, rfl, by omega, on5, ob5, x4.trans x5 (fun _ _ h => h)⟩
  · have d1 : decide ((i : Int) < (N : Int)) = false := by simp only [decide_eq_false_iff_not]; omega
    have : i = N := by omega
    subst this
    have l4 := nZ (off := 0) o44 (by simp)
    simp only [List.drop_zero, List.take_succ_cons, List.take_zero] at l4
    simp (disch := omega) only [cO, eY, d1, aF, cQ]
    unfold CJ
    simp (disch := omega) only [cO, l4, aF]
    refine jM o24 rfl (by simp [one]) (by simp) fun w5 o25 x5 s5 => ?_
    refine nY o25 (by simp [fV]) ?_
    simp only [fV, List.set_cons_zero, List.set_cons_succ, List.drop_zero, List.take_succ_cons, List.take_zero]
    exact hR _ (ob4.ext x5 (by omega)) ((hx.trans x4 (fun y hy hh => by omega)).new x5 hlo.1)
theorem UY (hm : Jo log ps) (L : Zj log ps S) (hN : 2 ^ log = N) {w : World} (hs : Sl w0 sv (ps.map (Value.int .i64)))
    (o1 : jL w p1 [.int .i64 log, sv]) (o2 : jL w p2 [.int .i64 0, .slice none 0 0]) (o4 : jL w p4 [.int .i64 log, .slice (some ⟨b, 0, none⟩) N N]) (ob : jL w b (fe .u8 (m3 S)))
    (hlo : w0.heap.size ≤ p2 ∧ w0.heap.size ≤ b) (hne : p1 ≠ b ∧ p2 ≠ b ∧ p4 ≠ b) (hx : gS w0 w jR) {R : Value → World → Prop}
    (hR : ∀ w', jL w' b (fe .u8 (Es log ps S N)) → gS w0 w' jR → R (.tuple #[.agg #[.int .i64 log, .slice (some ⟨b, 0, none⟩) N N], .int .i64 0]) w') :
    rI R (.pointer (some ⟨p1, 0, none⟩)) (.pointer (some ⟨p2, 0, none⟩)) (.pointer (some ⟨p4, 0, none⟩)) w := by
  have hlen := hm.len256
  have hN2 : 2 ^ log ≤ 2 ^ 15 := Nat.pow_le_pow_right (by omega) hm.log15
  obtain ⟨a, c, rfl, hc⟩ := hs.lenI
  have c1 := o1.cell (off := 1)
  simp only [List.getElem?_cons_zero, List.getElem?_cons_succ] at c1
  unfold rI FV
  simp (disch := omega) only [cO, aJ, Nat.zero_add, aF, dF, c1, cX, dI]
  refine Tf (by omega) (by omega) fun w1 on x1 s1 => ?_
  rw [Int.toNat_natCast] at on ⊢
  have l1 := o1.lt
  have l2 := o2.lt
  have l4 := o4.lt
  have lb := ob.lt
  have o1 := o1.ext x1 (fun h => h)
  have o2 := o2.ext x1 (fun h => h)
  have o4 := o4.ext x1 (fun h => h)
  have ob := ob.ext x1 (fun h => h)
  have x01 := hx.seq x1
  have c1 := o1.cell (off := 1)
  simp only [List.getElem?_cons_zero, List.getElem?_cons_succ] at c1
  have hwn : w0.heap.size ≤ w.heap.size := hx.size
  generalize w.heap.size = nb at *
  unfold AY Fr Fq Bd E8
  simp (disch := omega) only [cO, aJ, Nat.zero_add, aF, dF, c1, cX, dI]
  refine iY.rule (fun m t w' => ∃ i : Nat, m = ps.length - i ∧ t = .int .i64 i ∧ i ≤ ps.length ∧ jL w' nb (((ps.take i).map iA ++ List.replicate (ps.length - i) 0).map (Value.int .i64)) ∧ gS w0 w' jR ∧ gS w1 w' (fun y => y = nb)) ps.length
    ⟨0, rfl, rfl, by omega, by simpa using on, x01, gS.refl _ _⟩ ?_
  rintro m t w2 ⟨i, rfl, rfl, hi, on2, x2, y2⟩
  by_cases hlt : i < ps.length
  · have d1 : decide ((i : Int) < (ps.length : Int)) = true := by simp; omega
    obtain ⟨b', off', c', e, _, hcell⟩ := (hs.ext x2 (iQ _)).openI (by omega)
    cases e
    have g1 := hcell i hlt
    have hp := hm.low _ (List.getElem_mem hlt)
    have hple := St hm hlt
    have hpv : iA ps[i] = ps[i] ∨ ps[i] = -1 := by unfold iA; split <;> omega
    have hpn := mJ hp
    have emax : (if (0 - ps[i]) > ps[i] then (0 - ps[i]) else ps[i]) = iA ps[i] := by unfold iA; split <;> split <;> omega
    unfold uM
    simp (disch := omega) only [cO, eY, d1, dJ, Int.toNat_natCast, Nat.zero_add, fB, eL, aF, eI, g1, cX, gI, gG, emax, dA]
    refine yW on2 rfl (by simp; omega) fun w3 on3 x3 s3 => ?_
    refine ⟨ps.length - (i + 1), by omega, i + 1, rfl, rfl, by omega, ?_, x2.new x3 hwn, y2.trans x3 (fun _ _ h => h)⟩
    rw [← List.map_set] at on3
    have e : ((ps.take i).map iA ++ List.replicate (ps.length - i) 0).set i (iA ps[i]) = (ps.take (i + 1)).map iA ++ List.replicate (ps.length - (i + 1)) 0 := by
      rw [show ps.length - i = (ps.length - (i + 1)) + 1 from by omega, List.replicate_succ, List.set_append_right _ _ (by rw [List.length_map, List.length_take]; omega)]
      have : i - ((ps.take i).map iA).length = 0 := by rw [List.length_map, List.length_take]; omega
      rw [this, List.set_cons_zero, List.take_add_one, List.getElem?_eq_getElem hlt, List.map_append, List.append_assoc]
      rfl
    rw [e] at on3
    exact on3
  · have d1 : decide ((i : Int) < (ps.length : Int)) = false := by simp; omega
    have : i = ps.length := by omega
    subst this
    have on2 : jL w2 nb ((UU ps S 0).map (Value.int .i64)) := by rw [Xf]; simpa using on2
    unfold uM
    simp (disch := omega) only [cO, eY, d1, fB, eL, aF, cQ]
    exact Wq hm L hN on2 (ob.ext y2 (by omega)) (o1.ext y2 (by omega)) (o2.ext y2 (by omega)) (o4.ext y2 (by omega)) (by omega) (by omega) x2 hR
def Ym (w : World) (base b log : Nat) (L : List T3) (v : Value) : Prop := v = .agg #[.int .i64 log, .slice (some ⟨b, 0, none⟩) L.length L.length] ∧ base ≤ b ∧ jL w b (fe .u8 L)
theorem Wa {log most : Nat} {ps : List Int} (h : Jo log ps) (hl : log ≤ most) : Uw log ps most = 0 := by
  unfold Uw; rw [h.b]; simp; omega
theorem RJ {w : World} (hm : Jo log ps) (hs : Sl w sv (ps.map (Value.int .i64))) :
    hJ pg pN #[.agg #[.int .i64 log, sv]] w (fun r w' => ∃ b v, r = .tuple #[v, .int .i64 0] ∧ Ym w' w.heap.size b log (mD log ps) v ∧ gS w w' jR) := by
  refine Ii ?_
  have hlen := hm.len256
  unfold Pl Bm Bj
  refine nR fun w1 o1 x1 s1 => ?_
  refine kR fun w2 o2 x2 s2 => ?_
  have o1 := o1.ext x2 (fun h => h)
  have l1 := kC (off := 0) o1 (by simp [Value.cells])
  simp only [Value.cells, List.drop_zero, List.take_succ_cons, List.take_zero] at l1
  simp (disch := omega) only [cO, l1, cS, aF, aW, gY, Result.ok.injEq, Next.value.injEq, and_true, eI, true_and]
  refine (VM (most := 15) ((hs.ext x1 (iQ _)).ext x2 (iQ _)) (by omega)).mono ?_
  rintro r w3 ⟨rfl, x3⟩
  have hce := Wa (most := 15) hm hm.log15
  rw [show (((15 : Nat) : Int)) = 15 from rfl] at hce
  rw [hce]
  have e0 : ((0 : Int) != 0) = false := rfl
  have x03 : gS w w3 jR := (x1.seq x2).seq x3
  have o1 := lA (o1.ext x3 (fun h => h))
  have o2 := lA (o2.ext x3 (fun h => h))
  have c0 := o1.cell (off := 0)
  simp only [Value.cells, List.getElem?_cons_zero] at c0
  have l1 := kC (off := 0) o1 (by simp [Value.cells])
  simp only [Value.cells, List.drop_zero, List.take_succ_cons, List.take_zero] at l1
  have hz2 := o2.lt
  have fin : ∀ {b p4 : Nat} {w' : World}, jL w' w.heap.size [.int .i64 log, sv] → jL w' w1.heap.size [.int .i64 0, .slice none 0 0] → jL w' p4 [.int .i64 log, .slice (some ⟨b, 0, none⟩) (2 ^ log) (2 ^ log)] → jL w' b (fe .u8 (m3 (tT 0 log ps))) → w2.heap.size ≤ b → p4 ≠ b → gS w w' jR →
      rI (fun r w' => ∃ b v, r = .tuple #[v, .int .i64 0] ∧ Ym w' w.heap.size b log (mD log ps) v ∧ gS w w' jR) (.pointer (some ⟨w.heap.size, 0, none⟩)) (.pointer (some ⟨w1.heap.size, 0, none⟩)) (.pointer (some ⟨p4, 0, none⟩)) w' := by
    intro b p4 w' h1 h2 h3 h4 h5 h6 h7
    refine UY hm (GJ hm 0) rfl hs h1 h2 h3 h4 (by omega) (by omega) h7 fun w'' ho hx => ?_
    rw [XD] at ho
    exact ⟨b, _, rfl, ⟨by rw [mO], by omega, ho⟩, hx⟩
  simp (disch := omega) only [fQ, e0, aF, cQ]
  have hdr : (dr w3).heap.size = w3.heap.size := rfl
  have h23 := x3.size
  refine H4 ?_ ?_
  · simp (disch := omega) only [c0, cX, l1, aF, true_and]
    refine (Uk hm ((hs.ext x03 (iQ _)).dr)).mono ?_
    rintro r w4 ⟨b, rfl, hb, ob, x4⟩
    have o1 := o1.ext x4 (fun h => h)
    have c0 := o1.cell (off := 0)
    simp only [Value.cells, List.getElem?_cons_zero] at c0
    simp (disch := omega) only [c0, cX, bR, Result.ok.injEq, Next.value.injEq, and_true, aF, true_and]
    refine kR fun w5 o5 x5 s5 => ?_
    have o1 := o1.ext x5 (fun h => h)
    have c0 := o1.cell (off := 0)
    simp only [Value.cells, List.getElem?_cons_zero] at c0
    simp (disch := omega) only [c0, cX, true_and]
    have hlb := ob.lt
    refine jM o5 rfl (by simp [one]) (by simp) fun w6 o6 x6 s6 => ?_
    have h45 := x4.size
    refine fin (o1.ext x6 (by omega)) (((o2.ext x4 (fun h => h)).ext x5 (fun h => h)).ext x6 (by omega)) o6 ((ob.ext x5 (fun h => h)).ext x6 (by omega)) (by omega) (by omega) ?_
    exact (((x03.seq (gS.dr _ _)).seq x4).seq x5).new x6 (by omega)
  · simp (disch := omega) only [c0, cX, l1, aF, true_and]
    refine kR fun w4 o4 x4 s4 => ?_
    have o1 := o1.ext x4 (fun h => h)
    have c0 := o1.cell (off := 0)
    simp only [Value.cells, List.getElem?_cons_zero] at c0
    have l1 := kC (off := 0) o1 (by simp [Value.cells])
    simp only [Value.cells, List.drop_zero, List.take_succ_cons, List.take_zero] at l1
    simp (disch := omega) only [l1, c0, cX, and_true, true_and]
    refine (Uk hm ((((hs.ext x03 (iQ _)).dr).ext x4 (iQ _)))).mono ?_
    rintro r w5 ⟨b, rfl, hb, ob, x5⟩
    have o1 := o1.ext x5 (fun h => h)
    have c0 := o1.cell (off := 0)
    simp only [Value.cells, List.getElem?_cons_zero] at c0
    simp (disch := omega) only [c0, cX, bR, aF, true_and]
    refine jM (o4.ext x5 (fun h => h)) rfl (by simp [one]) (by simp) fun w6 o6 x6 s6 => ?_
    refine fin (o1.ext x6 (by omega)) (((o2.ext x4 (fun h => h)).ext x5 (fun h => h)).ext x6 (by omega)) o6 (ob.ext x6 (by omega)) (by omega) (by omega) ?_
    exact (((x03.seq (gS.dr _ _)).seq x4).seq x5).new x6 (by omega)
theorem WI {log : Int} {w : World} (hm : Iw log ps = false) (hs : Sl w sv (ps.map (Value.int .i64))) (hl : ps.length ≤ 9223372036854775807) :
    hJ pg pN #[.agg #[.int .i64 log, sv]] w (fun r w' => r = .tuple #[.agg #[.int .i64 0, .slice none 0 0], .int .i64 1] ∧ gS w w' jR) := by
  refine Ii ?_
  unfold Pl Bm Bj
  refine nR fun w1 o1 x1 s1 => ?_
  refine kR fun w2 o2 x2 s2 => ?_
  have o1 := o1.ext x2 (fun h => h)
  have l1 := kC (off := 0) o1 (by simp [Value.cells])
  simp only [Value.cells, List.drop_zero, List.take_succ_cons, List.take_zero] at l1
  simp (disch := omega) only [cO, l1, cS, aF, aW, gY, Result.ok.injEq, Next.value.injEq, and_true, eI, true_and]
  refine (VM (most := 15) ((hs.ext x1 (iQ _)).ext x2 (iQ _)) (by omega)).mono ?_
  rintro r w3 ⟨rfl, x3⟩
  have hce : Uw log ps 15 = 1 := by unfold Uw; rw [hm] <;> rfl
  rw [hce]
  have e0 : ((1 : Int) != 0) = true := rfl
  simp (disch := omega) only [fQ, e0, aF, dA]
  refine jM (o2.ext x3 (fun h => h)) rfl (by simp [one]) (by simp) fun w6 o6 x6 s6 => ?_
  refine nY o6 (by simp [fV]) ⟨rfl, ?_⟩
  exact ((x1.seq x2).seq x3).new x6 (by omega)
end
end Go.Proofs.YtoepfjgekpdddaaDoor
namespace Go.Proofs.YtoepfjgekpdddaaDoor
open Go Go.En Go.Pu
set_option maxRecDepth 4000
set_option linter.unusedSimpArgs false
set_option linter.unusedVariables false
theorem Ym.ext {w w' : World} {base b log : Nat} {L : List T3} {v : Value} {M : Nat → Prop} (h : Ym w base b log L v) (hx : gS w w' M) (hM : ¬ M b) : Ym w' base b log L v := ⟨h.1, h.2.1, h.2.2.ext hx hM⟩
theorem VS {k : IntKind} {L : List T3} {i : Nat} (h : i < L.length) : ((fe k L).drop (i * 3)).take 3 = [.int k L[i].1, .int .i64 L[i].2.1, .int .i64 L[i].2.2] := by
  obtain ⟨h0, h1, h2⟩ := O1 k L i h
  apply List.ext_getElem?
  intro j
  match j with
  | 0 => rw [List.getElem?_take_of_lt (by omega), List.getElem?_drop]; exact h0
  | 1 => rw [List.getElem?_take_of_lt (by omega), List.getElem?_drop]; exact h1
  | 2 => rw [List.getElem?_take_of_lt (by omega), List.getElem?_drop]; exact h2
  | j + 3 => rw [List.getElem?_eq_none (by rw [List.length_take]; omega), List.getElem?_eq_none (by simp)]
theorem RY (log : Nat) (ps : List Int) {i : Nat} (h : i < 2 ^ log) : ((mD log ps)[i]'(by rw [mO]; exact h)).1 = (tT 0 log ps).getD i 0 := by
  unfold mD Qz Cv; simp
theorem SB {log : Nat} {ps : List Int} (hm : Jo log ps) {s : Nat} (hs : s < ps.length) (hp : ps[s] ≠ 0) : ∃ i, ∃ h : i < (mD log ps).length, ((mD log ps)[i]'h).1 = (s : Int) := by
  have L := GJ hm 0
  have hc := L.cnt s hs
  have hl := hm.low _ (List.getElem_mem hs)
  have hpos : 0 < (tT 0 log ps).count (s : Int) := by rw [hc]; unfold iA; split <;> omega
  obtain ⟨i, hi, e⟩ := List.getElem_of_mem (List.count_pos_iff.1 hpos)
  have hi2 : i < 2 ^ log := by rw [← L.len]; exact hi
  refine ⟨i, by rw [mO]; exact hi2, ?_⟩
  rw [RY log ps hi2, List.getD_eq_getElem?_getD, List.getElem?_eq_getElem hi, e] <;> rfl
def cn (S : List Int) (i : Nat) : List Int := (List.range 256).map fun (s : Nat) => (((S.take i).count (s : Int) : Nat) : Int)
theorem PB (S : List Int) (i : Nat) : (cn S i).length = 256 := by simp [cn]
theorem YF (S : List Int) : cn S 0 = List.replicate 256 0 := by
  unfold cn
  apply List.ext_getElem
  · simp
  · intro i h1 h2
    simp only [List.getElem_map, List.getElem_range, List.take_zero, List.count_nil, List.getElem_replicate]; rfl
theorem Vv {S : List Int} {i s : Nat} (h : s < 256) : (cn S i)[s]'(by rw [PB]; exact h) = (((S.take i).count (s : Int) : Nat) : Int) := by simp [cn]
theorem Zh {S : List Int} {i s : Nat} (hi : i < S.length) (hs : s < 256) (e : S[i] = (s : Int)) : (cn S i).set s ((((S.take i).count (s : Int) : Nat) : Int) + 1) = cn S (i + 1) := by
  apply List.ext_getElem
  · simp [cn]
  · intro j h1 h2
    have hj : j < 256 := by simpa [cn] using h2
    rw [List.getElem_set, Vv hj, Vv hj, List.take_add_one, List.getElem?_eq_getElem hi, List.count_append]
    simp only [Option.toList, e, List.count_singleton]
    by_cases hij : s = j
    · subst hij; simp
    · have : ((s : Int) == (j : Int)) = false := by simp; omega
      rw [if_neg hij, this]; simp
end Go.Proofs.YtoepfjgekpdddaaDoor
namespace Go.Proofs.YtoepfjgekpdddaaDoor
open Go Go.En Go.Pu
set_option maxRecDepth 4000
set_option linter.unusedSimpArgs false
set_option linter.unusedVariables false
theorem Wb (s : Int) (w : World) : hJ pg Ah #[.int .u8 s] w (fun r w' => ∃ b, Ym w' w.heap.size b 0 [(s, 0, 0)] r ∧ gS w w' jR) := by
  refine TP ?_
  unfold VY LG
  refine kR fun w1 o1 x1 s1 => ?_
  simp (disch := omega) only [cO, cJ, aF]
  refine QV (cells := #[.int .u8 s, .int .i64 0, .int .i64 0]) (by decide) (by decide) (by kernel_rfl) fun w2 o2 x2 s2 => ?_
  simp (disch := omega) only [cL, aF]
  have l1 := o1.lt
  refine jM (o1.ext x2 (fun h => h)) rfl (by simp [one]) (by simp) fun w3 o3 x3 s3 => ?_
  refine nY o3 (by simp [fV]) ?_
  simp only [fV, List.set_cons_zero, List.set_cons_succ, List.drop_zero, List.take_succ_cons, List.take_zero]
  exact ⟨w1.heap.size, ⟨rfl, by omega, o2.ext x3 (by omega)⟩, (x1.seq x2).new x3 (Nat.le_refl _)⟩
end Go.Proofs.YtoepfjgekpdddaaDoor
namespace Go.Proofs.YtoepfjgekpdddaaDoor
open Go Go.En Go.Pu
set_option maxRecDepth 4000
set_option linter.unusedSimpArgs false
set_option linter.unusedVariables false
abbrev SR (w : World) (g : Nat) (zs : List Int) : Prop := ∀ i (h : i < zs.length), w.cell? ⟨g, i, none⟩ = some (.int .i64 zs[i])
theorem SR.ext {w w' : World} {g : Nat} {zs : List Int} {M : Nat → Prop} (h : SR w g zs) (x : gS w w' M) (hM : ¬ M g) : SR w' g zs := fun i hi => by
  have hc := h i hi
  have hg : g < w.heap.size := by
    rcases Nat.lt_or_ge g w.heap.size with h | h
    · exact h
    · unfold World.cell? at hc
      rw [Array.getElem?_eq_none h] at hc
      cases hc
  rw [← hc]
  unfold World.cell?
  rw [x.keep g hg hM]
theorem SR.ld {w : World} {g : Nat} {zs : List Int} (h : SR w g zs) : ∀ j, j < (zs.map (Value.int .i64)).length → w.cell? ⟨g, 0 + j, none⟩ = (zs.map (Value.int .i64))[j]? := fun j hj => by
  rw [List.length_map] at hj
  rw [Nat.zero_add, h j hj, List.getElem?_map, List.getElem?_eq_getElem hj] <;> rfl
theorem HU (zs : List Int) (i : Nat) (h : i < zs.length) : zs.getD i 0 = zs[i] := by
  rw [List.getD_eq_getElem?_getD, List.getElem?_eq_getElem h] <;> rfl
theorem Vp (xs cs : List Value) (h : cs.length = xs.length) : fV cs 0 xs = xs := by
  have := F3 xs [] cs (by omega)
  rw [List.nil_append, List.drop_of_length_le (by omega), List.append_nil, List.nil_append] at this
  exact this
theorem It {w : World} {b n : Nat} {zs : List Int} (o : jL w b (zs.map (Value.int .i64))) (h : zs.length = n) : Sl w (.slice (some ⟨b, 0, none⟩) n n) (zs.map (Value.int .i64)) := by
  refine ⟨_, _, _, rfl, by rw [List.length_map, h], Nat.le_refl _, fun _ => ⟨_, _, rfl, fun i hi => ?_⟩⟩
  rw [o.cell, Nat.zero_add]
theorem Dj (zs : List Int) (n : Nat) (hz : zs.length = n) (cs : List Value) (h : cs.length = n) : fV cs 0 (zs.map (Value.int .i64)) = zs.map (Value.int .i64) := Vp _ cs (by rw [h, List.length_map, hz])
theorem Iq (zs : List Int) : ∀ x ∈ (zs.map (Value.int .i64)).toArray.toList, one x = true := fun x hx => by
  rw [List.toList_toArray] at hx
  obtain ⟨z, _, rfl⟩ := List.mem_map.1 hx
  rfl
def Zq : List Int := [1, 1, 1, 1, 2, 2, 3, 3, 4, 6, 7, 8, 9, 10, 11, 12, 13, 14, 15, 16]
def Zk : List Int := [1, 1, 1, 1, 2, 2, 3, 3, 4, 4, 5, 7, 8, 9, 10, 11, 12, 13, 14, 15, 16]
def Y8 : List Int := [4, 3, 2, 2, 2, 2, 2, 2, 2, 2, 2, 2, 2, 1, 1, 1, 2, 2, 2, 2, 2, 2, 2, 2, 2, 3, 2, 1, 1, 1, 1, 1, -1, -1, -1, -1]
def Zc : List Int := [1, 1, 1, 1, 1, 1, 2, 2, 2, 1, 1, 1, 1, 1, 1, 1, 1, 1, 1, 1, 1, 1, 1, 1, -1, -1, -1, -1, -1]
def Y4 : List Int := [1, 4, 3, 2, 2, 2, 2, 2, 2, 1, 1, 1, 1, 1, 1, 1, 1, 1, 1, 1, 1, 1, 1, 1, 1, 1, 1, 1, 1, 1, 1, 1, 1, 1, 1, 1, 1, 1, 1, 1, 1, 1, 1, 1, 1, 1, -1, -1, -1, -1, -1, -1, -1]
structure Gh (w : World) : Prop where
  cl : SR w 3 Zq
  cm : SR w 4 Zk
  tl : SR w 0 Y8
  to : SR w 1 Zc
  tm : SR w 2 Y4
theorem Gh.ext {w w' : World} (h : Gh w) (x : gS w w' jR) : Gh w' :=
  ⟨h.cl.ext x (fun h => h), h.cm.ext x (fun h => h), h.tl.ext x (fun h => h), h.to.ext x (fun h => h), h.tm.ext x (fun h => h)⟩
def VL (a : Int) : Int := if a = 0 then 16 else if a = 2 then 32 else 0
def Z3 (a : Int) : Int := if a = 2 then 3 else 0
def W4 (a : Int) : List Int := if a = 0 then Zq else if a = 2 then Zk else []
def nB (a : Int) : Int := if a = 0 then 35 else if a = 1 then 31 else if a = 2 then 52 else -1
theorem aaB {a : Int} {w : World} (hg : Gh w) :
    hJ pg E2 #[.int .i64 a] w (fun r w' => ∃ v, r = .tuple #[.int .i64 (VL a), .int .u32 (Z3 a), v] ∧ Sl w' v ((W4 a).map (Value.int .i64)) ∧ gS w w' jR) := by
  refine RV ?_
  unfold Ta G9 VL Z3 W4
  by_cases h0 : a = 0
  · subst h0
    have n1 : ((0 : Int) == 0) = true := rfl
    have l1 := TF (b := 3) (off := 0) (l := Zq.map (Value.int .i64)) rfl hg.cl.ld
    simp (disch := omega) only [cO, gY, aF, dO, fB, fL, fX, fW, fY, gF, iP, gK, eD, fT, gC, fR, fQ, eY, gH, fJ, fZ, gI, gO, gD, eP, gP, gG, gB, lE, lC, lL, lJ, lK, lV, lU, lW, lT, cX, Result.ok.injEq, Next.value.injEq, true_and, and_true, eL, fU, gL, gN, gM, iK, Int.toNat_natCast, fK, fD, fM, eZ, dZ, dV, eU, eC, dA, cQ, if_true, if_false, Bool.false_eq_true, Nat.zero_add, Option.isNone_some, Option.isNone_none, Bool.not_true, Bool.not_false, List.getElem?_cons_succ, List.getElem?_cons_zero, cS, aZ, bU, bV, bT, bC, eA, dG, dH, dC, aW, eI, bR, aJ, dF, dI, dJ, dD, bL, bN, cB, bA, cF, cG, bF, cJ, cL, cZ, cK, cD, cH, cC, dR, bW, cU, dT, bS, cV, aY, cI, dQ, bH, aO, aI, aP, aK, aM, aT, aE, cM, bG, cY, bP, bY, cP, aQ, aV, aU, aX, aR, aD, aB, aC, dB, aH, aG, bM, bB, bK, dE, bE, bZ, bD, bQ, bO, aL, dS, aS, dM, dL, aN, bX, cA, dN, eS, n1, l1]
    refine UK fun w2 o2 x2 s2 => ?_
    refine TC o2 rfl (Iq _) (by simp) fun w3 o3 x3 s3 => ?_
    have o3 : jL w3 w.heap.size (Zq.map (Value.int .i64)) := by
      rw [List.toList_toArray, Dj Zq 20 rfl] at o3
      · exact o3
      · rfl
    have x13 : gS w w3 jR := x2.new x3 (by omega)
    have hsh : qP ⟨w.heap.size, 0, none⟩ 20 0 1 = ⟨w.heap.size, 0, none⟩ := Ag (by decide)
    simp (disch := omega) only [cO, gY, aF, dO, fB, fL, fX, fW, fY, gF, iP, gK, eD, fT, gC, fR, fQ, eY, gH, fJ, fZ, gI, gO, gD, eP, gP, gG, gB, lE, lC, lL, lJ, lK, lV, lU, lW, lT, cX, Result.ok.injEq, Next.value.injEq, true_and, and_true, eL, fU, gL, gN, gM, iK, Int.toNat_natCast, fK, fD, fM, eZ, dZ, dV, eU, eC, dA, cQ, if_true, if_false, Bool.false_eq_true, Nat.zero_add, Option.isNone_some, Option.isNone_none, Bool.not_true, Bool.not_false, List.getElem?_cons_succ, List.getElem?_cons_zero, cS, aZ, bU, bV, bT, bC, eA, dG, dH, dC, aW, eI, bR, aJ, dF, dI, dJ, dD, bL, bN, cB, bA, cF, cG, bF, cJ, cL, cZ, cK, cD, cH, cC, dR, bW, cU, dT, bS, cV, aY, cI, dQ, bH, aO, aI, aP, aK, aM, aT, aE, cM, bG, cY, bP, bY, cP, aQ, aV, aU, aX, aR, aD, aB, aC, dB, aH, aG, bM, bB, bK, dE, bE, bZ, bD, bQ, bO, aL, dS, aS, dM, dL, aN, bX, cA, dN, eS, hsh]
    exact ⟨_, rfl, It (lA o3) rfl, x13.seq (gS.dr _ _)⟩
  · rw [if_neg h0, if_neg h0]
    have n1 : (a == 0) = false := beq_eq_false_iff_ne.2 h0
    by_cases h2 : a = 2
    · subst h2
      have n2 : ((2 : Int) == 2) = true := rfl
      have l1 := Tt (b := 4) (off := 0) (l := Zk.map (Value.int .i64)) rfl hg.cm.ld
      simp (disch := omega) only [cO, gY, aF, dO, fB, fL, fX, fW, fY, gF, iP, gK, eD, fT, gC, fR, fQ, eY, gH, fJ, fZ, gI, gO, gD, eP, gP, gG, gB, lE, lC, lL, lJ, lK, lV, lU, lW, lT, cX, Result.ok.injEq, Next.value.injEq, true_and, and_true, eL, fU, gL, gN, gM, iK, Int.toNat_natCast, fK, fD, fM, eZ, dZ, dV, eU, eC, dA, cQ, if_true, if_false, Bool.false_eq_true, Nat.zero_add, Option.isNone_some, Option.isNone_none, Bool.not_true, Bool.not_false, List.getElem?_cons_succ, List.getElem?_cons_zero, cS, aZ, bU, bV, bT, bC, eA, dG, dH, dC, aW, eI, bR, aJ, dF, dI, dJ, dD, bL, bN, cB, bA, cF, cG, bF, cJ, cL, cZ, cK, cD, cH, cC, dR, bW, cU, dT, bS, cV, aY, cI, dQ, bH, aO, aI, aP, aK, aM, aT, aE, cM, bG, cY, bP, bY, cP, aQ, aV, aU, aX, aR, aD, aB, aC, dB, aH, aG, bM, bB, bK, dE, bE, bZ, bD, bQ, bO, aL, dS, aS, dM, dL, aN, bX, cA, dN, eS, n1, n2, l1]
      refine Uq fun w2 o2 x2 s2 => ?_
      refine TI o2 rfl (Iq _) (by simp) fun w3 o3 x3 s3 => ?_
      have o3 : jL w3 w.heap.size (Zk.map (Value.int .i64)) := by
        rw [List.toList_toArray, Dj Zk 21 rfl] at o3
        · exact o3
        · rfl
      have x13 : gS w w3 jR := x2.new x3 (by omega)
      have hsh : qP ⟨w.heap.size, 0, none⟩ 21 0 1 = ⟨w.heap.size, 0, none⟩ := Ag (by decide)
      simp (disch := omega) only [cO, gY, aF, dO, fB, fL, fX, fW, fY, gF, iP, gK, eD, fT, gC, fR, fQ, eY, gH, fJ, fZ, gI, gO, gD, eP, gP, gG, gB, lE, lC, lL, lJ, lK, lV, lU, lW, lT, cX, Result.ok.injEq, Next.value.injEq, true_and, and_true, eL, fU, gL, gN, gM, iK, Int.toNat_natCast, fK, fD, fM, eZ, dZ, dV, eU, eC, dA, cQ, if_true, if_false, Bool.false_eq_true, Nat.zero_add, Option.isNone_some, Option.isNone_none, Bool.not_true, Bool.not_false, List.getElem?_cons_succ, List.getElem?_cons_zero, cS, aZ, bU, bV, bT, bC, eA, dG, dH, dC, aW, eI, bR, aJ, dF, dI, dJ, dD, bL, bN, cB, bA, cF, cG, bF, cJ, cL, cZ, cK, cD, cH, cC, dR, bW, cU, dT, bS, cV, aY, cI, dQ, bH, aO, aI, aP, aK, aM, aT, aE, cM, bG, cY, bP, bY, cP, aQ, aV, aU, aX, aR, aD, aB, aC, dB, aH, aG, bM, bB, bK, dE, bE, bZ, bD, bQ, bO, aL, dS, aS, dM, dL, aN, bX, cA, dN, eS, hsh]
      exact ⟨_, rfl, It (lA o3) rfl, x13.seq (gS.dr _ _)⟩
    · rw [if_neg h2, if_neg h2, if_neg h2]
      have n2 : (a == 2) = false := beq_eq_false_iff_ne.2 h2
      simp (disch := omega) only [cO, gY, aF, dO, fB, fL, fX, fW, fY, gF, iP, gK, eD, fT, gC, fR, fQ, eY, gH, fJ, fZ, gI, gO, gD, eP, gP, gG, gB, lE, lC, lL, lJ, lK, lV, lU, lW, lT, cX, Result.ok.injEq, Next.value.injEq, true_and, and_true, eL, fU, gL, gN, gM, iK, Int.toNat_natCast, fK, fD, fM, eZ, dZ, dV, eU, eC, dA, cQ, if_true, if_false, Bool.false_eq_true, Nat.zero_add, Option.isNone_some, Option.isNone_none, Bool.not_true, Bool.not_false, List.getElem?_cons_succ, List.getElem?_cons_zero, cS, aZ, bU, bV, bT, bC, eA, dG, dH, dC, aW, eI, bR, aJ, dF, dI, dJ, dD, bL, bN, cB, bA, cF, cG, bF, cJ, cL, cZ, cK, cD, cH, cC, dR, bW, cU, dT, bS, cV, aY, cI, dQ, bH, aO, aI, aP, aK, aM, aT, aE, cM, bG, cY, bP, bY, cP, aQ, aV, aU, aX, aR, aD, aB, aC, dB, aH, aG, bM, bB, bK, dE, bE, bZ, bD, bQ, bO, aL, dS, aS, dM, dL, aN, bX, cA, dN, eS, n1, n2]
      exact ⟨_, rfl, Sl.nil _, gS.refl _ _⟩
theorem X1 {a : Int} {w : World} (hg : Gh w) :
    hJ pg zI #[.int .i64 a] w (fun r w' => r = .int .i64 (nB a) ∧ gS w w' jR) := by
  refine Ro ?_
  unfold R0 FW
  by_cases h1 : a = 1
  · subst h1
    have n1 : ((1 : Int) == 1) = true := rfl
    simp (disch := omega) only [cO, gY, aF, dO, fB, fL, fX, fW, fY, gF, iP, gK, eD, fT, gC, fR, fQ, eY, gH, fJ, fZ, gI, gO, gD, eP, gP, gG, gB, lE, lC, lL, lJ, lK, lV, lU, lW, lT, cX, Result.ok.injEq, Next.value.injEq, true_and, and_true, eL, fU, gL, gN, gM, iK, Int.toNat_natCast, fK, fD, fM, eZ, dZ, dV, eU, eC, dA, cQ, if_true, if_false, Bool.false_eq_true, Nat.zero_add, Option.isNone_some, Option.isNone_none, Bool.not_true, Bool.not_false, List.getElem?_cons_succ, List.getElem?_cons_zero, cS, aZ, bU, bV, bT, bC, eA, dG, dH, dC, aW, eI, bR, aJ, dF, dI, dJ, dD, bL, bN, cB, bA, cF, cG, bF, cJ, cL, cZ, cK, cD, cH, cC, dR, bW, cU, dT, bS, cV, aY, cI, dQ, bH, aO, aI, aP, aK, aM, aT, aE, cM, bG, cY, bP, bY, cP, aQ, aV, aU, aX, aR, aD, aB, aC, dB, aH, aG, bM, bB, bK, dE, bE, bZ, bD, bQ, bO, aL, dS, aS, dM, dL, aN, bX, cA, dN, eS, n1]
    exact ⟨rfl, gS.refl _ _⟩
  have n1 : (a == 1) = false := beq_eq_false_iff_ne.2 h1
  simp (disch := omega) only [cO, gY, aF, dO, fB, fL, fX, fW, fY, gF, iP, gK, eD, fT, gC, fR, fQ, eY, gH, fJ, fZ, gI, gO, gD, eP, gP, gG, gB, lE, lC, lL, lJ, lK, lV, lU, lW, lT, cX, Result.ok.injEq, Next.value.injEq, true_and, and_true, eL, fU, gL, gN, gM, iK, Int.toNat_natCast, fK, fD, fM, eZ, dZ, dV, eU, eC, dA, cQ, if_true, if_false, Bool.false_eq_true, Nat.zero_add, Option.isNone_some, Option.isNone_none, Bool.not_true, Bool.not_false, List.getElem?_cons_succ, List.getElem?_cons_zero, cS, aZ, bU, bV, bT, bC, eA, dG, dH, dC, aW, eI, bR, aJ, dF, dI, dJ, dD, bL, bN, cB, bA, cF, cG, bF, cJ, cL, cZ, cK, cD, cH, cC, dR, bW, cU, dT, bS, cV, aY, cI, dQ, bH, aO, aI, aP, aK, aM, aT, aE, cM, bG, cY, bP, bY, cP, aQ, aV, aU, aX, aR, aD, aB, aC, dB, aH, aG, bM, bB, bK, dE, bE, bZ, bD, bQ, bO, aL, dS, aS, dM, dL, aN, bX, cA, dN, eS, n1]
  refine (aaB hg).mono ?_
  rintro r w1 ⟨v, rfl, hs, x1⟩
  obtain ⟨av, cv, rfl, _⟩ := hs.lenI
  have e : VL a + ((W4 a).length : Int) - 1 = nB a ∧ -10 ≤ VL a ∧ VL a ≤ 100 ∧ (W4 a).length ≤ 100 := by
    unfold VL W4 nB
    by_cases h0 : a = 0
    · subst h0; exact ⟨rfl, by decide, by decide, by decide⟩
    · by_cases h2 : a = 2
      · subst h2; exact ⟨rfl, by decide, by decide, by decide⟩
      · simp [h0, h1, h2]
  obtain ⟨e1, e2, e3, e4⟩ := e
  generalize VL a = p at *
  generalize (W4 a).length = q at *
  simp (disch := omega) only [cO, gY, aF, dO, fB, fL, fX, fW, fY, gF, iP, gK, eD, fT, gC, fR, fQ, eY, gH, fJ, fZ, gI, gO, gD, eP, gP, gG, gB, lE, lC, lL, lJ, lK, lV, lU, lW, lT, cX, Result.ok.injEq, Next.value.injEq, true_and, and_true, eL, fU, gL, gN, gM, iK, Int.toNat_natCast, fK, fD, fM, eZ, dZ, dV, eU, eC, dA, cQ, if_true, if_false, Bool.false_eq_true, Nat.zero_add, Option.isNone_some, Option.isNone_none, Bool.not_true, Bool.not_false, List.getElem?_cons_succ, List.getElem?_cons_zero, cS, aZ, bU, bV, bT, bC, eA, dG, dH, dC, aW, eI, bR, aJ, dF, dI, dJ, dD, bL, bN, cB, bA, cF, cG, bF, cJ, cL, cZ, cK, cD, cH, cC, dR, bW, cU, dT, bS, cV, aY, cI, dQ, bH, aO, aI, aP, aK, aM, aT, aE, cM, bG, cY, bP, bY, cP, aQ, aV, aU, aX, aR, aD, aB, aC, dB, aH, aG, bM, bB, bK, dE, bE, bZ, bD, bQ, bO, aL, dS, aS, dM, dL, aN, bX, cA, dN, eS, e1]
  exact x1
end Go.Proofs.YtoepfjgekpdddaaDoor
namespace Go.Proofs.YtoepfjgekpdddaaDoor
open Go Go.En Go.Pu
set_option maxRecDepth 4000
set_option linter.unusedSimpArgs false
set_option linter.unusedVariables false
def LX (a : Int) : Nat := if a = 1 then 5 else if a = 0 ∨ a = 2 then 6 else 0
def RE (a : Int) : List Int := if a = 0 then Y8 else if a = 1 then Zc else if a = 2 then Y4 else []
theorem TN {a : Int} (h : a = 0 ∨ a = 1 ∨ a = 2) : Jo (LX a) (RE a) := by
  rcases h with rfl | rfl | rfl
  · exact ⟨by decide, by decide, by decide, by decide, by decide, by decide, by decide +kernel⟩
  · exact ⟨by decide, by decide, by decide, by decide, by decide, by decide, by decide +kernel⟩
  · exact ⟨by decide, by decide, by decide, by decide, by decide, by decide, by decide +kernel⟩
theorem V0 {a : Int} {w : World} (hg : Gh w) :
    hJ pg sD #[.int .i64 a] w (fun r w' => ∃ v, r = .agg #[.int .i64 (LX a : Nat), v] ∧ Sl w' v ((RE a).map (Value.int .i64)) ∧ gS w w' jR) := by
  refine Nu ?_
  unfold L6 BR
  refine kZ fun w1 o1 x1 s1 => ?_
  have hg1 := hg.ext x1
  have z1 := o1.lt
  by_cases h0 : a = 0
  · subst h0
    have n1 : ((0 : Int) == 0) = true := rfl
    have l1 := Ts (b := 0) (off := 0) (l := Y8.map (Value.int .i64)) rfl hg1.tl.ld
    simp (disch := omega) only [cO, gY, aF, dO, fB, fL, fX, fW, fY, gF, iP, gK, eD, fT, gC, fR, fQ, eY, gH, fJ, fZ, gI, gO, gD, eP, gP, gG, gB, lE, lC, lL, lJ, lK, lV, lU, lW, lT, cX, Result.ok.injEq, Next.value.injEq, true_and, and_true, eL, fU, gL, gN, gM, iK, Int.toNat_natCast, fK, fD, fM, eZ, dZ, dV, eU, eC, dA, cQ, if_true, if_false, Bool.false_eq_true, Nat.zero_add, Option.isNone_some, Option.isNone_none, Bool.not_true, Bool.not_false, List.getElem?_cons_succ, List.getElem?_cons_zero, cS, aZ, bU, bV, bT, bC, eA, dG, dH, dC, aW, eI, bR, aJ, dF, dI, dJ, dD, bL, bN, cB, bA, cF, cG, bF, cJ, cL, cZ, cK, cD, cH, cC, dR, bW, cU, dT, bS, cV, aY, cI, dQ, bH, aO, aI, aP, aK, aM, aT, aE, cM, bG, cY, bP, bY, cP, aQ, aV, aU, aX, aR, aD, aB, aC, dB, aH, aG, bM, bB, bK, dE, bE, bZ, bD, bQ, bO, aL, dS, aS, dM, dL, aN, bX, cA, dN, eS, n1, l1]
    refine UP fun w2 o2 x2 s2 => ?_
    refine TU o2 rfl (Iq _) (by simp) fun w3 o3 x3 s3 => ?_
    have o3 : jL w3 w1.heap.size (Y8.map (Value.int .i64)) := by
      rw [List.toList_toArray, Dj Y8 36 rfl] at o3
      · exact o3
      · rfl
    have hsh : qP ⟨w1.heap.size, 0, none⟩ 36 0 1 = ⟨w1.heap.size, 0, none⟩ := Ag (by decide)
    have x13 : gS w1 w3 jR := x2.new x3 (by omega)
    simp (disch := omega) only [cO, gY, aF, dO, fB, fL, fX, fW, fY, gF, iP, gK, eD, fT, gC, fR, fQ, eY, gH, fJ, fZ, gI, gO, gD, eP, gP, gG, gB, lE, lC, lL, lJ, lK, lV, lU, lW, lT, cX, Result.ok.injEq, Next.value.injEq, true_and, and_true, eL, fU, gL, gN, gM, iK, Int.toNat_natCast, fK, fD, fM, eZ, dZ, dV, eU, eC, dA, cQ, if_true, if_false, Bool.false_eq_true, Nat.zero_add, Option.isNone_some, Option.isNone_none, Bool.not_true, Bool.not_false, List.getElem?_cons_succ, List.getElem?_cons_zero, cS, aZ, bU, bV, bT, bC, eA, dG, dH, dC, aW, eI, bR, aJ, dF, dI, dJ, dD, bL, bN, cB, bA, cF, cG, bF, cJ, cL, cZ, cK, cD, cH, cC, dR, bW, cU, dT, bS, cV, aY, cI, dQ, bH, aO, aI, aP, aK, aM, aT, aE, cM, bG, cY, bP, bY, cP, aQ, aV, aU, aX, aR, aD, aB, aC, dB, aH, aG, bM, bB, bK, dE, bE, bZ, bD, bQ, bO, aL, dS, aS, dM, dL, aN, bX, cA, dN, eS, hsh]
    refine jF (o1.ext x13 (fun h => h)) rfl (by simp [one]) (by simp) fun w4 o4 x4 s4 => ?_
    refine mE o4 (by simp [fV]) ?_
    simp only [fV, List.set_cons_zero, List.set_cons_succ, List.drop_zero, List.take_succ_cons, List.take_zero]
    exact ⟨_, rfl, It (o3.ext x4 (by omega)) rfl, (x1.seq x13).new x4 (by omega)⟩
  have n1 : (a == 0) = false := beq_eq_false_iff_ne.2 h0
  by_cases h1 : a = 1
  · subst h1
    have n2 : ((1 : Int) == 1) = true := rfl
    have l1 := TE (b := 1) (off := 0) (l := Zc.map (Value.int .i64)) rfl hg1.to.ld
    simp (disch := omega) only [cO, gY, aF, dO, fB, fL, fX, fW, fY, gF, iP, gK, eD, fT, gC, fR, fQ, eY, gH, fJ, fZ, gI, gO, gD, eP, gP, gG, gB, lE, lC, lL, lJ, lK, lV, lU, lW, lT, cX, Result.ok.injEq, Next.value.injEq, true_and, and_true, eL, fU, gL, gN, gM, iK, Int.toNat_natCast, fK, fD, fM, eZ, dZ, dV, eU, eC, dA, cQ, if_true, if_false, Bool.false_eq_true, Nat.zero_add, Option.isNone_some, Option.isNone_none, Bool.not_true, Bool.not_false, List.getElem?_cons_succ, List.getElem?_cons_zero, cS, aZ, bU, bV, bT, bC, eA, dG, dH, dC, aW, eI, bR, aJ, dF, dI, dJ, dD, bL, bN, cB, bA, cF, cG, bF, cJ, cL, cZ, cK, cD, cH, cC, dR, bW, cU, dT, bS, cV, aY, cI, dQ, bH, aO, aI, aP, aK, aM, aT, aE, cM, bG, cY, bP, bY, cP, aQ, aV, aU, aX, aR, aD, aB, aC, dB, aH, aG, bM, bB, bK, dE, bE, bZ, bD, bQ, bO, aL, dS, aS, dM, dL, aN, bX, cA, dN, eS, n1, n2, l1]
    refine T2 fun w2 o2 x2 s2 => ?_
    refine TT o2 rfl (Iq _) (by simp) fun w3 o3 x3 s3 => ?_
    have o3 : jL w3 w1.heap.size (Zc.map (Value.int .i64)) := by
      rw [List.toList_toArray, Dj Zc 29 rfl] at o3
      · exact o3
      · rfl
    have hsh : qP ⟨w1.heap.size, 0, none⟩ 29 0 1 = ⟨w1.heap.size, 0, none⟩ := Ag (by decide)
    have x13 : gS w1 w3 jR := x2.new x3 (by omega)
    simp (disch := omega) only [cO, gY, aF, dO, fB, fL, fX, fW, fY, gF, iP, gK, eD, fT, gC, fR, fQ, eY, gH, fJ, fZ, gI, gO, gD, eP, gP, gG, gB, lE, lC, lL, lJ, lK, lV, lU, lW, lT, cX, Result.ok.injEq, Next.value.injEq, true_and, and_true, eL, fU, gL, gN, gM, iK, Int.toNat_natCast, fK, fD, fM, eZ, dZ, dV, eU, eC, dA, cQ, if_true, if_false, Bool.false_eq_true, Nat.zero_add, Option.isNone_some, Option.isNone_none, Bool.not_true, Bool.not_false, List.getElem?_cons_succ, List.getElem?_cons_zero, cS, aZ, bU, bV, bT, bC, eA, dG, dH, dC, aW, eI, bR, aJ, dF, dI, dJ, dD, bL, bN, cB, bA, cF, cG, bF, cJ, cL, cZ, cK, cD, cH, cC, dR, bW, cU, dT, bS, cV, aY, cI, dQ, bH, aO, aI, aP, aK, aM, aT, aE, cM, bG, cY, bP, bY, cP, aQ, aV, aU, aX, aR, aD, aB, aC, dB, aH, aG, bM, bB, bK, dE, bE, bZ, bD, bQ, bO, aL, dS, aS, dM, dL, aN, bX, cA, dN, eS, hsh]
    refine jF (o1.ext x13 (fun h => h)) rfl (by simp [one]) (by simp) fun w4 o4 x4 s4 => ?_
    refine mE o4 (by simp [fV]) ?_
    simp only [fV, List.set_cons_zero, List.set_cons_succ, List.drop_zero, List.take_succ_cons, List.take_zero]
    exact ⟨_, rfl, It (o3.ext x4 (by omega)) rfl, (x1.seq x13).new x4 (by omega)⟩
  have n2 : (a == 1) = false := beq_eq_false_iff_ne.2 h1
  by_cases h2 : a = 2
  · subst h2
    have n3 : ((2 : Int) == 2) = true := rfl
    have l1 := Tw (b := 2) (off := 0) (l := Y4.map (Value.int .i64)) rfl hg1.tm.ld
    simp (disch := omega) only [cO, gY, aF, dO, fB, fL, fX, fW, fY, gF, iP, gK, eD, fT, gC, fR, fQ, eY, gH, fJ, fZ, gI, gO, gD, eP, gP, gG, gB, lE, lC, lL, lJ, lK, lV, lU, lW, lT, cX, Result.ok.injEq, Next.value.injEq, true_and, and_true, eL, fU, gL, gN, gM, iK, Int.toNat_natCast, fK, fD, fM, eZ, dZ, dV, eU, eC, dA, cQ, if_true, if_false, Bool.false_eq_true, Nat.zero_add, Option.isNone_some, Option.isNone_none, Bool.not_true, Bool.not_false, List.getElem?_cons_succ, List.getElem?_cons_zero, cS, aZ, bU, bV, bT, bC, eA, dG, dH, dC, aW, eI, bR, aJ, dF, dI, dJ, dD, bL, bN, cB, bA, cF, cG, bF, cJ, cL, cZ, cK, cD, cH, cC, dR, bW, cU, dT, bS, cV, aY, cI, dQ, bH, aO, aI, aP, aK, aM, aT, aE, cM, bG, cY, bP, bY, cP, aQ, aV, aU, aX, aR, aD, aB, aC, dB, aH, aG, bM, bB, bK, dE, bE, bZ, bD, bQ, bO, aL, dS, aS, dM, dL, aN, bX, cA, dN, eS, n1, n2, n3, l1]
    refine T4 fun w2 o2 x2 s2 => ?_
    refine TK o2 rfl (Iq _) (by simp) fun w3 o3 x3 s3 => ?_
    have o3 : jL w3 w1.heap.size (Y4.map (Value.int .i64)) := by
      rw [List.toList_toArray, Dj Y4 53 rfl] at o3
      · exact o3
      · rfl
    have hsh : qP ⟨w1.heap.size, 0, none⟩ 53 0 1 = ⟨w1.heap.size, 0, none⟩ := Ag (by decide)
    have x13 : gS w1 w3 jR := x2.new x3 (by omega)
    simp (disch := omega) only [cO, gY, aF, dO, fB, fL, fX, fW, fY, gF, iP, gK, eD, fT, gC, fR, fQ, eY, gH, fJ, fZ, gI, gO, gD, eP, gP, gG, gB, lE, lC, lL, lJ, lK, lV, lU, lW, lT, cX, Result.ok.injEq, Next.value.injEq, true_and, and_true, eL, fU, gL, gN, gM, iK, Int.toNat_natCast, fK, fD, fM, eZ, dZ, dV, eU, eC, dA, cQ, if_true, if_false, Bool.false_eq_true, Nat.zero_add, Option.isNone_some, Option.isNone_none, Bool.not_true, Bool.not_false, List.getElem?_cons_succ, List.getElem?_cons_zero, cS, aZ, bU, bV, bT, bC, eA, dG, dH, dC, aW, eI, bR, aJ, dF, dI, dJ, dD, bL, bN, cB, bA, cF, cG, bF, cJ, cL, cZ, cK, cD, cH, cC, dR, bW, cU, dT, bS, cV, aY, cI, dQ, bH, aO, aI, aP, aK, aM, aT, aE, cM, bG, cY, bP, bY, cP, aQ, aV, aU, aX, aR, aD, aB, aC, dB, aH, aG, bM, bB, bK, dE, bE, bZ, bD, bQ, bO, aL, dS, aS, dM, dL, aN, bX, cA, dN, eS, hsh]
    refine jF (o1.ext x13 (fun h => h)) rfl (by simp [one]) (by simp) fun w4 o4 x4 s4 => ?_
    refine mE o4 (by simp [fV]) ?_
    simp only [fV, List.set_cons_zero, List.set_cons_succ, List.drop_zero, List.take_succ_cons, List.take_zero]
    exact ⟨_, rfl, It (o3.ext x4 (by omega)) rfl, (x1.seq x13).new x4 (by omega)⟩
  have n3 : (a == 2) = false := beq_eq_false_iff_ne.2 h2
  simp (disch := omega) only [cO, gY, aF, dO, fB, fL, fX, fW, fY, gF, iP, gK, eD, fT, gC, fR, fQ, eY, gH, fJ, fZ, gI, gO, gD, eP, gP, gG, gB, lE, lC, lL, lJ, lK, lV, lU, lW, lT, cX, Result.ok.injEq, Next.value.injEq, true_and, and_true, eL, fU, gL, gN, gM, iK, Int.toNat_natCast, fK, fD, fM, eZ, dZ, dV, eU, eC, dA, cQ, if_true, if_false, Bool.false_eq_true, Nat.zero_add, Option.isNone_some, Option.isNone_none, Bool.not_true, Bool.not_false, List.getElem?_cons_succ, List.getElem?_cons_zero, cS, aZ, bU, bV, bT, bC, eA, dG, dH, dC, aW, eI, bR, aJ, dF, dI, dJ, dD, bL, bN, cB, bA, cF, cG, bF, cJ, cL, cZ, cK, cD, cH, cC, dR, bW, cU, dT, bS, cV, aY, cI, dQ, bH, aO, aI, aP, aK, aM, aT, aE, cM, bG, cY, bP, bY, cP, aQ, aV, aU, aX, aR, aD, aB, aC, dB, aH, aG, bM, bB, bK, dE, bE, bZ, bD, bQ, bO, aL, dS, aS, dM, dL, aN, bX, cA, dN, eS, n1, n2, n3]
  refine jF o1 rfl (by simp [one]) (by simp) fun w4 o4 x4 s4 => ?_
  refine mE o4 (by simp [fV]) ?_
  simp only [fV, List.set_cons_zero, List.set_cons_succ, List.drop_zero, List.take_succ_cons, List.take_zero]
  unfold LX RE
  rw [if_neg h1, if_neg (by omega), if_neg h0, if_neg h1, if_neg h2]
  exact ⟨_, rfl, Sl.nil _, x1.new x4 (by omega)⟩
def MJ (w : World) (base : Nat) (o : Except Int (Nat × List T3)) (t : Value) (e : Int) : Prop := match o with
  | .error e' => t = .agg #[.int .i64 0, .slice none 0 0] ∧ e = e'
  | .ok (lg, L) => (∃ b, Ym w base b lg L t) ∧ e = 0
def qY (a : Int) : Except Int (Nat × List T3) := if a = 0 ∨ a = 1 ∨ a = 2 then .ok (LX a, mD (LX a) (RE a)) else .error 1
theorem MJ.form {w : World} {base : Nat} {o : Except Int (Nat × List T3)} {t : Value} {e : Int} (h : MJ w base o t e) : ∃ (x : Int) (a : Option Addr) (n c : Nat), t = .agg #[.int .i64 x, .slice a n c] := by
  unfold MJ at h
  split at h
  · exact ⟨_, _, _, _, h.1⟩
  · obtain ⟨⟨b, h, _⟩, _⟩ := h
    exact ⟨_, _, _, _, h⟩
theorem MJ.ext {w w' : World} {base : Nat} {o : Except Int (Nat × List T3)} {t : Value} {e : Int} {M : Nat → Prop} (h : MJ w base o t e) (x : gS w w' M) (hM : ∀ b, base ≤ b → b < w.heap.size → ¬ M b) : MJ w' base o t e := by
  unfold MJ at *
  split at h
  · exact h
  · obtain ⟨⟨b, ht⟩, he⟩ := h
    have hb := ht.2.1
    have hl := ht.2.2.lt
    exact ⟨⟨b, ht.ext x (hM b hb hl)⟩, he⟩
theorem PM {a : Int} {w : World} (hg : Gh w) :
    hJ pg oA #[.int .i64 a] w (fun r w' => ∃ t e, r = .tuple #[t, .int .i64 e] ∧ MJ w' w.heap.size (qY a) t e ∧ gS w w' jR) := by
  refine I7 ?_
  unfold H5 zM
  refine kR fun w1 o1 x1 s1 => ?_
  have z1 := o1.lt
  refine (V0 (hg.ext x1)).mono ?_
  rintro r w2 ⟨v, rfl, hs, x2⟩
  unfold qY
  have z2 := x2.size
  by_cases hk : a = 0 ∨ a = 1 ∨ a = 2
  · rw [if_pos hk]
    refine (RJ (TN hk) hs).mono ?_
    rintro r w3 ⟨b, t, rfl, ⟨rfl, hb, ob⟩, x3⟩
    have z3 := x3.size
    simp (disch := omega) only [cO, gY, aF, dO, fB, fL, fX, fW, fY, gF, iP, gK, eD, fT, gC, fR, fQ, eY, gH, fJ, fZ, gI, gO, gD, eP, gP, gG, gB, lE, lC, lL, lJ, lK, lV, lU, lW, lT, cX, Result.ok.injEq, Next.value.injEq, true_and, and_true, eL, fU, gL, gN, gM, iK, Int.toNat_natCast, fK, fD, fM, eZ, dZ, dV, eU, eC, dA, cQ, if_true, if_false, Bool.false_eq_true, Nat.zero_add, Option.isNone_some, Option.isNone_none, Bool.not_true, Bool.not_false, List.getElem?_cons_succ, List.getElem?_cons_zero, cS, aZ, bU, bV, bT, bC, eA, dG, dH, dC, aW, eI, bR, aJ, dF, dI, dJ, dD, bL, bN, cB, bA, cF, cG, bF, cJ, cL, cZ, cK, cD, cH, cC, dR, bW, cU, dT, bS, cV, aY, cI, dQ, bH, aO, aI, aP, aK, aM, aT, aE, cM, bG, cY, bP, bY, cP, aQ, aV, aU, aX, aR, aD, aB, aC, dB, aH, aG, bM, bB, bK, dE, bE, bZ, bD, bQ, bO, aL, dS, aS, dM, dL, aN, bX, cA, dN, eS]
    have lb := ob.lt
    refine jM ((o1.ext x2 (fun h => h)).ext x3 (fun h => h)) rfl (by simp [one]) (by simp) fun w4 o4 x4 s4 => ?_
    refine nY o4 (by simp [fV]) ?_
    simp only [fV, List.set_cons_zero, List.set_cons_succ, List.drop_zero, List.take_succ_cons, List.take_zero]
    exact ⟨_, _, rfl, ⟨⟨b, rfl, by omega, ob.ext x4 (by omega)⟩, rfl⟩, ((x1.seq x2).seq x3).new x4 (by omega)⟩
  · rw [if_neg hk]
    have e1 : LX a = 0 := by unfold LX; rw [if_neg (by omega), if_neg (by omega)]
    have e2 : RE a = [] := by unfold RE; rw [if_neg (by omega), if_neg (by omega), if_neg (by omega)]
    rw [e1]
    rw [e2] at hs
    refine (WI (log := 0) (ps := []) (by decide) hs (by simp)).mono ?_
    rintro r w3 ⟨rfl, x3⟩
    simp (disch := omega) only [cO, gY, aF, dO, fB, fL, fX, fW, fY, gF, iP, gK, eD, fT, gC, fR, fQ, eY, gH, fJ, fZ, gI, gO, gD, eP, gP, gG, gB, lE, lC, lL, lJ, lK, lV, lU, lW, lT, cX, Result.ok.injEq, Next.value.injEq, true_and, and_true, eL, fU, gL, gN, gM, iK, Int.toNat_natCast, fK, fD, fM, eZ, dZ, dV, eU, eC, dA, cQ, if_true, if_false, Bool.false_eq_true, Nat.zero_add, Option.isNone_some, Option.isNone_none, Bool.not_true, Bool.not_false, List.getElem?_cons_succ, List.getElem?_cons_zero, cS, aZ, bU, bV, bT, bC, eA, dG, dH, dC, aW, eI, bR, aJ, dF, dI, dJ, dD, bL, bN, cB, bA, cF, cG, bF, cJ, cL, cZ, cK, cD, cH, cC, dR, bW, cU, dT, bS, cV, aY, cI, dQ, bH, aO, aI, aP, aK, aM, aT, aE, cM, bG, cY, bP, bY, cP, aQ, aV, aU, aX, aR, aD, aB, aC, dB, aH, aG, bM, bB, bK, dE, bE, bZ, bD, bQ, bO, aL, dS, aS, dM, dL, aN, bX, cA, dN, eS]
    refine jM ((o1.ext x2 (fun h => h)).ext x3 (fun h => h)) rfl (by simp [one]) (by simp) fun w4 o4 x4 s4 => ?_
    refine nY o4 (by simp [fV]) ?_
    simp only [fV, List.set_cons_zero, List.set_cons_succ, List.drop_zero, List.take_succ_cons, List.take_zero]
    exact ⟨_, _, rfl, ⟨rfl, rfl⟩, ((x1.seq x2).seq x3).new x4 (by omega)⟩
def xE (a : Int) : Int := if a = 0 ∨ a = 2 then 9 else if a = 1 then 8 else 0
theorem Pp (a : Int) (w : World) : hJ pg nE #[.int .i64 a] w (fun r w' => r = .int .i64 (xE a) ∧ w' = w) := by
  refine O3 ?_
  unfold Qx BI D1 wX Eh Ei yG Dq DC
  unfold xE
  by_cases h0 : a = 0
  · subst h0
    have n1 : ((0 : Int) == 0) = true := rfl
    unfold oH
    simp (disch := omega) only [cO, gY, aF, dO, fB, fL, fX, fW, fY, gF, iP, gK, eD, fT, gC, fR, fQ, eY, gH, fJ, fZ, gI, gO, gD, eP, gP, gG, gB, lE, lC, lL, lJ, lK, lV, lU, lW, lT, cX, Result.ok.injEq, Next.value.injEq, true_and, and_true, eL, fU, gL, gN, gM, iK, Int.toNat_natCast, fK, fD, fM, eZ, dZ, dV, eU, eC, dA, cQ, if_true, if_false, Bool.false_eq_true, Nat.zero_add, Option.isNone_some, Option.isNone_none, Bool.not_true, Bool.not_false, List.getElem?_cons_succ, List.getElem?_cons_zero, cS, aZ, bU, bV, bT, bC, eA, dG, dH, dC, aW, eI, bR, aJ, dF, dI, dJ, dD, bL, bN, cB, bA, cF, cG, bF, cJ, cL, cZ, cK, cD, cH, cC, dR, bW, cU, dT, bS, cV, aY, cI, dQ, bH, aO, aI, aP, aK, aM, aT, aE, cM, bG, cY, bP, bY, cP, aQ, aV, aU, aX, aR, aD, aB, aC, dB, aH, aG, bM, bB, bK, dE, bE, bZ, bD, bQ, bO, aL, dS, aS, dM, dL, aN, bX, cA, dN, eS, n1]
    rfl
  have n1 : (a == 0) = false := beq_eq_false_iff_ne.2 h0
  by_cases h2 : a = 2
  · subst h2
    have n2 : ((2 : Int) == 2) = true := rfl
    unfold oH
    simp (disch := omega) only [cO, gY, aF, dO, fB, fL, fX, fW, fY, gF, iP, gK, eD, fT, gC, fR, fQ, eY, gH, fJ, fZ, gI, gO, gD, eP, gP, gG, gB, lE, lC, lL, lJ, lK, lV, lU, lW, lT, cX, Result.ok.injEq, Next.value.injEq, true_and, and_true, eL, fU, gL, gN, gM, iK, Int.toNat_natCast, fK, fD, fM, eZ, dZ, dV, eU, eC, dA, cQ, if_true, if_false, Bool.false_eq_true, Nat.zero_add, Option.isNone_some, Option.isNone_none, Bool.not_true, Bool.not_false, List.getElem?_cons_succ, List.getElem?_cons_zero, cS, aZ, bU, bV, bT, bC, eA, dG, dH, dC, aW, eI, bR, aJ, dF, dI, dJ, dD, bL, bN, cB, bA, cF, cG, bF, cJ, cL, cZ, cK, cD, cH, cC, dR, bW, cU, dT, bS, cV, aY, cI, dQ, bH, aO, aI, aP, aK, aM, aT, aE, cM, bG, cY, bP, bY, cP, aQ, aV, aU, aX, aR, aD, aB, aC, dB, aH, aG, bM, bB, bK, dE, bE, bZ, bD, bQ, bO, aL, dS, aS, dM, dL, aN, bX, cA, dN, eS, n1, n2]
    rfl
  have n2 : (a == 2) = false := beq_eq_false_iff_ne.2 h2
  rw [if_neg (by omega)]
  by_cases h1 : a = 1
  · subst h1
    have n3 : ((1 : Int) == 1) = true := rfl
    unfold oH
    simp (disch := omega) only [cO, gY, aF, dO, fB, fL, fX, fW, fY, gF, iP, gK, eD, fT, gC, fR, fQ, eY, gH, fJ, fZ, gI, gO, gD, eP, gP, gG, gB, lE, lC, lL, lJ, lK, lV, lU, lW, lT, cX, Result.ok.injEq, Next.value.injEq, true_and, and_true, eL, fU, gL, gN, gM, iK, Int.toNat_natCast, fK, fD, fM, eZ, dZ, dV, eU, eC, dA, cQ, if_true, if_false, Bool.false_eq_true, Nat.zero_add, Option.isNone_some, Option.isNone_none, Bool.not_true, Bool.not_false, List.getElem?_cons_succ, List.getElem?_cons_zero, cS, aZ, bU, bV, bT, bC, eA, dG, dH, dC, aW, eI, bR, aJ, dF, dI, dJ, dD, bL, bN, cB, bA, cF, cG, bF, cJ, cL, cZ, cK, cD, cH, cC, dR, bW, cU, dT, bS, cV, aY, cI, dQ, bH, aO, aI, aP, aK, aM, aT, aE, cM, bG, cY, bP, bY, cP, aQ, aV, aU, aX, aR, aD, aB, aC, dB, aH, aG, bM, bB, bK, dE, bE, bZ, bD, bQ, bO, aL, dS, aS, dM, dL, aN, bX, cA, dN, eS, n1, n2, n3]
  have n3 : (a == 1) = false := beq_eq_false_iff_ne.2 h1
  rw [if_neg h1]
  unfold oH xP
  simp (disch := omega) only [cO, gY, aF, dO, fB, fL, fX, fW, fY, gF, iP, gK, eD, fT, gC, fR, fQ, eY, gH, fJ, fZ, gI, gO, gD, eP, gP, gG, gB, lE, lC, lL, lJ, lK, lV, lU, lW, lT, cX, Result.ok.injEq, Next.value.injEq, true_and, and_true, eL, fU, gL, gN, gM, iK, Int.toNat_natCast, fK, fD, fM, eZ, dZ, dV, eU, eC, dA, cQ, if_true, if_false, Bool.false_eq_true, Nat.zero_add, Option.isNone_some, Option.isNone_none, Bool.not_true, Bool.not_false, List.getElem?_cons_succ, List.getElem?_cons_zero, cS, aZ, bU, bV, bT, bC, eA, dG, dH, dC, aW, eI, bR, aJ, dF, dI, dJ, dD, bL, bN, cB, bA, cF, cG, bF, cJ, cL, cZ, cK, cD, cH, cC, dR, bW, cU, dT, bS, cV, aY, cI, dQ, bH, aO, aI, aP, aK, aM, aT, aE, cM, bG, cY, bP, bY, cP, aQ, aV, aU, aX, aR, aD, aB, aC, dB, aH, aG, bM, bB, bK, dE, bE, bZ, bD, bQ, bO, aL, dS, aS, dM, dL, aN, bX, cA, dN, eS, n1, n2, n3]
end Go.Proofs.YtoepfjgekpdddaaDoor
namespace Go.Pu
open Go Go.En
set_option linter.unusedVariables false
def GE (c : UInt8) : List Bool := (List.range 8).map c.toNat.testBit
def iC : List UInt8 → List Bool
  | [] => []
  | c :: l => GE c ++ iC l
def tA : List Bool → Nat
  | [] => 0
  | b :: l => b.toNat + 2 * tA l
theorem qS (c : UInt8) : (GE c).length = 8 := by simp [GE]
theorem qK : ∀ l : List UInt8, (iC l).length = 8 * l.length
  | [] => rfl
  | c :: l => by rw [iC, List.length_append, qS, qK l, List.length_cons]; omega
theorem CT : ∀ a b : List UInt8, iC (a ++ b) = iC a ++ iC b
  | [], b => rfl
  | c :: a, b => by rw [List.cons_append, iC, iC, CT a b, List.append_assoc]
theorem Wh (c : UInt8) {k : Nat} (h : k < 8) : (GE c)[k]? = some (c.toNat.testBit k) := by
  unfold GE
  rw [List.getElem?_map, List.getElem?_range h] <;> rfl
theorem PA : ∀ (l : List UInt8) (i : Nat) (h : i < 8 * l.length), (iC l)[i]? = some ((l[i / 8]'(by omega)).toNat.testBit (i % 8))
  | [], i, h => by simp at h
  | c :: l, i, h => by
    rw [iC]
    rcases Nat.lt_or_ge i 8 with h8 | h8
    · rw [List.getElem?_append_left (by rw [qS]; exact h8), Wh c h8]
      have e : i / 8 = 0 := by omega
      have e2 : i % 8 = i := by omega
      simp [e, e2]
    · rw [List.getElem?_append_right (by rw [qS]; exact h8), qS, PA l (i - 8) (by simp at h; omega)]
      have e : i / 8 = (i - 8) / 8 + 1 := by omega
      have e2 : (i - 8) % 8 = i % 8 := by omega
      simp [e, e2]
theorem RG : ∀ l : List Bool, tA l < 2 ^ l.length
  | [] => by simp [tA]
  | b :: l => by
    have := RG l
    rw [tA, List.length_cons, Nat.pow_succ]
    have : b.toNat ≤ 1 := Bool.toNat_le b
    omega
theorem Qk : ∀ a b : List Bool, tA (a ++ b) = tA a + 2 ^ a.length * tA b
  | [], b => by simp [tA]
  | x :: a, b => by
    rw [List.cons_append, tA, tA, Qk a b, List.length_cons, Nat.pow_succ, Nat.mul_add, ← Nat.mul_assoc, ← Nat.add_assoc, Nat.mul_comm 2 (2 ^ a.length)]
theorem Wx (a : List Bool) (x : Bool) : tA (a ++ [x]) = tA a + 2 ^ a.length * x.toNat := by
  rw [Qk]; simp [tA]
def mW (x : Nat) (n : Nat) : List Bool := (List.range n).map x.testBit
theorem jS (x n : Nat) : (mW x n).length = n := by simp [mW]
theorem GN (x : Nat) : mW x 0 = [] := rfl
theorem Hf (x n : Nat) : mW x (n + 1) = mW x n ++ [x.testBit n] := by
  unfold mW; rw [List.range_succ, List.map_append] <;> rfl
theorem VA (x n : Nat) : mW x (n + 1) = x.testBit 0 :: mW (x / 2) n := by
  unfold mW
  rw [List.range_succ_eq_map, List.map_cons, List.map_map]
  congr 1
  apply List.map_congr_left
  intro k _
  simp [Nat.testBit_succ]
theorem Su : ∀ (n x : Nat), tA (mW x n) = x % 2 ^ n
  | 0, x => by simp [mW, tA, Nat.mod_one]
  | n + 1, x => by
    rw [VA, tA, Su n (x / 2), Nat.pow_succ, Nat.mul_comm (2 ^ n) 2, Nat.mod_mul]
    congr 1
    rw [Nat.testBit_zero]
    have : x % 2 = 0 ∨ x % 2 = 1 := by omega
    rcases this with h | h <;> simp [h]
theorem Zp {x i : Nat} (h : x < 2 ^ i) (b : Nat) : x ||| (b * 2 ^ i) = x + 2 ^ i * b := by
  rw [Nat.or_comm, Nat.mul_comm b, ← Nat.two_pow_add_eq_or_of_lt h b, Nat.add_comm]
theorem YV {a b : Nat} (ha : a < 2 ^ 64) (hb : b < 2 ^ 64) : ZS .u64 (a : Int) (b : Int) = ((a ||| b : Nat) : Int) := by
  have h := Nat.or_lt_two_pow ha hb
  unfold ZS
  have e : IntKind.u64.bits = 64 := rfl
  rw [e, BitVec.ofInt_natCast, BitVec.ofInt_natCast, BitVec.toNat_or, BitVec.toNat_ofNat, BitVec.toNat_ofNat, Nat.mod_eq_of_lt ha, Nat.mod_eq_of_lt hb]
  exact fU (by omega) (by have : ((a ||| b : Nat) : Int) < ((2 ^ 64 : Nat) : Int) := by exact_mod_cast h
                          omega)
theorem XO {a b : Nat} (ha : a < 2 ^ 8) (hb : b < 2 ^ 8) : ZS .u8 (a : Int) (b : Int) = ((a ||| b : Nat) : Int) := by
  have h := Nat.or_lt_two_pow ha hb
  unfold ZS
  have e : IntKind.u8.bits = 8 := rfl
  rw [e, BitVec.ofInt_natCast, BitVec.ofInt_natCast, BitVec.toNat_or, BitVec.toNat_ofNat, BitVec.toNat_ofNat, Nat.mod_eq_of_lt ha, Nat.mod_eq_of_lt hb]
  exact iK (by omega) (by have : ((a ||| b : Nat) : Int) < ((2 ^ 8 : Nat) : Int) := by exact_mod_cast h
                          omega)
theorem YS {a : Nat} (h : a < 2 ^ 8) : WV .u8 (a : Int) 1 = ((a % 2 : Nat) : Int) := by
  have : ∀ k : Fin 256, WV .u8 (k.val : Int) 1 = ((k.val % 2 : Nat) : Int) := by decide +kernel
  exact this ⟨a, h⟩
theorem Ya {a : Nat} (h : a < 2 ^ 64) : WV .u64 (a : Int) 1 = ((a % 2 : Nat) : Int) := by
  unfold WV
  have e : IntKind.u64.bits = 64 := rfl
  rw [e, BitVec.ofInt_natCast, show (BitVec.ofInt 64 1) = BitVec.ofNat 64 1 from rfl, BitVec.toNat_and, BitVec.toNat_ofNat, BitVec.toNat_ofNat, Nat.mod_eq_of_lt h, show 1 % 2 ^ 64 = 1 from rfl, Nat.and_one_is_mod]
  exact fU (by omega) (by omega)
theorem S7 (x k : Nat) : (x.testBit k).toNat = x / 2 ^ k % 2 := by
  rw [Nat.testBit_eq_decide_div_mod_eq]
  have : x / 2 ^ k % 2 = 0 ∨ x / 2 ^ k % 2 = 1 := by omega
  rcases this with h | h <;> simp [h]
theorem SO {L : List Bool} {at' i : Nat} {b : Bool} (h : L[at' + i]? = some b) : (L.drop at').take (i + 1) = (L.drop at').take i ++ [b] := by
  rw [List.take_add_one, List.getElem?_drop, h] <;> rfl
end Go.Pu
namespace Go.Proofs.YtoepfjgekpdddaaDoor
open Go Go.En Go.Pu
set_option maxRecDepth 4000
set_option linter.unusedSimpArgs false
set_option linter.unusedVariables false
theorem ZC {l : List UInt8} {v : Value} {st n : Nat} {w : World} (h : Bs w v l) (hn : n ≤ 64) (hat : st + n ≤ 8 * l.length) (hl : l.length ≤ 1000000000) :
    hJ pg ES #[v, .int .i64 st, .int .i64 n] w (fun r w' => r = .int .u64 (tA (((iC l).drop st).take n)) ∧ w' = w) := by
  refine R3 ?_
  unfold SW G8 GU CL GI G6 CM G3
  refine iY.rule (fun m (t : Value × Value) w' => ∃ i : Nat, m = n - i ∧ t = (.int .u64 (tA (((iC l).drop st).take i) : Nat), .int .i64 i) ∧ i ≤ n ∧ w' = w) n ⟨0, rfl, by simp [tA], by omega, rfl⟩ ?_
  rintro m t w1 ⟨i, rfl, rfl, hi, rfl⟩
  unfold CF
  by_cases hlt : i < n
  · have d1 : decide ((i : Int) < (n : Int)) = true := by simp; omega
    obtain ⟨b, off, c, rfl, hc, hcell⟩ := h.openV (by simp; omega)
    obtain ⟨q, hq⟩ : ∃ q, q = st + i := ⟨_, rfl⟩
    have e0 : (st : Int) + (i : Int) = (q : Int) := by omega
    have e1 : (q : Int).tdiv 8 = ((q / 8 : Nat) : Int) := by rw [Int.tdiv_eq_ediv_of_nonneg (by omega)]; omega
    have e2 : (q : Int).tmod 8 = ((q % 8 : Nat) : Int) := by rw [Int.tmod_eq_emod_of_nonneg (by omega)]; omega
    have hq8 : q / 8 < l.length := by omega
    have hb : (iC l)[st + i]? = some ((l[q / 8]'hq8).toNat.testBit (q % 8)) := by subst hq; exact PA l _ (by omega)
    have ht := SO hb
    have g1 := hcell (q / 8) (by simpa using hq8)
    simp only [List.getElem_map, RD] at g1
    have hx : (l[q / 8]'hq8).toNat < 256 := UInt8.toNat_lt _
    generalize (l[q / 8]'hq8).toNat = x at *
    have e3 : (x : Int).fdiv (2 ^ (min (q % 8) IntKind.u8.bits)) = ((x / 2 ^ (q % 8) : Nat) : Int) := by
      rw [show min (q % 8) IntKind.u8.bits = q % 8 from Nat.min_eq_left (by have : IntKind.u8.bits = 8 := rfl
                                                                            omega), Int.fdiv_eq_ediv_of_nonneg _ (Int.pow_nonneg (by omega))]
      simp
    have hy : x / 2 ^ (q % 8) < 2 ^ 8 := by have := Nat.div_le_self x (2 ^ (q % 8)); omega
    have e4 := YS hy
    rw [← S7] at e4
    have hbt : (x.testBit (q % 8)).toNat ≤ 1 := Bool.toNat_le _
    have hlen : (((iC l).drop st).take i).length = i := by rw [List.length_take, List.length_drop, qK]; omega
    have hnb := RG (((iC l).drop st).take i)
    have hsn := Wx (((iC l).drop st).take i) (x.testBit (q % 8))
    rw [← ht, hlen] at hsn
    rw [hlen] at hnb
    have hp : 2 ^ i < 2 ^ 64 := Nat.pow_lt_pow_right (by omega) (by omega)
    have hp2 : 2 ^ i ≤ 2 ^ 63 := Nat.pow_le_pow_right (by omega) (by omega)
    generalize (x.testBit (q % 8)).toNat = bt at *
    have hm : bt * 2 ^ i ≤ 2 ^ i := by
      have := Nat.mul_le_mul_right (2 ^ i) hbt
      omega
    have e5 : IntKind.u64.wrap ((bt : Int) * 2 ^ (min i IntKind.u64.bits)) = ((bt * 2 ^ i : Nat) : Int) := by
      rw [show min i IntKind.u64.bits = i from Nat.min_eq_left (by have : IntKind.u64.bits = 64 := rfl
                                                                   omega)]
      have e : (bt : Int) * 2 ^ i = ((bt * 2 ^ i : Nat) : Int) := by simp
      rw [e]
      exact fU (by omega) (by omega)
    have e6 := YV (a := tA (((iC l).drop st).take i)) (b := bt * 2 ^ i) (by omega) (by omega)
    rw [Zp hnb, ← hsn] at e6
    simp (disch := omega) only [cO, eY, d1, fB, e0, eL, List.length_map, dD, fU, aF, fW, e1, fY, e2, dH, Int.toNat_natCast, eA, g1, cX, gC, e3, gF, e4, cA, fT, e5, iP, e6, and_true, dA]
    exact ⟨n - (i + 1), by omega, i + 1, rfl, rfl, by omega⟩
  · have d1 : decide ((i : Int) < (n : Int)) = false := by simp; omega
    obtain rfl : i = n := by omega
    unfold CO
    simp (disch := omega) only [cO, eY, d1, fB, eL, dD, fU, aF, fW, fY, true_and, cQ]
def UR (w : World) (lo hi : Nat) (l : List UInt8) (st : Nat) : Prop := ∃ v, jL w hi [v, .int .i64 st] ∧ Bs w v l ∧ ZT v lo hi
theorem UR.ext {w w' : World} {lo hi st : Nat} {l : List UInt8} {M : Nat → Prop} (h : UR w lo hi l st) (hx : gS w w' M) (hM : ∀ b, lo ≤ b → b ≤ hi → ¬ M b) (hlh : lo ≤ hi) : UR w' lo hi l st := by
  obtain ⟨v, h1, h2, h3⟩ := h
  exact ⟨v, h1.ext hx (hM _ hlh (Nat.le_refl _)), h2.ext hx (h3 M fun b hb hh => hM b hb (by omega)), h3⟩
theorem Tp {v : Value} {l : List UInt8} {w : World} (h : Bs w v l) (hl : l.length ≤ 1000000000) :
    hJ pg rV #[v] w (fun r w' => ∃ hi, r = .pointer (some ⟨hi, 0, none⟩) ∧ w.heap.size ≤ hi ∧ hi < w'.heap.size ∧ UR w' w.heap.size hi l 0 ∧ gS w w' jR) := by
  refine HM ?_
  unfold Hs wK
  refine (V2 h hl).mono ?_
  rintro r w1 ⟨o1, x1⟩
  have hat := uE.atI o1
  have hs := o1.sl
  obtain ⟨a, c, rfl⟩ := o1.len
  simp (disch := omega) only [cO, bM, aF]
  refine nR fun w2 o2 x2 s2 => ?_
  simp only [Value.cells] at o2
  exact ⟨_, rfl, x1.size, by omega, ⟨_, o2, hs.ext x2 (iQ _), hat⟩, x1.seq x2⟩
theorem IL {l : List UInt8} {lo hi st n : Nat} {w : World} (h : UR w lo hi l st) (hlh : lo ≤ hi) (hn : n ≤ 32) (hst : st ≤ 8 * l.length) (hl : l.length ≤ 1000000) :
    hJ pg mB #[.pointer (some ⟨hi, 0, none⟩), .int .i64 n] w (fun r w' =>
      (8 * l.length < st + n ∧ r = .tuple #[.int .u64 0, .int .i64 10] ∧ UR w' lo hi l st ∧ gS w w' jR) ∨
      (st + n ≤ 8 * l.length ∧ r = .tuple #[.int .u64 (tA (((iC l).drop st).take n)), .int .i64 0] ∧ UR w' lo hi l (st + n) ∧ gS w w' (fun y => y = hi))) := by
  refine GY ?_
  obtain ⟨v, o, hs, hat⟩ := h
  unfold ER sC
  have d1 : decide ((n : Int) < 0) = false := by simp
  have d2 : decide ((32 : Int) < (n : Int)) = false := by simp; omega
  have c0 := o.cell (off := 0)
  have c1 := o.cell (off := 1)
  simp only [List.getElem?_cons_zero, List.getElem?_cons_succ] at c0 c1
  obtain ⟨a, n', c, hv, hn', hc, hh⟩ := id hs
  rw [List.length_map] at hn'
  subst hn'
  by_cases hsh : 8 * l.length < st + n
  · have d3 : decide (8 * (l.length : Int) - (st : Int) < (n : Int)) = true := by simp; omega
    subst hv
    have od := lA o
    have c0d := od.cell (off := 0)
    have c1d := od.cell (off := 1)
    simp only [List.getElem?_cons_zero, List.getElem?_cons_succ] at c0d c1d
    simp (disch := omega) only [cO, bB, Option.isNone_some, gB, true_and, aF, bE, Nat.zero_add, eI, bK, dE, eZ, eP, Bool.false_eq_true, if_false, dZ, eY, d1, fJ, d2, c0d, cX, c1d, dG, fX, eL, fL, d3, dA, cQ]
    exact .inl ⟨hsh, ⟨_, lA o, hs.ext (gS.dr _ jR) (iQ _), hat⟩, gS.dr _ _⟩
  · have d3 : decide (8 * (l.length : Int) - (st : Int) < (n : Int)) = false := by simp; omega
    subst hv
    have c0e := (lA o).cell (off := 0)
    have c1e := (lA o).cell (off := 1)
    have od := lA (lA o)
    have c0d := od.cell (off := 0)
    have c1d := od.cell (off := 1)
    simp only [List.getElem?_cons_zero, List.getElem?_cons_succ] at c0d c1d c0e c1e
    simp (disch := omega) only [cO, bB, Option.isNone_some, gB, true_and, aF, bE, Nat.zero_add, eI, bK, dE, eZ, eP, Bool.false_eq_true, if_false, dZ, eY, d1, fJ, d2, c0e, cX, c1e, c0d, c1d, dG, fX, eL, fL, d3, cQ]
    refine (ZC (l := l) (st := st) (n := n) ((hs.ext (gS.dr _ jR) (iQ _)).ext (gS.dr _ jR) (iQ _)) (by omega) (by omega) (by omega)).mono ?_
    rintro r w1 ⟨rfl, rfl⟩
    simp (disch := omega) only [c1d, cX, true_and, aF, fB, eL]
    refine yW od rfl (by simp) fun w2 o2 x2 s2 => ?_
    simp only [List.set_cons_zero, List.set_cons_succ] at o2
    have e1 : (st : Int) + (n : Int) = ((st + n : Nat) : Int) := by omega
    rw [e1] at o2
    have x02 : gS w w2 (fun y => y = hi) := ((gS.dr _ _).seq (gS.dr _ _)).seq x2
    exact .inr ⟨by omega, ⟨_, o2, hs.ext x02 (hat _ fun b hb hh => by omega), hat⟩, x02⟩
theorem WA {l : List UInt8} {lo hi st : Nat} {w : World} (h : UR w lo hi l st) (hst : st ≤ 1000000000) :
    hJ pg pW #[.pointer (some ⟨hi, 0, none⟩)] w (fun r w' => r = .int .i64 (((st + 7) / 8 : Nat)) ∧ w' = w) := by
  refine Hl ?_
  obtain ⟨v, o, hs, hat⟩ := h
  have c1 := o.cell (off := 1)
  simp only [List.getElem?_cons_zero, List.getElem?_cons_succ] at c1
  have e1 : ((st : Int) + 7).tdiv 8 = (((st + 7) / 8 : Nat) : Int) := by rw [Int.tdiv_eq_ediv_of_nonneg (by omega)]; omega
  unfold E0 sY
  simp (disch := omega) only [cO, bB, Option.isNone_some, gB, aF, bE, Nat.zero_add, eI, and_true, c1, cX, fB, eL, fW, e1, cQ]
end Go.Proofs.YtoepfjgekpdddaaDoor
namespace Go.Proofs.YtoepfjgekpdddaaDoor
open Go Go.En Go.Pu
set_option maxRecDepth 4000
set_option linter.unusedSimpArgs false
set_option linter.unusedVariables false
theorem ZT.sub {a : Option Addr} {n c m c' k sz lo hi : Nat} (h : ZT (.slice a n c) lo hi) (hm : m ≤ n) : ZT (.slice (sL a c k sz) m c') lo hi := by
  intro M hM hin
  cases m with
  | zero => unfold Vy at hin; split at hin <;> simp_all
  | succ m =>
    obtain ⟨n', rfl⟩ : ∃ n', n = n' + 1 := ⟨n - 1, by omega⟩
    have h1 := h M hM
    cases a with
    | none => unfold sL at hin; split at hin <;> exact hin
    | some x =>
      unfold sL at hin
      have h2 : M x.block := by
        split at hin
        · exact hin
        · rw [Option.map_some] at hin
          have e : (x.add (k * sz)).block = x.block := by unfold Addr.add; split <;> rfl
          have h3 : M (x.add (k * sz)).block := hin
          rwa [e] at h3
      exact h1 h2
abbrev Bl (w : World) (v : Value) (L : List Bool) : Prop := Sl w v (L.map Value.bool)
theorem Zw {w : World} {v : Value} {L : List Bool} (h : Bl w v L) (h0 : 0 < L.length) : ∃ b off c, v = .slice (some ⟨b, off, none⟩) L.length c ∧ L.length ≤ c ∧ ∀ i, (h : i < L.length) → w.cell? ⟨b, off + i, none⟩ = some (.bool L[i]) := by
  obtain ⟨b, off, c, rfl, hc, hcell⟩ := h.openV (by simpa using h0)
  refine ⟨b, off, c, by rw [List.length_map], by simpa using hc, fun i hi => ?_⟩
  have := hcell i (by simpa using hi)
  simpa using this
theorem RU {w : World} {v : Value} {L : List Bool} (h : Bl w v L) : ∃ a c, v = .slice a L.length c ∧ L.length ≤ c := by
  obtain ⟨a, n, c, rfl, hn, hc, _⟩ := h
  rw [List.length_map] at hn
  subst hn
  exact ⟨a, c, rfl, hc⟩
theorem XR (c : UInt8) : GE c = mW c.toNat 8 := rfl
theorem Vf {x : ByteArray} {w : World} (hl : x.size ≤ 1000000) :
    hJ pg CQ #[.string x] w (fun r w' => uE w' w.heap.size 1 r (8 * x.size) ((iC (Cb x)).map Value.bool) ∧ gS w w' jR) := by
  refine Q8 ?_
  have hll := Dp x
  unfold Sr Dt Do yB C6 DA wY DQ
  refine iY.rule (fun m (t : Value × Value) w' => ∃ (i : Nat) (v : Value), m = x.size - i ∧ t = (v, .int .i64 i) ∧ i ≤ x.size ∧ uE w' w.heap.size 1 v (8 * i) ((iC ((Cb x).take i)).map Value.bool) ∧ gS w w' (fun y => w.heap.size ≤ y)) x.size
    ⟨0, _, rfl, rfl, by omega, uE.nil _ _ _, gS.refl _ _⟩ ?_
  rintro m t w1 ⟨i, v, rfl, rfl, hi, o1, x1⟩
  unfold yV DH
  by_cases hlt : i < x.size
  · have d1 : decide ((i : Int) < (x.size : Int)) = true := by simp; omega
    obtain ⟨c, hc⟩ : ∃ c, c = (Cb x)[i]'(by omega) := ⟨_, rfl⟩
    have hg : (x[i]'hlt).toNat = c.toNat := by rw [hc, V4]
    have htk : iC ((Cb x).take (i + 1)) = iC ((Cb x).take i) ++ mW c.toNat 8 := by
      rw [List.take_add_one, List.getElem?_eq_getElem (by omega), CT, ← hc, Option.toList, iC, iC, List.append_nil, XR]
    have hcl : c.toNat < 256 := UInt8.toNat_lt c
    generalize c.toNat = y at *
    unfold A6 Fh E5 FJ
    simp (disch := omega) only [cO, dS, dR, Int.toNat_natCast, hg, aF, eY, d1, dA]
    unfold AW E4
    refine iY.rule (fun m (t : Value × Value × Value) w' => ∃ (k : Nat) (v : Value), m = 8 - k ∧ t = (v, .int .u8 (y / 2 ^ k : Nat), .int .i64 k) ∧ k ≤ 8 ∧ uE w' w.heap.size 1 v (8 * i + k) ((iC ((Cb x).take i) ++ mW y k).map Value.bool) ∧ gS w w' (fun y => w.heap.size ≤ y)) 8
      ⟨0, v, rfl, by simp, by omega, by simpa [GN] using o1, x1⟩ ?_
    rintro m t w2 ⟨k, v2, rfl, rfl, hk, o2, x2⟩
    unfold AM
    by_cases hk8 : k < 8
    · have d2 : decide ((k : Int) < 8) = true := by simp; omega
      obtain ⟨z, hz⟩ : ∃ z, z = y / 2 ^ k := ⟨_, rfl⟩
      have hz2 : y / 2 ^ (k + 1) = z / 2 := by rw [hz, Nat.pow_succ, Nat.div_div_eq_div_mul]
      have hzl : z < 256 := by have := Nat.div_le_self y (2 ^ k); omega
      have e1 : (z : Int).tmod 2 = ((z % 2 : Nat) : Int) := by rw [Int.tmod_eq_emod_of_nonneg (by omega)]; omega
      have e2 : (z : Int).tdiv 2 = ((z / 2 : Nat) : Int) := by rw [Int.tdiv_eq_ediv_of_nonneg (by omega)]; omega
      have hbit : y.testBit k = decide (z % 2 = 1) := by rw [Nat.testBit_eq_decide_div_mod_eq, hz]
      have e3 : (((z % 2 : Nat) : Int) == 1) = y.testBit k := by
        rw [hbit]
        have : z % 2 = 0 ∨ z % 2 = 1 := by omega
        rcases this with h | h <;> simp [h]
      have hbs := Hf y k
      generalize y.testBit k = bt at *
      rw [← hz]
      simp (disch := omega) only [cO, eY, d2, fY, e1, fW, e2, iK, fB, eL, aF, fR, e3, dA]
      refine Vr (cells := #[.bool bt]) (by decide) (by decide) (by kernel_rfl) fun w3 o3 x3 s3 => ?_
      refine KP (o2.ext x3 (fun _ _ h => h)) (o3.cl (off := 0) (l := [.bool bt]) (n := 1) rfl (fun i hi => by rw [Nat.zero_add])) (by simp [one]) (Nat.le_trans x2.size x3.size) (by omega) fun v4 w4 o4 x4 => ?_
      refine ⟨8 - (k + 1), by omega, k + 1, v4, rfl, ?_, by omega, ?_, ?_⟩
      · rw [hz2] <;> rfl
      · rw [hbs, ← List.append_assoc, List.map_append]
        exact o4
      · exact (x2.seq (x3.mono fun _ _ h => h.elim)).seq x4
    · have d2 : decide ((k : Int) < 8) = false := by simp; omega
      obtain rfl : k = 8 := by omega
      rw [← htk] at o2
      unfold Bk
      simp (disch := omega) only [cO, eY, d2, fY, fW, fB, eL, aF, fR, cQ]
      exact ⟨x.size - (i + 1), by omega, i + 1, _, rfl, rfl, by omega, o2, x2⟩
  · have d1 : decide ((i : Int) < (x.size : Int)) = false := by simp; omega
    obtain rfl : i = x.size := by omega
    rw [List.take_of_length_le (by omega)] at o1
    unfold AT
    simp (disch := omega) only [cO, dS, aF, eY, d1, cQ]
    exact ⟨o1, x1.mono fun b hb h => Nat.not_le_of_lt hb h⟩
theorem Un {L : List Bool} {v : Value} {w : World} (h : Bl w v L) (hl : L.length ≤ 60) :
    hJ pg zF #[v] w (fun r w' => r = .int .u64 (tA L : Nat) ∧ w' = w) := by
  refine Nx ?_
  obtain ⟨a, c, hv, hc⟩ := RU h
  subst hv
  unfold M3 AF Ar vQ Co BH
  simp (disch := omega) only [cO, dL, aF, fL, eL]
  unfold uY BQ
  refine iY.rule (fun m (t : Value × Value) w' => t = (.int .u64 (tA (L.drop m) : Nat), .int .i64 ((m : Int) - 1)) ∧ m ≤ L.length ∧ w' = w) L.length
    ⟨by rw [List.drop_length] <;> rfl, by omega, rfl⟩ ?_
  rintro m t w1 ⟨rfl, hm, rfl⟩
  unfold wC Cs
  cases m with
  | zero =>
    have d1 : decide ((0 : Int) ≤ ((0 : Nat) : Int) - 1) = false := rfl
    unfold vP
    simp (disch := omega) only [cO, fZ, d1, fX, aF, fB, and_true, cQ]
    simp
  | succ j =>
    have e0 : ((j + 1 : Nat) : Int) - 1 = (j : Int) := by omega
    have d1 : decide ((0 : Int) ≤ (j : Int)) = true := by simp
    obtain ⟨b, off, c', e, _, hcell⟩ := Zw h (by omega)
    cases e
    have g := hcell j (by omega)
    have hd : L.drop j = L[j] :: L.drop (j + 1) := List.drop_eq_getElem_cons (by omega)
    have hlt := RG (L.drop j)
    rw [List.length_drop] at hlt
    have hp : 2 ^ (L.length - j) ≤ 2 ^ 60 := Nat.pow_le_pow_right (by omega) (by omega)
    generalize L[j] = bt at *
    have hn : tA (L.drop j) = bt.toNat + 2 * tA (L.drop (j + 1)) := by rw [hd, tA]
    generalize tA (L.drop (j + 1)) = x at *
    cases bt with
    | true =>
      have hn : tA (L.drop j) = 1 + 2 * x := hn
      rw [e0]
      simp (disch := omega) only [cO, fZ, d1, fX, fU, dN, Int.toNat_natCast, aF, eS, fB, g, cX, dA]
      unfold qW
      simp (disch := omega) only [cO, fL, eL, aF, and_true]
      exact ⟨j, by omega, by rw [hn]; simp; omega, by omega⟩
    | false =>
      have hn : tA (L.drop j) = 2 * x := by rw [hn]; simp
      rw [e0]
      simp (disch := omega) only [cO, fZ, d1, fX, fU, dN, Int.toNat_natCast, aF, eS, fB, g, cX, cQ, dA]
      unfold qW
      simp (disch := omega) only [cO, fL, eL, aF, and_true]
      exact ⟨j, by omega, by rw [hn]; simp; omega, by omega⟩
end Go.Proofs.YtoepfjgekpdddaaDoor
namespace Go.Proofs.YtoepfjgekpdddaaDoor
open Go Go.En Go.Pu
set_option linter.unusedSimpArgs false
set_option linter.unusedVariables false
theorem ZQ {x : ByteArray} (h : 0 < x.size) : (x.toList == (⟨#[]⟩ : ByteArray).toList) = false := by
  rw [ByteArray.toList_eq, ByteArray.toList_eq]
  have hl := Dp x
  unfold Cb at hl
  cases hx : x.data.toList with
  | nil => rw [hx] at hl; simp at hl; omega
  | cons a l => rfl
end Go.Proofs.YtoepfjgekpdddaaDoor
namespace Go.Pu
open Go Go.En
set_option linter.unusedVariables false
structure Vg (B : List Bool) (l : List UInt8) : Prop where
  len : l.length = (B.length + 7) / 8
  bits : iC l = B ++ List.replicate (8 * l.length - B.length) false
theorem XH : Vg [] [] := ⟨rfl, rfl⟩
theorem UW : GE 0 = List.replicate 8 false := by decide
theorem WM {B : List Bool} {l : List UInt8} (h : Vg B l) (h8 : B.length % 8 = 0) : iC (l ++ [0]) = B ++ List.replicate (8 * (l.length + 1) - B.length) false ∧ (l ++ [(0 : UInt8)]).length = (B.length + 1 + 7) / 8 := by
  have hl := h.len
  refine ⟨?_, by rw [List.length_append, List.length_singleton]; omega⟩
  rw [CT, h.bits, iC, iC, UW, List.append_nil, List.append_assoc]
  congr 1
  rw [show 8 * l.length - B.length = 0 from by omega, show 8 * (l.length + 1) - B.length = 8 from by omega]
  rfl
theorem Xx (c : UInt8) (r : Nat) (hr : r < 8) (y : Bool) (h : c.toNat.testBit r = false) : GE (UInt8.ofNat (c.toNat + 2 ^ r * y.toNat)) = (GE c).set r y ∧ c.toNat + 2 ^ r * y.toNat < 256 ∧ c.toNat ||| (y.toNat * 2 ^ r) = c.toNat + 2 ^ r * y.toNat := by
  have key : ∀ (c : Fin 256) (r : Fin 8) (y : Bool), c.val.testBit r.val = false → GE (UInt8.ofNat (c.val + 2 ^ r.val * y.toNat)) = (GE (UInt8.ofNat c.val)).set r.val y ∧ c.val + 2 ^ r.val * y.toNat < 256 ∧ c.val ||| (y.toNat * 2 ^ r.val) = c.val + 2 ^ r.val * y.toNat := by decide +kernel
  have := key ⟨c.toNat, UInt8.toNat_lt c⟩ ⟨r, hr⟩ y h
  simpa using this
theorem Tl : ∀ (l : List UInt8) (i r : Nat) (c : UInt8) (y : Bool) (hi : i < l.length), r < 8 → GE c = (GE l[i]).set r y → iC (l.set i c) = (iC l).set (8 * i + r) y
  | [], i, r, c, y, hi, hr, h => by simp at hi
  | x :: l, 0, r, c, y, hi, hr, h => by
    rw [List.set_cons_zero, iC, iC, h, List.set_append_left _ _ (by rw [qS]; omega)]
    simp
  | x :: l, i + 1, r, c, y, hi, hr, h => by
    rw [List.set_cons_succ, iC, iC, List.set_append_right _ _ (by rw [qS]; omega), qS, Tl l i r c y (by simpa using hi) hr (by simpa using h)]
    congr 2
    omega
theorem Yc {B : List Bool} {l : List UInt8} {y : Bool} (hb : iC l = B ++ List.replicate (8 * l.length - B.length) false) (hl : l.length = (B.length + 1 + 7) / 8) :
    ∃ hi : B.length / 8 < l.length, Vg (B ++ [y]) (l.set (B.length / 8) (UInt8.ofNat ((l[B.length / 8]'hi).toNat + 2 ^ (B.length % 8) * y.toNat))) ∧
      (l[B.length / 8]'hi).toNat + 2 ^ (B.length % 8) * y.toNat < 256 ∧ (l[B.length / 8]'hi).toNat ||| (y.toNat * 2 ^ (B.length % 8)) = (l[B.length / 8]'hi).toNat + 2 ^ (B.length % 8) * y.toNat := by
  have hi : B.length / 8 < l.length := by omega
  have hbit := PA l B.length (by omega)
  rw [hb, List.getElem?_append_right (Nat.le_refl _), Nat.sub_self, List.getElem?_replicate, if_pos (by omega)] at hbit
  have hbit := (Option.some.inj hbit).symm
  obtain ⟨h1, h2, h3⟩ := Xx _ (B.length % 8) (by omega) y hbit
  refine ⟨hi, ⟨?_, ?_⟩, h2, h3⟩
  · rw [List.length_set, List.length_append, List.length_singleton]; exact hl
  · rw [Tl l _ (B.length % 8) _ y hi (by omega) h1, hb, show 8 * (B.length / 8) + B.length % 8 = B.length from by omega, List.set_append_right _ _ (Nat.le_refl _), Nat.sub_self, List.length_set, List.length_append, List.length_singleton, List.append_assoc]
    congr 1
    rw [show 8 * l.length - B.length = (8 * l.length - (B.length + 1)) + 1 from by omega, List.replicate_succ, List.set_cons_zero]
    rfl
theorem XE {x n : Nat} (h : x < 2 ^ n) : tA (mW x n) = x := by rw [Su, Nat.mod_eq_of_lt h]
end Go.Pu
namespace Go.Pu
open Go Go.En
set_option linter.unusedVariables false
def lF (L : List Bool) (st n : Nat) : Nat := tA ((L.drop st).take n)
theorem yQ (L : List Bool) (st n : Nat) : lF L st n < 2 ^ n := by
  have h := RG ((L.drop st).take n)
  have : ((L.drop st).take n).length ≤ n := by rw [List.length_take]; omega
  exact Nat.lt_of_lt_of_le h (Nat.pow_le_pow_right (by omega) this)
theorem S8 (A : List Bool) (x n : Nat) (C : List Bool) (h : x < 2 ^ n) : lF (A ++ (mW x n ++ C)) A.length n = x := by
  unfold lF
  rw [List.drop_left, List.take_left' (jS x n), XE h]
def KW (L : List Bool) (st left : Nat) : Option (Nat × Nat) :=
  let n := bl (left + 1)
  if L.length < st + (n - 1) then none
  else
    let low := lF L st (n - 1)
    let free := 2 ^ n - 2 - left
    if low < free then some (low, st + (n - 1))
    else if L.length < st + (n - 1) + 1 then none
    else if lF L (st + (n - 1)) 1 = 0 then some (low, st + (n - 1) + 1)
    else some (low + 2 ^ (n - 1) - free, st + (n - 1) + 1)
def Ss (L : List Bool) : Nat → Nat → Option (Nat × Nat)
  | 0, _ => none
  | f + 1, st => if L.length < st + 2 then none else if lF L st 2 < 3 then some (lF L st 2, st + 2) else match Ss L f (st + 2) with
    | none => none
    | some (k, st') => some (3 + k, st')
def LY (L : List Bool) (sym : Nat) : Nat → Nat → Nat → List Int → Except Int (List Int × Nat)
  | 0, _, _, _ => .error 10
  | f + 1, st, left, ps => if left = 0 then .ok (ps, st) else match KW L st left with
    | none => .error 10
    | some (v, st1) =>
      if v = 1 then match Ss L (L.length + 1) st1 with
        | none => .error 10
        | some (k, st2) => if sym < ps.length + 1 + k then .error 11 else LY L sym f st2 left (ps ++ 0 :: List.replicate k 0)
      else if sym < ps.length + 1 then .error 11 else LY L sym f st1 (left - (iA ((v : Int) - 1)).toNat) (ps ++ [(v : Int) - 1])
theorem MW {L : List Bool} {st left v st1 : Nat} (h : KW L st left = some (v, st1)) (h0 : 0 < left) : st < st1 ∧ st1 ≤ L.length ∧ v ≤ left + 1 := by
  have hb1 := KH (k := left + 1) (by omega)
  have hb2 := QE (k := left + 1) (by omega)
  have hb3 := QC (left + 1)
  have hn : 2 ≤ bl (left + 1) := by
    rcases Nat.lt_or_ge (bl (left + 1)) 2 with h | h
    · have : bl (left + 1) = 1 := by omega
      rw [this] at hb3; omega
    · exact h
  unfold KW at h
  simp only at h
  generalize bl (left + 1) = n at *
  obtain ⟨m, rfl⟩ : ∃ m, n = m + 1 := ⟨n - 1, by omega⟩
  rw [Nat.add_sub_cancel] at *
  rw [Nat.pow_succ] at *
  have hl := yQ L st m
  generalize 2 ^ m = q at *
  generalize lF L st m = low at *
  split at h
  · cases h
  · split at h
    · obtain ⟨rfl, rfl⟩ := Prod.mk.inj (Option.some.inj h); omega
    · split at h
      · cases h
      · split at h
        · obtain ⟨rfl, rfl⟩ := Prod.mk.inj (Option.some.inj h); omega
        · obtain ⟨rfl, rfl⟩ := Prod.mk.inj (Option.some.inj h); omega
theorem TG {L : List Bool} : ∀ {f st k st1 : Nat}, Ss L f st = some (k, st1) → st < st1 ∧ st1 ≤ L.length ∧ 2 * k ≤ 3 * (st1 - st)
  | 0, st, k, st1, h => by cases h
  | f + 1, st, k, st1, h => by
    rw [Ss] at h
    split at h
    · cases h
    · have hl := yQ L st 2
      split at h
      · obtain ⟨rfl, rfl⟩ := Prod.mk.inj (Option.some.inj h); omega
      · cases hn : Ss L f (st + 2) with
        | none => rw [hn] at h; cases h
        | some x =>
          obtain ⟨k', st'⟩ := x
          rw [hn] at h
          obtain ⟨rfl, rfl⟩ := Prod.mk.inj (Option.some.inj h)
          have := TG hn
          omega
def sV (L : List Bool) (most : Int) (sym : Nat) : Except Int (Nat × List Int × Nat) :=
  if L.length < 4 then .error 10
  else
    let log := lF L 0 4 + 5
    if most < log ∨ 15 < log then .error 12
    else match LY L sym (L.length + 1) 4 (2 ^ log) [] with
      | .error e => .error e
      | .ok (ps, st) => .ok (log, ps, (st + 7) / 8)
theorem GZ : ∀ k : Nat, pB (List.replicate k 0) = 0
  | 0 => rfl
  | k + 1 => by rw [List.replicate_succ, rK, GZ k] <;> rfl
theorem Pb {L : List Bool} {sym : Nat} {out : List Int} {stE : Nat} {tot : Int} : ∀ {f st left : Nat} {ps : List Int}, LY L sym f st left ps = .ok (out, stE) → (∀ p ∈ ps, -1 ≤ p) → pB ps + left = tot →
    (left = 0 → ps.length ≤ sym ∧ ps.getLast? ≠ some 0 ∧ 1 ≤ ps.length) → (∀ p ∈ out, -1 ≤ p) ∧ pB out = tot ∧ out.length ≤ sym ∧ out.getLast? ≠ some 0 ∧ 1 ≤ out.length
  | 0, st, left, ps, h, _, _, _ => by cases h
  | f + 1, st, left, ps, h, hlo, hs, hz => by
    rw [LY] at h
    split at h
    · rename_i h0
      cases h
      obtain ⟨z1, z2, z3⟩ := hz h0
      exact ⟨hlo, by omega, z1, z2, z3⟩
    · rename_i h0
      cases hv : KW L st left with
      | none => rw [hv] at h; cases h
      | some x =>
        obtain ⟨v, st1⟩ := x
        obtain ⟨v1, v2, v3⟩ := MW hv (by omega)
        rw [hv] at h
        simp only at h
        split at h
        · rename_i hv1
          cases hn : Ss L (L.length + 1) st1 with
          | none => rw [hn] at h; cases h
          | some y =>
            obtain ⟨k, st2⟩ := y
            rw [hn] at h
            simp only at h
            split at h
            · cases h
            · refine Pb h ?_ ?_ (fun h => absurd h h0)
              · intro p hp
                rcases List.mem_append.1 hp with hp | hp
                · exact hlo p hp
                · rcases List.mem_cons.1 hp with rfl | hp
                  · omega
                  · rw [List.eq_of_mem_replicate hp]; omega
              · rw [Bt, rK]
                have e := GZ k
                rw [e]
                have : iA 0 = 0 := rfl
                omega
        · rename_i hv1
          split at h
          · cases h
          · have hp1 : -1 ≤ (v : Int) - 1 := by omega
            have hpn := mJ hp1
            have hpl : iA ((v : Int) - 1) ≤ left := by unfold iA; split <;> omega
            refine Pb h ?_ ?_ ?_
            · intro p hp
              rcases List.mem_append.1 hp with hp | hp
              · exact hlo p hp
              · rw [List.mem_singleton.1 hp]; exact hp1
            · rw [Bt, rK]
              have e : pB [] = 0 := rfl
              rw [e]; omega
            · intro _
              rw [List.length_append, List.length_singleton, List.getLast?_concat]
              refine ⟨by omega, ?_, by omega⟩
              intro e
              have := Option.some.inj e
              omega
end Go.Pu
namespace Go.Pu
open Go Go.En
set_option linter.unusedVariables false
def Ep (left v : Nat) : List Bool :=
  let n := bl (left + 1)
  let free := 2 ^ n - 2 - left
  if v < free then mW v (n - 1) else if v < 2 ^ (n - 1) then mW v n else mW (v + free) n
def TY (k : Nat) : List Bool := if h : k < 3 then mW k 2 else mW 3 2 ++ TY (k - 3)
termination_by k
theorem HV {L A C : List Bool} {x n : Nat} (hL : L = A ++ (mW x n ++ C)) (h : x < 2 ^ n) : lF L A.length n = x := by rw [hL, S8 A x n C h]
theorem So (x n : Nat) : mW x (n + 1) = mW (x % 2 ^ n) n ++ mW (x / 2 ^ n % 2) 1 := by
  rw [Hf]
  congr 1
  · unfold mW
    apply List.map_congr_left
    intro k hk
    rw [Nat.testBit_mod_two_pow]
    simp [List.mem_range.1 hk]
  · rw [Hf, GN, List.nil_append]
    congr 1
    rw [Nat.testBit_eq_decide_div_mod_eq, Nat.testBit_eq_decide_div_mod_eq, Nat.pow_zero, Nat.div_one, Nat.mod_mod]
theorem X8 {L A C : List Bool} {left v : Nat} (hL : L = A ++ (Ep left v ++ C)) (h0 : 0 < left) (hv : v ≤ left + 1) : KW L A.length left = some (v, A.length + (Ep left v).length) := by
  have hb1 := KH (k := left + 1) (by omega)
  have hb2 := QE (k := left + 1) (by omega)
  have hb3 := QC (left + 1)
  unfold Ep at hL ⊢
  unfold KW
  simp only at hL ⊢
  generalize bl (left + 1) = n at *
  obtain ⟨m, rfl⟩ : ∃ m, n = m + 1 := ⟨n - 1, by omega⟩
  rw [Nat.add_sub_cancel] at *
  have hp : 2 ^ (m + 1) = 2 * 2 ^ m := by rw [Nat.pow_succ, Nat.mul_comm]
  have hp0 := Nat.two_pow_pos m
  by_cases h1 : v < 2 ^ (m + 1) - 2 - left
  · rw [if_pos h1] at hL ⊢
    have hlen : L.length = A.length + (m + C.length) := by rw [hL, List.length_append, List.length_append, jS]
    rw [if_neg (by omega), HV hL (by omega), if_pos h1, jS]
  · rw [if_neg h1] at hL ⊢
    have key : ∀ y : Nat, y < 2 ^ (m + 1) → L = A ++ (mW y (m + 1) ++ C) → 2 ^ (m + 1) - 2 - left ≤ y % 2 ^ m → (if y / 2 ^ m = 0 then y % 2 ^ m else y % 2 ^ m + 2 ^ m - (2 ^ (m + 1) - 2 - left)) = v →
        (if L.length < A.length + m then none else if lF L A.length m < 2 ^ (m + 1) - 2 - left then some (lF L A.length m, A.length + m) else if L.length < A.length + m + 1 then none
          else if lF L (A.length + m) 1 = 0 then some (lF L A.length m, A.length + m + 1) else some (lF L A.length m + 2 ^ m - (2 ^ (m + 1) - 2 - left), A.length + m + 1)) = some (v, A.length + (mW y (m + 1)).length) := by
      intro y hy hL hlow hval
      have hlen : L.length = A.length + (m + 1 + C.length) := by rw [hL, List.length_append, List.length_append, jS]
      have hq : y / 2 ^ m < 2 := (Nat.div_lt_iff_lt_mul hp0).2 (by omega)
      have e1 : lF L A.length m = y % 2 ^ m := HV (C := mW (y / 2 ^ m % 2) 1 ++ C) (by rw [hL, So, List.append_assoc]) (Nat.mod_lt _ hp0)
      have e2 : lF L (A.length + m) 1 = y / 2 ^ m := by
        have := HV (L := L) (A := A ++ mW (y % 2 ^ m) m) (C := C) (x := y / 2 ^ m % 2) (n := 1) (by rw [hL, So, List.append_assoc, List.append_assoc]) (by omega)
        rw [List.length_append, jS, Nat.mod_eq_of_lt hq] at this
        exact this
      rw [if_neg (by omega), e1, if_neg (by omega), if_neg (by omega), e2, jS]
      split
      · rename_i h
        rw [if_pos h] at hval
        rw [hval] <;> rfl
      · rename_i h
        rw [if_neg h] at hval
        rw [hval] <;> rfl
    by_cases h2 : v < 2 ^ m
    · rw [if_pos h2] at hL ⊢
      refine key v (by omega) hL ?_ ?_
      · rw [Nat.mod_eq_of_lt h2]; omega
      · rw [Nat.div_eq_of_lt h2, if_pos rfl, Nat.mod_eq_of_lt h2]
    · rw [if_neg h2] at hL ⊢
      have hd : (v + (2 ^ (m + 1) - 2 - left)) / 2 ^ m = 1 := Nat.div_eq_of_lt_le (by omega) (by omega)
      have hm : (v + (2 ^ (m + 1) - 2 - left)) % 2 ^ m = v + (2 ^ (m + 1) - 2 - left) - 2 ^ m := by
        rw [Nat.mod_eq_sub_mod (by omega), Nat.mod_eq_of_lt (by omega)]
      refine key _ (by omega) hL ?_ ?_
      · rw [hm]; omega
      · rw [hd, if_neg (by omega), hm]; omega
theorem Z5 {L C : List Bool} : ∀ {k : Nat} {A : List Bool} {f : Nat}, L = A ++ (TY k ++ C) → L.length < 2 * f + A.length → Ss L f A.length = some (k, A.length + (TY k).length) := by
  intro k
  induction k using Nat.strongRecOn with
  | ind k ih =>
    intro A f hL hf
    rw [TY] at hL ⊢
    split at hL
    · rename_i hk
      have hlen : L.length = A.length + (2 + C.length) := by rw [hL, List.length_append, List.length_append, jS]
      obtain ⟨f, rfl⟩ : ∃ g, f = g + 1 := ⟨f - 1, by omega⟩
      have e := HV hL (by omega)
      rw [Ss, if_neg (by omega), e, if_pos hk, dif_pos hk, jS]
    · rename_i hk
      rw [List.append_assoc] at hL
      have hlen : L.length = A.length + (2 + ((TY (k - 3)).length + C.length)) := by rw [hL, List.length_append, List.length_append, List.length_append, jS]
      obtain ⟨f, rfl⟩ : ∃ g, f = g + 1 := ⟨f - 1, by omega⟩
      have e := HV hL (by omega)
      have := ih (k - 3) (by omega) (A := A ++ mW 3 2) (f := f) (by rw [hL, List.append_assoc]) (by rw [List.length_append, jS]; omega)
      rw [List.length_append, jS] at this
      rw [Ss, if_neg (by omega), e, if_neg (by omega), this, dif_neg hk, List.length_append, jS]
      simp only [Option.some.injEq, Prod.mk.injEq]
      omega
def LW : Nat → Nat → List Int → List Bool
  | 0, _, _ => []
  | f + 1, left, ps => match ps with
    | [] => []
    | p :: ps => if p = 0 then
        let k := (ps.takeWhile (· == 0)).length
        Ep left 1 ++ (TY k ++ LW f left (ps.drop k))
      else Ep left (p + 1).toNat ++ LW f (left - (iA p).toNat) ps
theorem JK (ps : List Int) : ps = List.replicate (ps.takeWhile (· == 0)).length 0 ++ ps.drop (ps.takeWhile (· == 0)).length := by
  induction ps with
  | nil => rfl
  | cons p ps ih =>
    rw [List.takeWhile_cons]
    by_cases h : p = 0
    · subst h
      simp only [beq_self_eq_true, if_true, List.length_cons, List.replicate_succ, List.drop_succ_cons, List.cons_append]
      rw [← ih]
    · have : (p == 0) = false := by simpa using h
      simp [this]
theorem aaC {L C : List Bool} {sym : Nat} : ∀ {g : Nat} {ps out : List Int} {left f : Nat} {A : List Bool}, ps.length ≤ g → (∀ p ∈ ps, -1 ≤ p) → pB ps = left → ps.getLast? ≠ some 0 →
    L = A ++ (LW g left ps ++ C) → L.length < f + A.length → out.length + ps.length ≤ sym →
    LY L sym f A.length left out = .ok (out ++ ps, A.length + (LW g left ps).length) := by
  intro g
  induction g with
  | zero =>
    intro ps out left f A hl hlo hs hlast hL hf hsym
    have : ps = [] := List.length_eq_zero_iff.1 (by omega)
    subst this
    obtain rfl : left = 0 := by have : pB [] = 0 := rfl
                                omega
    have : A.length ≤ L.length := by rw [hL, List.length_append]; omega
    obtain ⟨f, rfl⟩ : ∃ g, f = g + 1 := ⟨f - 1, by omega⟩
    rw [LY, if_pos rfl, LW]; simp
  | succ g ih =>
    intro ps out left f A hl hlo hs hlast hL hf hsym
    have hAL : A.length ≤ L.length := by rw [hL, List.length_append]; omega
    obtain ⟨f, rfl⟩ : ∃ g, f = g + 1 := ⟨f - 1, by omega⟩
    cases ps with
    | nil =>
      obtain rfl : left = 0 := by have : pB [] = 0 := rfl
                                  omega
      rw [LY, if_pos rfl, LW]; simp
    | cons p ps =>
      have hp := hlo p (List.mem_cons_self ..)
      have hlo' : ∀ p ∈ ps, -1 ≤ p := fun q hq => hlo q (List.mem_cons_of_mem _ hq)
      have hn := Bp hlo'
      rw [rK] at hs
      have hpn := mJ hp
      rw [List.length_cons] at hl hsym
      have hpos : 0 < left := by
        by_cases h0 : p = 0
        ·
          subst h0
          rcases Nat.eq_zero_or_pos left with h | h
          · exfalso
            subst h
            have hs0 : pB ps = 0 := by have : iA 0 = 0 := rfl
                                       omega
            have hz : ∀ q ∈ ps, q = 0 := fun q hq => by
              have h1 := RF hlo' hq
              have h2 := hlo' q hq
              unfold iA at h1
              split at h1 <;> omega
            cases ps with
            | nil => simp at hlast
            | cons q ps =>
              rw [List.getLast?_cons_cons] at hlast
              refine hlast ?_
              cases hg : (q :: ps).getLast? with
              | none => simp at hg
              | some y => rw [hz y (List.mem_of_getLast? hg)]
          · exact h
        · unfold iA at hs; split at hs <;> omega
      have hpl : iA p ≤ left := by omega
      by_cases h0 : p = 0
      · subst h0
        have hW : LW (g + 1) left (0 :: ps) = Ep left 1 ++ (TY (ps.takeWhile (· == 0)).length ++ LW g left (ps.drop (ps.takeWhile (· == 0)).length)) := by rw [LW, if_pos rfl]
        have hk := JK ps
        have hkl : (ps.takeWhile (· == 0)).length ≤ ps.length := (List.takeWhile_sublist _).length_le
        rw [hW] at hL ⊢
        generalize (ps.takeWhile (· == 0)).length = k at *
        have e1 := X8 (L := L) (A := A) (C := TY k ++ LW g left (ps.drop k) ++ C) (left := left) (v := 1) (by rw [hL]; simp [List.append_assoc]) hpos (by omega)
        obtain ⟨z1, z2, _⟩ := MW e1 hpos
        have e2 := Z5 (L := L) (k := k) (A := A ++ Ep left 1) (C := LW g left (ps.drop k) ++ C) (f := L.length + 1) (by rw [hL]; simp [List.append_assoc]) (by omega)
        obtain ⟨y1, y2, _⟩ := TG e2
        have hlast' : (ps.drop k).getLast? ≠ some 0 := by
          intro h
          apply hlast
          have e : (0 :: ps : List Int) = (0 :: ps.take k) ++ ps.drop k := by rw [List.cons_append, List.take_append_drop]
          rw [e, List.getLast?_append, h] <;> rfl
        have hsum' : pB (ps.drop k) = left := by
          have : pB ps = pB (List.replicate k 0) + pB (ps.drop k) := by
            conv => lhs; rw [hk]
            rw [Bt]
          rw [GZ] at this
          have e0 : iA 0 = 0 := rfl
          omega
        have hlen2 : (A ++ Ep left 1 ++ TY k).length = A.length + (Ep left 1).length + (TY k).length := by rw [List.length_append, List.length_append]
        rw [List.length_append] at e2 y1
        have e3 := ih (ps := ps.drop k) (out := out ++ 0 :: List.replicate k 0) (left := left) (f := f) (A := A ++ Ep left 1 ++ TY k) (by rw [List.length_drop]; omega) (fun q hq => hlo' q (List.mem_of_mem_drop hq)) hsum' hlast'
          (by rw [hL]; simp [List.append_assoc]) (by rw [hlen2]; omega) (by rw [List.length_append, List.length_cons, List.length_replicate, List.length_drop]; omega)
        rw [hlen2] at e3
        rw [LY, if_neg (by omega), e1]
        simp only [if_true]
        rw [e2]
        simp only
        rw [if_neg (by omega), e3]
        congr 2
        · rw [List.append_assoc, List.cons_append, ← hk]
        · simp only [List.length_append]; omega
      · have hW : LW (g + 1) left (p :: ps) = Ep left (p + 1).toNat ++ LW g (left - (iA p).toNat) ps := by rw [LW, if_neg h0]
        have hle : p ≤ iA p := by unfold iA; split <;> omega
        rw [hW] at hL ⊢
        obtain ⟨v, hv⟩ : ∃ v : Nat, (p + 1).toNat = v := ⟨_, rfl⟩
        have hvp : (v : Int) - 1 = p := by omega
        rw [hv] at hL ⊢
        have e1 := X8 (L := L) (A := A) (C := LW g (left - (iA p).toNat) ps ++ C) (left := left) (v := v) (by rw [hL]; simp [List.append_assoc]) hpos (by omega)
        obtain ⟨z1, z2, _⟩ := MW e1 hpos
        have hlast' : ps.getLast? ≠ some 0 := by
          intro h
          apply hlast
          cases ps with
          | nil => simp at h
          | cons q ps => rw [List.getLast?_cons_cons]; exact h
        have hlen2 : (A ++ Ep left v).length = A.length + (Ep left v).length := List.length_append
        have e3 := ih (ps := ps) (out := out ++ [p]) (left := left - (iA p).toNat) (f := f) (A := A ++ Ep left v) (by omega) hlo' (by omega) hlast'
          (by rw [hL]; simp [List.append_assoc]) (by rw [hlen2]; omega) (by rw [List.length_append, List.length_singleton]; omega)
        rw [hlen2] at e3
        rw [LY, if_neg (by omega), e1]
        simp only
        rw [if_neg (by omega), if_neg (by omega), hvp, e3]
        congr 2
        · rw [List.append_assoc] <;> rfl
        · simp only [List.length_append]; omega
def Cy (log : Nat) (ps : List Int) : List Bool := mW (log - 5) 4 ++ LW ps.length (2 ^ log) ps
theorem YC {log : Nat} {ps : List Int} {C : List Bool} (hm : Jo log ps) {most : Int} (hmo : (log : Int) ≤ most) {sym : Nat} (hs : ps.length ≤ sym) :
    sV (Cy log ps ++ C) most sym = .ok (log, ps, ((Cy log ps).length + 7) / 8) := by
  have h5 := hm.log5
  have h15 := hm.log15
  have hlen : 4 ≤ (Cy log ps ++ C).length := by unfold Cy; rw [List.length_append, List.length_append, jS]; omega
  have e0 : lF (Cy log ps ++ C) 0 4 = log - 5 := by
    unfold Cy
    have := S8 [] (log - 5) 4 (LW ps.length (2 ^ log) ps ++ C) (by omega)
    rw [List.nil_append, List.length_nil, ← List.append_assoc] at this
    exact this
  have hpow : ((2 ^ log : Nat) : Int) = (2 : Int) ^ log := by simp
  have e1 := aaC (L := Cy log ps ++ C) (C := C) (sym := sym) (g := ps.length) (ps := ps) (out := []) (left := 2 ^ log) (f := (Cy log ps ++ C).length + 1) (A := mW (log - 5) 4) (Nat.le_refl _) hm.low
    (by rw [hm.sum, hpow]) hm.last (by unfold Cy; rw [List.append_assoc]) (by omega) (by rw [List.length_nil]; omega)
  rw [jS, List.nil_append] at e1
  unfold sV
  simp only
  rw [if_neg (by omega), e0, show log - 5 + 5 = log from by omega, if_neg (by omega), e1]
  simp only
  congr 4
  unfold Cy
  rw [List.length_append, jS]
end Go.Pu
namespace Go.En
open Go
set_option linter.unusedVariables false
set_option linter.unusedSimpArgs false
section
variable {P : Program} {w : World} {t e : TypeId}
theorem T1 {S : Nat → Prop} {sz n m : Nat} {i : TypeInfo} {z : Value} {ty t2 : TypeId} {k : IntKind} (hu : P.underlying t = some (.slice e)) (hu2 : P.underlying t2 = some (.int k)) (hi : P.info? e = some i) (hsz : i.size = sz) (hz : i.zero = some z) (hzs : z.cells.size = sz)
    {v : Value} {l : List Value} (h : US w S sz v n l) (hsz0 : 0 < sz) (hone : ∀ y ∈ z.cells.toList, one y = true) (hb : ∀ b, w.heap.size ≤ b → S b)
    (hn : n + m ≤ 9223372036854775807) (hbytes : (n + m) * i.bytes ≤ 140737488355328) (hmb : m * i.bytes ≤ 140737488355328)
    {K : Value → World → Prop} (hk : ∀ v' w', US w' S sz v' (n + m) (l ++ (Builtin.zeroCells z.cells m).toList) → gS w w' S → K v' w') : cO P (nA .append #[t, t2] ty [v, .int k m]) w K := by
  generalize hnews : (Builtin.zeroCells z.cells m).toList = news at *
  have hnl : news.length = m * sz := by rw [← hnews, Array.length_toList, oC, hzs]
  have hone' : ∀ y ∈ news, one y = true := by
    intro y hy
    rw [← hnews] at hy
    simp only [Builtin.zeroCells, Array.toList_map, List.mem_map] at hy
    obtain ⟨j, _, rfl⟩ := hy
    refine hone _ ?_
    have : j % z.cells.size < z.cells.size := Nat.mod_lt _ (by omega)
    rw [getElem!_pos z.cells _ this]
    exact Array.getElem_mem_toList this
  have hmw : IntKind.i64.wrap ((m : Nat) : Int) = (m : Int) := eL (by omega) (by omega)
  have hm0 : ¬ ((m : Int) < 0) := by omega
  have hmx : ¬ ((m : Int) * (i.bytes : Nat) > 2 ^ 48) := by
    have : (m : Int) * (i.bytes : Nat) = ((m * i.bytes : Nat) : Int) := by simp
    rw [this]; omega
  have has : ∀ w, (asInt (.int k m)).run P w = .ok (m : Int) w := fun w => rfl
  have hz' : ∀ w, (zeroValue e).run P w = .ok z w := fun w => by simp [zeroValue, typeInfo, hi, hz]
  have hnw : ∀ w, (if m * sz = 0 then pure #[] else do pure (Builtin.zeroCells (← zeroValue e).cells m) : Sem (Array Value)).run P w = .ok news.toArray w := fun w => by
    by_cases h0 : m * sz = 0
    · rw [if_pos h0, Sem.run_pure]
      have : news = [] := List.length_eq_zero_iff.1 (by omega)
      rw [this]
    · rw [if_neg h0, Sem.run_bind, hz', Result.andThen_ok, Sem.run_pure, ← hnews, Array.toArray_toList]
  have hmax : IntKind.i64.max = 9223372036854775807 := by decide
  have hnot : ¬ (((n + m : Nat) : Int) > IntKind.i64.max) := by rw [hmax]; omega
  have hlen := h.1
  rcases h.2 with ⟨rfl, rfl⟩ | ⟨b, c, rest, rfl, h2, h3, h4, h5⟩
  · have hl0 : l = [] := List.length_eq_zero_iff.1 (by omega)
    subst hl0
    by_cases hm : m = 0
    · subst hm
      have hn0 : news = [] := List.length_eq_zero_iff.1 (by omega)
      subst hn0
      have : (nA .append #[t, t2] ty [.slice none 0 0, .int k (0 : Nat)]).run P w = .ok (.value (.slice none 0 0)) w := by
        unfold nA builtin
        simp only [Builtin.append_, List.getElem?_toArray, List.getElem?_cons_zero, List.getElem?_cons_succ]
        simp only [underlying, typeInfo, Sem.run_bind, run_program, Result.andThen_ok, hu, hu2, hi, Sem.run_pure, kO hi, hsz, has, hmw, hm0, hmx, if_true, if_false, Int.toNat_natCast, Bool.not_true, Bool.false_eq_true, Nat.le_refl, Nat.add_zero, hnw]
      unfold cO
      rw [this]
      exact hk _ _ ⟨by simp, .inl ⟨rfl, by omega⟩⟩ (gS.refl _ _)
    · have hfit := growslice_fits (need := 0 + m) (old := 0) (bytes := i.bytes) (by omega) (by omega)
      have hfit' : ¬ (Builtin.nextslicecap (0 + m) 0 * i.bytes > 2 ^ 48) := by omega
      have hle : ¬ (0 + m ≤ 0) := by omega
      have hq : (Question.appendCap (0 + m) 0 e).forced = false := rfl
      obtain ⟨r, hr⟩ : ∃ r, (Question.appendCap (0 + m) 0 e).cut (w.tape w.drawn (.appendCap (0 + m) 0 e)) = m + r :=
        ⟨(w.tape w.drawn (.appendCap (0 + m) 0 e)) % (2 ^ 63 - (0 + m)), by simp only [Question.cut]; omega⟩
      have : (nA .append #[t, t2] ty [.slice none 0 0, .int k m]).run P w = .ok (.value (.slice (some ⟨w.heap.size, 0, none⟩) (0 + m) (m + r))) ((dr w).alloc (.cells (news ++ (Builtin.zeroCells z.cells (m + r - (0 + m))).toList).toArray e)) := by
        unfold nA builtin
        simp only [Builtin.append_, List.getElem?_toArray, List.getElem?_cons_zero, List.getElem?_cons_succ]
        simp only [underlying, typeInfo, Sem.run_bind, run_program, Result.andThen_ok, hu, hu2, hi, Sem.run_pure, kO hi, hsz, has, hmw, hm0, hmx, if_true, if_false, Int.toNat_natCast, Bool.not_true, Bool.false_eq_true, hle, hnot, false_and, hfit', run_choose, hq, hr, run_askRoom]
        change ((Sem.run P _ (dr w)).andThen _).andThen _ = _
        simp only [Sem.run_bind, hnw, run_firstCells_none, Result.andThen_ok, hz', Sem.run_pure, newRow, run_newObj]
        have e1 : (#[] ++ news.toArray ++ Builtin.zeroCells z.cells (m + r - (0 + m)) : Array Value) = (news ++ (Builtin.zeroCells z.cells (m + r - (0 + m))).toList).toArray := by
          apply Array.ext'; simp
        rw [e1]
        rfl
      unfold cO
      rw [this]
      refine hk _ _ ⟨by simp only [List.nil_append]; rw [hnl, Nat.zero_add], .inr ⟨w.heap.size, m + r, (Builtin.zeroCells z.cells (m + r - (0 + m))).toList, by rw [Nat.zero_add], hb _ (Nat.le_refl _), jL.alloc (dr w) _ _, ?_, by omega⟩⟩ ((gS.dr w _).seq (gS.alloc _ _ _))
      simp only [List.nil_append, List.length_append, Array.length_toList, oC, hzs, hnl]
      rw [show m + r - (0 + m) = r from by omega, Nat.add_mul]
  · by_cases hc : n + m ≤ c
    · have hroom : news.length ≤ rest.length := by
        rw [List.length_append, hlen] at h4
        have : (n + m) * sz ≤ c * sz := Nat.mul_le_mul_right _ hc
        rw [Nat.add_mul] at this; omega
      obtain ⟨w', s1, s2, s3, s4, _⟩ := C0 (P := P) (M := S) h2 news w (n * sz) 0 (l ++ rest) h3 (by rw [List.length_append, hlen]; omega) hone'
      have : (nA .append #[t, t2] ty [.slice (some ⟨b, 0, none⟩) n c, .int k m]).run P w = .ok (.value (.slice (some ⟨b, 0, none⟩) (n + m) c)) w' := by
        unfold nA builtin
        simp only [Builtin.append_, List.getElem?_toArray, List.getElem?_cons_zero, List.getElem?_cons_succ]
        simp only [underlying, typeInfo, Sem.run_bind, run_program, Result.andThen_ok, hu, hu2, hi, Sem.run_pure, kO hi, hsz, has, hmw, hm0, hmx, if_true, if_false, Int.toNat_natCast, Bool.not_true, Bool.false_eq_true, hc, hnw, B7, Nat.zero_add, s1]
      unfold cO
      rw [this]
      rw [Nat.add_zero, ← hlen, F3 _ _ _ hroom] at s2
      refine hk _ _ ⟨by rw [List.length_append, hlen, hnl, Nat.add_mul], .inr ⟨b, c, rest.drop news.length, rfl, h2, s2, ?_, hc⟩⟩ s3
      rw [← h4]; simp; omega
    · have hfit := growslice_fits (need := n + m) (old := c) (bytes := i.bytes) (by omega) hbytes
      have hfit' : ¬ (Builtin.nextslicecap (n + m) c * i.bytes > 2 ^ 48) := by omega
      have hq : (Question.appendCap (n + m) c e).forced = false := rfl
      obtain ⟨r, hr⟩ : ∃ r, (Question.appendCap (n + m) c e).cut (w.tape w.drawn (.appendCap (n + m) c e)) = n + m + r :=
        ⟨(w.tape w.drawn (.appendCap (n + m) c e)) % (2 ^ 63 - (n + m)), by simp only [Question.cut]⟩
      have hold : Cl (dr w) sz (.slice (some ⟨b, 0, none⟩) n c) n l := ⟨_, _, rfl, hlen, fun _ => ⟨b, 0, rfl, fun i hi => by
        show w.cell? _ = _
        rw [h3.cell, Nat.zero_add, List.getElem?_append_left hi]⟩⟩
      have : (nA .append #[t, t2] ty [.slice (some ⟨b, 0, none⟩) n c, .int k m]).run P w = .ok (.value (.slice (some ⟨w.heap.size, 0, none⟩) (n + m) (n + m + r))) ((dr w).alloc (.cells (l ++ news ++ (Builtin.zeroCells z.cells (n + m + r - (n + m))).toList).toArray e)) := by
        have hfo := uI (P := P) hold
        unfold nA builtin
        simp only [Builtin.append_, List.getElem?_toArray, List.getElem?_cons_zero, List.getElem?_cons_succ]
        simp only [underlying, typeInfo, Sem.run_bind, run_program, Result.andThen_ok, hu, hu2, hi, Sem.run_pure, kO hi, hsz, has, hmw, hm0, hmx, if_true, if_false, Int.toNat_natCast, Bool.not_true, Bool.false_eq_true, hc, hnot, false_and, hfit', run_choose, hq, hr, run_askRoom]
        change ((Sem.run P _ (dr w)).andThen _).andThen _ = _
        simp only [Sem.run_bind, hnw, hfo, Result.andThen_ok, hz', Sem.run_pure, newRow, run_newObj]
        have e1 : (l.toArray ++ news.toArray ++ Builtin.zeroCells z.cells (n + m + r - (n + m)) : Array Value) = (l ++ news ++ (Builtin.zeroCells z.cells (n + m + r - (n + m))).toList).toArray := by
          apply Array.ext'; simp
        rw [e1]
        rfl
      unfold cO
      rw [this]
      refine hk _ _ ⟨by rw [List.length_append, hlen, hnl, Nat.add_mul], .inr ⟨w.heap.size, n + m + r, _, rfl, hb _ (Nat.le_refl _), jL.alloc (dr w) _ _, ?_, by omega⟩⟩ ((gS.dr w _).seq (gS.alloc _ _ _))
      simp only [List.length_append, Array.length_toList, oC, hzs, hnl, hlen]
      rw [show n + m + r - (n + m) = r from by omega, Nat.add_mul, Nat.add_mul]
end
end Go.En
namespace Go.Proofs.YtoepfjgekpdddaaDoor
open Go Go.En Go.Pu
set_option maxRecDepth 4000
set_option linter.unusedSimpArgs false
set_option linter.unusedVariables false
theorem Ys {y : Nat} (h : y ≠ 0) : bl y = bl (y / 2) + 1 := by
  by_cases h2 : y / 2 = 0
  · obtain rfl : y = 1 := by omega
    decide
  · have a := QE h2
    have b := QC (y / 2)
    have c := KH h2
    obtain ⟨m, hm⟩ : ∃ m, bl (y / 2) = m + 1 := ⟨bl (y / 2) - 1, by omega⟩
    rw [hm, Nat.add_sub_cancel] at a
    rw [hm] at b ⊢
    refine Y7 ?_ ?_
    · rw [Nat.pow_succ]; omega
    · rw [Nat.pow_succ]; omega
theorem YN {x : Nat} (hx : x < 2 ^ 40) (w : World) : hJ pg AN #[.int .i64 x] w (fun r w' => r = .int .i64 (bl x : Nat) ∧ w' = w) := by
  refine PG ?_
  unfold QD Dx C4 xO Du DS
  have hb : bl x ≤ 40 := Bw hx
  refine iY.rule (fun m (t : Value × Value) w' => ∃ n : Nat, t = (.int .i64 m, .int .i64 n) ∧ bl m + n = bl x ∧ m ≤ x ∧ w' = w) x ⟨0, rfl, rfl, Nat.le_refl _, rfl⟩ ?_
  rintro m t w1 ⟨n, rfl, hn, hmx, rfl⟩
  unfold xL
  by_cases h0 : m = 0
  · subst h0
    have d1 : decide ((0 : Int) < ((0 : Nat) : Int)) = false := rfl
    unfold yP
    have : n = bl x := by rw [← hn]; simp [YM]
    subst this
    simp (disch := omega) only [cO, fJ, d1, fW, fB, eL, aF, true_and, and_true, cQ]
  · have d1 : decide ((0 : Int) < (m : Int)) = true := by simp; omega
    have e1 : (m : Int).tdiv 2 = ((m / 2 : Nat) : Int) := by rw [Int.tdiv_eq_ediv_of_nonneg (by omega)]; omega
    have hh := Ys h0
    simp (disch := omega) only [cO, fJ, d1, fW, e1, eL, fB, aF, and_true, dA]
    exact ⟨m / 2, by omega, n + 1, rfl, by omega, by omega⟩
theorem II {v : Value} {L : List Bool} {st n : Nat} {w : World} (hs : Bl w v L) (hn : n ≤ 32) (hst : st ≤ L.length) (hl : L.length ≤ 10000000) :
    hJ pg qE #[.agg #[v, .int .i64 st], .int .i64 n] w (fun r w' => ((L.length < st + n ∧ r = .tuple #[.agg #[v, .int .i64 st], .int .u64 0, .int .i64 10]) ∨
      (st + n ≤ L.length ∧ r = .tuple #[.agg #[v, .int .i64 (st + n : Nat)], .int .u64 (lF L st n : Nat), .int .i64 0])) ∧ gS w w' jR) := by
  refine QS ?_
  obtain ⟨a, c, rfl, hc⟩ := RU hs
  unfold RZ FD
  refine nR fun w1 o1 x1 s1 => ?_
  refine sN fun w2 o2 x2 s2 => ?_
  simp only [Value.cells] at o1
  have o1 := o1.ext x2 (fun h => h)
  have c0 := o1.cell (off := 0)
  have c1 := o1.cell (off := 1)
  have l1 := jJ (off := 0) o1 (by simp)
  simp only [List.getElem?_cons_zero, List.getElem?_cons_succ, List.drop_zero, List.take_succ_cons, List.take_zero] at c0 c1 l1
  have x02 : gS w w2 jR := x1.seq x2
  have d1 : decide ((n : Int) < 0) = false := by simp
  have d2 : decide ((32 : Int) < (n : Int)) = false := by simp; omega
  by_cases hsh : L.length < st + n
  · have d3 : decide ((L.length : Int) - (st : Int) < (n : Int)) = true := by simp; omega
    simp (disch := omega) only [cO, eY, d1, aS, aN, Nat.zero_add, aF, eI, dM, eZ, eP, Bool.false_eq_true, if_false, dZ, fJ, d2, l1, c0, cX, dL, c1, fL, eL, d3, fB, dA, cQ]
    refine iB o2 rfl (by simp [one]) (by simp) fun w3 o3 x3 s3 => ?_
    refine mH o3 (by simp [fV]) ?_
    simp only [fV, List.set_cons_zero, List.set_cons_succ, List.drop_zero, List.take_succ_cons, List.take_zero]
    exact ⟨.inl ⟨hsh, by trivial⟩, x02.new x3 (by omega)⟩
  · have d3 : decide ((L.length : Int) - (st : Int) < (n : Int)) = false := by simp; omega
    have e1 : (st : Int) + (n : Int) = ((st + n : Nat) : Int) := by omega
    have hs2 := (hs.ext x02 (iQ _)).drop' (k := st) (by omega)
    rw [← List.map_drop] at hs2
    have hs3 := XV hs2 (k := n) (by omega)
    rw [← List.map_take] at hs3
    have e2 : st + n - st = n := by omega
    simp (disch := omega) only [cO, eY, d1, aS, aN, Nat.zero_add, aF, eI, dM, eZ, eP, Bool.false_eq_true, if_false, dZ, fJ, d2, c0, cX, dL, c1, fL, eL, d3, fB, e1, bX, Int.toNat_natCast, e2, cQ]
    refine (Un hs3 (by rw [List.length_take]; omega)).mono ?_
    rintro r w3 ⟨rfl, rfl⟩
    simp (disch := omega) only [c1, cX, aF, fB, e1, eL]
    refine yW o1 rfl (by simp) fun w4 o4 x4 s4 => ?_
    simp only [List.set_cons_zero, List.set_cons_succ] at o4
    have l4 := jJ (off := 0) o4 (by simp)
    simp only [List.drop_zero, List.take_succ_cons, List.take_zero] at l4
    simp (disch := omega) only [l4, aF]
    refine iB (o2.ext x4 (by omega)) rfl (by simp [one]) (by simp) fun w5 o5 x5 s5 => ?_
    refine mH o5 (by simp [fV]) ?_
    simp only [fV, List.set_cons_zero, List.set_cons_succ, List.drop_zero, List.take_succ_cons, List.take_zero]
    exact ⟨.inr ⟨by omega, by trivial⟩, (x02.new x4 (by omega)).new x5 (by omega)⟩
theorem WD {v : Value} {st : Nat} {w : World} (hst : st ≤ 1000000000) : hJ pg CG #[.agg #[v, .int .i64 st]] w (fun r w' => r = .int .i64 (((st + 7) / 8 : Nat)) ∧ gS w w' jR) := by
  refine Rr ?_
  unfold Sb FQ
  refine nR fun w1 o1 x1 s1 => ?_
  simp only [Value.cells] at o1
  have c1 := o1.cell (off := 1)
  simp only [List.getElem?_cons_zero, List.getElem?_cons_succ] at c1
  have e1 : ((st : Int) + 7).tdiv 8 = (((st + 7) / 8 : Nat) : Int) := by rw [Int.tdiv_eq_ediv_of_nonneg (by omega)]; omega
  simp (disch := omega) only [cO, aN, Nat.zero_add, aF, eI, c1, cX, fB, eL, fW, e1, true_and]
  exact x1
end Go.Proofs.YtoepfjgekpdddaaDoor
namespace Go.Proofs.YtoepfjgekpdddaaDoor
open Go Go.En Go.Pu
set_option maxRecDepth 4000
set_option linter.unusedSimpArgs false
set_option linter.unusedVariables false
theorem OC {left : Nat} (h0 : 0 < left) (h1 : left ≤ 32768) : ∃ m, bl (left + 1) = m + 1 ∧ 1 ≤ m ∧ m ≤ 16 ∧ left + 1 < 2 ^ (m + 1) ∧ 2 ^ m ≤ left + 1 ∧ 2 ^ (m + 1) = 2 * 2 ^ m := by
  have hb2 := QE (k := left + 1) (by omega)
  have hb3 := QC (left + 1)
  have hb4 := Bw (k := left + 1) (n := 17) (by omega)
  have hn : 2 ≤ bl (left + 1) := by
    rcases Nat.lt_or_ge (bl (left + 1)) 2 with h | h
    · have hb1 := KH (k := left + 1) (by omega)
      have : bl (left + 1) = 1 := by omega
      rw [this] at hb3; omega
    · exact h
  obtain ⟨m, hm⟩ : ∃ m, bl (left + 1) = m + 1 := ⟨bl (left + 1) - 1, by omega⟩
  rw [hm] at hb2 hb3 hb4 hn ⊢
  exact ⟨m, rfl, by omega, by omega, hb3, hb2, by rw [Nat.pow_succ, Nat.mul_comm]⟩
theorem UG (L : List Bool) (f st : Nat) : Ss L (f + 1) st = if L.length < st + 2 then none else if lF L st 2 < 3 then some (lF L st 2, st + 2) else match Ss L f (st + 2) with
    | none => none
    | some (k, st') => some (3 + k, st') := by rw [Ss] <;> rfl
def Zb (w : World) (lo hi : Nat) (l : List UInt8) (o : Option (Nat × Nat)) (r : Value) : Prop := match o with
  | none => r = .tuple #[.int .i64 0, .int .i64 10]
  | some (v, st) => r = .tuple #[.int .i64 v, .int .i64 0] ∧ UR w lo hi l st
theorem YE {l : List UInt8} {lo hi st left : Nat} {w : World} (h : UR w lo hi l st) (hlh : lo ≤ hi) (hst : st ≤ 8 * l.length) (hl : l.length ≤ 1000000) (h0 : 0 < left) (h1 : left ≤ 32768) :
    hJ pg zN #[.pointer (some ⟨hi, 0, none⟩), .int .i64 left] w (fun r w' => Zb w' lo hi l (KW (iC l) st left) r ∧ gS w w' (fun y => y = hi)) := by
  refine NF ?_
  obtain ⟨m, hm, hm1, hm2, hf1, hf2, hf3⟩ := OC h0 h1
  unfold Nf B5
  have e1 : (left : Int) + 1 = ((left + 1 : Nat) : Int) := by omega
  simp (disch := omega) only [cO, fB, e1, eL, aF, dD, fU]
  refine (Xj (x := left + 1) (by omega) w).mono ?_
  rintro r w1 ⟨rfl, rfl⟩
  rw [hm]
  have e2 : ((m + 1 : Nat) : Int) - 1 = (m : Int) := by omega
  simp (disch := omega) only [fL, e2, eL, fT, Int.toNat_natCast, aF]
  refine (IL (n := m) h hlh (by omega) hst hl).mono ?_
  have hbl := qK l
  unfold KW
  simp only [hm, Nat.add_sub_cancel]
  rintro r w2 (⟨hsh, rfl, hf, x2⟩ | ⟨hsh, rfl, hf, x2⟩)
  · have n1 : ((10 : Int) != 0) = true := rfl
    rw [if_pos (by omega)]
    simp (disch := omega) only [lE, lC, aF, fQ, n1, dA]
    exact ⟨rfl, x2.mono fun _ _ h => h.elim⟩
  · have n1 : ((0 : Int) != 0) = false := rfl
    rw [if_neg (by omega)]
    have hlt := yQ (iC l) st m
    have hnum : tA (((iC l).drop st).take m) = lF (iC l) st m := rfl
    rw [hnum]
    have hsh1 := Ub (n := m + 1) (by omega)
    have hsh0 := Ub (n := m) (by omega)
    have hp : 2 ^ m ≤ 2 ^ 16 := Nat.pow_le_pow_right (by omega) hm2
    generalize lF (iC l) st m = low at *
    rw [hf3] at *
    generalize hq : 2 ^ m = q at *
    have e3 : ((2 * q : Nat) : Int) - 2 - (left : Int) = ((2 * q - 2 - left : Nat) : Int) := by omega
    by_cases hfr : low < 2 * q - 2 - left
    · have d1 : decide ((low : Int) < ((2 * q - 2 - left : Nat) : Int)) = true := by simp only [decide_eq_true_eq]; omega
      rw [if_pos hfr]
      simp (disch := omega) only [lE, lC, hsh1, eL, e3, aF, fQ, n1, cQ, cM, fB, fL, eY, d1, dA]
      exact ⟨⟨rfl, hf⟩, x2⟩
    · have d1 : decide ((low : Int) < ((2 * q - 2 - left : Nat) : Int)) = false := by simp only [decide_eq_false_iff_not]; omega
      rw [if_neg hfr]
      simp (disch := omega) only [lE, lC, hsh1, eL, e3, aF, fQ, n1, cQ, cM, fB, fL, eY, d1]
      refine (IL (n := 1) hf hlh (by omega) hsh hl).mono ?_
      rintro r w3 (⟨hs3, rfl, hf3, x3⟩ | ⟨hs3, rfl, hf3, x3⟩)
      · have n1 : ((10 : Int) != 0) = true := rfl
        rw [if_pos (by omega)]
        simp (disch := omega) only [lE, lC, aF, fQ, n1, dA]
        exact ⟨rfl, x2.seq (x3.mono fun _ _ h => h.elim)⟩
      · rw [if_neg (by omega)]
        have hnum : tA (((iC l).drop (st + m)).take 1) = lF (iC l) (st + m) 1 := rfl
        rw [hnum]
        by_cases hz : lF (iC l) (st + m) 1 = 0
        · have n2 : (((lF (iC l) (st + m) 1 : Nat) : Int) == 0) = true := by rw [hz] <;> rfl
          rw [if_pos hz]
          simp (disch := omega) only [lE, lC, aF, fQ, n1, cQ, fR, n2, dA]
          exact ⟨⟨rfl, hf3⟩, x2.seq x3⟩
        · have n2 : (((lF (iC l) (st + m) 1 : Nat) : Int) == 0) = false := beq_eq_false_iff_ne.2 (by omega)
          have e4 : (low : Int) + (q : Int) - ((2 * q - 2 - left : Nat) : Int) = ((low + q - (2 * q - 2 - left) : Nat) : Int) := by omega
          rw [if_neg hz]
          simp (disch := omega) only [lE, lC, hsh0, e4, aF, fQ, n1, cQ, fR, n2]
          exact ⟨⟨rfl, hf3⟩, x2.seq x3⟩
theorem WK {l : List UInt8} {lo hi st : Nat} {w : World} (h : UR w lo hi l st) (hlh : lo ≤ hi) (hst : st ≤ 8 * l.length) (hl : l.length ≤ 1000000) :
    hJ pg tJ #[.pointer (some ⟨hi, 0, none⟩)] w (fun r w' => Zb w' lo hi l (Ss (iC l) ((iC l).length + 1) st) r ∧ gS w w' (fun y => y = hi)) := by
  refine Je ?_
  have hbl := qK l
  unfold H7 wN zO rS yD xA rP xW xT
  refine iY.rule (fun m (t : Value) w' => ∃ k0 st' : Nat, t = .int .i64 k0 ∧ Ss (iC l) ((iC l).length + 1) st = (match Ss (iC l) m st' with | none => none | some (k, s) => some (k0 + k, s)) ∧ (iC l).length < 2 * m + st' ∧ st' ≤ 8 * l.length ∧ k0 ≤ 3 * st' ∧ UR w' lo hi l st' ∧ gS w w' (fun y => y = hi)) ((iC l).length + 1)
    ⟨0, st, rfl, by cases Ss (iC l) ((iC l).length + 1) st with
      | none => rfl
      | some x => simp, by omega, hst, by omega, h, gS.refl _ _⟩ ?_
  rintro m t w1 ⟨k0, st', rfl, hr, hm, hs', hk0, hf, x1⟩
  obtain ⟨m, rfl⟩ : ∃ m', m = m' + 1 := ⟨m - 1, by omega⟩
  unfold rU
  refine (IL (n := 2) hf hlh (by omega) hs' hl).mono ?_
  rw [UG (iC l) m st'] at hr
  rintro r w2 (⟨hsh, rfl, hf2, x2⟩ | ⟨hsh, rfl, hf2, x2⟩)
  · have n1 : ((10 : Int) != 0) = true := rfl
    rw [if_pos (by omega)] at hr
    rw [hr]
    simp (disch := omega) only [cO, lE, lC, aF, fQ, n1, dA]
    exact ⟨rfl, x1.seq (x2.mono fun _ _ h => h.elim)⟩
  · have n1 : ((0 : Int) != 0) = false := rfl
    rw [if_neg (by omega)] at hr
    have hlt := yQ (iC l) st' 2
    have hnum : tA (((iC l).drop st').take 2) = lF (iC l) st' 2 := rfl
    rw [hnum]
    generalize lF (iC l) st' 2 = x at *
    have e1 : (k0 : Int) + (x : Int) = ((k0 + x : Nat) : Int) := by omega
    by_cases h3 : x < 3
    · have d1 : decide ((x : Int) < 3) = true := by simp; omega
      rw [if_pos h3] at hr
      rw [hr]
      unfold rR
      simp (disch := omega) only [cO, lE, lC, aF, fQ, n1, cQ, cM, eL, eY, d1, dA, fB, e1]
      exact ⟨⟨rfl, hf2⟩, x1.seq x2⟩
    · have d1 : decide ((x : Int) < 3) = false := by simp; omega
      rw [if_neg h3] at hr
      simp (disch := omega) only [cO, lE, lC, aF, fQ, n1, cQ, cM, eL, eY, d1, fB, e1]
      refine ⟨m, by omega, k0 + x, st' + 2, rfl, ?_, by omega, by omega, by omega, hf2, x1.seq x2⟩
      rw [hr]
      cases Ss (iC l) m (st' + 2) with
      | none => rfl
      | some y =>
        obtain ⟨k, s⟩ := y
        have : x = 3 := by omega
        subst this
        simp; omega
def Vu (v : Value) (o : Option (Nat × Nat)) (r : Value) : Prop := match o with
  | none => ∃ st' : Nat, r = .tuple #[.agg #[v, .int .i64 st'], .int .i64 0, .int .i64 10]
  | some (x, st) => r = .tuple #[.agg #[v, .int .i64 st], .int .i64 x, .int .i64 0]
theorem Wl {v : Value} {L : List Bool} {st left : Nat} {w : World} (hs : Bl w v L) (hst : st ≤ L.length) (hl : L.length ≤ 10000000) (h0 : 0 < left) (h1 : left ≤ 32768) :
    hJ pg CV #[.agg #[v, .int .i64 st], .int .i64 left] w (fun r w' => Vu v (KW L st left) r ∧ gS w w' jR) := by
  refine Q5 ?_
  obtain ⟨m, hm, hm1, hm2, hf1, hf2, hf3⟩ := OC h0 h1
  obtain ⟨a, c, rfl, hc⟩ := RU hs
  unfold Sj F0
  refine nR fun w1 o1 x1 s1 => ?_
  refine sN fun w2 o2 x2 s2 => ?_
  simp only [Value.cells] at o1
  have o1 := o1.ext x2 (fun h => h)
  have l1 := jJ (off := 0) o1 (by simp)
  simp only [List.drop_zero, List.take_succ_cons, List.take_zero] at l1
  have x02 : gS w w2 jR := x1.seq x2
  have e1 : (left : Int) + 1 = ((left + 1 : Nat) : Int) := by omega
  have hw1 : w.heap.size ≤ w.heap.size := Nat.le_refl _
  have hw2 : w.heap.size ≤ w1.heap.size := x1.size
  have hne : w.heap.size ≠ w1.heap.size := by omega
  obtain ⟨p1, hp1⟩ : ∃ p1, p1 = w.heap.size := ⟨_, rfl⟩
  obtain ⟨p2, hp2⟩ : ∃ p2, p2 = w1.heap.size := ⟨_, rfl⟩
  rw [← hp1, ← hp2] at hne
  rw [← hp1] at o1 l1 ⊢
  rw [← hp2] at o2 hw2 ⊢
  simp (disch := omega) only [cO, fB, e1, eL, aF]
  refine (YN (x := left + 1) (by omega) w2).mono ?_
  rintro r w3 ⟨rfl, rfl⟩
  rw [hm]
  have e2 : ((m + 1 : Nat) : Int) - 1 = (m : Int) := by omega
  simp (disch := omega) only [l1, fL, e2, eL, aF]
  unfold KW
  simp only [hm, Nat.add_sub_cancel]
  refine (II (n := m) (hs.ext x02 (iQ _)) (by omega) hst hl).mono ?_
  have fin : ∀ (st' : Nat) (xv : Int) (ev : Int) (w' : World) (RR : Value → World → Prop), jL w' p1 [.slice a L.length c, .int .i64 st'] → jL w' p2 [.slice none 0 0, .int .i64 0] → gS w w' jR →
      (∀ w'', gS w w'' jR → RR (.tuple #[.agg #[.slice a L.length c, .int .i64 st'], .int .i64 xv, .int .i64 ev]) w'') →
      cO pg (eQ 99 (.pointer (some ⟨p1, 0, none⟩))) w' fun t15 w => cO pg (fG 99 (.pointer (some ⟨p2, 0, none⟩)) t15) w fun _u w => qB pg 99 (.pointer (some ⟨p2, 0, none⟩)) w fun r0 => RR (.tuple #[r0, .int .i64 xv, .int .i64 ev]) w := by
    intro st' xv ev w' RR q1 q2 qx qk
    have l1 := jJ (off := 0) q1 (by simp)
    simp only [List.drop_zero, List.take_succ_cons, List.take_zero] at l1
    simp (disch := omega) only [cO, l1, aF]
    refine iB q2 rfl (by simp [one]) (by simp) fun w6 o6 x6 s6 => ?_
    refine mH o6 (by simp [fV]) ?_
    simp only [fV, List.set_cons_zero, List.set_cons_succ, List.drop_zero, List.take_succ_cons, List.take_zero]
    exact qk _ (qx.new x6 hw2)
  have hx1 : w.heap.size ≤ p1 := by omega
  rintro r w4 ⟨⟨hsh, rfl⟩ | ⟨hsh, rfl⟩, x4⟩
  · have n1 : ((10 : Int) != 0) = true := rfl
    rw [if_pos (by omega)]
    simp (disch := omega) only [lL, lJ, lK, aF, fQ, cM, eL]
    refine iB (o1.ext x4 (fun h => h)) rfl (by simp [one]) (by simp) fun w5 o5 x5 s5 => ?_
    simp only [fV, List.set_cons_zero, List.set_cons_succ] at o5
    simp (disch := omega) only [n1, dA]
    exact fin st 0 10 w5 (fun r w' => Vu (.slice a L.length c) none r ∧ gS w w' jR) o5 ((o2.ext x4 (fun h => h)).ext x5 (by omega)) ((x02.seq x4).new x5 hx1) fun w6 x6 => ⟨⟨_, rfl⟩, x6⟩
  · have n1 : ((0 : Int) != 0) = false := rfl
    rw [if_neg (by omega)]
    have hlt := yQ L st m
    have hsh1 : m + 1 ≤ 40 := by omega
    have hp : 2 ^ m ≤ 2 ^ 16 := Nat.pow_le_pow_right (by omega) hm2
    simp (disch := omega) only [lL, lJ, lK, aF, fQ, cM, eL]
    refine iB (o1.ext x4 (fun h => h)) rfl (by simp [one]) (by simp) fun w5 o5 x5 s5 => ?_
    simp only [fV, List.set_cons_zero, List.set_cons_succ] at o5
    have x05 : gS w w5 jR := (x02.seq x4).new x5 hx1
    have o25 := (o2.ext x4 (fun h => h)).ext x5 (by omega)
    simp (disch := omega) only [n1, cQ]
    refine (IG m (by omega) _).mono ?_
    rintro r w6 ⟨rfl, rfl⟩
    have hpow : ((2 ^ m : Nat) : Int) = (2 : Int) ^ m := by simp
    rw [← hpow]
    generalize lF L st m = low at *
    rw [hf3] at *
    generalize hq : 2 ^ m = q at *
    have e3 : 2 * (q : Int) - 2 - (left : Int) = ((2 * q - 2 - left : Nat) : Int) := by omega
    by_cases hfr : low < 2 * q - 2 - left
    · have d1 : decide ((low : Int) < ((2 * q - 2 - left : Nat) : Int)) = true := by simp only [decide_eq_true_eq]; omega
      rw [if_pos hfr]
      have l5 := jJ (off := 0) o5 (by simp)
      simp only [List.drop_zero, List.take_succ_cons, List.take_zero] at l5
      simp (disch := omega) only [fX, eL, fB, aF, fL, e3, eY, d1, l5, dA]
      refine iB o25 rfl (by simp [one]) (by simp) fun w7 o7 x7 s7 => ?_
      refine mH o7 (by simp [fV]) ?_
      simp only [fV, List.set_cons_zero, List.set_cons_succ, List.drop_zero, List.take_succ_cons, List.take_zero]
      exact ⟨rfl, x05.new x7 hw2⟩
    · have d1 : decide ((low : Int) < ((2 * q - 2 - left : Nat) : Int)) = false := by simp only [decide_eq_false_iff_not]; omega
      rw [if_neg hfr]
      have l5 := jJ (off := 0) o5 (by simp)
      simp only [List.drop_zero, List.take_succ_cons, List.take_zero] at l5
      simp (disch := omega) only [fX, eL, fB, aF, fL, e3, eY, d1, l5, cQ]
      refine (II (n := 1) (hs.ext x05 (iQ _)) (by omega) hsh hl).mono ?_
      rintro r w7 ⟨⟨hs3, rfl⟩ | ⟨hs3, rfl⟩, x7⟩
      · have n1 : ((10 : Int) != 0) = true := rfl
        rw [if_pos (by omega)]
        simp (disch := omega) only [lL, lJ, lK, aF, fQ, fR]
        refine iB (o5.ext x7 (fun h => h)) rfl (by simp [one]) (by simp) fun w8 o8 x8 s8 => ?_
        simp only [fV, List.set_cons_zero, List.set_cons_succ] at o8
        simp (disch := omega) only [n1, dA]
        exact fin _ 0 10 w8 (fun r w' => Vu (.slice a L.length c) none r ∧ gS w w' jR) o8 ((o25.ext x7 (fun h => h)).ext x8 (by omega)) ((x05.seq x7).new x8 hx1) fun w6 x6 => ⟨⟨_, rfl⟩, x6⟩
      · rw [if_neg (by omega)]
        have hb1 := yQ L (st + m) 1
        simp (disch := omega) only [lL, lJ, lK, aF, fQ, fR]
        refine iB (o5.ext x7 (fun h => h)) rfl (by simp [one]) (by simp) fun w8 o8 x8 s8 => ?_
        simp only [fV, List.set_cons_zero, List.set_cons_succ] at o8
        have x08 : gS w w8 jR := (x05.seq x7).new x8 hx1
        have o28 := (o25.ext x7 (fun h => h)).ext x8 (by omega)
        have l8 := jJ (off := 0) o8 (by simp)
        simp only [List.drop_zero, List.take_succ_cons, List.take_zero] at l8
        by_cases hz : lF L (st + m) 1 = 0
        · have n2 : (((lF L (st + m) 1 : Nat) : Int) == 1) = false := by rw [hz] <;> rfl
          rw [if_pos hz]
          simp (disch := omega) only [n1, l8, aF, n2, cQ]
          refine iB o28 rfl (by simp [one]) (by simp) fun w9 o9 x9 s9 => ?_
          refine mH o9 (by simp [fV]) ?_
          simp only [fV, List.set_cons_zero, List.set_cons_succ, List.drop_zero, List.take_succ_cons, List.take_zero]
          exact ⟨rfl, x08.new x9 hw2⟩
        · have n2 : (((lF L (st + m) 1 : Nat) : Int) == 1) = true := by rw [show lF L (st + m) 1 = 1 from by omega] <;> rfl
          have e4 : (low : Int) + (q : Int) - ((2 * q - 2 - left : Nat) : Int) = ((low + q - (2 * q - 2 - left) : Nat) : Int) := by omega
          rw [if_neg hz]
          simp (disch := omega) only [n1, l8, aF, n2, e4, dA, cQ]
          refine iB o28 rfl (by simp [one]) (by simp) fun w9 o9 x9 s9 => ?_
          refine mH o9 (by simp [fV]) ?_
          simp only [fV, List.set_cons_zero, List.set_cons_succ, List.drop_zero, List.take_succ_cons, List.take_zero]
          exact ⟨rfl, x08.new x9 hw2⟩
end Go.Proofs.YtoepfjgekpdddaaDoor
namespace Go.Proofs.YtoepfjgekpdddaaDoor
open Go Go.En Go.Pu
set_option maxRecDepth 4000
set_option linter.unusedSimpArgs false
set_option linter.unusedVariables false
theorem Sz (L : List Bool) (sym f st left : Nat) (ps : List Int) : LY L sym (f + 1) st left ps = if left = 0 then .ok (ps, st) else match KW L st left with
    | none => .error 10
    | some (v, st1) =>
      if v = 1 then match Ss L (L.length + 1) st1 with
        | none => .error 10
        | some (k, st2) => if sym < ps.length + 1 + k then .error 11 else LY L sym f st2 left (ps ++ 0 :: List.replicate k 0)
      else if sym < ps.length + 1 then .error 11 else LY L sym f st1 (left - (iA ((v : Int) - 1)).toNat) (ps ++ [(v : Int) - 1]) := by rw [LY] <;> rfl
theorem TQ (k : Nat) : (Builtin.zeroCells (Value.int .i64 0).cells k).toList = List.replicate k (Value.int .i64 0) := by
  apply List.ext_getElem
  · rw [Array.length_toList, oC, List.length_replicate]; simp [Value.cells]
  · intro i h1 h2
    simp [Builtin.zeroCells, Value.cells, Nat.mod_one]
theorem YU {n m base : Nat} {ty : TypeId} {w : World} {v : Value} {l : List Value} (h : uE w base 1 v n l) (hb : base ≤ w.heap.size) (hn : (n + m) * 8 ≤ 140737488355328) {K : Value → World → Prop}
    (hk : ∀ v' w', uE w' base 1 v' (n + m) (l ++ List.replicate m (.int .i64 0)) → gS w w' (fun y => base ≤ y) → K v' w') : cO pg (nA .append #[30, 3] ty [v, .int .i64 m]) w K :=
  T1 (i := Tryd.t3) (S := fun y => base ≤ y) Tryd.underlying30 Tryd.underlying3 CW rfl rfl rfl h (by decide) (by intro y hy; simp [Value.cells] at hy; subst hy; rfl) (fun b hbb => Nat.le_trans hb hbb) (by omega) (by rw [show Tryd.t3.bytes = 8 from rfl]; omega) (by rw [show Tryd.t3.bytes = 8 from rfl]; omega)
    (fun v' w' o x => hk v' w' (by rw [← TQ]; exact o) x)
def Nt (w : World) (base : Nat) (o : Except Int (Nat × List Int × Nat)) (r : Value) : Prop := match o with
  | .error e => r = .tuple #[.agg #[.int .i64 0, .slice none 0 0], .int .i64 0, .int .i64 e]
  | .ok (log, ps, used) => ∃ v, r = .tuple #[.agg #[.int .i64 log, v], .int .i64 used, .int .i64 0] ∧ uE w base 1 v ps.length (ps.map (Value.int .i64))
theorem GQ {p6 : Nat} {w0 w : World} {e : Int} (o6 : jL w p6 [.int .i64 0, .slice none 0 0]) (hx : gS w0 w jR) (hp : w0.heap.size ≤ p6) {RR : Value → World → Prop}
    (hR : ∀ w', gS w0 w' jR → RR (.tuple #[.agg #[.int .i64 0, .slice none 0 0], .int .i64 0, .int .i64 e]) w') :
    cO pg (fG 51 (.pointer (some ⟨p6, 0, none⟩)) (.agg #[.int .i64 0, .slice none 0 0])) w fun _u w => qB pg 51 (.pointer (some ⟨p6, 0, none⟩)) w fun r0 => RR (.tuple #[r0, .int .i64 0, .int .i64 e]) w := by
  refine jF o6 rfl (by simp [one]) (by simp) fun w6 o6 x6 s6 => ?_
  refine mE o6 (by simp [fV]) ?_
  simp only [fV, List.set_cons_zero, List.set_cons_succ, List.drop_zero, List.take_succ_cons, List.take_zero]
  exact hR _ (hx.new x6 hp)
theorem Wp {l : List UInt8} {log lo hi p6 pc sym : Nat} {w0 w : World} {res : Except Int (List Int × Nat)} (hlh : lo ≤ hi) (hlp : w0.heap.size ≤ p6) (hl : l.length ≤ 1000000) (h6 : p6 < lo) (hhp : hi < pc) (hsym : sym ≤ 1000000) (hlog : log ≤ 15)
    (o6 : jL w p6 [.int .i64 0, .slice none 0 0]) (oc : jL w pc [.int .i64 log, .slice none 0 0]) (hf : UR w lo hi l 4) (h4 : 4 ≤ 8 * l.length) (hx : gS w0 w jR)
    (hres : LY (iC l) sym ((iC l).length + 1) 4 (2 ^ log) [] = res)
    {RR : Value → World → Prop} (hE : ∀ e w', res = .error e → gS w0 w' jR → RR (.tuple #[.agg #[.int .i64 0, .slice none 0 0], .int .i64 0, .int .i64 e]) w')
    (hO : ∀ ps st v w', res = .ok (ps, st) → uE w' w0.heap.size 1 v ps.length (ps.map (Value.int .i64)) → gS w0 w' jR → RR (.tuple #[.agg #[.int .i64 log, v], .int .i64 (((st + 7) / 8 : Nat)), .int .i64 0]) w') :
    rH RR (.int .i64 sym) (.pointer (some ⟨p6, 0, none⟩)) (.pointer (some ⟨hi, 0, none⟩)) (.pointer (some ⟨pc, 0, none⟩)) (.int .i64 (2 ^ log : Nat)) w := by
  have hbl := qK l
  have hp15 : 2 ^ log ≤ 2 ^ 15 := Nat.pow_le_pow_right (by omega) hlog
  unfold rH Eb DT
  have lpc := oc.lt
  refine iY.rule (fun m (t : Value) w' => ∃ (st left : Nat) (ps : List Int) (v : Value), t = .int .i64 left ∧ LY (iC l) sym m st left ps = res ∧ (iC l).length < m + st ∧ st ≤ 8 * l.length ∧ left ≤ 32768 ∧ ps.length ≤ 1000000 ∧
      jL w' p6 [.int .i64 0, .slice none 0 0] ∧ jL w' pc [.int .i64 log, v] ∧ uE w' (pc + 1) 1 v ps.length (ps.map (Value.int .i64)) ∧ UR w' lo hi l st ∧ gS w w' (fun y => y = hi ∨ pc ≤ y)) ((iC l).length + 1)
    ⟨4, 2 ^ log, [], _, rfl, hres, by omega, h4, by omega, by simp, o6, oc, uE.nil _ _ _, hf, gS.refl _ _⟩ ?_
  rintro m t w1 ⟨st, left, ps, v, rfl, hr, hm, hst, hleft, hpl, o61, oc1, ov, hf1, x1⟩
  have z1 := x1.size
  have hx0 := hx.size
  have hx1 : ∀ {w' : World}, gS w w' (fun y => y = hi ∨ pc ≤ y) → gS w0 w' jR := fun h => hx.trans h fun b hb hh => by omega
  obtain ⟨m, rfl⟩ : ∃ m', m = m' + 1 := ⟨m - 1, by omega⟩
  rw [Sz] at hr
  obtain ⟨av, cv, hv⟩ := ov.len
  unfold xX D6
  by_cases h0 : left = 0
  · have d1 : decide ((0 : Int) < (left : Int)) = false := by simp; omega
    rw [if_pos h0] at hr
    subst hv
    have lc := kC (off := 0) (lA oc1) (by simp)
    have lc' := kC (off := 0) oc1 (by simp)
    simp only [List.drop_zero, List.take_succ_cons, List.take_zero] at lc lc'
    unfold yZ
    simp (disch := omega) only [cO, fJ, d1, gY, and_true, true_and, aF, lc, cQ]
    refine (WA (hf1.ext (gS.dr w1 jR) (fun _ _ _ h => h) hlh) (by omega)).mono ?_
    rintro r w2 ⟨rfl, rfl⟩
    simp (disch := omega) only [lc, true_and]
    refine jF (lA o61) rfl (by simp [one]) (by simp) fun w6 o6 x6 s6 => ?_
    refine mE o6 (by simp [fV]) ?_
    simp only [fV, List.set_cons_zero, List.set_cons_succ, List.drop_zero, List.take_succ_cons, List.take_zero]
    have x16 : gS w1 w6 (fun y => y = p6) := (gS.dr w1 _).seq x6
    have ov6 := ov.ext x16 (fun b hb h => by omega)
    refine hO ps st _ w6 hr.symm ⟨ov6.1, ?_⟩ ((hx1 x1).new x16 (by omega))
    rcases ov6.2 with h | ⟨b, c, rest, q1, q2, q3⟩
    · exact .inl h
    · exact .inr ⟨b, c, rest, q1, by omega, q3⟩
  · have d1 : decide ((0 : Int) < (left : Int)) = true := by simp; omega
    rw [if_neg h0] at hr
    simp (disch := omega) only [cO, fJ, d1, aF, dA]
    unfold yL C1 DW
    refine (YE hf1 hlh hst hl (by omega) hleft).mono ?_
    rintro r w2 ⟨hv2, x2⟩
    have x12 : gS w w2 (fun y => y = hi ∨ pc ≤ y) := x1.seq (x2.mono fun y _ h => .inl h)
    have o62 := o61.ext x2 (by omega)
    have oc2 := oc1.ext x2 (by omega)
    have ov2 := ov.ext x2 (fun b hb h => by omega)
    have z2 := x2.size
    cases hval : KW (iC l) st left with
    | none =>
      rw [hval] at hr hv2
      obtain rfl := hv2
      have n1 : ((10 : Int) != 0) = true := rfl
      simp (disch := omega) only [cO, lE, lC, bF, aF, aJ, Nat.zero_add, dF, fQ, n1, dA]
      exact GQ (RR := RR) (e := 10) o62 (hx1 x12) hlp fun w' h => hE _ _ hr.symm h
    | some y =>
      obtain ⟨x, st1⟩ := y
      rw [hval] at hr hv2
      simp only at hr
      obtain ⟨rfl, hf2⟩ := hv2
      obtain ⟨b1, b2, b3⟩ := MW hval (by omega)
      have n1 : ((0 : Int) != 0) = false := rfl
      simp (disch := omega) only [cO, lE, lC, bF, aF, aJ, Nat.zero_add, dF, fQ, n1, cQ, fL, eL, fR]
      refine (RC _ _).mono ?_
      rintro r w3 ⟨rfl, rfl⟩
      have c1 := oc2.cell (off := 1)
      simp only [List.getElem?_cons_zero, List.getElem?_cons_succ] at c1
      have hpp : iA ((x : Int) - 1) ≤ left := by unfold iA; split <;> omega
      have hpn := mJ (p := (x : Int) - 1) (by omega)
      obtain ⟨pq, hpq⟩ : ∃ pq : Nat, iA ((x : Int) - 1) = pq := ⟨(iA ((x : Int) - 1)).toNat, by omega⟩
      rw [hpq] at hr hpp ⊢
      rw [Int.toNat_natCast] at hr
      have e1 : (left : Int) - (pq : Int) = ((left - pq : Nat) : Int) := by omega
      simp (disch := omega) only [fL, e1, eL, aF, c1, cX]
      refine Gx (cells := #[.int .i64 ((x : Int) - 1)]) (by decide) (by decide) (by kernel_rfl) fun w4 o4 x4 s4 => ?_
      have z4 := x4.size
      refine Gb (m := 1) (news := [.int .i64 ((x : Int) - 1)]) (ov2.ext x4 (fun _ _ h => h)) (o4.cl (off := 0) (l := [.int .i64 ((x : Int) - 1)]) (n := 1) rfl (fun i hi => by rw [Nat.zero_add])) (by simp [one]) (by omega) (by omega) fun v5 w5 o5 x5 => ?_
      have z5 := x5.size
      obtain ⟨av5, cv5, rfl⟩ := o5.len
      have oc5 := (oc2.ext x4 (fun h => h)).ext x5 (by omega)
      refine Pa oc5 rfl (by simp) fun w6 oc6 x6 s6 => ?_
      simp only [List.set_cons_zero, List.set_cons_succ] at oc6
      have z6 := x6.size
      have ov6 := o5.ext x6 (fun b hb h => by omega)
      have x26 : gS w3 w6 (fun y => pc ≤ y) := ((x4.mono fun _ _ h => h.elim).seq (x5.mono fun y _ h => by omega)).seq (x6.mono fun y _ h => by omega)
      have x16 : gS w w6 (fun y => y = hi ∨ pc ≤ y) := x12.seq (x26.mono fun y _ h => .inr h)
      have o66 := o62.ext x26 (by omega)
      have hf6 := hf2.ext x26 (fun b _ _ => by omega) hlh
      have hsz : pc < w6.heap.size := oc6.lt
      rw [show (ps.map (Value.int .i64) ++ [Value.int .i64 ((x : Int) - 1)]) = (ps ++ [(x : Int) - 1]).map (Value.int .i64) from by simp] at ov6
      have hwl : IntKind.i64.wrap (left : Int) = left := eL (by omega) (by omega)
      have tail : ∀ (ps' : List Int) (st' left' : Nat) (a : Option Addr) (cc : Nat) (w' : World), (if sym < ps'.length then .error 11 else LY (iC l) sym m st' left' ps') = res → ps'.length ≤ 10000000 → left' ≤ 32768 → st < st' → st' ≤ 8 * l.length →
          jL w' p6 [.int .i64 0, .slice none 0 0] → jL w' pc [.int .i64 log, .slice a ps'.length cc] → uE w' (pc + 1) 1 (.slice a ps'.length cc) ps'.length (ps'.map (Value.int .i64)) → UR w' lo hi l st' → gS w w' (fun y => y = hi ∨ pc ≤ y) →
          sE (fun _ _ _ _ fA w'' => ∃ m', m' < m + 1 ∧ ∃ (st left : Nat) (ps : List Int) (v : Value), fA = .int .i64 left ∧ LY (iC l) sym m' st left ps = res ∧ (iC l).length < m' + st ∧ st ≤ 8 * l.length ∧ left ≤ 32768 ∧ ps.length ≤ 1000000 ∧
            jL w'' p6 [.int .i64 0, .slice none 0 0] ∧ jL w'' pc [.int .i64 log, v] ∧ uE w'' (pc + 1) 1 v ps.length (ps.map (Value.int .i64)) ∧ UR w'' lo hi l st ∧ gS w w'' (fun y => y = hi ∨ pc ≤ y)) RR
            (.int .i64 sym) (.pointer (some ⟨p6, 0, none⟩)) (.pointer (some ⟨hi, 0, none⟩)) (.pointer (some ⟨pc, 0, none⟩)) (.int .i64 left') w' := by
        intro ps' st' left' a cc w' q1 q2 q3 q4 q5 q6 q7 q8 q9 q10
        have c1 := q7.cell (off := 1)
        simp only [List.getElem?_cons_zero, List.getElem?_cons_succ] at c1
        unfold sE
        by_cases hgt : sym < ps'.length
        · have d1 : decide ((sym : Int) < (ps'.length : Int)) = true := by simp; omega
          rw [if_pos hgt] at q1
          simp (disch := omega) only [cO, aJ, Nat.zero_add, bF, aF, dF, c1, cX, dI, fJ, d1, fD, eP, if_true, dA, dV]
          exact GQ (RR := RR) (e := 11) q6 (hx1 q10) hlp fun w' h => hE _ _ q1.symm h
        · have d1 : decide ((sym : Int) < (ps'.length : Int)) = false := by simp; omega
          have d2 : decide ((left' : Int) < 0) = false := by simp
          rw [if_neg hgt] at q1
          simp (disch := omega) only [cO, aJ, Nat.zero_add, bF, aF, dF, c1, cX, dI, fJ, d1, eZ, eP, Bool.false_eq_true, if_false, dZ, eY, d2, cQ]
          exact ⟨m, by omega, st', left', ps', _, rfl, q1, by omega, q5, q3, by omega, q6, q7, q8, q9, q10⟩
      by_cases h1 : x = 1
      · subst h1
        have n2 : (((1 : Nat) : Int) - 1 == 0) = true := rfl
        obtain rfl : pq = 0 := by
          have : iA (((1 : Nat) : Int) - 1) = 0 := rfl
          omega
        rw [if_pos rfl] at hr
        simp (disch := omega) only [n2, dA]
        refine (WK hf6 hlh (by omega) hl).mono ?_
        rintro r w7 ⟨hv7, x7⟩
        have x17 : gS w w7 (fun y => y = hi ∨ pc ≤ y) := x16.seq (x7.mono fun y _ h => .inl h)
        have o67 := o66.ext x7 (by omega)
        have oc7 := oc6.ext x7 (by omega)
        have ov7 := ov6.ext x7 (fun b hb h => by omega)
        have z7 := x7.size
        cases hno : Ss (iC l) ((iC l).length + 1) st1 with
        | none =>
          rw [hno] at hr hv7
          obtain rfl := hv7
          have n1 : ((10 : Int) != 0) = true := rfl
          simp (disch := omega) only [lE, lC, aF, fQ, n1, dA]
          exact GQ (RR := RR) (e := 10) o67 (hx1 x17) hlp fun w' h => hE _ _ hr.symm h
        | some y =>
          obtain ⟨k, st2⟩ := y
          rw [hno] at hr hv7
          simp only at hr
          obtain ⟨rfl, hf7⟩ := hv7
          obtain ⟨k1, k2, k3⟩ := TG hno
          have n1 : ((0 : Int) != 0) = false := rfl
          by_cases hgt : sym < k
          · have d1 : decide ((sym : Int) < (k : Int)) = true := by simp; omega
            rw [if_pos (by omega)] at hr
            simp (disch := omega) only [lE, lC, aF, fQ, n1, cQ, fJ, d1, dA]
            exact GQ (RR := RR) (e := 11) o67 (hx1 x17) hlp fun w' h => hE _ _ hr.symm h
          · have d1 : decide ((sym : Int) < (k : Int)) = false := by simp; omega
            have c7 := oc7.cell (off := 1)
            simp only [List.getElem?_cons_zero, List.getElem?_cons_succ] at c7
            simp (disch := omega) only [lE, lC, aF, fQ, n1, cQ, fJ, d1, c7, cX]
            refine YU (m := k) ov7 (by omega) (by omega) fun v8 w8 o8 x8 => ?_
            obtain ⟨av8, cv8, rfl⟩ := o8.len
            have z8 := x8.size
            refine Pa (oc7.ext x8 (by omega)) rfl (by simp) fun w9 oc9 x9 s9 => ?_
            simp only [List.set_cons_zero, List.set_cons_succ] at oc9
            have z9 := x9.size
            have x79 : gS w7 w9 (fun y => pc ≤ y) := (x8.mono fun y _ h => by omega).seq (x9.mono fun y _ h => by omega)
            have ov9 := o8.ext x9 (fun b hb h => by omega)
            have hlk : ps.length + 1 + k = (ps ++ 0 :: List.replicate k 0).length := by simp; omega
            have hmk : List.map (Value.int .i64) (ps ++ [((1 : Nat) : Int) - 1]) ++ List.replicate k (Value.int .i64 0) = (ps ++ 0 :: List.replicate k 0).map (Value.int .i64) := by simp
            rw [hmk, hlk] at ov9
            rw [hlk] at hr oc9
            refine tail _ st2 left _ _ w9 hr (by rw [← hlk]; omega) hleft (by omega) (by omega) (o67.ext x79 (by omega)) oc9 ov9 (hf7.ext x79 (fun b _ _ => by omega) hlh) (x17.seq (x79.mono fun y _ h => .inr h))
      · have n2 : ((x : Int) - 1 == 0) = false := beq_eq_false_iff_ne.2 (by omega)
        rw [if_neg h1] at hr
        simp (disch := omega) only [n2, cQ]
        rw [show ps.length + 1 = (ps ++ [(x : Int) - 1]).length from by simp] at hr ov6 oc6
        exact tail _ st1 _ _ _ w6 hr (by simp; omega) (by omega) b1 (by omega) o66 oc6 ov6 hf6 x16
theorem Vh {bv : Value} {l : List UInt8} {most : Int} {sym : Nat} {w : World} (hb : Bs w bv l) (hl : l.length ≤ 1000000) (hsym : sym ≤ 1000000) :
    hJ pg A2 #[bv, .int .i64 most, .int .i64 sym] w (fun r w' => Nt w' w.heap.size (sV (iC l) most sym) r ∧ gS w w' jR) := by
  refine Pv ?_
  obtain ⟨RR, hRR⟩ : ∃ RR : Value → World → Prop, RR = fun r w' => Nt w' w.heap.size (sV (iC l) most sym) r ∧ gS w w' jR := ⟨_, rfl⟩
  rw [← hRR]
  have hbl := qK l
  unfold Qo Cm BU
  refine kZ fun w1 o1 x1 s1 => ?_
  refine (Tp (hb.ext x1 (iQ _)) (by omega)).mono ?_
  rintro r w2 ⟨hi, rfl, hi1, hi2, hf2, x2⟩
  have z1 := x1.size
  have z2 := x2.size
  simp (disch := omega) only [cO, bF, aF]
  refine (IL (n := 4) hf2 hi1 (by omega) (by omega) hl).mono ?_
  rintro r w3 (⟨hsh, rfl, hf3, x3⟩ | ⟨hsh, rfl, hf3, x3⟩)
  · have n1 : ((10 : Int) != 0) = true := rfl
    have hrl : sV (iC l) most sym = .error 10 := by unfold sV; rw [if_pos (by omega)]
    rw [hrl] at hRR
    simp (disch := omega) only [lE, lC, aF, fQ, n1, dA]
    exact GQ (RR := RR) (e := 10) ((o1.ext x2 (fun h => h)).ext x3 (fun h => h)) ((x1.seq x2).seq x3) (Nat.le_refl _) fun w' h => by rw [hRR]; exact ⟨rfl, h⟩
  · have n1 : ((0 : Int) != 0) = false := rfl
    have hnum : tA (((iC l).drop 0).take 4) = lF (iC l) 0 4 := rfl
    have hlt := yQ (iC l) 0 4
    have hrl : sV (iC l) most sym = (if most < ((lF (iC l) 0 4 + 5 : Nat) : Int) ∨ 15 < lF (iC l) 0 4 + 5 then .error 12 else match LY (iC l) sym ((iC l).length + 1) 4 (2 ^ (lF (iC l) 0 4 + 5)) [] with
      | .error e => .error e
      | .ok (ps, st) => .ok (lF (iC l) 0 4 + 5, ps, (st + 7) / 8)) := by unfold sV; rw [if_neg (by omega)] <;> rfl
    rw [hrl] at hRR
    rw [hnum]
    generalize lF (iC l) 0 4 = x at *
    have e1 : (x : Int) + 5 = ((x + 5 : Nat) : Int) := by omega
    have x03 : gS w w3 jR := (x1.seq x2).trans x3 fun b hb h => by omega
    have o13 := (o1.ext x2 (fun h => h)).ext x3 (by omega)
    simp (disch := omega) only [lE, lC, aF, fQ, n1, cQ, cM, eL, fB, e1, bG]
    refine kZ fun w4 o4 x4 s4 => ?_
    refine jF o4 rfl (by simp [one]) (by simp) fun w5 o5 x5 s5 => ?_
    simp only [fV, List.set_cons_zero, List.set_cons_succ] at o5
    have z3 := x3.size
    have z4 := x4.size
    have x05 : gS w w5 jR := (x03.seq x4).new x5 (by omega)
    have x35 : gS w3 w5 jR := x4.new x5 (by omega)
    have o15 := o13.ext x35 (fun h => h)
    have c5 := o5.cell (off := 0)
    simp only [List.getElem?_cons_zero, List.getElem?_cons_succ] at c5
    by_cases hmo : most < ((x + 5 : Nat) : Int)
    · have d1 : decide (most < ((x + 5 : Nat) : Int)) = true := by simpa using hmo
      rw [if_pos (.inl hmo)] at hRR
      simp (disch := omega) only [aW, aF, eI, c5, cX, fJ, d1, fD, eP, if_true, dA, dV]
      exact GQ (RR := RR) (e := 12) o15 x05 (Nat.le_refl _) fun w' h => by rw [hRR]; exact ⟨rfl, h⟩
    have d1 : decide (most < ((x + 5 : Nat) : Int)) = false := by simpa using hmo
    by_cases h15 : 15 < x + 5
    · have d2 : decide ((15 : Int) < ((x + 5 : Nat) : Int)) = true := by simp; omega
      rw [if_pos (.inr h15)] at hRR
      simp (disch := omega) only [aW, aF, eI, c5, cX, fJ, d1, eZ, eP, Bool.false_eq_true, if_false, dZ, d2, fT, Int.toNat_natCast, dA]
      exact GQ (RR := RR) (e := 12) o15 x05 (Nat.le_refl _) fun w' h => by rw [hRR]; exact ⟨rfl, h⟩
    have d2 : decide ((15 : Int) < ((x + 5 : Nat) : Int)) = false := by simp; omega
    rw [if_neg (by omega)] at hRR
    have hsh := Ub (n := x + 5) (by omega)
    simp (disch := omega) only [aW, aF, eI, c5, cX, fJ, d1, eZ, eP, Bool.false_eq_true, if_false, dZ, d2, fT, Int.toNat_natCast, hsh, cQ]
    have hl5 := o5.lt
    refine Wp (l := l) (w0 := w) (log := x + 5) (res := LY (iC l) sym ((iC l).length + 1) 4 (2 ^ (x + 5)) []) (lo := w1.heap.size) hi1 (Nat.le_refl _) hl (by omega) (by omega) hsym (by omega) o15 o5 (hf3.ext x35 (fun _ _ _ h => h) hi1) (by omega) x05 rfl ?_ ?_
    · intro e w' he hx
      rw [hRR, he]
      exact ⟨rfl, hx⟩
    · intro ps st v w' he ho hx
      rw [hRR, he]
      exact ⟨⟨v, rfl, ho⟩, hx⟩
end Go.Proofs.YtoepfjgekpdddaaDoor
namespace Go.Pu
open Go Go.En
set_option linter.unusedVariables false
theorem Uc {L : List Bool} {most : Int} {sym log used : Nat} {ps : List Int} (h : sV L most sym = .ok (log, ps, used)) : (ps.length ≤ 256 → Jo log ps) ∧ (log : Int) ≤ most ∧ ps.length ≤ sym := by
  unfold sV at h
  split at h
  · cases h
  · simp only at h
    split at h
    · cases h
    · rename_i h1 h2
      have hpow : ((2 ^ (lF L 0 4 + 5) : Nat) : Int) = (2 : Int) ^ (lF L 0 4 + 5) := by simp
      have hp := Nat.two_pow_pos (lF L 0 4 + 5)
      cases hr : LY L sym (L.length + 1) 4 (2 ^ (lF L 0 4 + 5)) [] with
      | error e => rw [hr] at h; cases h
      | ok x =>
        obtain ⟨p, st⟩ := x
        rw [hr] at h
        cases h
        have e0 : pB [] = 0 := rfl
        obtain ⟨q1, q2, q3, q4, q5⟩ := Pb (tot := (2 : Int) ^ (lF L 0 4 + 5)) hr (by simp) (by rw [e0, hpow]; omega) (fun h => by omega)
        exact ⟨fun hs => ⟨by omega, by omega, q5, hs, q4, q1, q2⟩, by omega, q3⟩
theorem Ty {L : List Bool} {sym : Nat} {e : Int} : ∀ {f st left : Nat} {ps : List Int}, LY L sym f st left ps = .error e → e = 10 ∨ e = 11
  | 0, st, left, ps, h => by cases h; exact .inl rfl
  | f + 1, st, left, ps, h => by
    rw [LY] at h
    split at h
    · cases h
    · split at h
      · cases h; exact .inl rfl
      · split at h
        · split at h
          · cases h; exact .inl rfl
          · split at h
            · cases h; exact .inr rfl
            · exact Ty h
        · split at h
          · cases h; exact .inr rfl
          · exact Ty h
theorem S0 {L : List Bool} {most : Int} {sym : Nat} {e : Int} (h : sV L most sym = .error e) : e ≠ 0 := by
  unfold sV at h
  split at h
  · cases h; decide
  · simp only at h
    split at h
    · cases h; decide
    · split at h
      · rename_i hr
        cases h
        rcases Ty hr with h | h <;> omega
      · cases h
end Go.Pu

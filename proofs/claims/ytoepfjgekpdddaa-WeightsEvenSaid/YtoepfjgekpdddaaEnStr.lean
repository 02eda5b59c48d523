/- The engine: bytes and strings, turned into one another. -/
import Derived.Test.YtoepfjgekpdddaaEnMem
import Derived.Laws.IdiomStrings
namespace Go.En
open Go

theorem add_at (b o n : Nat) : (⟨b, o, none⟩ : Addr).add n = ⟨b, o + n, none⟩ := by
  unfold Addr.add; split
  · rename_i h; subst h; rfl
  · rfl

section
variable {P : Program} {w : World} {t e : TypeId} {k : IntKind} {a : Int}
theorem r_iaddrSn {inf : TypeInfo} {sz : Nat} (hz : inf.size = sz) (hu : P.underlying t = some (.slice e)) (hi : P.info? e = some inf) (b o n c : Nat) (h0 : 0 ≤ a) (h1 : a < n) :
    (sIAddr t (.slice (some ⟨b, o, none⟩) n c) (.int k a)).run P w = .ok (.value (.pointer (some ⟨b, o + a.toNat * sz, none⟩))) w := by
  rw [r_iaddrS hu hi _ n c h0 h1, add_at, hz]
theorem r_iaddrS1 {inf : TypeInfo} (hz : inf.size = 1) (hu : P.underlying t = some (.slice e)) (hi : P.info? e = some inf) (b o n c : Nat) (h0 : 0 ≤ a) (h1 : a < n) :
    (sIAddr t (.slice (some ⟨b, o, none⟩) n c) (.int k a)).run P w = .ok (.value (.pointer (some ⟨b, o + a.toNat, none⟩))) w := by
  rw [r_iaddrS hu hi _ n c h0 h1, add_at, hz, Nat.mul_one]
theorem r_iaddrAn {inf : TypeInfo} {sz len : Nat} (hz : inf.size = sz) (hu : P.underlying t = some (.array len e)) (hi : P.info? e = some inf) (b o : Nat) (h0 : 0 ≤ a) (h1 : a < (len : Int)) :
    (sIAddr t (.pointer (some ⟨b, o, none⟩)) (.int k a)).run P w = .ok (.value (.pointer (some ⟨b, o + a.toNat * sz, none⟩))) w := by
  rw [r_iaddrA hu hi _ h0 h1, add_at, hz]
theorem r_iaddrA1 {inf : TypeInfo} {len : Nat} (hz : inf.size = 1) (hu : P.underlying t = some (.array len e)) (hi : P.info? e = some inf) (b o : Nat) (h0 : 0 ≤ a) (h1 : a < (len : Int)) :
    (sIAddr t (.pointer (some ⟨b, o, none⟩)) (.int k a)).run P w = .ok (.value (.pointer (some ⟨b, o + a.toNat, none⟩))) w := by
  rw [r_iaddrA hu hi _ h0 h1, add_at, hz, Nat.mul_one]
end

/- strings as lists -/
def lst (x : ByteArray) : List UInt8 := x.data.toList
theorem lst_length (x : ByteArray) : (lst x).length = x.size := by unfold lst; rw [Array.length_toList]; rfl
theorem lst_get (x : ByteArray) (i : Nat) (h : i < x.size) : x[i]'h = (lst x)[i]'(by rw [lst_length]; exact h) := rfl
theorem lst_extract (x : ByteArray) (a b : Nat) : lst (x.extract a b) = ((lst x).drop a).take (b - a) := by
  unfold lst; rw [ByteArray.data_extract, Array.toList_extract, List.extract_eq_take_drop]
theorem lst_append (x y : ByteArray) : lst (x ++ y) = lst x ++ lst y := by
  unfold lst; rw [ByteArray.data_append, Array.toList_append]
theorem lst_mk (l : List UInt8) : lst ⟨l.toArray⟩ = l := rfl
theorem size_extract' (x : ByteArray) (a b : Nat) (h : b ≤ x.size) : (x.extract a b).size = b - a := by
  rw [← lst_length, lst_extract, List.length_take, List.length_drop, lst_length]; omega
theorem lst_inj {x y : ByteArray} (h : lst x = lst y) : x = y := by
  cases x; cases y; unfold lst at h; congr; exact Array.toList_inj.1 h

section
variable {P : Program} {w : World} {s d e : TypeId}

theorem r_cbytes (hs : P.underlying s = some (.slice e)) (hd : P.underlying d = some .string) (he : P.underlying e = some (.int .u8)) {l : List UInt8} {v : Value} (h : Bs w v l) :
    (sCvt s d v).run P w = .ok (.value (.string ⟨l.toArray⟩)) w := by
  obtain ⟨a, n, c, rfl, hn, hc, h⟩ := h
  simp only [List.length_map] at hn
  unfold sCvt
  rw [runV]
  have key : (convert s d (.slice a n c)).run P w = .ok (.string ⟨l.toArray⟩) w := by
    cases a with
    | none =>
      have hl : l = [] := by
        cases l with
        | nil => rfl
        | cons x l => obtain ⟨b, off, e, _⟩ := h (by rw [hn]; simp); cases e
      subst hl
      rw [run_convert_bytes_string w s d e none n c hs he hd]
      rfl
    | some x =>
      subst hn
      refine run_convert_bytes_back w s d e x c l hs he hd fun j hj => ?_
      obtain ⟨b, off, hx, h2⟩ := h (by omega)
      have hx := Option.some.inj hx
      subst hx
      rw [add_at, h2 j hj]
      simp [b2v, hj]
  rw [key]; rfl

theorem stp_sbytes (hs : P.underlying s = some .string) (hd : P.underlying d = some (.slice e)) (he : P.underlying e = some (.int .u8)) {x : ByteArray} {K : Value → World → Prop}
    (hk : ∀ w' c, Sl w' (.slice (some ⟨w.heap.size, 0, none⟩) x.size c) (x.data.toList.map b2v) → Ext w w' nob → w'.heap.size = w.heap.size + 1 →
      (∃ r, Own w' w.heap.size (x.data.toList.map b2v ++ List.replicate r (Value.int .u8 0)) ∧ c = x.size + r) → K (.slice (some ⟨w.heap.size, 0, none⟩) x.size c) w') : Stp P (sCvt s d (.string x)) w K := by
  have run := run_bytes_of_string (P := P) w s d e x hs hd he
  have hcap : x.size ≤ grownCap w x.size 0 e := Nat.le_add_right _ _
  generalize grownCap w x.size 0 e = c at run hcap
  obtain ⟨r, rfl⟩ : ∃ r, c = x.size + r := ⟨c - x.size, by omega⟩
  have hrow : bytesRow x (x.size + r) = (x.data.toList.map b2v ++ List.replicate r (Value.int .u8 0)).toArray := by
    unfold bytesRow
    have : x.size + r - x.size = r := by omega
    rw [this]
    apply Array.ext'
    simp only [Array.toList_append, Array.toList_map, Array.toList_replicate]
    rfl
  rw [hrow] at run
  have hlen : (x.data.toList.map b2v).length = x.size := by rw [List.length_map, Array.length_toList]; rfl
  have hsz : (x.data.toList.map b2v ++ List.replicate r (Value.int .u8 0)).toArray.size = x.size + r := by
    rw [List.size_toArray, List.length_append, List.length_replicate, hlen]
  rw [hsz] at run
  unfold Stp sCvt
  rw [runV, run]
  have ho : Own (w.drew.alloc (.cells (x.data.toList.map b2v ++ List.replicate r (Value.int .u8 0)).toArray e (x.size + r, x.size + r + 1))) w.heap.size (x.data.toList.map b2v ++ List.replicate r (Value.int .u8 0)) :=
    ⟨e, x.size + r, x.size + r + 1, Array.getElem?_push_size, .inl (by rw [List.length_append, List.length_replicate, hlen]; exact Nat.le_refl _)⟩
  have hx : Ext w (w.drew.alloc (.cells (x.data.toList.map b2v ++ List.replicate r (Value.int .u8 0)).toArray e (x.size + r, x.size + r + 1))) nob := (Ext.dr w nob).trans (Ext.alloc _ _ nob) (fun _ _ h => h)
  refine hk _ _ ⟨_, _, _, rfl, hlen.symm, by omega, fun _ => ⟨_, _, rfl, fun i hi => ?_⟩⟩ hx (by show (w.heap.push _).size = _; rw [Array.size_push]) ⟨r, ho, rfl⟩
  rw [ho.cell]
  simp only [Nat.zero_add]
  rw [List.getElem?_append_left (by rw [hlen]; exact hi)]
end
end Go.En

/- The engine: small laws of slices and blocks. -/
import Derived.Test.YtoobkaojepgnjaaEnMap
namespace Go.En
open Go

theorem OSl.len {w : World} {b sz n : Nat} {v : Value} {l : List Value} (h : OSl w b sz v n l) : ∃ a c, v = .slice a n c := by
  rcases h.2 with ⟨rfl, rfl⟩ | ⟨x, c, r, rfl, _⟩
  · exact ⟨_, _, rfl⟩
  · exact ⟨_, _, rfl⟩
theorem OSl.lower {w : World} {a b sz n : Nat} {v : Value} {l : List Value} (h : OSl w b sz v n l) (hab : a ≤ b) : OSl w a sz v n l := by
  refine ⟨h.1, ?_⟩
  rcases h.2 with h | ⟨x, c, r, h1, h2, h3⟩
  · exact .inl h
  · exact .inr ⟨x, c, r, h1, by omega, h3⟩
theorem Sl.nil (w : World) : Sl w (.slice none 0 0) [] := ⟨none, 0, 0, rfl, rfl, Nat.le_refl _, fun h => absurd h (by simp)⟩
theorem Own.whole {w : World} {b c : Nat} {l : List UInt8} (h : Own w b (l.map b2v)) (hc : l.length ≤ c) : Bs w (.slice (some ⟨b, 0, none⟩) l.length c) l :=
  h.bs hc fun i hi => by rw [Nat.zero_add]; simp [hi]
theorem rep_set (a b : Value) (i m : Nat) : (List.replicate i a ++ List.replicate (m + 1) b).set i a = List.replicate (i + 1) a ++ List.replicate m b := by
  rw [List.set_append_right _ _ (by simp), List.length_replicate, Nat.sub_self, List.replicate_succ (n := m), List.set_cons_zero, List.replicate_succ' (n := i), List.append_assoc]
  rfl
theorem Sl.take' {w : World} {a : Option Addr} {n c : Nat} {l : List Value} (h : Sl w (.slice a n c) l) {k : Nat} (hk : k ≤ n) : Sl w (.slice (shift? a c 0 1) (k - 0) (c - 0)) (l.take k) := by
  have h' := h
  obtain ⟨a', n', c', e, hn, hc, hh⟩ := h'
  cases e
  by_cases h0 : k = 0
  · subst h0
    exact ⟨_, _, _, rfl, by simp, by omega, fun h => by simp at h⟩
  · obtain ⟨b, off, rfl, _⟩ := hh (by omega)
    exact h.take hk
theorem Sl.drop' {w : World} {a : Option Addr} {n c : Nat} {l : List Value} (h : Sl w (.slice a n c) l) {k : Nat} (hk : k ≤ n) : Sl w (.slice (shift? a c k 1) (n - k) (c - k)) (l.drop k) := by
  have h' := h
  obtain ⟨a', n', c', e, hn, hc, hh⟩ := h'
  cases e
  by_cases h0 : n = 0
  · exact ⟨_, _, _, rfl, by rw [List.length_drop]; omega, by omega, fun h => by omega⟩
  · obtain ⟨b, off, rfl, _⟩ := hh (by omega)
    exact h.drop hk
/-- the middle of a slice -/
theorem Sl.mid {w : World} {a : Option Addr} {n c : Nat} {l : List Value} (h : Sl w (.slice a n c) l) {i j : Nat} (hij : i ≤ j) (hj : j ≤ n) : Sl w (.slice (shift? a c i 1) (j - i) (c - i)) ((l.drop i).take (j - i)) := by
  have h' := h
  obtain ⟨a', n', c', e, hn, hc, hh⟩ := h'
  cases e
  by_cases h0 : j - i = 0
  · rw [h0]
    exact ⟨_, _, _, rfl, by simp, by omega, fun h => by omega⟩
  · obtain ⟨b, off, rfl, _⟩ := hh (by omega)
    have hd := h.drop (k := i) (by omega)
    obtain ⟨a', n', c', e, hn', hc', hh'⟩ := hd
    obtain ⟨b', off', e', h2⟩ := hh' (by have := (Value.slice.inj e).2.1; omega)
    injection e with e1 e2 e3
    subst e3
    refine ⟨_, _, _, rfl, by rw [List.length_take, List.length_drop]; omega, by omega, fun _ => ⟨b', off', by rw [e1]; exact e', fun x hx => ?_⟩⟩
    rw [h2 x (by omega), List.getElem?_take_of_lt hx]
end Go.En

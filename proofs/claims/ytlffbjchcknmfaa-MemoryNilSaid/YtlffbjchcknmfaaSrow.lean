/- Rows of things of one width. -/
import Derived.Test.YtlffbjchcknmfaaSl1
namespace Go.Proofs.Ytlffbjchcknmfaa
open Go
set_option linter.unusedVariables false
set_option linter.unusedSimpArgs false
theorem flat_len {α : Type} (f : α → List Value) (k : Nat) : ∀ (l : List α), (∀ x ∈ l, (f x).length = k) → (l.flatMap f).length = l.length * k
  | [], _ => by simp
  | x :: r, h => by
    rw [List.flatMap_cons, List.length_append, h x (by simp), flat_len f k r (fun y hy => h y (by simp [hy])), List.length_cons, Nat.add_mul]
    omega
theorem flat_get {α : Type} (f : α → List Value) (k : Nat) : ∀ (l : List α), (∀ x ∈ l, (f x).length = k) → ∀ i x j, l[i]? = some x → j < k → (l.flatMap f)[i * k + j]? = (f x)[j]?
  | [], _, i, x, j, hx, _ => by simp at hx
  | y :: r, h, 0, x, j, hx, hj => by
    simp only [List.getElem?_cons_zero, Option.some.injEq] at hx
    subst hx
    rw [List.flatMap_cons, List.getElem?_append_left (by rw [h y (by simp)]; omega)]
    simp
  | y :: r, h, i + 1, x, j, hx, hj => by
    simp only [List.getElem?_cons_succ] at hx
    have e : (i + 1) * k + j - k = i * k + j := by rw [Nat.add_mul]; omega
    rw [List.flatMap_cons, List.getElem?_append_right (by rw [h y (by simp), Nat.add_mul]; omega), h y (by simp), e]
    exact flat_get f k r (fun z hz => h z (by simp [hz])) i x j hx hj
theorem Row.elem {α : Type} {w : World} {a : Option Addr} {n cap k : Nat} {f : α → List Value} {l : List α} (h : Row w (.slice a n cap) k (l.flatMap f)) (hf : ∀ x ∈ l, (f x).length = k) (hk : 0 < k) :
    l.length = n ∧ (0 < n → ∃ b o, a = some ⟨b, o, none⟩ ∧ b < w.heap.size ∧ ∀ i x, l[i]? = some x → ∀ j, j < k → w.cell? ⟨b, o + i * k + j, none⟩ = (f x)[j]?) := by
  have hn : l.length = n := by
    have := h.len
    rw [flat_len f k l hf] at this
    exact Nat.eq_of_mul_eq_mul_right hk this
  refine ⟨hn, fun h0 => ?_⟩
  obtain ⟨b, o, ha, hb, hc⟩ := h.cells h0
  refine ⟨b, o, ha, hb, fun i x hx j hj => ?_⟩
  have hi : i < n := by rw [← hn]; exact (List.getElem?_eq_some_iff.1 hx).1
  have : i * k + j < n * k := by
    have := Nat.mul_le_mul_right k (show i + 1 ≤ n by omega)
    rw [Nat.add_mul] at this; omega
  rw [Nat.add_assoc, hc _ this, flat_get f k l hf i x j hx hj]
theorem Row.elem1 {α : Type} {w : World} {a : Option Addr} {n cap : Nat} {g : α → Value} {l : List α} (h : Row w (.slice a n cap) 1 (l.map g)) :
    l.length = n ∧ (0 < n → ∃ b o, a = some ⟨b, o, none⟩ ∧ b < w.heap.size ∧ ∀ i x, l[i]? = some x → w.cell? ⟨b, o + i, none⟩ = some (g x)) := by
  have hn : l.length = n := by have := h.len; simpa using this
  refine ⟨hn, fun h0 => ?_⟩
  obtain ⟨b, o, ha, hb, hc⟩ := h.cells h0
  refine ⟨b, o, ha, hb, fun i x hx => ?_⟩
  have hi : i < n := by rw [← hn]; exact (List.getElem?_eq_some_iff.1 hx).1
  rw [hc i (by omega), List.getElem?_map, hx]
  rfl
end Go.Proofs.Ytlffbjchcknmfaa

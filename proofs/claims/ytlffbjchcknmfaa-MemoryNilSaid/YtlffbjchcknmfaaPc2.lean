/- Bytes with holes as data: what is read. Plain lists, no program. -/
import Derived.Test.YtlffbjchcknmfaaPc1
namespace Go.Proofs.Ytlffbjchcknmfaa
set_option linter.unusedVariables false
set_option linter.unusedSimpArgs false
theorem abs_mem {i : Nat} {x : UInt8} : ∀ {ps : List Pc}, absL ps i = some x → ∃ p ∈ ps, p.1 ≤ i ∧ i < p.1 + p.2.length
  | [], h => by cases h
  | p :: r, h => by
    simp only [absL] at h
    split at h
    · rename_i hp; exact ⟨p, by simp, hp⟩
    · obtain ⟨q, hq, h2⟩ := abs_mem h
      exact ⟨q, by simp [hq], h2⟩
theorem abs_none {i : Nat} {ps : List Pc} (h : ∀ p ∈ ps, ¬ (p.1 ≤ i ∧ i < p.1 + p.2.length)) : absL ps i = none := by
  cases e : absL ps i with
  | none => rfl
  | some x => obtain ⟨p, hp, h2⟩ := abs_mem e; exact absurd h2 (h p hp)
theorem abs_append {i : Nat} : ∀ {A B : List Pc}, absL (A ++ B) i = (absL A i).or (absL B i)
  | [], B => rfl
  | p :: A, B => by
    simp only [List.cons_append, absL]
    split
    · rename_i hp
      rw [List.getElem?_eq_getElem (by omega)]; rfl
    · exact abs_append
theorem abs_snoc {lo size i : Nat} {A : List Pc} {p : Pc} (h : Ord lo (A ++ [p]) size) : absL (A ++ [p]) i = if p.1 ≤ i ∧ i < p.1 + p.2.length then p.2[i - p.1]? else absL A i := by
  rw [abs_append]
  split
  · rename_i hp
    rw [abs_none (ps := A) (fun q hq => by have := ord_append h q hq p (by simp); omega)]
    simp only [absL, if_pos hp]
    rfl
  · rename_i hp
    simp only [absL, if_neg hp]
    cases absL A i <;> rfl
/-- What is read from a place on; holes read as noughts. -/
def getP (ps : List Pc) (a n : Nat) : List UInt8 := (List.range n).map fun j => (absL ps (a + j)).getD 0
theorem getP_len (ps : List Pc) (a n : Nat) : (getP ps a n).length = n := by simp [getP]
theorem getP_get (ps : List Pc) (a n j : Nat) (h : j < n) : (getP ps a n)[j]? = some ((absL ps (a + j)).getD 0) := by
  simp [getP, h]
theorem getP_congr {ps qs : List Pc} {a n : Nat} (h : ∀ j, j < n → absL ps (a + j) = absL qs (a + j)) : getP ps a n = getP qs a n := by
  apply List.ext_getElem?
  intro j
  by_cases hj : j < n
  · rw [getP_get _ _ _ _ hj, getP_get _ _ _ _ hj, h j hj]
  · rw [List.getElem?_eq_none (by rw [getP_len]; omega), List.getElem?_eq_none (by rw [getP_len]; omega)]
def spl (xs : List UInt8) (o : Nat) (ys : List UInt8) : List UInt8 := xs.take o ++ ys ++ xs.drop (o + ys.length)
theorem spl_get {xs ys : List UInt8} {o j : Nat} (h : o + ys.length ≤ xs.length) : (spl xs o ys)[j]? = if o ≤ j ∧ j < o + ys.length then ys[j - o]? else xs[j]? := by
  unfold spl
  by_cases h1 : j < o
  · rw [if_neg (by omega), List.append_assoc, List.getElem?_append_left (by rw [List.length_take]; omega), List.getElem?_take_of_lt h1]
  · by_cases h2 : j < o + ys.length
    · rw [if_pos (by omega), List.append_assoc, List.getElem?_append_right (by rw [List.length_take]; omega), List.length_take, Nat.min_eq_left (by omega), List.getElem?_append_left (by omega)]
    · rw [if_neg (by omega), List.getElem?_append_right (by rw [List.length_append, List.length_take]; omega), List.length_append, List.length_take, Nat.min_eq_left (by omega), List.getElem?_drop]
      congr 1; omega
theorem spl_len {xs ys : List UInt8} {o : Nat} (h : o + ys.length ≤ xs.length) : (spl xs o ys).length = xs.length := by
  simp [spl]; omega
/-- One piece more. -/
theorem get_step {lo size a n : Nat} {A : List Pc} {p : Pc} (h : Ord lo (A ++ [p]) size) (h1 : p.1 < a + n) (h2 : a < p.1 + p.2.length) :
    spl (getP A a n) (p.1 - a) ((p.2.drop (a - p.1)).take (n - (p.1 - a))) = getP (A ++ [p]) a n := by
  apply List.ext_getElem?
  intro j
  have hfit : p.1 - a + ((p.2.drop (a - p.1)).take (n - (p.1 - a))).length ≤ (getP A a n).length := by
    rw [getP_len, List.length_take]; omega
  rw [spl_get hfit]
  by_cases hj : j < n
  · rw [getP_get (A ++ [p]) a n j hj, getP_get A a n j hj, abs_snoc h]
    simp only [List.length_take, List.length_drop]
    by_cases hc : p.1 ≤ a + j ∧ a + j < p.1 + p.2.length
    · rw [if_pos (by omega), if_pos hc, List.getElem?_take_of_lt (by omega), List.getElem?_drop]
      rw [show a - p.1 + (j - (p.1 - a)) = a + j - p.1 by omega, List.getElem?_eq_getElem (by omega)]
      rfl
    · rw [if_neg (by omega), if_neg hc]
  · rw [if_neg (by rw [List.length_take]; omega), List.getElem?_eq_none (by rw [getP_len]; omega), List.getElem?_eq_none (by rw [getP_len]; omega)]
/-- What a call of Get answers. -/
def getM (ps : List Pc) (size : Nat) (a n : Int) : List UInt8 :=
  if a < 0 ∨ n < 0 ∨ (size : Int) ≤ a then [] else getP ps a.toNat (min (min n 65536) (size - a)).toNat
end Go.Proofs.Ytlffbjchcknmfaa

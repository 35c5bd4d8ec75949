/- Bytes with holes as data: what is laid, by a list's parts. Plain lists, no program. -/
import Derived.Test.YtpdklpeojjkkaaaPc3
namespace Go.Proofs.Ytpdklpeojjkkaaa
set_option linter.unusedVariables false
set_option linter.unusedSimpArgs false
theorem ord_idx {size : Nat} : ∀ {lo : Nat} {ps : List Pc}, Ord lo ps size → ∀ (i j : Nat) (p q : Pc), i < j → ps[i]? = some p → ps[j]? = some q → p.1 + p.2.length + 1 ≤ q.1
  | lo, [], _, i, j, p, q, _, h, _ => by simp at h
  | lo, x :: r, ⟨_, _, _, h4⟩, 0, j + 1, p, q, _, h, k => by
    simp only [List.getElem?_cons_zero, Option.some.injEq, List.getElem?_cons_succ] at h k
    subst h
    exact (h4.lo q (List.mem_of_getElem? k)).1
  | lo, x :: r, ⟨_, _, _, h4⟩, i + 1, j + 1, p, q, hij, h, k => by
    simp only [List.getElem?_cons_succ] at h k
    exact ord_idx h4 i j p q (by omega) h k
theorem drop_cons {α : Type} {l : List α} {n : Nat} {x : α} (h : l[n]? = some x) : l.drop n = x :: l.drop (n + 1) := by
  obtain ⟨hl, he⟩ := List.getElem?_eq_some_iff.1 h
  rw [List.drop_eq_getElem_cons hl, he]
theorem take_snoc {α : Type} {l : List α} {n : Nat} {x : α} (h : l[n]? = some x) : l.take (n + 1) = l.take n ++ [x] := by
  rw [List.take_add_one, h]; rfl
/-- The list behind Put, by the parts that Put puts together. -/
theorem ins_replace {lo size A N i j at0 : Nat} {bs Y0 Y2 : List UInt8} {LP : List Pc} (ho : Ord lo LP size) (hNL : N ≤ LP.length) (hA : ∀ p ∈ LP.take N, p.1 + p.2.length ≤ A) (hB : ∀ p ∈ LP.drop N, A + bs.length ≤ p.1) (h0 : 0 < bs.length)
    (hl : (i = N ∧ at0 = A ∧ Y0 = [] ∧ ∀ p, 0 < N → LP[N - 1]? = some p → p.1 + p.2.length ≠ A) ∨ (∃ p, 0 < N ∧ LP[N - 1]? = some p ∧ p.1 + p.2.length = A ∧ i + 1 = N ∧ at0 = p.1 ∧ Y0 = p.2))
    (hr : (j = N ∧ Y2 = Y0 ++ bs ∧ ∀ p, LP[N]? = some p → p.1 ≠ A + bs.length) ∨ (∃ p, LP[N]? = some p ∧ p.1 = A + bs.length ∧ j = N + 1 ∧ Y2 = Y0 ++ bs ++ p.2)) :
    LP.take i ++ [(at0, Y2)] ++ LP.drop j = insL LP A bs := by
  have tail : ∀ a0 Z, a0 + Z.length = A + bs.length → Z = Y0 ++ bs → tailM (LP.drop N) a0 Z = (a0, Y2) :: LP.drop j := by
    intro a0 Z hz hZ
    rcases hr with ⟨rfl, rfl, h⟩ | ⟨p, hp, hp1, rfl, rfl⟩
    · cases e : LP[j]? with
      | none =>
        have : LP.length ≤ j := by simpa using e
        rw [List.drop_of_length_le this, hZ]
        rfl
      | some q =>
        rw [drop_cons e]
        unfold tailM
        simp only
        rw [if_neg (by have := h q e; omega), hZ]
    · rw [drop_cons hp]
      unfold tailM
      simp only
      rw [if_pos (by omega), hZ]
  have hpos : ∀ p ∈ LP.drop N, A + bs.length ≤ p.1 ∧ 0 < p.2.length := fun p hp => ⟨hB p hp, (ho.lo p (List.mem_of_mem_drop hp)).2.1⟩
  have hlt : ∀ n, n < N → ∀ q ∈ LP.take n, q.1 + q.2.length < A ∨ LP.length ≤ n := fun n hn q hq => by
    obtain ⟨t, ht⟩ := List.getElem?_of_mem hq
    rw [List.getElem?_take] at ht
    split at ht
    · rename_i htn
      cases e : LP[n]? with
      | none => exact .inr (by simpa using e)
      | some x =>
        have h1 := ord_idx ho t n q x htn ht e
        have h2 := hA x (List.mem_of_getElem? (by rw [List.getElem?_take_of_lt hn]; exact e))
        exact .inl (by omega)
    · cases ht
  rcases hl with ⟨rfl, rfl, rfl, h⟩ | ⟨p, hN, hp, hpe, hi, rfl, rfl⟩
  · have hall : ∀ q ∈ LP.take i, q.1 + q.2.length < at0 := fun q hq => by
      have h1 := hA q hq
      obtain ⟨t, ht⟩ := List.getElem?_of_mem hq
      rw [List.getElem?_take] at ht
      split at ht
      · rename_i htn
        by_cases ht1 : t = i - 1
        · have := h q (by omega) (by rw [← ht1]; exact ht); omega
        · cases e : LP[i - 1]? with
          | none =>
            have : LP.length ≤ i - 1 := by simpa using e
            omega
          | some x =>
            have h2 := ord_idx ho t (i - 1) q x (by omega) ht e
            have h5 : (LP.take i)[i - 1]? = some x := by rw [List.getElem?_take_of_lt (by omega)]; exact e
            have h4 := hA x (List.mem_of_getElem? h5)
            omega
      · cases ht
    conv => rhs; rw [← List.take_append_drop i LP]
    rw [ins_skip hall, ins_tail hpos, tail at0 bs rfl (by simp)]
    simp
  · have hp' : LP[i]? = some p := by rw [show i = N - 1 by omega]; exact hp
    have hall : ∀ q ∈ LP.take i, q.1 + q.2.length < A := fun q hq => by
      rcases hlt i (by omega) q hq with h | h
      · exact h
      · have := (List.getElem?_eq_some_iff.1 hp').1; omega
    have e : LP = LP.take i ++ p :: LP.drop N := by
      rw [← hi, ← drop_cons hp', List.take_append_drop]
    conv => rhs; rw [e]
    rw [ins_skip hall, ← hpe, ins_touch, ins_tail (fun q hq => by have := hpos q hq; rw [List.length_append]; omega), tail p.1 (p.2 ++ bs) (by rw [List.length_append]; omega) rfl]
    simp
end Go.Proofs.Ytpdklpeojjkkaaa

/- Bytes with holes as data: how many pieces; the tiles. -/
import Derived.Test.YtpdklpeojjkkaaaPc4
namespace Go.Proofs.Ytpdklpeojjkkaaa
set_option linter.unusedVariables false
set_option linter.unusedSimpArgs false
theorem clear_count {f t size : Nat} (hft : f < t) : ∀ {lo : Nat} {ps : List Pc}, Ord lo ps size → (clearL f t ps).length ≤ ps.length + 1
  | _, [], _ => by simp [clear_nil]
  | lo, p :: r, ⟨h1, h2, h3, h4⟩ => by
    rw [clear_cons, List.length_append, List.length_cons]
    by_cases hs : p.1 < f ∧ t < p.1 + p.2.length
    · rw [clear_behind hft (fun q hq => by have := h4.lo q hq; omega)]
      have : (clearP f t p).length = 2 := by unfold clearP; rw [if_pos hs.1, if_pos hs.2]; rfl
      omega
    · have : (clearP f t p).length ≤ 1 := by
        unfold clearP
        by_cases h5 : p.1 < f
        · rw [if_pos h5, if_neg (by omega)]; simp
        · rw [if_neg h5]
          split <;> simp
      have := clear_count hft h4
      omega
theorem ins_count : ∀ (ps : List Pc) (a : Nat) (bs : List UInt8), (insL ps a bs).length ≤ ps.length + 1
  | [], a, bs => by simp [insL]
  | p :: r, a, bs => by
    unfold insL
    split
    · have := ins_count r a bs
      simp only [List.length_cons]; omega
    split
    · have := ins_count r p.1 (p.2 ++ bs)
      simp only [List.length_cons]; omega
    split <;> simp
theorem putM_count {ps : List Pc} {size : Nat} (h : Canon ps size) (a : Int) (bs : List UInt8) : (putM ps size a bs).2.1.length ≤ ps.length + 2 := by
  unfold putM
  split
  · simp
  split
  · simp
  split
  · simp
  split
  · simp
  · have h1 := clear_count (f := a.toNat) (t := a.toNat + bs.length) (by omega) h.ord
    have h2 := ins_count (clearL a.toNat (a.toNat + bs.length) ps) a.toNat bs
    simp only; omega
theorem cutM_count {ps : List Pc} {size : Nat} (h : Canon ps size) (n : Int) : (cutM ps size n).2.1.length ≤ ps.length + 2 := by
  unfold cutM
  split
  · simp
  split
  · simp
  · simp only
    split
    · have h1 := clear_count (f := n.toNat) (t := size) (by omega) h.ord
      omega
    · omega
theorem punchM_count {ps : List Pc} {size : Nat} (h : Canon ps size) (a n : Int) : (punchM ps size a n).2.1.length ≤ ps.length + 2 := by
  unfold punchM
  split
  · simp
  · simp only
    split
    · have h1 := clear_count (f := a.toNat) (t := (a + min n (size - a)).toNat) (by omega) h.ord
      omega
    · omega
/-- Where the tile ahead of the k-th ends. -/
def endE (ps : List Pc) : Nat → Nat
  | 0 => 0
  | k + 1 => match ps[k]? with
    | some p => p.1 + p.2.length
    | none => 0
theorem endE_succ {ps : List Pc} {k : Nat} {p : Pc} (h : ps[k]? = some p) : endE ps (k + 1) = p.1 + p.2.length := by simp only [endE, h]
theorem endE_le {ps : List Pc} {size k : Nat} (h : Canon ps size) : endE ps k ≤ size := by
  cases k with
  | zero => exact Nat.zero_le _
  | succ k =>
    simp only [endE]
    split
    · rename_i p hp
      exact (h.ord.lo p (List.mem_of_getElem? hp)).2.2
    · exact Nat.zero_le _
theorem tile_lt {ps : List Pc} {size k : Nat} {p : Pc} (h : Canon ps size) (hp : ps[k]? = some p) : (k = 0 ∧ endE ps k = 0) ∨ endE ps k < p.1 := by
  cases k with
  | zero => exact .inl ⟨rfl, rfl⟩
  | succ k =>
    right
    have hk : k < ps.length := by have := (List.getElem?_eq_some_iff.1 hp).1; omega
    have := ord_idx h.ord k (k + 1) _ p (by omega) (List.getElem?_eq_getElem hk) hp
    simp only [endE, List.getElem?_eq_getElem hk]
    omega
theorem tile_end {ps : List Pc} {size k j : Nat} {q : Pc} (h : Canon ps size) (hk : k ≤ ps.length) (hj : j < k) (hq : ps[j]? = some q) : q.1 + q.2.length ≤ endE ps k := by
  obtain ⟨k, rfl⟩ : ∃ m, k = m + 1 := ⟨k - 1, by omega⟩
  have hk' : k < ps.length := by omega
  rw [endE_succ (List.getElem?_eq_getElem hk')]
  by_cases e : j = k
  · subst e
    rw [List.getElem?_eq_getElem hk'] at hq
    cases hq
    exact Nat.le_refl _
  · have := ord_idx h.ord j k q _ (by omega) hq (List.getElem?_eq_getElem hk')
    omega
theorem next_tile {ps : List Pc} {size k : Nat} (h : Canon ps size) (hk : k ≤ ps.length) :
    nextP ps size (endE ps k) = match ps[k]? with | some p => ((p.1 : Int), (p.1 : Int) + p.2.length) | none => ((size : Int), (size : Int)) := by
  have key : ∀ (l : List Pc) (i : Nat), ps.drop i = l → i ≤ k → nextP l size (endE ps k) = match ps[k]? with | some p => ((p.1 : Int), (p.1 : Int) + p.2.length) | none => ((size : Int), (size : Int)) := by
    intro l
    induction l with
    | nil =>
      intro i hi hik
      have : ps.length ≤ i := by have := congrArg List.length hi; rw [List.length_drop, List.length_nil] at this; omega
      rw [List.getElem?_eq_none (by omega)]
      rfl
    | cons p r ih =>
      intro i hi hik
      have hp : ps[i]? = some p := by
        have := congrArg (fun l => l[0]?) hi
        simpa [List.getElem?_drop] using this
      have hr : ps.drop (i + 1) = r := by
        have := congrArg List.tail hi
        simpa [List.tail_drop] using this
      simp only [nextP]
      by_cases e : i = k
      · subst e
        have hpos := (h.ord.lo p (List.mem_of_getElem? hp)).2.1
        rw [hp]
        have ht := tile_lt h hp
        rw [if_pos (by omega)]
        simp only
        rcases ht with ⟨_, h0⟩ | h0
        · rw [h0, show max (((0 : Nat)) : Int) (p.1 : Int) = p.1 by omega]
        · rw [show max (endE ps i : Int) (p.1 : Int) = p.1 by omega]
      · have := tile_end h hk (j := i) (by omega) hp
        rw [if_neg (by omega)]
        exact ih (i + 1) hr (by omega)
  exact key ps 0 rfl (Nat.zero_le _)
theorem tile_none {ps : List Pc} {size k i : Nat} (h : Canon ps size) (hk : k ≤ ps.length) (h1 : endE ps k ≤ i) (h2 : ∀ p, ps[k]? = some p → i < p.1) : absL ps i = none := by
  apply abs_none
  intro q hq hc
  obtain ⟨j, hj⟩ := List.getElem?_of_mem hq
  by_cases e : j < k
  · have := tile_end h hk e hj; omega
  · have hjl : j < ps.length := (List.getElem?_eq_some_iff.1 hj).1
    have hp : ps[k]? = some (ps[k]'(by omega)) := List.getElem?_eq_getElem _
    have h3 := h2 _ hp
    by_cases e2 : j = k
    · subst e2; rw [hp] at hj; have hj' := Option.some.inj hj; rw [hj'] at h3; omega
    · have := ord_idx h.ord k j _ q (by omega) hp hj
      omega
theorem getM_nought {ps : List Pc} {size : Nat} {a n : Int} (h : ∀ i : Nat, a ≤ i → (i : Int) < a + n → absL ps i = none) : ∀ x ∈ getM ps size a n, x = 0 := by
  unfold getM
  split
  · simp
  · intro x hx
    simp only [getP, List.mem_map, List.mem_range] at hx
    obtain ⟨j, hj, rfl⟩ := hx
    rw [h _ (by omega) (by omega)]
    rfl
theorem held_take {ps : List Pc} {k : Nat} {p : Pc} (h : ps[k]? = some p) : heldL (ps.take (k + 1)) = heldL (ps.take k) + p.2.length := by
  rw [take_snoc h, held_append]
  simp [heldL]
theorem held_take_le' (ps : List Pc) (k : Nat) : heldL (ps.take k) ≤ heldL ps := by
  conv => rhs; rw [← List.take_append_drop k ps]
  rw [held_append]; omega
end Go.Proofs.Ytpdklpeojjkkaaa

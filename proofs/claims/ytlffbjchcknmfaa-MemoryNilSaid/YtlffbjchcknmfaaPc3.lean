/- Bytes with holes as data: what each call makes of them. Plain lists, no program. -/
import Derived.Test.YtlffbjchcknmfaaPc2
namespace Go.Proofs.Ytlffbjchcknmfaa
set_option linter.unusedVariables false
set_option linter.unusedSimpArgs false
theorem filter_none {f : Nat} {ps : List Pc} (h : ∀ p ∈ ps, f ≤ p.1) : ps.filter (fun p => decide (p.1 < f)) = [] := by
  rw [List.filter_eq_nil_iff]
  intro p hp
  have := h p hp
  simp; omega
/-- What is left stands ahead of the hole or behind it; ahead of it: as many as begin there. -/
theorem clear_split {f t size : Nat} (hft : f < t) : ∀ {lo : Nat} {ps : List Pc}, Ord lo ps size →
    ∃ A B, clearL f t ps = A ++ B ∧ A.length = (ps.filter fun p => decide (p.1 < f)).length ∧ (∀ p ∈ A, p.1 + p.2.length ≤ f) ∧ ∀ p ∈ B, t ≤ p.1
  | lo, [], _ => ⟨[], [], rfl, rfl, fun p hp => (by cases hp), fun p hp => (by cases hp)⟩
  | lo, p :: r, ⟨h1, h2, h3, h4⟩ => by
    by_cases c1 : p.1 < f
    · by_cases c2 : t < p.1 + p.2.length
      · have hr : ∀ q ∈ r, t ≤ q.1 ∧ 0 < q.2.length := fun q hq => by have := h4.lo q hq; exact ⟨by omega, this.2.1⟩
        refine ⟨[(p.1, p.2.take (f - p.1))], (max p.1 t, p.2.drop (t - p.1)) :: r, ?_, ?_, ?_, ?_⟩
        · rw [clear_cons, clear_behind hft hr, clearP, if_pos c1, if_pos c2]; rfl
        · rw [List.filter_cons_of_pos (by simpa using c1), filter_none (fun q hq => by have := (hr q hq).1; omega)]; rfl
        · intro q hq
          simp only [List.mem_singleton] at hq
          subst hq
          simp only [List.length_take]; omega
        · intro q hq
          rcases List.mem_cons.1 hq with rfl | hq
          · simp only; omega
          · exact (hr q hq).1
      · obtain ⟨A, B, e, hl, hA, hB⟩ := clear_split hft h4
        refine ⟨(p.1, p.2.take (f - p.1)) :: A, B, ?_, ?_, ?_, hB⟩
        · rw [clear_cons, e, clearP, if_pos c1, if_neg c2]; rfl
        · rw [List.filter_cons_of_pos (by simpa using c1), List.length_cons, List.length_cons, hl]
        · intro q hq
          rcases List.mem_cons.1 hq with rfl | hq
          · simp only [List.length_take]; omega
          · exact hA q hq
    · refine ⟨[], clearL f t (p :: r), rfl, ?_, fun p hp => (by cases hp), fun q hq => ?_⟩
      · have : (p :: r).filter (fun p => decide (p.1 < f)) = [] := filter_none fun q hq => by
          rcases List.mem_cons.1 hq with rfl | hq
          · omega
          · have := h4.lo q hq; omega
        rw [this]
      · have ho := clear_ord (lo := f) hft (show Ord f (p :: r) size from ⟨by omega, h2, h3, h4⟩)
        have := ho.lo q hq
        have := clear_avoid hft (p :: r) q hq
        omega
/-- Put, Cut, Punch: the error (0: none), the pieces, the size. -/
def putM (ps : List Pc) (size : Nat) (a : Int) (bs : List UInt8) : Int × List Pc × Nat :=
  if a < 0 then (2, ps, size)
  else if bs.length = 0 then (0, ps, size)
  else if 1073741824 - (bs.length : Int) < a then (3, ps, size)
  else if 4194304 < heldL (clearL a.toNat (a.toNat + bs.length) ps) + bs.length then (3, ps, size)
  else (0, insL (clearL a.toNat (a.toNat + bs.length) ps) a.toNat bs, max size (a.toNat + bs.length))
def cutM (ps : List Pc) (size : Nat) (n : Int) : Int × List Pc × Nat :=
  if n < 0 then (2, ps, size)
  else if 1073741824 < n then (3, ps, size)
  else (0, if n < size then clearL n.toNat size ps else ps, n.toNat)
def punchM (ps : List Pc) (size : Nat) (a n : Int) : Int × List Pc × Nat :=
  if a < 0 ∨ n < 0 then (2, ps, size)
  else (0, if a < size ∧ 0 < n then clearL a.toNat (a + min n (size - a)).toNat ps else ps, size)
theorem putM_canon {ps : List Pc} {size : Nat} (h : Canon ps size) (a : Int) (bs : List UInt8) : Canon (putM ps size a bs).2.1 (putM ps size a bs).2.2 := by
  unfold putM
  split
  · exact h
  split
  · exact h
  split
  · exact h
  split
  · exact h
  · rename_i h1 h2 h3 h4
    have hlt : a.toNat < a.toNat + bs.length := by omega
    refine ⟨ins_ord (clear_ord hlt h.ord) (clear_avoid hlt ps) (Nat.zero_le _) (by omega), ?_, ?_⟩
    · have := h.size
      simp only; omega
    · rw [ins_held]; omega
theorem cutM_canon {ps : List Pc} {size : Nat} (h : Canon ps size) (n : Int) : Canon (cutM ps size n).2.1 (cutM ps size n).2.2 := by
  unfold cutM
  split
  · exact h
  split
  · exact h
  · rename_i h1 h2
    simp only
    split
    · rename_i h3
      have hlt : n.toNat < size := by omega
      exact ⟨clear_cut hlt h.ord (by omega), by have := h.size; omega, Nat.le_trans (clear_held hlt ps) h.held⟩
    · exact ⟨h.ord.mono (Nat.le_refl _) (by omega), by omega, h.held⟩
theorem punchM_canon {ps : List Pc} {size : Nat} (h : Canon ps size) (a n : Int) : Canon (punchM ps size a n).2.1 (punchM ps size a n).2.2 := by
  unfold punchM
  split
  · exact h
  · rename_i h1
    simp only
    split
    · rename_i h3
      have hlt : a.toNat < (a + min n (size - a)).toNat := by omega
      exact ⟨clear_ord hlt h.ord, h.size, Nat.le_trans (clear_held hlt ps) h.held⟩
    · exact h
end Go.Proofs.Ytlffbjchcknmfaa

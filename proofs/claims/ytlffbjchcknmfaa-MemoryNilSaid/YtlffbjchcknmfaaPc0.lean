/- Bytes with holes as data: pieces in order, none of which touch. Plain lists, no program. -/
namespace Go.Proofs.Ytlffbjchcknmfaa
set_option linter.unusedVariables false
set_option linter.unusedSimpArgs false
/-- A piece: where it stands, its bytes. -/
abbrev Pc := Nat × List UInt8
/-- Pieces in order, none of them empty, none of which touch, up to a size. lo: the first one begins there or behind. -/
def Ord (lo : Nat) : List Pc → Nat → Prop
  | [], size => lo ≤ size + 1
  | p :: r, size => lo ≤ p.1 ∧ 0 < p.2.length ∧ p.1 + p.2.length ≤ size ∧ Ord (p.1 + p.2.length + 1) r size
def heldL (ps : List Pc) : Nat := (ps.map fun p => p.2.length).sum
structure Canon (ps : List Pc) (size : Nat) : Prop where
  ord : Ord 0 ps size
  size : size ≤ 1073741824
  held : heldL ps ≤ 4194304
/-- What is left of a piece, of pieces, behind a hole. -/
def clearP (f t : Nat) (p : Pc) : List Pc :=
  (if p.1 < f then [(p.1, p.2.take (f - p.1))] else []) ++ (if t < p.1 + p.2.length then [(max p.1 t, p.2.drop (t - p.1))] else [])
def clearL (f t : Nat) (ps : List Pc) : List Pc := ps.flatMap (clearP f t)
/-- Bytes are laid where there are none; what touches becomes one. -/
def insL : List Pc → Nat → List UInt8 → List Pc
  | [], a, bs => [(a, bs)]
  | p :: r, a, bs =>
    if p.1 + p.2.length < a then p :: insL r a bs
    else if p.1 + p.2.length = a then insL r p.1 (p.2 ++ bs)
    else if p.1 = a + bs.length then (a, bs ++ p.2) :: r
    else (a, bs) :: p :: r
/-- The byte at a place, if one is written there. -/
def absL : List Pc → Nat → Option UInt8
  | [], _ => none
  | p :: r, i => if p.1 ≤ i ∧ i < p.1 + p.2.length then p.2[i - p.1]? else absL r i

theorem Ord.mono {lo lo' size size' : Nat} : ∀ {ps : List Pc}, Ord lo ps size → lo' ≤ lo → size ≤ size' → Ord lo' ps size'
  | [], h, h1, h2 => by simp only [Ord] at *; omega
  | p :: r, ⟨a, b, c, d⟩, h1, h2 => ⟨by omega, b, by omega, Ord.mono d (Nat.le_refl _) h2⟩
theorem Ord.lo {lo size : Nat} : ∀ {ps : List Pc}, Ord lo ps size → ∀ p ∈ ps, lo ≤ p.1 ∧ 0 < p.2.length ∧ p.1 + p.2.length ≤ size
  | [], _, p, hp => by cases hp
  | q :: r, ⟨a, b, c, d⟩, p, hp => by
    rcases List.mem_cons.1 hp with rfl | hp
    · exact ⟨a, b, c⟩
    · have := Ord.lo d p hp; exact ⟨by omega, this.2⟩
theorem Ord.size {lo size : Nat} : ∀ {ps : List Pc}, Ord lo ps size → lo ≤ size + 1
  | [], h => h
  | q :: r, ⟨a, b, c, d⟩ => by omega
theorem abs_lo {lo size i : Nat} : ∀ {ps : List Pc}, Ord lo ps size → i < lo → absL ps i = none
  | [], _, _ => rfl
  | p :: r, ⟨a, b, c, d⟩, h => by
    simp only [absL]
    rw [if_neg (by omega)]
    exact abs_lo d (by omega)
theorem abs_size {lo size i : Nat} : ∀ {ps : List Pc}, Ord lo ps size → size ≤ i → absL ps i = none
  | [], _, _ => rfl
  | p :: r, ⟨a, b, c, d⟩, h => by
    simp only [absL]
    rw [if_neg (by omega)]
    exact abs_size d h
theorem held_cons (p : Pc) (r : List Pc) : heldL (p :: r) = p.2.length + heldL r := by simp [heldL]
theorem held_append (l r : List Pc) : heldL (l ++ r) = heldL l + heldL r := by simp [heldL]
theorem clear_nil (f t : Nat) : clearL f t [] = [] := rfl
theorem clear_cons (f t : Nat) (p : Pc) (r : List Pc) : clearL f t (p :: r) = clearP f t p ++ clearL f t r := rfl
theorem clear_append (f t : Nat) (l r : List Pc) : clearL f t (l ++ r) = clearL f t l ++ clearL f t r := by simp [clearL]
/-- A piece ahead of the hole, or behind it, stays. -/
theorem clearP_ahead {f t : Nat} {p : Pc} (h : p.1 + p.2.length ≤ f) (hft : f < t) (h0 : 0 < p.2.length) : clearP f t p = [p] := by
  unfold clearP
  rw [if_pos (by omega), if_neg (by omega), List.take_of_length_le (by omega)]
  rfl
theorem clearP_behind {f t : Nat} {p : Pc} (h : t ≤ p.1) (hft : f < t) (h0 : 0 < p.2.length) : clearP f t p = [p] := by
  unfold clearP
  rw [if_neg (by omega), if_pos (by omega), Nat.sub_eq_zero_of_le h, Nat.max_eq_left h]
  rfl
theorem clear_ahead {f t : Nat} (hft : f < t) : ∀ {ps : List Pc}, (∀ p ∈ ps, p.1 + p.2.length ≤ f ∧ 0 < p.2.length) → clearL f t ps = ps
  | [], _ => rfl
  | p :: r, h => by
    rw [clear_cons, clearP_ahead (h p (by simp)).1 hft (h p (by simp)).2, clear_ahead hft (fun q hq => h q (by simp [hq]))]
    rfl
theorem clear_behind {f t : Nat} (hft : f < t) : ∀ {ps : List Pc}, (∀ p ∈ ps, t ≤ p.1 ∧ 0 < p.2.length) → clearL f t ps = ps
  | [], _ => rfl
  | p :: r, h => by
    rw [clear_cons, clearP_behind (h p (by simp)).1 hft (h p (by simp)).2, clear_behind hft (fun q hq => h q (by simp [hq]))]
    rfl
theorem ord_cons2 {lo size : Nat} {p : Pc} {r : List Pc} (h1 : lo ≤ p.1) (h2 : 0 < p.2.length) (h3 : p.1 + p.2.length ≤ size) (h4 : Ord (p.1 + p.2.length + 1) r size) : Ord lo (p :: r) size := ⟨h1, h2, h3, h4⟩
/-- A hole leaves pieces in order. -/
theorem clear_ord {f t size : Nat} (hft : f < t) : ∀ {lo : Nat} {ps : List Pc}, Ord lo ps size → Ord lo (clearL f t ps) size
  | lo, [], h => h
  | lo, p :: r, ⟨a, b, c, d⟩ => by
    have ih := clear_ord hft d
    rw [clear_cons]
    unfold clearP
    by_cases h1 : p.1 < f
    · by_cases h2 : t < p.1 + p.2.length
      · rw [if_pos h1, if_pos h2]
        refine ⟨a, ?_, ?_, ?_, ?_, ?_, ih.mono ?_ (Nat.le_refl _)⟩ <;> simp only [List.length_take, List.length_drop] <;> omega
      · rw [if_pos h1, if_neg h2]
        refine ⟨a, ?_, ?_, ih.mono ?_ (Nat.le_refl _)⟩ <;> simp only [List.length_take] <;> omega
    · by_cases h2 : t < p.1 + p.2.length
      · rw [if_neg h1, if_pos h2]
        refine ⟨?_, ?_, ?_, ih.mono ?_ (Nat.le_refl _)⟩ <;> simp only [List.length_drop] <;> omega
      · rw [if_neg h1, if_neg h2]
        exact ih.mono (by omega) (Nat.le_refl _)
/-- Where the hole reaches to the end, all ends ahead of it. -/
theorem clear_cut {f t : Nat} (hft : f < t) : ∀ {lo : Nat} {ps : List Pc}, Ord lo ps t → lo ≤ f + 1 → Ord lo (clearL f t ps) f
  | lo, [], h, h0 => h0
  | lo, p :: r, ⟨a, b, c, d⟩, h0 => by
    rw [clear_cons]
    unfold clearP
    rw [if_neg (show ¬ t < p.1 + p.2.length by omega)]
    by_cases h1 : p.1 < f
    · rw [if_pos h1]
      by_cases h3 : p.1 + p.2.length ≤ f
      · have ih := clear_cut hft d (by omega)
        refine ⟨a, ?_, ?_, ih.mono ?_ (Nat.le_refl _)⟩ <;> simp only [List.length_take] <;> omega
      · have hr : clearL f t r = [] := by
          unfold clearL
          rw [List.flatMap_eq_nil_iff]
          intro q hq
          have := d.lo q hq
          unfold clearP
          rw [if_neg (by omega), if_neg (by omega)]
          rfl
        rw [hr]
        show Ord lo [(p.1, p.2.take (f - p.1))] f
        refine ⟨a, ?_, ?_, ?_⟩ <;> simp only [List.length_take, Ord] <;> omega
    · rw [if_neg h1]
      have hr : clearL f t r = [] := by
        unfold clearL
        rw [List.flatMap_eq_nil_iff]
        intro q hq
        have := d.lo q hq
        unfold clearP
        rw [if_neg (by omega), if_neg (by omega)]
        rfl
      rw [hr]
      exact h0
theorem clear_held {f t : Nat} (hft : f < t) : ∀ (ps : List Pc), heldL (clearL f t ps) ≤ heldL ps
  | [] => Nat.le_refl _
  | p :: r => by
    have ih := clear_held hft r
    rw [clear_cons, held_append, held_cons]
    have : heldL (clearP f t p) ≤ p.2.length := by
      unfold clearP
      by_cases h1 : p.1 < f <;> by_cases h2 : t < p.1 + p.2.length <;> simp [h1, h2, heldL] <;> omega
    omega
theorem clear_avoid {f t : Nat} (hft : f < t) (ps : List Pc) : ∀ p ∈ clearL f t ps, p.1 + p.2.length ≤ f ∨ t ≤ p.1 := by
  intro p hp
  simp only [clearL, List.mem_flatMap] at hp
  obtain ⟨q, _, hp⟩ := hp
  unfold clearP at hp
  rcases List.mem_append.1 hp with hp | hp
  · split at hp
    · simp only [List.mem_singleton] at hp
      subst hp
      simp only [List.length_take]
      omega
    · cases hp
  · split at hp
    · simp only [List.mem_singleton] at hp
      subst hp
      simp only
      omega
    · cases hp
theorem abs_append_none {l r : List Pc} {i : Nat} (h : ∀ p ∈ l, ¬ (p.1 ≤ i ∧ i < p.1 + p.2.length)) : absL (l ++ r) i = absL r i := by
  induction l with
  | nil => rfl
  | cons p l ih =>
    simp only [List.cons_append, absL]
    rw [if_neg (h p (by simp))]
    exact ih (fun q hq => h q (by simp [hq]))
/-- What is read behind a hole. -/
theorem abs_clear {f t size i : Nat} (hft : f < t) : ∀ {lo : Nat} {ps : List Pc}, Ord lo ps size → absL (clearL f t ps) i = if f ≤ i ∧ i < t then none else absL ps i
  | lo, [], h => by simp [clear_nil, absL]
  | lo, p :: r, ⟨a, b, c, d⟩ => by
    have ih := abs_clear (i := i) hft d
    rw [clear_cons]
    unfold clearP
    simp only [absL]
    by_cases hi : f ≤ i ∧ i < t
    · rw [if_pos hi] at ih ⊢
      by_cases h1 : p.1 < f <;> by_cases h2 : t < p.1 + p.2.length <;> simp only [h1, h2, if_true, if_false, List.nil_append, List.cons_append, absL, List.length_take, List.length_drop]
      · rw [if_neg (by omega), if_neg (by omega)]; exact ih
      · rw [if_neg (by omega)]; exact ih
      · rw [if_neg (by omega)]; exact ih
      · exact ih
    · rw [if_neg hi] at ih ⊢
      by_cases hp : p.1 ≤ i ∧ i < p.1 + p.2.length
      · rw [if_pos hp]
        by_cases hif : i < f
        · have h1 : p.1 < f := by omega
          simp only [h1, if_true, List.cons_append, absL, List.length_take]
          rw [if_pos (by omega), List.getElem?_take_of_lt (by omega)]
        · have h2 : t < p.1 + p.2.length := by omega
          have key : ∀ q : List Pc, absL ((max p.1 t, p.2.drop (t - p.1)) :: q) i = p.2[i - p.1]? := fun q => by
            simp only [absL, List.length_drop]
            rw [if_pos (by omega), List.getElem?_drop]
            congr 1
            omega
          by_cases h1 : p.1 < f
          · simp only [h1, h2, if_true, List.cons_append, List.nil_append]
            rw [absL]
            simp only [List.length_take]
            rw [if_neg (by omega)]
            exact key _
          · simp only [h1, h2, if_true, if_false, List.cons_append, List.nil_append]
            exact key _
      · rw [if_neg hp]
        by_cases h1 : p.1 < f <;> by_cases h2 : t < p.1 + p.2.length <;> simp only [h1, h2, if_true, if_false, List.nil_append, List.cons_append, absL, List.length_take, List.length_drop]
        · rw [if_neg (by omega), if_neg (by omega)]; exact ih
        · rw [if_neg (by omega)]; exact ih
        · rw [if_neg (by omega)]; exact ih
        · exact ih
end Go.Proofs.Ytlffbjchcknmfaa

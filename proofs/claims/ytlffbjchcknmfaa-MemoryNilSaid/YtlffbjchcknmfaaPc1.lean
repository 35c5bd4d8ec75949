/- Bytes with holes as data: what is laid. Plain lists, no program. -/
import Derived.Test.YtlffbjchcknmfaaPc0
namespace Go.Proofs.Ytlffbjchcknmfaa
set_option linter.unusedVariables false
set_option linter.unusedSimpArgs false
theorem ins_ord {size : Nat} : ∀ {lo : Nat} {l : List Pc} {a : Nat} {bs : List UInt8}, Ord lo l size → (∀ p ∈ l, p.1 + p.2.length ≤ a ∨ a + bs.length ≤ p.1) → lo ≤ a → 0 < bs.length → Ord lo (insL l a bs) (max size (a + bs.length))
  | lo, [], a, bs, h, hav, h1, h2 => by
    simp only [insL, Ord] at *
    refine ⟨h1, h2, by omega, by omega⟩
  | lo, p :: r, a, bs, ⟨h3, h4, h5, h6⟩, hav, h1, h2 => by
    have hp := hav p (by simp)
    have hr : ∀ q ∈ r, q.1 + q.2.length ≤ a ∨ a + bs.length ≤ q.1 := fun q hq => hav q (by simp [hq])
    unfold insL
    by_cases c1 : p.1 + p.2.length < a
    · rw [if_pos c1]
      exact ⟨h3, h4, by omega, ins_ord h6 hr (by omega) h2⟩
    · rw [if_neg c1]
      by_cases c2 : p.1 + p.2.length = a
      · rw [if_pos c2]
        have := ins_ord (lo := lo) (a := p.1) (bs := p.2 ++ bs) (h6.mono (by omega) (Nat.le_refl _)) (fun q hq => by
          have e1 := h6.lo q hq
          have e2 := hr q hq
          rw [List.length_append]
          omega) h3 (by rw [List.length_append]; omega)
        rw [List.length_append, ← Nat.add_assoc, c2] at this
        exact this
      · rw [if_neg c2]
        by_cases c3 : p.1 = a + bs.length
        · rw [if_pos c3]
          refine ⟨h1, by simp; omega, by simp; omega, h6.mono (by simp; omega) (by omega)⟩
        · rw [if_neg c3]
          exact ⟨h1, h2, by simp; omega, ⟨by simp; omega, h4, by omega, h6.mono (Nat.le_refl _) (by omega)⟩⟩
theorem ins_held : ∀ (l : List Pc) (a : Nat) (bs : List UInt8), heldL (insL l a bs) = heldL l + bs.length
  | [], a, bs => by simp [insL, heldL]
  | p :: r, a, bs => by
    unfold insL
    split
    · rw [held_cons, held_cons, ins_held r a bs]; omega
    · split
      · rw [ins_held r, held_cons, List.length_append]; omega
      · split
        · rw [held_cons, held_cons]; simp; omega
        · rw [held_cons, held_cons]; simp; omega
theorem abs_ins {size i : Nat} : ∀ {lo : Nat} {l : List Pc} {a : Nat} {bs : List UInt8}, Ord lo l size → (∀ p ∈ l, p.1 + p.2.length ≤ a ∨ a + bs.length ≤ p.1) → 0 < bs.length →
    absL (insL l a bs) i = if a ≤ i ∧ i < a + bs.length then bs[i - a]? else absL l i
  | lo, [], a, bs, h, hav, h2 => by simp [insL, absL]
  | lo, p :: r, a, bs, ⟨h3, h4, h5, h6⟩, hav, h2 => by
    have hp := hav p (by simp)
    have hr : ∀ q ∈ r, q.1 + q.2.length ≤ a ∨ a + bs.length ≤ q.1 := fun q hq => hav q (by simp [hq])
    unfold insL
    by_cases c1 : p.1 + p.2.length < a
    · rw [if_pos c1]
      simp only [absL]
      by_cases hi : p.1 ≤ i ∧ i < p.1 + p.2.length
      · rw [if_pos hi, if_neg (by omega), if_pos hi]
      · rw [if_neg hi, if_neg hi]
        exact abs_ins h6 hr h2
    · rw [if_neg c1]
      by_cases c2 : p.1 + p.2.length = a
      · rw [if_pos c2]
        have ih := abs_ins (i := i) (a := p.1) (bs := p.2 ++ bs) h6 (fun q hq => by
          have e1 := h6.lo q hq
          have e2 := hr q hq
          rw [List.length_append]
          omega) (by rw [List.length_append]; omega)
        rw [ih, List.length_append]
        simp only [absL]
        by_cases hi : p.1 ≤ i ∧ i < p.1 + p.2.length
        · rw [if_pos (by omega), if_neg (by omega), if_pos hi, List.getElem?_append_left (by omega)]
        · by_cases hj : a ≤ i ∧ i < a + bs.length
          · rw [if_pos (by omega), if_pos hj, List.getElem?_append_right (by omega)]
            congr 1; omega
          · rw [if_neg (by omega), if_neg hj, if_neg hi]
      · rw [if_neg c2]
        by_cases c3 : p.1 = a + bs.length
        · rw [if_pos c3]
          simp only [absL, List.length_append]
          by_cases hj : a ≤ i ∧ i < a + bs.length
          · rw [if_pos (by omega), if_pos hj, List.getElem?_append_left (by omega)]
          · rw [if_neg hj]
            by_cases hi : p.1 ≤ i ∧ i < p.1 + p.2.length
            · rw [if_pos (by omega), if_pos hi, List.getElem?_append_right (by omega)]
              congr 1; omega
            · rw [if_neg (by omega), if_neg hi]
        · rw [if_neg c3]
          simp only [absL]
/-- One content, one list of pieces. -/
theorem abs_uniq {s s' : Nat} : ∀ {lo lo' : Nat} {ps qs : List Pc}, Ord lo ps s → Ord lo' qs s' → (∀ i, absL ps i = absL qs i) → ps = qs
  | lo, lo', [], [], _, _, _ => rfl
  | lo, lo', [], q :: r, _, ⟨_, h4, _, _⟩, h => by
    have := h q.1
    simp only [absL] at this
    rw [if_pos (by omega), Nat.sub_self, List.getElem?_eq_getElem (by omega)] at this
    cases this
  | lo, lo', p :: r, [], ⟨_, h4, _, _⟩, _, h => by
    have := h p.1
    simp only [absL] at this
    rw [if_pos (by omega), Nat.sub_self, List.getElem?_eq_getElem (by omega)] at this
    cases this
  | lo, lo', p :: r, q :: r', ⟨h3, h4, h5, h6⟩, ⟨g3, g4, g5, g6⟩, h => by
    have hsome : ∀ (p : Pc) (r : List Pc) k, k < p.2.length → absL (p :: r) (p.1 + k) = p.2[k]? := fun p r k hk => by
      simp only [absL]
      rw [if_pos (by omega)]
      congr 1; omega
    have ep : ∀ (p : Pc) (k : Nat), k < p.2.length → p.2[k]? ≠ none := fun p k hk => by
      rw [List.getElem?_eq_getElem hk]; exact Option.some_ne_none _
    have e1 : p.1 = q.1 := by
      rcases Nat.lt_trichotomy p.1 q.1 with hlt | heq | hgt
      · have a1 := hsome p r 0 h4
        have a2 : absL (q :: r') p.1 = none := abs_lo (lo := q.1) (size := s') ⟨Nat.le_refl _, g4, g5, g6⟩ hlt
        rw [Nat.add_zero, h, a2] at a1
        exact absurd a1.symm (ep p 0 h4)
      · exact heq
      · have a1 := hsome q r' 0 g4
        have a2 : absL (p :: r) q.1 = none := abs_lo (lo := p.1) (size := s) ⟨Nat.le_refl _, h4, h5, h6⟩ hgt
        rw [Nat.add_zero, ← h, a2] at a1
        exact absurd a1.symm (ep q 0 g4)
    have hend : ∀ (p : Pc) (r : List Pc) (s : Nat), Ord (p.1 + p.2.length + 1) r s → absL (p :: r) (p.1 + p.2.length) = none := fun p r s ho => by
      simp only [absL]
      rw [if_neg (by omega)]
      exact abs_lo ho (by omega)
    have e2 : p.2.length = q.2.length := by
      rcases Nat.lt_trichotomy p.2.length q.2.length with hlt | heq | hgt
      · have a1 := hend p r s h6
        rw [h, e1, hsome q r' _ hlt] at a1
        exact absurd a1 (ep q _ hlt)
      · exact heq
      · have a1 := hend q r' s' g6
        rw [← h, ← e1, hsome p r _ hgt] at a1
        exact absurd a1 (ep p _ hgt)
    have e3 : p.2 = q.2 := by
      apply List.ext_getElem?
      intro k
      by_cases hk : k < p.2.length
      · rw [← hsome p r k hk, h, e1, hsome q r' k (by omega)]
      · rw [List.getElem?_eq_none (by omega), List.getElem?_eq_none (by omega)]
    have e4 : p = q := Prod.ext e1 e3
    subst e4
    have e5 : r = r' := abs_uniq h6 g6 fun i => by
      by_cases hi : i < p.1 + p.2.length + 1
      · rw [abs_lo h6 hi, abs_lo g6 hi]
      · have := h i
        simp only [absL] at this
        rwa [if_neg (by omega), if_neg (by omega)] at this
    rw [e5]
theorem ins_skip {A X : List Pc} {a : Nat} {bs : List UInt8} (h : ∀ q ∈ A, q.1 + q.2.length < a) : insL (A ++ X) a bs = A ++ insL X a bs := by
  induction A with
  | nil => rfl
  | cons p A ih =>
    rw [List.cons_append, insL, if_pos (h p (by simp)), ih (fun q hq => h q (by simp [hq]))]
    rfl
/-- What stands behind what is laid. -/
def tailM (B : List Pc) (a : Nat) (bs : List UInt8) : List Pc :=
  match B with
  | [] => [(a, bs)]
  | q :: r => if q.1 = a + bs.length then (a, bs ++ q.2) :: r else (a, bs) :: q :: r
theorem ins_tail {B : List Pc} {a : Nat} {bs : List UInt8} (h : ∀ q ∈ B, a + bs.length ≤ q.1 ∧ 0 < q.2.length) : insL B a bs = tailM B a bs := by
  cases B with
  | nil => rfl
  | cons q r =>
    have := h q (by simp)
    unfold insL tailM
    rw [if_neg (by omega), if_neg (by omega)]
theorem ins_touch {p : Pc} {X : List Pc} {bs : List UInt8} : insL (p :: X) (p.1 + p.2.length) bs = insL X p.1 (p.2 ++ bs) := by
  rw [insL, if_neg (Nat.lt_irrefl _), if_pos rfl]
/-- Pieces, parted where a hole stands. -/
theorem ord_append {lo size : Nat} : ∀ {A B : List Pc}, Ord lo (A ++ B) size → ∀ p ∈ A, ∀ q ∈ B, p.1 + p.2.length + 1 ≤ q.1
  | [], B, _, p, hp => by cases hp
  | x :: A, B, ⟨h1, h2, h3, h4⟩, p, hp => fun q hq => by
    rcases List.mem_cons.1 hp with rfl | hp
    · exact (h4.lo q (by simp [hq])).1
    · exact ord_append h4 p hp q hq
theorem ord_left {lo size : Nat} : ∀ {A B : List Pc}, Ord lo (A ++ B) size → Ord lo A size
  | [], B, h => h.size
  | x :: A, B, ⟨h1, h2, h3, h4⟩ => ⟨h1, h2, h3, ord_left h4⟩
theorem ord_right {lo size : Nat} : ∀ {A B : List Pc}, Ord lo (A ++ B) size → Ord lo B size
  | [], B, h => h
  | x :: A, B, ⟨h1, h2, h3, h4⟩ => (ord_right h4).mono (by omega) (Nat.le_refl _)
/-- Bytes laid within a piece. -/
theorem ins_within {lo size a : Nat} {A B : List Pc} {p : Pc} {bs : List UInt8} (ho : Ord lo (A ++ p :: B) size) (h1 : p.1 ≤ a) (h2 : a + bs.length ≤ p.1 + p.2.length) (h3 : 0 < bs.length) :
    insL (clearL a (a + bs.length) (A ++ p :: B)) a bs = A ++ (p.1, p.2.take (a - p.1) ++ bs ++ p.2.drop (a - p.1 + bs.length)) :: B := by
  have hA : ∀ q ∈ A, q.1 + q.2.length < a := fun q hq => by have := ord_append ho q hq p (by simp); omega
  have hB : ∀ q ∈ B, p.1 + p.2.length + 1 ≤ q.1 ∧ 0 < q.2.length := fun q hq => by
    obtain ⟨_, _, _, h4⟩ := ord_right ho
    exact ⟨(h4.lo q hq).1, (h4.lo q hq).2.1⟩
  rw [clear_append, clear_cons, clear_ahead (by omega) (fun q hq => ⟨by have := hA q hq; omega, ((ord_left ho).lo q hq).2.1⟩), clear_behind (by omega) (fun q hq => ⟨by have := hB q hq; omega, (hB q hq).2⟩), ins_skip hA]
  congr 1
  unfold clearP
  have hmax : ∀ x, x = a + bs.length → max p.1 x = a + bs.length := fun x hx => by omega
  by_cases c1 : p.1 < a
  · rw [if_pos c1]
    have key : ∀ X, insL ((p.1, p.2.take (a - p.1)) :: X) a bs = insL X p.1 (p.2.take (a - p.1) ++ bs) := fun X => by
      rw [insL]
      simp only [List.length_take]
      rw [if_neg (by omega), if_pos (by omega)]
    by_cases c2 : a + bs.length < p.1 + p.2.length
    · rw [if_pos c2]
      simp only [List.cons_append, List.nil_append]
      rw [key, insL]
      simp only [List.length_take, List.length_drop, List.length_append]
      rw [if_neg (by omega), if_neg (by omega), if_pos (by omega)]
      congr 2
      congr 2
      omega
    · rw [if_neg c2]
      simp only [List.cons_append, List.nil_append, List.append_nil]
      rw [key, List.drop_of_length_le (by omega), List.append_nil]
      rw [ins_tail (fun q hq => by have := hB q hq; simp only [List.length_append, List.length_take]; omega)]
      cases B with
      | nil => rfl
      | cons q r =>
        have := hB q (by simp)
        unfold tailM
        simp only [List.length_append, List.length_take]
        rw [if_neg (by omega)]
  · rw [if_neg c1]
    have e : a = p.1 := by omega
    subst e
    simp only [Nat.sub_self, List.take_zero, List.nil_append, Nat.zero_add]
    by_cases c2 : p.1 + bs.length < p.1 + p.2.length
    · rw [if_pos c2]
      simp only [List.cons_append, List.nil_append]
      rw [insL]
      simp only [List.length_drop]
      rw [if_neg (by omega), if_neg (by omega), if_pos (by omega)]
      congr 2
      congr 1
      congr 1
      omega
    · rw [if_neg c2, List.nil_append, List.drop_of_length_le (by omega), List.append_nil]
      rw [ins_tail (fun q hq => by have := hB q hq; omega)]
      cases B with
      | nil => rfl
      | cons q r =>
        have := hB q (by simp)
        simp only [tailM]
        rw [if_neg (by omega)]
/-- The first stretch that ends behind a place. -/
def nextP : List Pc → Nat → Int → Int × Int
  | [], size, _ => (size, size)
  | p :: r, size, a => if a < (p.1 : Int) + p.2.length then (max a p.1, (p.1 : Int) + p.2.length) else nextP r size a
end Go.Proofs.Ytlffbjchcknmfaa

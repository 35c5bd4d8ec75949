/- Bytes with holes as data: laying as the document's answer does it, piece by piece. -/
import Derived.Test.YtpdklpeojjkkaaaSpan7
import Derived.Test.YtpdklpeojjkkaaaPc4
namespace Go.Proofs.Ytpdklpeojjkkaaa
set_option linter.unusedVariables false
set_option linter.unusedSimpArgs false
/-- What has been gone over: the pieces ahead, the place and the bytes that touch ahead, those that touch behind, the pieces behind. -/
structure LS where
  ah : List MP
  at0 : Nat
  y0 : List UInt8
  y2 : List UInt8
  bh : List MP
def layS (A k : Nat) (s : LS) (m : MP) : LS :=
  if m.at_ + m.bs.length < A then { s with ah := s.ah ++ [m] }
  else if m.at_ + m.bs.length = A then { s with at0 := m.at_, y0 := s.y0 ++ m.bs }
  else if m.at_ = A + k then { s with y2 := m.bs }
  else { s with bh := s.bh ++ [m] }
def LS.list (s : LS) (bs : List UInt8) : List Pc := s.ah.map MP.pc ++ (s.at0, s.y0 ++ bs ++ s.y2) :: s.bh.map MP.pc
theorem lay_far {A k size : Nat} : ∀ (B : List MP) (s : LS) (lo : Nat), Ord lo (B.map MP.pc) size → A + k < lo → 0 < k → (B.foldl (layS A k) s) = { s with bh := s.bh ++ B }
  | [], s, lo, h, hl, hk => by simp
  | m :: r, s, lo, ⟨h1, h2, h3, h4⟩, hl, hk => by
    simp only [MP.pc] at h1 h2 h3 h4
    have e : layS A k s m = { s with bh := s.bh ++ [m] } := by unfold layS; rw [if_neg (by omega), if_neg (by omega), if_neg (by omega)]
    rw [List.foldl_cons, e, lay_far r _ _ h4 (by omega) hk]
    simp
theorem lay_behind {A k size : Nat} {bs : List UInt8} (hk : 0 < k) : ∀ (B : List MP) (s : LS) (lo : Nat), Ord lo (B.map MP.pc) size → A + k ≤ lo → s.y2 = [] → s.bh = [] →
    (B.foldl (layS A k) s).list bs = s.ah.map MP.pc ++ (match B.map MP.pc with | [] => [(s.at0, s.y0 ++ bs)] | q :: r => if q.1 = A + k then (s.at0, s.y0 ++ bs ++ q.2) :: r else (s.at0, s.y0 ++ bs) :: q :: r)
  | [], s, lo, h, hl, e1, e2 => by simp [LS.list, e1, e2]
  | m :: r, s, lo, ⟨h1, h2, h3, h4⟩, hl, e1, e2 => by
    simp only [MP.pc] at h1 h2 h3 h4
    rw [List.foldl_cons]
    by_cases e : m.at_ = A + k
    · have e3 : layS A k s m = { s with y2 := m.bs } := by unfold layS; rw [if_neg (by omega), if_neg (by omega), if_pos e]
      rw [e3, lay_far r _ _ h4 (by omega) hk]
      simp [LS.list, e2, MP.pc, e]
    · have e3 : layS A k s m = { s with bh := s.bh ++ [m] } := by unfold layS; rw [if_neg (by omega), if_neg (by omega), if_neg e]
      rw [e3, lay_far r _ _ h4 (by omega) hk]
      simp [LS.list, e1, e2, MP.pc, e]
theorem lay_all {A size : Nat} {bs : List UInt8} (hk : 0 < bs.length) : ∀ (B : List MP) (P : List MP) (lo : Nat), Ord lo (B.map MP.pc) size → (∀ p ∈ B.map MP.pc, p.1 + p.2.length ≤ A ∨ A + bs.length ≤ p.1) →
    (B.foldl (layS A bs.length) ⟨P, A, [], [], []⟩).list bs = P.map MP.pc ++ insL (B.map MP.pc) A bs
  | [], P, lo, h, hav => by simp [LS.list, insL]
  | m :: r, P, lo, ⟨h1, h2, h3, h4⟩, hav => by
    have hm := hav m.pc (by simp)
    have h5 : ∀ q ∈ r.map MP.pc, m.at_ + m.bs.length + 1 ≤ q.1 ∧ 0 < q.2.length := fun q hq => by have := h4.lo q hq; simp only [MP.pc] at this; exact ⟨this.1, this.2.1⟩
    simp only [MP.pc] at h1 h2 h3 h4 hm
    rw [List.foldl_cons]
    by_cases c1 : m.at_ + m.bs.length < A
    · have e : layS A bs.length ⟨P, A, [], [], []⟩ m = ⟨P ++ [m], A, [], [], []⟩ := by unfold layS; rw [if_pos c1]
      rw [e, lay_all hk r _ _ h4 (fun p hp => hav p (by simp [hp]))]
      rw [List.map_cons, insL, if_pos (by simpa [MP.pc] using c1)]
      simp
    by_cases c2 : m.at_ + m.bs.length = A
    · have e : layS A bs.length ⟨P, A, [], [], []⟩ m = ⟨P, m.at_, m.bs, [], []⟩ := by unfold layS; rw [if_neg c1, if_pos c2]; simp
      have hb : ∀ q ∈ r.map MP.pc, A + bs.length ≤ q.1 ∧ 0 < q.2.length := fun q hq => by
        have h6 := h5 q hq
        have := hav q (by simp only [List.map_cons, List.mem_cons]; exact .inr hq)
        exact ⟨by omega, h6.2⟩
      have ho : Ord (A + bs.length) (r.map MP.pc) size ∨ r = [] := by
        cases r with
        | nil => exact .inr rfl
        | cons q r' => exact .inl ⟨(hb q.pc (by simp)).1, h4.2.1, h4.2.2.1, h4.2.2.2⟩
      rw [e, List.map_cons, insL, if_neg (by simpa [MP.pc] using c1), if_pos (by simpa [MP.pc] using c2)]
      rw [ins_tail (fun q hq => by have := hb q hq; simp only [MP.pc, List.length_append]; omega)]
      rcases ho with ho | rfl
      · rw [lay_behind hk r _ _ ho (Nat.le_refl _) rfl rfl]
        simp only [MP.pc]
        congr 1
        unfold tailM
        simp only [List.length_append, ← Nat.add_assoc, c2]
        generalize r.map MP.pc = R
        cases R <;> rfl
      · simp [LS.list, tailM, MP.pc]
    · have hge : A + bs.length ≤ m.at_ := by omega
      rw [← List.foldl_cons, lay_behind hk (m :: r) _ m.at_ ⟨Nat.le_refl _, h2, h3, h4⟩ hge rfl rfl]
      congr 1
      rw [ins_tail (fun q hq => by
        rcases List.mem_cons.1 hq with rfl | hq
        · exact ⟨hge, h2⟩
        · have := h5 q hq; exact ⟨by omega, this.2⟩)]
      simp [tailM]
end Go.Proofs.Ytpdklpeojjkkaaa

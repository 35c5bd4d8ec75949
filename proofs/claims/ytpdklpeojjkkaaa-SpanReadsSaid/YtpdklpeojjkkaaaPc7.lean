/- Bytes with holes as data: what was put is read there; two that do not meet go either way round. -/
import Derived.Test.YtpdklpeojjkkaaaPc6
namespace Go.Proofs.Ytpdklpeojjkkaaa
set_option linter.unusedVariables false
set_option linter.unusedSimpArgs false
theorem putM_ok {ps : List Pc} {size : Nat} {a : Int} {bs : List UInt8} (h : (putM ps size a bs).1 = 0) : 0 ≤ a ∧ (bs.length = 0 ∨ a + bs.length ≤ 1073741824) := by
  unfold putM at h
  split at h
  · simp at h
  split at h
  · omega
  split at h
  · simp at h
  · omega
theorem putM_size {ps : List Pc} {size : Nat} {a : Int} {bs : List UInt8} (h : (putM ps size a bs).1 = 0) (h0 : 0 < bs.length) : (putM ps size a bs).2.2 = max size (a.toNat + bs.length) := by
  have hk := putM_ok h
  unfold putM at h ⊢
  rw [if_neg (by omega), if_neg (by omega), if_neg (by omega)] at h ⊢
  split at h
  · simp at h
  · rename_i hc
    rw [if_neg hc]
theorem putM_none {ps : List Pc} {size : Nat} {a : Int} {bs : List UInt8} (h : (putM ps size a bs).1 ≠ 0 ∨ bs.length = 0) : (putM ps size a bs).2 = (ps, size) := by
  unfold putM at h ⊢
  split
  · rfl
  split
  · rfl
  split
  · rfl
  split
  · rfl
  · rename_i h1 h2 h3 h4
    rw [if_neg h1, if_neg h2, if_neg h3, if_neg h4] at h
    rcases h with h | h
    · exact absurd rfl h
    · omega
theorem putM_abs {ps : List Pc} {size : Nat} {a : Int} {bs : List UInt8} (hc : Canon ps size) (h : (putM ps size a bs).1 = 0) (i : Nat) :
    absL (putM ps size a bs).2.1 i = if a.toNat ≤ i ∧ i < a.toNat + bs.length then bs[i - a.toNat]? else absL ps i := by
  have hk := putM_ok h
  by_cases h0 : bs.length = 0
  · rw [putM_none (.inr h0), if_neg (by omega)]
  unfold putM at h ⊢
  rw [if_neg (by omega), if_neg h0, if_neg (by omega)] at h ⊢
  split at h
  · simp at h
  · rename_i hcc
    rw [if_neg hcc]
    simp only
    rw [abs_ins (clear_ord (by omega) hc.ord) (clear_avoid (by omega) ps) (by omega), abs_clear (by omega) hc.ord]
    split <;> rfl
theorem getM_back {ps : List Pc} {size : Nat} {a : Int} {bs : List UInt8} (hc : Canon ps size) (h : (putM ps size a bs).1 = 0) (h0 : 0 < bs.length) (hl : bs.length ≤ 65536) : getM (putM ps size a bs).2.1 (putM ps size a bs).2.2 a bs.length = bs := by
  have hk := putM_ok h
  have hs := putM_size h h0
  unfold getM
  rw [if_neg (by rw [hs]; omega)]
  have e : (min (min (bs.length : Int) 65536) (((putM ps size a bs).2.2 : Nat) - a)).toNat = bs.length := by rw [hs]; omega
  rw [e]
  apply List.ext_getElem?
  intro j
  by_cases hj : j < bs.length
  · rw [getP_get _ _ _ _ hj, putM_abs hc h, if_pos (by omega), show a.toNat + j - a.toNat = j by omega, List.getElem?_eq_getElem hj]
    rfl
  · rw [List.getElem?_eq_none (by rw [getP_len]; omega), List.getElem?_eq_none (by omega)]
theorem getM0_len (ps : List Pc) (size : Nat) : (getM ps size 0 2000).length = min 2000 size := by
  unfold getM
  split
  · simp; omega
  · rw [getP_len]; omega
theorem getM0_get {ps : List Pc} {size i : Nat} (h : i < min 2000 size) : (getM ps size 0 2000)[i]? = some ((absL ps i).getD 0) := by
  unfold getM
  rw [if_neg (by omega), show ((0 : Int).toNat) = 0 from rfl]
  rw [getP_get _ _ _ _ (by omega), Nat.zero_add]
/-- Two that do not meet. -/
theorem put_comm {ps : List Pc} {size : Nat} {a b : Int} {xs ys : List UInt8} (hc : Canon ps size)
    (e : (putM ps size a xs).1 = 0) (f : (putM (putM ps size a xs).2.1 (putM ps size a xs).2.2 b ys).1 = 0)
    (g : (putM ps size b ys).1 = 0) (h : (putM (putM ps size b ys).2.1 (putM ps size b ys).2.2 a xs).1 = 0)
    (ap : a + xs.length ≤ b ∨ b + ys.length ≤ a ∨ xs.length = 0 ∨ ys.length = 0) :
    (putM (putM ps size a xs).2.1 (putM ps size a xs).2.2 b ys).2 = (putM (putM ps size b ys).2.1 (putM ps size b ys).2.2 a xs).2 := by
  have c1 := putM_canon hc a xs
  have c2 := putM_canon hc b ys
  have c12 := putM_canon c1 b ys
  have c21 := putM_canon c2 a xs
  have ka := putM_ok e
  have kb := putM_ok g
  refine Prod.ext (abs_uniq c12.ord c21.ord fun i => ?_) ?_
  · rw [putM_abs c1 f, putM_abs hc e, putM_abs c2 h, putM_abs hc g]
    by_cases h1 : b.toNat ≤ i ∧ i < b.toNat + ys.length
    · rw [if_pos h1, if_neg (by omega), if_pos h1]
    · rw [if_neg h1, if_neg h1]
  · by_cases hx : xs.length = 0
    · rw [putM_none (a := a) (bs := xs) (.inr hx), putM_none (a := a) (bs := xs) (.inr hx)]
    by_cases hy : ys.length = 0
    · rw [putM_none (a := b) (bs := ys) (.inr hy), putM_none (a := b) (bs := ys) (.inr hy)]
    rw [putM_size f (by omega), putM_size h (by omega), putM_size e (by omega), putM_size g (by omega)]
    omega
end Go.Proofs.Ytpdklpeojjkkaaa

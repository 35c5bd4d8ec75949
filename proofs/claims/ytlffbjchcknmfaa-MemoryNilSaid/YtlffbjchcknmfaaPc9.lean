/- Bytes with holes as data: all that is read. Plain lists, no program. -/
import Derived.Test.YtlffbjchcknmfaaObj0
import Derived.Test.YtlffbjchcknmfaaPc2
import Derived.Test.YtlffbjchcknmfaaSpan1
namespace Go.Proofs.Ytlffbjchcknmfaa
set_option linter.unusedVariables false
set_option linter.unusedSimpArgs false
theorem getP_add (ps : List Pc) (a n m : Nat) : getP ps a (n + m) = getP ps a n ++ getP ps (a + n) m := by
  apply List.ext_getElem?
  intro j
  by_cases h1 : j < n
  · rw [getP_get _ _ _ _ (by omega), List.getElem?_append_left (by rw [getP_len]; exact h1), getP_get _ _ _ _ h1]
  · rw [List.getElem?_append_right (by rw [getP_len]; omega), getP_len]
    by_cases h2 : j < n + m
    · rw [getP_get _ _ _ _ h2, getP_get _ _ _ _ (by omega), show a + n + (j - n) = a + j by omega]
    · rw [List.getElem?_eq_none (by rw [getP_len]; omega), List.getElem?_eq_none (by rw [getP_len]; omega)]
/-- What All answers. -/
def allM (st : MSt) : Int × List UInt8 := if 4194304 < st.2 then (3, []) else (0, getP st.1 0 st.2)
theorem getM_in {ps : List Pc} {size a n : Nat} (h0 : a < size) (h1 : n ≤ 65536) (h2 : a + n ≤ size) : getM ps size a n = getP ps a n := by
  unfold getM
  rw [if_neg (by omega), Int.toNat_natCast, show (min (min (n : Int) 65536) (size - a)).toNat = n by omega]
theorem rdB_in {st : MSt} {a n : Nat} (h0 : a < st.2) (h1 : n ≤ 65536) (h2 : a + n ≤ st.2) : rdB st a n = getP st.1 a n := by
  unfold rdB
  rw [if_neg (by omega), getM_in h0 h1 h2]
theorem rdE_in {a n : Nat} (h1 : n ≤ 65536) : rdE a n = 0 := by
  unfold rdE
  rw [if_neg (by omega), if_neg (by omega)]
theorem getP_whole (bs : List UInt8) : getP (wholeL bs) 0 bs.length = bs := by
  cases bs with
  | nil => rfl
  | cons x r =>
    apply List.ext_getElem?
    intro j
    by_cases hj : j < (x :: r).length
    · rw [getP_get _ _ _ _ hj]
      simp only [wholeL, absL]
      rw [if_pos (by omega), List.getElem?_eq_getElem (by omega)]
      simp [List.getElem?_eq_getElem hj]
    · rw [List.getElem?_eq_none (by rw [getP_len]; omega), List.getElem?_eq_none (by omega)]
theorem allM_whole {bs : List UInt8} (h : bs.length ≤ 4194304) : allM (wholeL bs, bs.length) = (0, bs) := by
  unfold allM
  rw [if_neg (by simp only; omega), getP_whole]
end Go.Proofs.Ytlffbjchcknmfaa

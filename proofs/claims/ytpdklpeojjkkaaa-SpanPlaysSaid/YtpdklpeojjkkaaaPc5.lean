/- Bytes with holes as data: at the bounds. -/
import Derived.Test.YtpdklpeojjkkaaaPc4
namespace Go.Proofs.Ytpdklpeojjkkaaa
set_option linter.unusedVariables false
set_option linter.unusedSimpArgs false
theorem bnd_full {X bs : List UInt8} (hX : X.length = 4194304) (hb : bs.length = 1) : putM [(0, X)] 4194304 4194304 bs = (3, [(0, X)], 4194304) := by
  unfold putM
  rw [if_neg (by decide), if_neg (by omega), if_neg (by omega)]
  rw [clear_ahead (by omega) (fun p hp => by simp only [List.mem_singleton] at hp; subst hp; simp only; omega)]
  rw [if_pos (by simp [heldL, hX, hb])]
theorem bnd_within {X bs : List UInt8} (hX : X.length = 4194304) (hb : bs.length = 1) : ∃ X' : List UInt8, X'.length = 4194304 ∧ putM [(0, X)] 4194304 5 bs = (0, [(0, X')], 4194304) := by
  have hw := ins_within (lo := 0) (size := 4194304) (a := 5) (A := []) (B := []) (p := (0, X)) (bs := bs) ⟨Nat.le_refl _, by simp only; omega, by simp only; omega, by simp only [Ord]; omega⟩ (by simp) (by simp only; omega) (by omega)
  simp only [List.nil_append] at hw
  have hl : (X.take (5 - 0) ++ bs ++ X.drop (5 - 0 + bs.length)).length = 4194304 := by simp only [List.length_append, List.length_take, List.length_drop]; omega
  refine ⟨_, hl, ?_⟩
  have hh := ins_held (clearL 5 (5 + bs.length) [(0, X)]) 5 bs
  rw [hw] at hh
  have he : heldL [(0, X.take (5 - 0) ++ bs ++ X.drop (5 - 0 + bs.length))] = 4194304 := by simp only [heldL, List.map_cons, List.map_nil, List.sum_cons, List.sum_nil, hl, Nat.add_zero]
  unfold putM
  rw [if_neg (by decide), if_neg (by omega), if_neg (by omega)]
  rw [show ((5 : Int).toNat) = 5 from rfl, if_neg (by omega), hw]
  congr 2
  omega
theorem bnd_punch {X : List UInt8} (hX : X.length = 4194304) : punchM [(0, X)] 4194304 7 1 = (0, [(0, X.take 7), (8, X.drop 8)], 4194304) := by
  unfold punchM
  rw [if_neg (by decide), if_pos (by decide)]
  have e : ((7 : Int) + min 1 (((4194304 : Nat) : Int) - 7)).toNat = 8 := by decide
  rw [e, show ((7 : Int).toNat) = 7 from rfl]
  unfold clearL clearP
  simp [hX]
theorem bnd_last {Y Z bs : List UInt8} (hY : Y.length = 7) (hZ : Z.length = 4194296) (hb : bs.length = 1) : putM [(0, Y), (8, Z)] 4194304 1073741823 bs = (0, [(0, Y), (8, Z), (1073741823, bs)], 1073741824) := by
  unfold putM
  rw [if_neg (by decide), if_neg (by omega), if_neg (by omega)]
  rw [show ((1073741823 : Int).toNat) = 1073741823 from rfl, clear_ahead (by omega) (fun p hp => by
    simp only [List.mem_cons, List.not_mem_nil, or_false] at hp
    rcases hp with rfl | rfl <;> simp only <;> omega)]
  rw [if_neg (by simp [heldL, hY, hZ, hb])]
  unfold insL
  rw [if_pos (by simp only; omega)]
  unfold insL
  rw [if_pos (by simp only; omega)]
  unfold insL
  congr 2
  omega
theorem bnd_behind (ps : List Pc) {bs : List UInt8} (hb : bs.length = 1) : putM ps 1073741824 1073741824 bs = (3, ps, 1073741824) := by
  unfold putM
  rw [if_neg (by decide), if_neg (by omega), if_pos (by omega)]
theorem bnd_hole {Y Z bs cs : List UInt8} (hY : Y.length = 7) (hZ : Z.length = 4194296) (hc : cs.length = 1) (hb : bs.length = 1) : putM [(0, Y), (8, Z), (1073741823, cs)] 1073741824 7 bs = (3, [(0, Y), (8, Z), (1073741823, cs)], 1073741824) := by
  unfold putM
  rw [if_neg (by decide), if_neg (by omega), if_neg (by omega)]
  have e : clearL (7 : Int).toNat ((7 : Int).toNat + bs.length) [(0, Y), (8, Z), (1073741823, cs)] = [(0, Y), (8, Z), (1073741823, cs)] := by
    rw [show ((7 : Int).toNat) = 7 from rfl]
    rw [clear_cons, clearP_ahead (by simp only; omega) (by omega) (by simp only; omega), clear_behind (by omega) (fun p hp => by
      simp only [List.mem_cons, List.not_mem_nil, or_false] at hp
      rcases hp with rfl | rfl <;> simp only <;> omega)]
    rfl
  rw [e, if_pos (by simp [heldL, hY, hZ, hb, hc])]
theorem bnd_get {Y Z : List UInt8} (hY : Y.length = 7) (hZ : Z.length = 4194296) : getM [(0, Y), (8, Z), (1073741823, [9])] 1073741824 1073741822 9 = [0, 9] := by
  unfold getM
  rw [if_neg (by decide)]
  have e : (min (min (9 : Int) 65536) (((1073741824 : Nat) : Int) - 1073741822)).toNat = 2 := by decide
  rw [e, show ((1073741822 : Int).toNat) = 1073741822 from rfl]
  have h1 : absL [(0, Y), (8, Z), (1073741823, [9])] 1073741822 = none := by
    simp only [absL, hY, hZ]; rfl
  have h2 : absL [(0, Y), (8, Z), (1073741823, [9])] (1073741822 + 1) = some 9 := by
    simp only [absL, hY, hZ]; rfl
  show [(absL _ (1073741822 + 0)).getD 0, (absL _ (1073741822 + 1)).getD 0] = _
  rw [Nat.add_zero, h1, h2]
  rfl
theorem getM_len {ps : List Pc} {size : Nat} (h : 65537 ≤ size) : (getM ps size 0 65537).length = 65536 := by
  unfold getM
  rw [if_neg (by omega), getP_len]
  omega
end Go.Proofs.Ytpdklpeojjkkaaa

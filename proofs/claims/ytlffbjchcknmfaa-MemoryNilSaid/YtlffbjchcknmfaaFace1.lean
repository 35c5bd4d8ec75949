/- face: put. -/
import Derived.Test.YtlffbjchcknmfaaGen
namespace Go.Proofs.Ytlffbjchcknmfaa
open Go
set_option linter.unusedVariables false
set_option linter.unusedSimpArgs false
/-- An interface value, or nil. -/
def ifv : Option (TypeId × Value) → Value
  | none => .nilIface
  | some (t, v) => .iface t v
/-- The dynamic type of the file that 'put' makes, by what is there. -/
def facT : Bool → Bool → Bool → Bool → TypeId
  | false, false, false, false => 255
  | true, false, false, false => 210
  | false, true, false, false => 213
  | true, true, false, false => 216
  | false, false, true, false => 219
  | true, false, true, false => 222
  | false, true, true, false => 225
  | true, true, true, false => 228
  | false, false, false, true => 231
  | true, false, false, true => 234
  | false, true, false, true => 237
  | true, true, false, true => 240
  | false, false, true, true => 243
  | true, false, true, true => 246
  | false, true, true, true => 249
  | true, true, true, true => 252
@[go_sem] theorem vcells_ifv (o : Option (TypeId × Value)) : vcells (ifv o) = [ifv o] := by rcases o with _ | ⟨t, v⟩ <;> rfl
@[go_sem] theorem oneCell_ifv (o : Option (TypeId × Value)) : (ifv o).oneCell' = true := by rcases o with _ | ⟨t, v⟩ <;> rfl
def optc : Option (TypeId × Value) → List Value
  | none => []
  | some (t, v) => [.iface t v]
theorem bor01 : bits .or .i64 0 1 = 1 := by decide
theorem bor02 : bits .or .i64 0 2 = 2 := by decide
theorem bor12 : bits .or .i64 1 2 = 3 := by decide
theorem bor04 : bits .or .i64 0 4 = 4 := by decide
theorem bor14 : bits .or .i64 1 4 = 5 := by decide
theorem bor24 : bits .or .i64 2 4 = 6 := by decide
theorem bor34 : bits .or .i64 3 4 = 7 := by decide
theorem bor08 : bits .or .i64 0 8 = 8 := by decide
theorem bor18 : bits .or .i64 1 8 = 9 := by decide
theorem bor28 : bits .or .i64 2 8 = 10 := by decide
theorem bor38 : bits .or .i64 3 8 = 11 := by decide
theorem bor48 : bits .or .i64 4 8 = 12 := by decide
theorem bor58 : bits .or .i64 5 8 = 13 := by decide
theorem bor68 : bits .or .i64 6 8 = 14 := by decide
theorem bor78 : bits .or .i64 7 8 = 15 := by decide
set_option maxRecDepth 100000 in
set_option maxHeartbeats 4000000 in
theorem put_spec (ft : TypeId) (fv : Value) (ow oc oh os : Option (TypeId × Value)) (w : World) :
    CallsE Try.prog 127 [.iface ft fv, ifv ow, ifv oc, ifv oh, ifv os] w fun v u => ∃ b, v = .iface (facT ow.isSome oc.isSome oh.isSome os.isSome) (.pointer (some ⟨b, 0, none⟩)) ∧
      W u b ([.iface ft fv] ++ optc ow ++ optc oc ++ optc oh ++ optc os) ∧ w.heap.size ≤ b ∧ Fr Nob w u := by
  rcases ow with _ | ⟨tw, vw⟩ <;> rcases oc with _ | ⟨tc, vc⟩ <;> rcases oh with _ | ⟨th, vh⟩ <;> rcases os with _ | ⟨ts, vs⟩
  all_goals
    simp only [ifv]
    refine enter Try.func127 rfl Try.results127 Try.ntmps127 rfl ?_
    repeat' (first | first | refine H_seq ?_ | refine H_block ?_ | refine H_skip ?_ | refine H_nil ?_ | refine H_exit ?_ | refine H_ret ?_ | refine B_normal ?_ | refine B_same ?_ | refine B_other rfl ?_ | refine B_ret ?_ | refine L_exit ?_ | refine L_ret ?_ | refine H_condT rfl rfl ?_ | refine H_condF rfl rfl ?_ | (refine H_region k127 _ rfl fun K hK => ?_; simp (config := { maxSteps := 4000000 }) only [go_sem, beq_self_eq_true, List.getElem_toArray, List.getElem_cons_zero, List.getElem_cons_succ, decide_true, decide_false, cond_true, cond_false, Nat.reduceBEq, reduceCtorEq, Nat.reduceAdd, Nat.reduceMul, Nat.reduceSub, reduceIte, Int.reduceToNat, Int.reduceEq, Int.reduceLT, Int.reduceLE, Nat.reduceLeDiff, Nat.reduceEqDiff, eq_self, and_self, bor01, bor02, bor12, bor04, bor14, bor24, bor34, bor08, bor18, bor28, bor38, bor48, bor58, bor68, bor78, Try.underlying130, Try.underlying133, Try.underlying136, Try.underlying139, Int.reduceEq, decide_true, decide_false, Bool.not_true]; first | (refine hK _ _ ?_; clear hK K) | (intro b u hN; refine hK _ _ ?_; clear hK K)))
    refine F_ret ?_
    (try simp (config := { maxSteps := 4000000 }) only [go_sem, beq_self_eq_true, List.getElem_toArray, List.getElem_cons_zero, List.getElem_cons_succ, decide_true, decide_false, cond_true, cond_false, Nat.reduceBEq, reduceCtorEq, Nat.reduceAdd, Nat.reduceMul, Nat.reduceSub, reduceIte, Int.reduceToNat, Int.reduceEq, Int.reduceLT, Int.reduceLE, Nat.reduceLeDiff, Nat.reduceEqDiff, eq_self, and_self])
    exact ⟨_, rfl, hN.blk, by rw [hN.num]; exact Nat.le_refl _, hN.fr⟩

end Go.Proofs.Ytlffbjchcknmfaa

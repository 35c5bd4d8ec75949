/- face: File, Can; what the sixteen files can. -/
import Derived.Test.YtlffbjchcknmfaaFace2
import Derived.Test.YtlffbjchcknmfaaE10
namespace Go.Proofs.Ytlffbjchcknmfaa
open Go
set_option linter.unusedVariables false
set_option linter.unusedSimpArgs false
set_option maxRecDepth 100000
set_option maxHeartbeats 2000000
theorem asW (w c h s : Bool) : tasrt Try.prog (facT w c h s) 130 = some (true, w) := by cases w <;> cases c <;> cases h <;> cases s <;> kernel_rfl
theorem asC (w c h s : Bool) : tasrt Try.prog (facT w c h s) 133 = some (true, c) := by cases w <;> cases c <;> cases h <;> cases s <;> kernel_rfl
theorem asH (w c h s : Bool) : tasrt Try.prog (facT w c h s) 136 = some (true, h) := by cases w <;> cases c <;> cases h <;> cases s <;> kernel_rfl
theorem asS (w c h s : Bool) : tasrt Try.prog (facT w c h s) 139 = some (true, s) := by cases w <;> cases c <;> cases h <;> cases s <;> kernel_rfl
theorem zvW : tzeroV Try.prog 130 = some .nilIface := by kernel_rfl
theorem zvC : tzeroV Try.prog 133 = some .nilIface := by kernel_rfl
theorem zvH : tzeroV Try.prog 136 = some .nilIface := by kernel_rfl
theorem zvS : tzeroV Try.prog 139 = some .nilIface := by kernel_rfl
theorem meSize (w c h s : Bool) : tmeth Try.prog (facT w c h s) "Size" = some (.field 0 127) := by cases w <;> cases c <;> cases h <;> cases s <;> kernel_rfl
theorem meReadAt (w c h s : Bool) : tmeth Try.prog (facT w c h s) "ReadAt" = some (.field 0 127) := by cases w <;> cases c <;> cases h <;> cases s <;> kernel_rfl
theorem meWriteAt (c h s : Bool) : tmeth Try.prog (facT true c h s) "WriteAt" = some (.field 1 130) := by cases c <;> cases h <;> cases s <;> kernel_rfl
theorem meCut (w h s : Bool) : tmeth Try.prog (facT w true h s) "Cut" = some (.field (1 + w.toNat) 133) := by cases w <;> cases h <;> cases s <;> kernel_rfl
theorem meNext (w c s : Bool) : tmeth Try.prog (facT w c true s) "Next" = some (.field (1 + w.toNat + c.toNat) 136) := by cases w <;> cases c <;> cases s <;> kernel_rfl
theorem meSync (w c h : Bool) : tmeth Try.prog (facT w c h true) "Sync" = some (.field (1 + w.toNat + c.toNat + h.toNat) 139) := by cases w <;> cases c <;> cases h <;> kernel_rfl
theorem hfile_spec (h fb : Nat) (f : Value) (ow oc oh os : Option (TypeId × Value)) (w : World) (hh : IsHandle w h fb f ow oc oh os) :
    CallsE Try.prog 76 [.pointer (some ⟨h, 0, none⟩)] w fun r u => r = .iface (facT ow.isSome oc.isSome oh.isSome os.isSome) (.pointer (some ⟨fb, 0, none⟩)) ∧ u = w := by
  refine enter Try.func76 rfl Try.results76 Try.ntmps76 rfl ?_
  repeat' (first | refine H_seq ?_ | refine H_block ?_ | refine H_skip ?_ | refine H_nil ?_ | refine H_exit ?_ | refine H_ret ?_ | refine B_normal ?_ | refine B_same ?_ | refine B_other rfl ?_ | refine B_ret ?_ | refine L_exit ?_ | refine L_ret ?_)
  refine H_region k76 s76_0 rfl fun K hK => ?_; simp (config := { maxSteps := 4000000 }) only [go_sem, beq_self_eq_true, List.getElem_toArray, List.getElem_cons_zero, List.getElem_cons_succ, decide_true, decide_false, cond_true, cond_false, Nat.reduceBEq, reduceCtorEq, Nat.reduceAdd, Nat.reduceMul, Nat.reduceSub, reduceIte, Int.reduceToNat, Int.reduceEq, Int.reduceLT, Int.reduceLE, Nat.reduceLeDiff, Nat.reduceEqDiff, eq_self, and_self, s76_0]
  refine hK _ _ ?_; clear hK K
  repeat' (first | refine H_seq ?_ | refine H_block ?_ | refine H_skip ?_ | refine H_nil ?_ | refine H_exit ?_ | refine H_ret ?_ | refine B_normal ?_ | refine B_same ?_ | refine B_other rfl ?_ | refine B_ret ?_ | refine L_exit ?_ | refine L_ret ?_)
  refine H_region k76 s76_1 rfl fun K hK => ?_; simp (config := { maxSteps := 4000000 }) only [go_sem, beq_self_eq_true, List.getElem_toArray, List.getElem_cons_zero, List.getElem_cons_succ, decide_true, decide_false, cond_true, cond_false, Nat.reduceBEq, reduceCtorEq, Nat.reduceAdd, Nat.reduceMul, Nat.reduceSub, reduceIte, Int.reduceToNat, Int.reduceEq, Int.reduceLT, Int.reduceLE, Nat.reduceLeDiff, Nat.reduceEqDiff, eq_self, and_self, s76_1, Try.underlying29]
  refine hK _ _ ?_; clear hK K
  repeat' (first | refine H_seq ?_ | refine H_block ?_ | refine H_skip ?_ | refine H_nil ?_ | refine H_exit ?_ | refine H_ret ?_ | refine B_normal ?_ | refine B_same ?_ | refine B_other rfl ?_ | refine B_ret ?_ | refine L_exit ?_ | refine L_ret ?_)
  refine H_condF rfl rfl ?_
  repeat' (first | refine H_seq ?_ | refine H_block ?_ | refine H_skip ?_ | refine H_nil ?_ | refine H_exit ?_ | refine H_ret ?_ | refine B_normal ?_ | refine B_same ?_ | refine B_other rfl ?_ | refine B_ret ?_ | refine L_exit ?_ | refine L_ret ?_)
  refine H_region k76 s76_3 rfl fun K hK => ?_; simp (config := { maxSteps := 4000000 }) only [go_sem, beq_self_eq_true, List.getElem_toArray, List.getElem_cons_zero, List.getElem_cons_succ, decide_true, decide_false, cond_true, cond_false, Nat.reduceBEq, reduceCtorEq, Nat.reduceAdd, Nat.reduceMul, Nat.reduceSub, reduceIte, Int.reduceToNat, Int.reduceEq, Int.reduceLT, Int.reduceLE, Nat.reduceLeDiff, Nat.reduceEqDiff, eq_self, and_self, s76_3, hh.1.cell, handleCells]
  refine hK _ _ ?_; clear hK K
  repeat' (first | refine H_seq ?_ | refine H_block ?_ | refine H_skip ?_ | refine H_nil ?_ | refine H_exit ?_ | refine H_ret ?_ | refine B_normal ?_ | refine B_same ?_ | refine B_other rfl ?_ | refine B_ret ?_ | refine L_exit ?_ | refine L_ret ?_)
  refine F_ret ?_
  (try simp (config := { maxSteps := 4000000 }) only [go_sem, beq_self_eq_true, List.getElem_toArray, List.getElem_cons_zero, List.getElem_cons_succ, decide_true, decide_false, cond_true, cond_false, Nat.reduceBEq, reduceCtorEq, Nat.reduceAdd, Nat.reduceMul, Nat.reduceSub, reduceIte, Int.reduceToNat, Int.reduceEq, Int.reduceLT, Int.reduceLE, Nat.reduceLeDiff, Nat.reduceEqDiff, eq_self, and_self])
/-- What a handle can, as a number. -/
def canN (w c h s : Bool) : Int := (bif w then 1 else 0) + (bif c then 2 else 0) + (bif h then 4 else 0) + (bif s then 8 else 0)
theorem hcan_spec (h fb : Nat) (f : Value) (ow oc oh os : Option (TypeId × Value)) (w : World) (hh : IsHandle w h fb f ow oc oh os) :
    CallsE Try.prog 43 [.pointer (some ⟨h, 0, none⟩)] w fun r u => r = .int .u8 (canN ow.isSome oc.isSome oh.isSome os.isSome) ∧ u = w := by
  have h01 : bits .or .u8 0 1 = 1 := by decide
  have h02 : bits .or .u8 0 2 = 2 := by decide
  have h12 : bits .or .u8 1 2 = 3 := by decide
  have h04 : bits .or .u8 0 4 = 4 := by decide
  have h14 : bits .or .u8 1 4 = 5 := by decide
  have h24 : bits .or .u8 2 4 = 6 := by decide
  have h34 : bits .or .u8 3 4 = 7 := by decide
  have h08 : bits .or .u8 0 8 = 8 := by decide
  have h18 : bits .or .u8 1 8 = 9 := by decide
  have h28 : bits .or .u8 2 8 = 10 := by decide
  have h38 : bits .or .u8 3 8 = 11 := by decide
  have h48 : bits .or .u8 4 8 = 12 := by decide
  have h58 : bits .or .u8 5 8 = 13 := by decide
  have h68 : bits .or .u8 6 8 = 14 := by decide
  have h78 : bits .or .u8 7 8 = 15 := by decide
  refine enter Try.func43 rfl Try.results43 Try.ntmps43 rfl ?_
  repeat' (first | refine H_seq ?_ | refine H_block ?_ | refine H_skip ?_ | refine H_nil ?_ | refine H_exit ?_ | refine H_ret ?_ | refine B_normal ?_ | refine B_same ?_ | refine B_other rfl ?_ | refine B_ret ?_ | refine L_exit ?_ | refine L_ret ?_)
  refine H_region k43 s43_0 rfl fun K hK => ?_; simp (config := { maxSteps := 4000000 }) only [go_sem, beq_self_eq_true, List.getElem_toArray, List.getElem_cons_zero, List.getElem_cons_succ, decide_true, decide_false, cond_true, cond_false, Nat.reduceBEq, reduceCtorEq, Nat.reduceAdd, Nat.reduceMul, Nat.reduceSub, reduceIte, Int.reduceToNat, Int.reduceEq, Int.reduceLT, Int.reduceLE, Nat.reduceLeDiff, Nat.reduceEqDiff, eq_self, and_self, s43_0]
  refine hK _ _ ?_; clear hK K
  repeat' (first | refine H_seq ?_ | refine H_block ?_ | refine H_skip ?_ | refine H_nil ?_ | refine H_exit ?_ | refine H_ret ?_ | refine B_normal ?_ | refine B_same ?_ | refine B_other rfl ?_ | refine B_ret ?_ | refine L_exit ?_ | refine L_ret ?_)
  refine H_region k43 s43_1 rfl fun K hK => ?_; simp (config := { maxSteps := 4000000 }) only [go_sem, beq_self_eq_true, List.getElem_toArray, List.getElem_cons_zero, List.getElem_cons_succ, decide_true, decide_false, cond_true, cond_false, Nat.reduceBEq, reduceCtorEq, Nat.reduceAdd, Nat.reduceMul, Nat.reduceSub, reduceIte, Int.reduceToNat, Int.reduceEq, Int.reduceLT, Int.reduceLE, Nat.reduceLeDiff, Nat.reduceEqDiff, eq_self, and_self, s43_1]
  refine hK _ _ ?_; clear hK K
  repeat' (first | refine H_seq ?_ | refine H_block ?_ | refine H_skip ?_ | refine H_nil ?_ | refine H_exit ?_ | refine H_ret ?_ | refine B_normal ?_ | refine B_same ?_ | refine B_other rfl ?_ | refine B_ret ?_ | refine L_exit ?_ | refine L_ret ?_)
  refine H_region k43 s43_2 rfl fun K hK => ?_; simp (config := { maxSteps := 4000000 }) only [go_sem, beq_self_eq_true, List.getElem_toArray, List.getElem_cons_zero, List.getElem_cons_succ, decide_true, decide_false, cond_true, cond_false, Nat.reduceBEq, reduceCtorEq, Nat.reduceAdd, Nat.reduceMul, Nat.reduceSub, reduceIte, Int.reduceToNat, Int.reduceEq, Int.reduceLT, Int.reduceLE, Nat.reduceLeDiff, Nat.reduceEqDiff, eq_self, and_self, s43_2]
  refine callC tcall_76 (hfile_spec h fb f ow oc oh os w hh) ?_
  rintro v1 u1 ⟨rfl, rfl⟩
  (try simp (config := { maxSteps := 4000000 }) only [go_sem, beq_self_eq_true, List.getElem_toArray, List.getElem_cons_zero, List.getElem_cons_succ, decide_true, decide_false, cond_true, cond_false, Nat.reduceBEq, reduceCtorEq, Nat.reduceAdd, Nat.reduceMul, Nat.reduceSub, reduceIte, Int.reduceToNat, Int.reduceEq, Int.reduceLT, Int.reduceLE, Nat.reduceLeDiff, Nat.reduceEqDiff, eq_self, and_self])
  refine hK _ _ ?_; clear hK K
  repeat' (first | refine H_seq ?_ | refine H_block ?_ | refine H_skip ?_ | refine H_nil ?_ | refine H_exit ?_ | refine H_ret ?_ | refine B_normal ?_ | refine B_same ?_ | refine B_other rfl ?_ | refine B_ret ?_ | refine L_exit ?_ | refine L_ret ?_)
  generalize ow.isSome = bw
  generalize oc.isSome = bc
  generalize oh.isSome = bh
  generalize os.isSome = bs
  have aw := asW bw bc bh bs
  have ac := asC bw bc bh bs
  have ah := asH bw bc bh bs
  have as_ := asS bw bc bh bs
  generalize facT bw bc bh bs = ft at aw ac ah as_ ⊢
  cases bw <;> cases bc <;> cases bh <;> cases bs
  all_goals
    repeat' (first | first | refine H_seq ?_ | refine H_block ?_ | refine H_skip ?_ | refine H_nil ?_ | refine H_exit ?_ | refine H_ret ?_ | refine B_normal ?_ | refine B_same ?_ | refine B_other rfl ?_ | refine B_ret ?_ | refine L_exit ?_ | refine L_ret ?_ | refine H_condT rfl rfl ?_ | refine H_condF rfl rfl ?_ | (refine H_region k43 _ rfl fun K hK => ?_; simp (config := { maxSteps := 4000000 }) only [go_sem, beq_self_eq_true, List.getElem_toArray, List.getElem_cons_zero, List.getElem_cons_succ, decide_true, decide_false, cond_true, cond_false, Nat.reduceBEq, reduceCtorEq, Nat.reduceAdd, Nat.reduceMul, Nat.reduceSub, reduceIte, Int.reduceToNat, Int.reduceEq, Int.reduceLT, Int.reduceLE, Nat.reduceLeDiff, Nat.reduceEqDiff, eq_self, and_self, aw, ac, ah, as_, zvW, zvC, zvH, zvS, h01, h02, h12, h04, h14, h24, h34, h08, h18, h28, h38, h48, h58, h68, h78]; refine hK _ _ ?_; clear hK K))
    refine F_ret ?_
    (try simp (config := { maxSteps := 4000000 }) only [go_sem, beq_self_eq_true, List.getElem_toArray, List.getElem_cons_zero, List.getElem_cons_succ, decide_true, decide_false, cond_true, cond_false, Nat.reduceBEq, reduceCtorEq, Nat.reduceAdd, Nat.reduceMul, Nat.reduceSub, reduceIte, Int.reduceToNat, Int.reduceEq, Int.reduceLT, Int.reduceLE, Nat.reduceLeDiff, Nat.reduceEqDiff, eq_self, and_self])
    rfl
end Go.Proofs.Ytlffbjchcknmfaa

/- mantleref16.Same. -/
import Derived.Test.YtpdklpeojjkkaaaSeal8
import Derived.Test.YtpdklpeojjkkaaaSeal7
namespace Go.Proofs.Ytpdklpeojjkkaaa
open Go
set_option linter.unusedVariables false
set_option linter.unusedSimpArgs false
set_option maxRecDepth 100000
def rSame (r s : Rb) : Bool := if r.1 = s.1 then (if r.1 = 0 then decide (r.2.1 = s.2.1) else (decide (r.1 = 1) && (r.2.2 == s.2.2))) else false
theorem rsame_spec (k1 n1 k2 n2 : Int) (s1 s2 : ByteArray) (w : World) :
    CallsE Try.prog 17 [.agg #[.int .i64 k1, .int .i64 n1, .string s1], .agg #[.int .i64 k2, .int .i64 n2, .string s2]] w fun r u => r = .bool (rSame (k1, n1, s1) (k2, n2, s2)) ∧ Fr Nob w u := by
  refine enter Try.func17 rfl Try.results17 Try.ntmps17 rfl ?_
  repeat' (first | refine H_seq ?_ | refine H_block ?_ | refine H_skip ?_ | refine H_nil ?_ | refine H_exit ?_ | refine H_ret ?_ | refine B_normal ?_ | refine B_same ?_ | refine B_other rfl ?_ | refine B_ret ?_ | refine L_exit ?_ | refine L_ret ?_)
  refine H_region k17 s17_0 rfl fun K hK => ?_; simp (config := { maxSteps := 4000000 }) only [go_sem, beq_self_eq_true, List.getElem_toArray, List.getElem_cons_zero, List.getElem_cons_succ, decide_true, decide_false, cond_true, cond_false, Nat.reduceBEq, reduceCtorEq, Nat.reduceAdd, Nat.reduceMul, Nat.reduceSub, reduceIte, Int.reduceToNat, Int.reduceEq, Int.reduceLT, Int.reduceLE, Nat.reduceLeDiff, Nat.reduceEqDiff, eq_self, and_self, s17_0]
  intro b1 w1 h1
  (try simp (config := { maxSteps := 4000000 }) only [go_sem, beq_self_eq_true, List.getElem_toArray, List.getElem_cons_zero, List.getElem_cons_succ, decide_true, decide_false, cond_true, cond_false, Nat.reduceBEq, reduceCtorEq, Nat.reduceAdd, Nat.reduceMul, Nat.reduceSub, reduceIte, Int.reduceToNat, Int.reduceEq, Int.reduceLT, Int.reduceLE, Nat.reduceLeDiff, Nat.reduceEqDiff, eq_self, and_self])
  intro b2 w2 h2
  refine hK _ _ ?_; clear hK K
  repeat' (first | refine H_seq ?_ | refine H_block ?_ | refine H_skip ?_ | refine H_nil ?_ | refine H_exit ?_ | refine H_ret ?_ | refine B_normal ?_ | refine B_same ?_ | refine B_other rfl ?_ | refine B_ret ?_ | refine L_exit ?_ | refine L_ret ?_)
  have hb1 := h2.keepW h1.blk
  have hf := h1.fr.trans h2.fr
  refine H_region k17 s17_1 rfl fun K hK => ?_; simp (config := { maxSteps := 4000000 }) only [go_sem, beq_self_eq_true, List.getElem_toArray, List.getElem_cons_zero, List.getElem_cons_succ, decide_true, decide_false, cond_true, cond_false, Nat.reduceBEq, reduceCtorEq, Nat.reduceAdd, Nat.reduceMul, Nat.reduceSub, reduceIte, Int.reduceToNat, Int.reduceEq, Int.reduceLT, Int.reduceLE, Nat.reduceLeDiff, Nat.reduceEqDiff, eq_self, and_self, s17_1, hb1.cell, h2.blk.cell]
  refine hK _ _ ?_; clear hK K
  repeat' (first | refine H_seq ?_ | refine H_block ?_ | refine H_skip ?_ | refine H_nil ?_ | refine H_exit ?_ | refine H_ret ?_ | refine B_normal ?_ | refine B_same ?_ | refine B_other rfl ?_ | refine B_ret ?_ | refine L_exit ?_ | refine L_ret ?_)
  by_cases e : k1 = k2
  · subst e
    refine H_condF rfl (by simp) ?_
    repeat' (first | refine H_seq ?_ | refine H_block ?_ | refine H_skip ?_ | refine H_nil ?_ | refine H_exit ?_ | refine H_ret ?_ | refine B_normal ?_ | refine B_same ?_ | refine B_other rfl ?_ | refine B_ret ?_ | refine L_exit ?_ | refine L_ret ?_)
    refine H_region k17 s17_3 rfl fun K hK => ?_; simp (config := { maxSteps := 4000000 }) only [go_sem, beq_self_eq_true, List.getElem_toArray, List.getElem_cons_zero, List.getElem_cons_succ, decide_true, decide_false, cond_true, cond_false, Nat.reduceBEq, reduceCtorEq, Nat.reduceAdd, Nat.reduceMul, Nat.reduceSub, reduceIte, Int.reduceToNat, Int.reduceEq, Int.reduceLT, Int.reduceLE, Nat.reduceLeDiff, Nat.reduceEqDiff, eq_self, and_self, s17_3, hb1.cell]
    refine hK _ _ ?_; clear hK K
    repeat' (first | refine H_seq ?_ | refine H_block ?_ | refine H_skip ?_ | refine H_nil ?_ | refine H_exit ?_ | refine H_ret ?_ | refine B_normal ?_ | refine B_same ?_ | refine B_other rfl ?_ | refine B_ret ?_ | refine L_exit ?_ | refine L_ret ?_)
    by_cases e0 : k1 = 0
    · subst e0
      refine H_condT rfl rfl ?_
      repeat' (first | refine H_seq ?_ | refine H_block ?_ | refine H_skip ?_ | refine H_nil ?_ | refine H_exit ?_ | refine H_ret ?_ | refine B_normal ?_ | refine B_same ?_ | refine B_other rfl ?_ | refine B_ret ?_ | refine L_exit ?_ | refine L_ret ?_)
      refine H_region k17 s17_4 rfl fun K hK => ?_; simp (config := { maxSteps := 4000000 }) only [go_sem, beq_self_eq_true, List.getElem_toArray, List.getElem_cons_zero, List.getElem_cons_succ, decide_true, decide_false, cond_true, cond_false, Nat.reduceBEq, reduceCtorEq, Nat.reduceAdd, Nat.reduceMul, Nat.reduceSub, reduceIte, Int.reduceToNat, Int.reduceEq, Int.reduceLT, Int.reduceLE, Nat.reduceLeDiff, Nat.reduceEqDiff, eq_self, and_self, s17_4, hb1.cell, h2.blk.cell]
      refine hK _ _ ?_; clear hK K
      repeat' (first | refine H_seq ?_ | refine H_block ?_ | refine H_skip ?_ | refine H_nil ?_ | refine H_exit ?_ | refine H_ret ?_ | refine B_normal ?_ | refine B_same ?_ | refine B_other rfl ?_ | refine B_ret ?_ | refine L_exit ?_ | refine L_ret ?_)
      refine F_ret ?_
      (try simp (config := { maxSteps := 4000000 }) only [go_sem, beq_self_eq_true, List.getElem_toArray, List.getElem_cons_zero, List.getElem_cons_succ, decide_true, decide_false, cond_true, cond_false, Nat.reduceBEq, reduceCtorEq, Nat.reduceAdd, Nat.reduceMul, Nat.reduceSub, reduceIte, Int.reduceToNat, Int.reduceEq, Int.reduceLT, Int.reduceLE, Nat.reduceLeDiff, Nat.reduceEqDiff, eq_self, and_self])
      exact ⟨by simp [rSame], hf⟩
    · refine H_condF rfl (by simp [e0]) ?_
      repeat' (first | refine H_seq ?_ | refine H_block ?_ | refine H_skip ?_ | refine H_nil ?_ | refine H_exit ?_ | refine H_ret ?_ | refine B_normal ?_ | refine B_same ?_ | refine B_other rfl ?_ | refine B_ret ?_ | refine L_exit ?_ | refine L_ret ?_)
      refine H_region k17 s17_5 rfl fun K hK => ?_; simp (config := { maxSteps := 4000000 }) only [go_sem, beq_self_eq_true, List.getElem_toArray, List.getElem_cons_zero, List.getElem_cons_succ, decide_true, decide_false, cond_true, cond_false, Nat.reduceBEq, reduceCtorEq, Nat.reduceAdd, Nat.reduceMul, Nat.reduceSub, reduceIte, Int.reduceToNat, Int.reduceEq, Int.reduceLT, Int.reduceLE, Nat.reduceLeDiff, Nat.reduceEqDiff, eq_self, and_self, s17_5, hb1.cell, h2.blk.cell]
      refine grd_split (fun hg => ?_) (fun hg => ?_)
      · (try simp (config := { maxSteps := 4000000 }) only [go_sem, beq_self_eq_true, List.getElem_toArray, List.getElem_cons_zero, List.getElem_cons_succ, decide_true, decide_false, cond_true, cond_false, Nat.reduceBEq, reduceCtorEq, Nat.reduceAdd, Nat.reduceMul, Nat.reduceSub, reduceIte, Int.reduceToNat, Int.reduceEq, Int.reduceLT, Int.reduceLE, Nat.reduceLeDiff, Nat.reduceEqDiff, eq_self, and_self, hg, hb1.cell, h2.blk.cell])
        refine hK _ _ ?_; clear hK K
        repeat' (first | refine H_seq ?_ | refine H_block ?_ | refine H_skip ?_ | refine H_nil ?_ | refine H_exit ?_ | refine H_ret ?_ | refine B_normal ?_ | refine B_same ?_ | refine B_other rfl ?_ | refine B_ret ?_ | refine L_exit ?_ | refine L_ret ?_)
        refine F_ret ?_
        (try simp (config := { maxSteps := 4000000 }) only [go_sem, beq_self_eq_true, List.getElem_toArray, List.getElem_cons_zero, List.getElem_cons_succ, decide_true, decide_false, cond_true, cond_false, Nat.reduceBEq, reduceCtorEq, Nat.reduceAdd, Nat.reduceMul, Nat.reduceSub, reduceIte, Int.reduceToNat, Int.reduceEq, Int.reduceLT, Int.reduceLE, Nat.reduceLeDiff, Nat.reduceEqDiff, eq_self, and_self])
        have : k1 = 1 := by simpa using hg
        subst this
        exact ⟨by simp only [rSame]; rw [strEq]; simp, hf⟩
      · (try simp (config := { maxSteps := 4000000 }) only [go_sem, beq_self_eq_true, List.getElem_toArray, List.getElem_cons_zero, List.getElem_cons_succ, decide_true, decide_false, cond_true, cond_false, Nat.reduceBEq, reduceCtorEq, Nat.reduceAdd, Nat.reduceMul, Nat.reduceSub, reduceIte, Int.reduceToNat, Int.reduceEq, Int.reduceLT, Int.reduceLE, Nat.reduceLeDiff, Nat.reduceEqDiff, eq_self, and_self, hg])
        refine hK _ _ ?_; clear hK K
        repeat' (first | refine H_seq ?_ | refine H_block ?_ | refine H_skip ?_ | refine H_nil ?_ | refine H_exit ?_ | refine H_ret ?_ | refine B_normal ?_ | refine B_same ?_ | refine B_other rfl ?_ | refine B_ret ?_ | refine L_exit ?_ | refine L_ret ?_)
        refine F_ret ?_
        (try simp (config := { maxSteps := 4000000 }) only [go_sem, beq_self_eq_true, List.getElem_toArray, List.getElem_cons_zero, List.getElem_cons_succ, decide_true, decide_false, cond_true, cond_false, Nat.reduceBEq, reduceCtorEq, Nat.reduceAdd, Nat.reduceMul, Nat.reduceSub, reduceIte, Int.reduceToNat, Int.reduceEq, Int.reduceLT, Int.reduceLE, Nat.reduceLeDiff, Nat.reduceEqDiff, eq_self, and_self])
        have : k1 ≠ 1 := by simpa using hg
        exact ⟨by simp [rSame, e0, this], hf⟩
  · refine H_condT rfl (by simp [e]) ?_
    repeat' (first | refine H_seq ?_ | refine H_block ?_ | refine H_skip ?_ | refine H_nil ?_ | refine H_exit ?_ | refine H_ret ?_ | refine B_normal ?_ | refine B_same ?_ | refine B_other rfl ?_ | refine B_ret ?_ | refine L_exit ?_ | refine L_ret ?_)
    refine H_region k17 s17_2 rfl fun K hK => ?_; simp (config := { maxSteps := 4000000 }) only [go_sem, beq_self_eq_true, List.getElem_toArray, List.getElem_cons_zero, List.getElem_cons_succ, decide_true, decide_false, cond_true, cond_false, Nat.reduceBEq, reduceCtorEq, Nat.reduceAdd, Nat.reduceMul, Nat.reduceSub, reduceIte, Int.reduceToNat, Int.reduceEq, Int.reduceLT, Int.reduceLE, Nat.reduceLeDiff, Nat.reduceEqDiff, eq_self, and_self, s17_2]
    refine hK _ _ ?_; clear hK K
    repeat' (first | refine H_seq ?_ | refine H_block ?_ | refine H_skip ?_ | refine H_nil ?_ | refine H_exit ?_ | refine H_ret ?_ | refine B_normal ?_ | refine B_same ?_ | refine B_other rfl ?_ | refine B_ret ?_ | refine L_exit ?_ | refine L_ret ?_)
    refine F_ret ?_
    (try simp (config := { maxSteps := 4000000 }) only [go_sem, beq_self_eq_true, List.getElem_toArray, List.getElem_cons_zero, List.getElem_cons_succ, decide_true, decide_false, cond_true, cond_false, Nat.reduceBEq, reduceCtorEq, Nat.reduceAdd, Nat.reduceMul, Nat.reduceSub, reduceIte, Int.reduceToNat, Int.reduceEq, Int.reduceLT, Int.reduceLE, Nat.reduceLeDiff, Nat.reduceEqDiff, eq_self, and_self])
    exact ⟨by simp [rSame, e], hf⟩
end Go.Proofs.Ytpdklpeojjkkaaa

/- mantleref01: end, held, Held, Next, Same. -/
import Derived.Test.YtpdklpeojjkkaaaSpan5
import Derived.Test.YtpdklpeojjkkaaaPc4
namespace Go.Proofs.Ytpdklpeojjkkaaa
open Go
set_option linter.unusedVariables false
set_option linter.unusedSimpArgs false
set_option maxRecDepth 100000
set_option maxHeartbeats 1000000
theorem rend_spec (at_ : Int) (a : Option Addr) (n c : Nat) (w : World) (h : 0 ≤ at_ ∧ at_ ≤ 1099511627776) (hn : n ≤ 1099511627776) :
    CallsE Try.prog 66 [.agg #[.int .i64 at_, .slice a n c]] w fun r u => r = .int .i64 (at_ + n) ∧ Fr Nob w u := by
  refine enter Try.func66 rfl Try.results66 Try.ntmps66 rfl ?_
  repeat' (first | refine H_seq ?_ | refine H_block ?_ | refine H_skip ?_ | refine H_nil ?_ | refine H_exit ?_ | refine H_ret ?_ | refine B_normal ?_ | refine B_same ?_ | refine B_other rfl ?_ | refine B_ret ?_ | refine L_exit ?_ | refine L_ret ?_)
  refine H_region k66 s66_0 rfl fun K hK => ?_; simp (config := { maxSteps := 4000000 }) only [go_sem, beq_self_eq_true, List.getElem_toArray, List.getElem_cons_zero, List.getElem_cons_succ, decide_true, decide_false, cond_true, cond_false, Nat.reduceBEq, reduceCtorEq, Nat.reduceAdd, Nat.reduceMul, Nat.reduceSub, reduceIte, Int.reduceToNat, Int.reduceEq, Int.reduceLT, Int.reduceLE, Nat.reduceLeDiff, Nat.reduceEqDiff, eq_self, and_self, s66_0]
  intro b u hN
  refine hK _ _ ?_; clear hK K
  repeat' (first | refine H_seq ?_ | refine H_block ?_ | refine H_skip ?_ | refine H_nil ?_ | refine H_exit ?_ | refine H_ret ?_ | refine B_normal ?_ | refine B_same ?_ | refine B_other rfl ?_ | refine B_ret ?_ | refine L_exit ?_ | refine L_ret ?_)
  refine H_region k66 s66_1 rfl fun K hK => ?_; simp (config := { maxSteps := 4000000 }) only [go_sem, beq_self_eq_true, List.getElem_toArray, List.getElem_cons_zero, List.getElem_cons_succ, decide_true, decide_false, cond_true, cond_false, Nat.reduceBEq, reduceCtorEq, Nat.reduceAdd, Nat.reduceMul, Nat.reduceSub, reduceIte, Int.reduceToNat, Int.reduceEq, Int.reduceLT, Int.reduceLE, Nat.reduceLeDiff, Nat.reduceEqDiff, eq_self, and_self, s66_1, hN.blk.cell]
  rw [wrapI (by omega)]
  refine hK _ _ ?_; clear hK K
  repeat' (first | refine H_seq ?_ | refine H_block ?_ | refine H_skip ?_ | refine H_nil ?_ | refine H_exit ?_ | refine H_ret ?_ | refine B_normal ?_ | refine B_same ?_ | refine B_other rfl ?_ | refine B_ret ?_ | refine L_exit ?_ | refine L_ret ?_)
  refine F_ret ?_
  (try simp (config := { maxSteps := 4000000 }) only [go_sem, beq_self_eq_true, List.getElem_toArray, List.getElem_cons_zero, List.getElem_cons_succ, decide_true, decide_false, cond_true, cond_false, Nat.reduceBEq, reduceCtorEq, Nat.reduceAdd, Nat.reduceMul, Nat.reduceSub, reduceIte, Int.reduceToNat, Int.reduceEq, Int.reduceLT, Int.reduceLE, Nat.reduceLeDiff, Nat.reduceEqDiff, eq_self, and_self])
  exact hN.fr
theorem rheld_spec (a : Option Addr) (n c : Nat) (ms : List MP) (w : World) (hr : Row w (.slice a n c) 2 (mcells ms)) (hb : heldL (ms.map MP.pc) ≤ 1099511627776) (hn : n ≤ 1099511627776) :
    CallsE Try.prog 67 [.slice a n c] w fun r u => r = .int .i64 (heldL (ms.map MP.pc)) ∧ u = w := by
  have hl : ms.length = n := (hr.elem (f := MP.cells) (fun _ _ => rfl) (by decide)).1
  refine enter Try.func67 rfl Try.results67 Try.ntmps67 rfl ?_
  repeat' (first | refine H_seq ?_ | refine H_block ?_ | refine H_skip ?_ | refine H_nil ?_ | refine H_exit ?_ | refine H_ret ?_ | refine B_normal ?_ | refine B_same ?_ | refine B_other rfl ?_ | refine B_ret ?_ | refine L_exit ?_ | refine L_ret ?_)
  refine H_region k67 s67_0 rfl fun K hK => ?_; simp (config := { maxSteps := 4000000 }) only [go_sem, beq_self_eq_true, List.getElem_toArray, List.getElem_cons_zero, List.getElem_cons_succ, decide_true, decide_false, cond_true, cond_false, Nat.reduceBEq, reduceCtorEq, Nat.reduceAdd, Nat.reduceMul, Nat.reduceSub, reduceIte, Int.reduceToNat, Int.reduceEq, Int.reduceLT, Int.reduceLE, Nat.reduceLeDiff, Nat.reduceEqDiff, eq_self, and_self, s67_0]
  refine hK _ _ ?_; clear hK K
  repeat' (first | refine H_seq ?_ | refine H_block ?_ | refine H_skip ?_ | refine H_nil ?_ | refine H_exit ?_ | refine H_ret ?_ | refine B_normal ?_ | refine B_same ?_ | refine B_other rfl ?_ | refine B_ret ?_ | refine L_exit ?_ | refine L_ret ?_)
  refine H_region k67 s67_1 rfl fun K hK => ?_; simp (config := { maxSteps := 4000000 }) only [go_sem, beq_self_eq_true, List.getElem_toArray, List.getElem_cons_zero, List.getElem_cons_succ, decide_true, decide_false, cond_true, cond_false, Nat.reduceBEq, reduceCtorEq, Nat.reduceAdd, Nat.reduceMul, Nat.reduceSub, reduceIte, Int.reduceToNat, Int.reduceEq, Int.reduceLT, Int.reduceLE, Nat.reduceLeDiff, Nat.reduceEqDiff, eq_self, and_self, s67_1]
  refine hK _ _ ?_; clear hK K
  repeat' (first | refine H_seq ?_ | refine H_block ?_ | refine H_skip ?_ | refine H_nil ?_ | refine H_exit ?_ | refine H_ret ?_ | refine B_normal ?_ | refine B_same ?_ | refine B_other rfl ?_ | refine B_ret ?_ | refine L_exit ?_ | refine L_ret ?_)
  refine H_region k67 s67_2 rfl fun K hK => ?_; simp (config := { maxSteps := 4000000 }) only [go_sem, beq_self_eq_true, List.getElem_toArray, List.getElem_cons_zero, List.getElem_cons_succ, decide_true, decide_false, cond_true, cond_false, Nat.reduceBEq, reduceCtorEq, Nat.reduceAdd, Nat.reduceMul, Nat.reduceSub, reduceIte, Int.reduceToNat, Int.reduceEq, Int.reduceLT, Int.reduceLE, Nat.reduceLeDiff, Nat.reduceEqDiff, eq_self, and_self, s67_2]
  refine hK _ _ ?_; clear hK K
  repeat' (first | refine H_seq ?_ | refine H_block ?_ | refine H_skip ?_ | refine H_nil ?_ | refine H_exit ?_ | refine H_ret ?_ | refine B_normal ?_ | refine B_same ?_ | refine B_other rfl ?_ | refine B_ret ?_ | refine L_exit ?_ | refine L_ret ?_)
  refine H_loop (fun i : Nat => [(0, .slice a n c), (3, .int .i64 (heldL ((ms.take i).map MP.pc))), (4, .int .i64 i)]) (fun i u => i ≤ n ∧ u = w) (fun i => n - i) 0 ⟨rfl, rfl, rfl, trivial⟩ ⟨Nat.zero_le _, rfl⟩ ?_
  rintro i u ⟨hi, rfl⟩
  repeat' (first | refine H_seq ?_ | refine H_block ?_ | refine H_skip ?_ | refine H_nil ?_ | refine H_exit ?_ | refine H_ret ?_ | refine B_normal ?_ | refine B_same ?_ | refine B_other rfl ?_ | refine B_ret ?_ | refine L_exit ?_ | refine L_ret ?_)
  refine H_region k67 s67_3 rfl fun K hK => ?_; simp (config := { maxSteps := 4000000 }) only [go_sem, beq_self_eq_true, List.getElem_toArray, List.getElem_cons_zero, List.getElem_cons_succ, decide_true, decide_false, cond_true, cond_false, Nat.reduceBEq, reduceCtorEq, Nat.reduceAdd, Nat.reduceMul, Nat.reduceSub, reduceIte, Int.reduceToNat, Int.reduceEq, Int.reduceLT, Int.reduceLE, Nat.reduceLeDiff, Nat.reduceEqDiff, eq_self, and_self, s67_3]
  refine hK _ _ ?_; clear hK K
  repeat' (first | refine H_seq ?_ | refine H_block ?_ | refine H_skip ?_ | refine H_nil ?_ | refine H_exit ?_ | refine H_ret ?_ | refine B_normal ?_ | refine B_same ?_ | refine B_other rfl ?_ | refine B_ret ?_ | refine L_exit ?_ | refine L_ret ?_)
  by_cases hin : i < n
  · refine H_condT rfl (by simpa using hin) ?_
    repeat' (first | refine H_seq ?_ | refine H_block ?_ | refine H_skip ?_ | refine H_nil ?_ | refine H_exit ?_ | refine H_ret ?_ | refine B_normal ?_ | refine B_same ?_ | refine B_other rfl ?_ | refine B_ret ?_ | refine L_exit ?_ | refine L_ret ?_)
    obtain ⟨b, o, rfl, _, hc⟩ := rowM_cells hr (by omega)
    obtain ⟨m, hm⟩ : ∃ m, ms[i]? = some m := ⟨ms[i]'(by omega), List.getElem?_eq_getElem _⟩
    obtain ⟨c0, c1⟩ := hc i m hm
    refine H_region k67 s67_5 rfl fun K hK => ?_; simp (config := { maxSteps := 4000000 }) only [go_sem, beq_self_eq_true, List.getElem_toArray, List.getElem_cons_zero, List.getElem_cons_succ, decide_true, decide_false, cond_true, cond_false, Nat.reduceBEq, reduceCtorEq, Nat.reduceAdd, Nat.reduceMul, Nat.reduceSub, reduceIte, Int.reduceToNat, Int.reduceEq, Int.reduceLT, Int.reduceLE, Nat.reduceLeDiff, Nat.reduceEqDiff, eq_self, and_self, s67_5, c1]
    refine ⟨⟨by omega, by omega⟩, ?_⟩
    refine hK _ _ ?_; clear hK K
    repeat' (first | refine H_seq ?_ | refine H_block ?_ | refine H_skip ?_ | refine H_nil ?_ | refine H_exit ?_ | refine H_ret ?_ | refine B_normal ?_ | refine B_same ?_ | refine B_other rfl ?_ | refine B_ret ?_ | refine L_exit ?_ | refine L_ret ?_)
    refine H_region k67 s67_4 rfl fun K hK => ?_; simp (config := { maxSteps := 4000000 }) only [go_sem, beq_self_eq_true, List.getElem_toArray, List.getElem_cons_zero, List.getElem_cons_succ, decide_true, decide_false, cond_true, cond_false, Nat.reduceBEq, reduceCtorEq, Nat.reduceAdd, Nat.reduceMul, Nat.reduceSub, reduceIte, Int.reduceToNat, Int.reduceEq, Int.reduceLT, Int.reduceLE, Nat.reduceLeDiff, Nat.reduceEqDiff, eq_self, and_self, s67_4]
    refine hK _ _ ?_; clear hK K
    repeat' (first | refine H_seq ?_ | refine H_block ?_ | refine H_skip ?_ | refine H_nil ?_ | refine H_exit ?_ | refine H_ret ?_ | refine B_normal ?_ | refine B_same ?_ | refine B_other rfl ?_ | refine B_ret ?_ | refine L_exit ?_ | refine L_ret ?_)
    have hle := held_take_le ms (i + 1)
    have hsu := held_take_succ hm
    rw [wrapI (n := (i : Int) + 1) (by omega), show ((i : Int) + 1) = ((i + 1 : Nat) : Int) by omega, wrapI (by omega), show ((heldL ((ms.take i).map MP.pc) : Int) + m.bs.length) = ((heldL ((ms.take (i + 1)).map MP.pc) : Nat) : Int) by omega]
    exact L_normal ⟨i + 1, ⟨rfl, rfl, rfl, trivial⟩, ⟨hin, rfl⟩, by omega⟩
  · refine H_condF rfl (by simpa using hin) ?_
    repeat' (first | refine H_seq ?_ | refine H_block ?_ | refine H_skip ?_ | refine H_nil ?_ | refine H_exit ?_ | refine H_ret ?_ | refine B_normal ?_ | refine B_same ?_ | refine B_other rfl ?_ | refine B_ret ?_ | refine L_exit ?_ | refine L_ret ?_)
    refine H_region k67 s67_6 rfl fun K hK => ?_; simp (config := { maxSteps := 4000000 }) only [go_sem, beq_self_eq_true, List.getElem_toArray, List.getElem_cons_zero, List.getElem_cons_succ, decide_true, decide_false, cond_true, cond_false, Nat.reduceBEq, reduceCtorEq, Nat.reduceAdd, Nat.reduceMul, Nat.reduceSub, reduceIte, Int.reduceToNat, Int.reduceEq, Int.reduceLT, Int.reduceLE, Nat.reduceLeDiff, Nat.reduceEqDiff, eq_self, and_self, s67_6]
    refine hK _ _ ?_; clear hK K
    repeat' (first | refine H_seq ?_ | refine H_block ?_ | refine H_skip ?_ | refine H_nil ?_ | refine H_exit ?_ | refine H_ret ?_ | refine B_normal ?_ | refine B_same ?_ | refine B_other rfl ?_ | refine B_ret ?_ | refine L_exit ?_ | refine L_ret ?_)
    refine F_ret ?_
    (try simp (config := { maxSteps := 4000000 }) only [go_sem, beq_self_eq_true, List.getElem_toArray, List.getElem_cons_zero, List.getElem_cons_succ, decide_true, decide_false, cond_true, cond_false, Nat.reduceBEq, reduceCtorEq, Nat.reduceAdd, Nat.reduceMul, Nat.reduceSub, reduceIte, Int.reduceToNat, Int.reduceEq, Int.reduceLT, Int.reduceLE, Nat.reduceLeDiff, Nat.reduceEqDiff, eq_self, and_self])
    rw [List.take_of_length_le (by omega)]
theorem rHeld_spec (s : Nat) (a : Option Addr) (n c size : Nat) (ms : List MP) (w : World) (hh : Hd w s a n c size ms) : CallsE Try.prog 55 [ptrV s] w fun r u => r = .int .i64 (heldL (ms.map MP.pc)) ∧ u = w := by
  have h1 := hh.canon.held
  have h2 := hh.heldLe
  refine enter Try.func55 rfl Try.results55 Try.ntmps55 rfl ?_
  repeat' (first | refine H_seq ?_ | refine H_block ?_ | refine H_skip ?_ | refine H_nil ?_ | refine H_exit ?_ | refine H_ret ?_ | refine B_normal ?_ | refine B_same ?_ | refine B_other rfl ?_ | refine B_ret ?_ | refine L_exit ?_ | refine L_ret ?_)
  refine H_region k55 s55_0 rfl fun K hK => ?_; simp (config := { maxSteps := 4000000 }) only [go_sem, beq_self_eq_true, List.getElem_toArray, List.getElem_cons_zero, List.getElem_cons_succ, decide_true, decide_false, cond_true, cond_false, Nat.reduceBEq, reduceCtorEq, Nat.reduceAdd, Nat.reduceMul, Nat.reduceSub, reduceIte, Int.reduceToNat, Int.reduceEq, Int.reduceLT, Int.reduceLE, Nat.reduceLeDiff, Nat.reduceEqDiff, eq_self, and_self, s55_0]
  refine hK _ _ ?_; clear hK K
  repeat' (first | refine H_seq ?_ | refine H_block ?_ | refine H_skip ?_ | refine H_nil ?_ | refine H_exit ?_ | refine H_ret ?_ | refine B_normal ?_ | refine B_same ?_ | refine B_other rfl ?_ | refine B_ret ?_ | refine L_exit ?_ | refine L_ret ?_)
  refine H_region k55 s55_1 rfl fun K hK => ?_; simp (config := { maxSteps := 4000000 }) only [go_sem, beq_self_eq_true, List.getElem_toArray, List.getElem_cons_zero, List.getElem_cons_succ, decide_true, decide_false, cond_true, cond_false, Nat.reduceBEq, reduceCtorEq, Nat.reduceAdd, Nat.reduceMul, Nat.reduceSub, reduceIte, Int.reduceToNat, Int.reduceEq, Int.reduceLT, Int.reduceLE, Nat.reduceLeDiff, Nat.reduceEqDiff, eq_self, and_self, s55_1, hh.hs.cell]
  refine callC tcall_67 (rheld_spec a n c ms _ hh.row (by omega) (by omega)) ?_
  rintro v u ⟨rfl, rfl⟩
  (try simp (config := { maxSteps := 4000000 }) only [go_sem, beq_self_eq_true, List.getElem_toArray, List.getElem_cons_zero, List.getElem_cons_succ, decide_true, decide_false, cond_true, cond_false, Nat.reduceBEq, reduceCtorEq, Nat.reduceAdd, Nat.reduceMul, Nat.reduceSub, reduceIte, Int.reduceToNat, Int.reduceEq, Int.reduceLT, Int.reduceLE, Nat.reduceLeDiff, Nat.reduceEqDiff, eq_self, and_self])
  refine hK _ _ ?_; clear hK K
  repeat' (first | refine H_seq ?_ | refine H_block ?_ | refine H_skip ?_ | refine H_nil ?_ | refine H_exit ?_ | refine H_ret ?_ | refine B_normal ?_ | refine B_same ?_ | refine B_other rfl ?_ | refine B_ret ?_ | refine L_exit ?_ | refine L_ret ?_)
  refine F_ret ?_
  (try simp (config := { maxSteps := 4000000 }) only [go_sem, beq_self_eq_true, List.getElem_toArray, List.getElem_cons_zero, List.getElem_cons_succ, decide_true, decide_false, cond_true, cond_false, Nat.reduceBEq, reduceCtorEq, Nat.reduceAdd, Nat.reduceMul, Nat.reduceSub, reduceIte, Int.reduceToNat, Int.reduceEq, Int.reduceLT, Int.reduceLE, Nat.reduceLeDiff, Nat.reduceEqDiff, eq_self, and_self])
theorem r01same_spec (a b : Option Addr) (n c m d : Nat) (xs ys : List UInt8) (w : World) (hx : Row w (.slice a n c) 1 (bvs xs)) (hy : Row w (.slice b m d) 1 (bvs ys)) :
    CallsE Try.prog 49 [.slice a n c, .slice b m d] w fun r u => r = .bool (decide (xs = ys)) ∧ u = w := by
  refine enter Try.func49 rfl Try.results49 Try.ntmps49 rfl ?_
  repeat' (first | refine H_seq ?_ | refine H_block ?_ | refine H_skip ?_ | refine H_nil ?_ | refine H_exit ?_ | refine H_ret ?_ | refine B_normal ?_ | refine B_same ?_ | refine B_other rfl ?_ | refine B_ret ?_ | refine L_exit ?_ | refine L_ret ?_)
  refine H_region k49 s49_0 rfl fun K hK => ?_; simp (config := { maxSteps := 4000000 }) only [go_sem, beq_self_eq_true, List.getElem_toArray, List.getElem_cons_zero, List.getElem_cons_succ, decide_true, decide_false, cond_true, cond_false, Nat.reduceBEq, reduceCtorEq, Nat.reduceAdd, Nat.reduceMul, Nat.reduceSub, reduceIte, Int.reduceToNat, Int.reduceEq, Int.reduceLT, Int.reduceLE, Nat.reduceLeDiff, Nat.reduceEqDiff, eq_self, and_self, s49_0]
  refine hK _ _ ?_; clear hK K
  repeat' (first | refine H_seq ?_ | refine H_block ?_ | refine H_skip ?_ | refine H_nil ?_ | refine H_exit ?_ | refine H_ret ?_ | refine B_normal ?_ | refine B_same ?_ | refine B_other rfl ?_ | refine B_ret ?_ | refine L_exit ?_ | refine L_ret ?_)
  refine H_region k49 s49_1 rfl fun K hK => ?_; simp (config := { maxSteps := 4000000 }) only [go_sem, beq_self_eq_true, List.getElem_toArray, List.getElem_cons_zero, List.getElem_cons_succ, decide_true, decide_false, cond_true, cond_false, Nat.reduceBEq, reduceCtorEq, Nat.reduceAdd, Nat.reduceMul, Nat.reduceSub, reduceIte, Int.reduceToNat, Int.reduceEq, Int.reduceLT, Int.reduceLE, Nat.reduceLeDiff, Nat.reduceEqDiff, eq_self, and_self, s49_1, Try.underlying9]
  refine ⟨xs, hx, ys, hy, ?_⟩
  refine hK _ _ ?_; clear hK K
  repeat' (first | refine H_seq ?_ | refine H_block ?_ | refine H_skip ?_ | refine H_nil ?_ | refine H_exit ?_ | refine H_ret ?_ | refine B_normal ?_ | refine B_same ?_ | refine B_other rfl ?_ | refine B_ret ?_ | refine L_exit ?_ | refine L_ret ?_)
  refine F_ret ?_
  (try simp (config := { maxSteps := 4000000 }) only [go_sem, beq_self_eq_true, List.getElem_toArray, List.getElem_cons_zero, List.getElem_cons_succ, decide_true, decide_false, cond_true, cond_false, Nat.reduceBEq, reduceCtorEq, Nat.reduceAdd, Nat.reduceMul, Nat.reduceSub, reduceIte, Int.reduceToNat, Int.reduceEq, Int.reduceLT, Int.reduceLE, Nat.reduceLeDiff, Nat.reduceEqDiff, eq_self, and_self])
theorem rnext_spec (s : Nat) (a : Option Addr) (n c size : Nat) (ms : List MP) (at_ : Int) (w : World) (hh : Hd w s a n c size ms) :
    CallsE Try.prog 54 [ptrV s, .int .i64 at_] w fun r u => r = .tuple #[.int .i64 (nextP (ms.map MP.pc) size (max at_ 0)).1, .int .i64 (nextP (ms.map MP.pc) size (max at_ 0)).2] ∧ Fr Nob w u := by
  have hz := hh.canon.size
  have hn := hh.len
  have hle := hh.heldLe
  refine enter Try.func54 rfl Try.results54 Try.ntmps54 rfl ?_
  repeat' (first | refine H_seq ?_ | refine H_block ?_ | refine H_skip ?_ | refine H_nil ?_ | refine H_exit ?_ | refine H_ret ?_ | refine B_normal ?_ | refine B_same ?_ | refine B_other rfl ?_ | refine B_ret ?_ | refine L_exit ?_ | refine L_ret ?_)
  refine H_region k54 s54_0 rfl fun K hK => ?_; simp (config := { maxSteps := 4000000 }) only [go_sem, beq_self_eq_true, List.getElem_toArray, List.getElem_cons_zero, List.getElem_cons_succ, decide_true, decide_false, cond_true, cond_false, Nat.reduceBEq, reduceCtorEq, Nat.reduceAdd, Nat.reduceMul, Nat.reduceSub, reduceIte, Int.reduceToNat, Int.reduceEq, Int.reduceLT, Int.reduceLE, Nat.reduceLeDiff, Nat.reduceEqDiff, eq_self, and_self, s54_0]
  refine hK _ _ ?_; clear hK K
  repeat' (first | refine H_seq ?_ | refine H_block ?_ | refine H_skip ?_ | refine H_nil ?_ | refine H_exit ?_ | refine H_ret ?_ | refine B_normal ?_ | refine B_same ?_ | refine B_other rfl ?_ | refine B_ret ?_ | refine L_exit ?_ | refine L_ret ?_)
  refine H_region k54 s54_1 rfl fun K hK => ?_; simp (config := { maxSteps := 4000000 }) only [go_sem, beq_self_eq_true, List.getElem_toArray, List.getElem_cons_zero, List.getElem_cons_succ, decide_true, decide_false, cond_true, cond_false, Nat.reduceBEq, reduceCtorEq, Nat.reduceAdd, Nat.reduceMul, Nat.reduceSub, reduceIte, Int.reduceToNat, Int.reduceEq, Int.reduceLT, Int.reduceLE, Nat.reduceLeDiff, Nat.reduceEqDiff, eq_self, and_self, s54_1]
  refine hK _ _ ?_; clear hK K
  repeat' (first | refine H_seq ?_ | refine H_block ?_ | refine H_skip ?_ | refine H_nil ?_ | refine H_exit ?_ | refine H_ret ?_ | refine B_normal ?_ | refine B_same ?_ | refine B_other rfl ?_ | refine B_ret ?_ | refine L_exit ?_ | refine L_ret ?_)
  refine H_region k54 s54_2 rfl fun K hK => ?_; simp (config := { maxSteps := 4000000 }) only [go_sem, beq_self_eq_true, List.getElem_toArray, List.getElem_cons_zero, List.getElem_cons_succ, decide_true, decide_false, cond_true, cond_false, Nat.reduceBEq, reduceCtorEq, Nat.reduceAdd, Nat.reduceMul, Nat.reduceSub, reduceIte, Int.reduceToNat, Int.reduceEq, Int.reduceLT, Int.reduceLE, Nat.reduceLeDiff, Nat.reduceEqDiff, eq_self, and_self, s54_2]
  refine hK _ _ ?_; clear hK K
  repeat' (first | refine H_seq ?_ | refine H_block ?_ | refine H_skip ?_ | refine H_nil ?_ | refine H_exit ?_ | refine H_ret ?_ | refine B_normal ?_ | refine B_same ?_ | refine B_other rfl ?_ | refine B_ret ?_ | refine L_exit ?_ | refine L_ret ?_)
  generalize hA : max at_ 0 = A
  refine H_loop (fun i : Nat => [(0, ptrV s), (1, .int .i64 A), (6, .int .i64 i)]) (fun i u => i ≤ n ∧ Fr Nob w u ∧ ∀ j m, j < i → ms[j]? = some m → (m.end_ : Int) ≤ A) (fun i => n - i) 0 ⟨rfl, rfl, rfl, trivial⟩ ⟨Nat.zero_le _, Fr.refl _ _, fun j m hj => by omega⟩ ?_
  rintro i u ⟨hi, f, hlo⟩
  have hu := hh.fr f
  repeat' (first | refine H_seq ?_ | refine H_block ?_ | refine H_skip ?_ | refine H_nil ?_ | refine H_exit ?_ | refine H_ret ?_ | refine B_normal ?_ | refine B_same ?_ | refine B_other rfl ?_ | refine B_ret ?_ | refine L_exit ?_ | refine L_ret ?_)
  refine H_region k54 s54_3 rfl fun K hK => ?_; simp (config := { maxSteps := 4000000 }) only [go_sem, beq_self_eq_true, List.getElem_toArray, List.getElem_cons_zero, List.getElem_cons_succ, decide_true, decide_false, cond_true, cond_false, Nat.reduceBEq, reduceCtorEq, Nat.reduceAdd, Nat.reduceMul, Nat.reduceSub, reduceIte, Int.reduceToNat, Int.reduceEq, Int.reduceLT, Int.reduceLE, Nat.reduceLeDiff, Nat.reduceEqDiff, eq_self, and_self, s54_3, hu.hs.cell]
  refine hK _ _ ?_; clear hK K
  repeat' (first | refine H_seq ?_ | refine H_block ?_ | refine H_skip ?_ | refine H_nil ?_ | refine H_exit ?_ | refine H_ret ?_ | refine B_normal ?_ | refine B_same ?_ | refine B_other rfl ?_ | refine B_ret ?_ | refine L_exit ?_ | refine L_ret ?_)
  by_cases hin : i < n
  · refine H_condT rfl (by simpa using hin) ?_
    repeat' (first | refine H_seq ?_ | refine H_block ?_ | refine H_skip ?_ | refine H_nil ?_ | refine H_exit ?_ | refine H_ret ?_ | refine B_normal ?_ | refine B_same ?_ | refine B_other rfl ?_ | refine B_ret ?_ | refine L_exit ?_ | refine L_ret ?_)
    obtain ⟨b, o, rfl, hc⟩ := hu.cells (by omega)
    obtain ⟨m, hm⟩ : ∃ m, ms[i]? = some m := ⟨ms[i]'(by omega), List.getElem?_eq_getElem _⟩
    obtain ⟨c0, c1⟩ := hc i m hm
    have he := canon_end hh.canon (List.mem_of_getElem? hm)
    refine H_region k54 s54_5 rfl fun K hK => ?_; simp (config := { maxSteps := 4000000 }) only [go_sem, beq_self_eq_true, List.getElem_toArray, List.getElem_cons_zero, List.getElem_cons_succ, decide_true, decide_false, cond_true, cond_false, Nat.reduceBEq, reduceCtorEq, Nat.reduceAdd, Nat.reduceMul, Nat.reduceSub, reduceIte, Int.reduceToNat, Int.reduceEq, Int.reduceLT, Int.reduceLE, Nat.reduceLeDiff, Nat.reduceEqDiff, eq_self, and_self, s54_5, hu.hs.cell, c0, c1]
    refine ⟨⟨by omega, by omega⟩, callC tcall_66 (rend_spec _ _ _ _ _ (by omega) (by omega)) ?_⟩
    rintro v2 u2 ⟨rfl, f2⟩
    simp (config := { maxSteps := 4000000 }) only [go_sem, beq_self_eq_true, List.getElem_toArray, List.getElem_cons_zero, List.getElem_cons_succ, decide_true, decide_false, cond_true, cond_false, Nat.reduceBEq, reduceCtorEq, Nat.reduceAdd, Nat.reduceMul, Nat.reduceSub, reduceIte, Int.reduceToNat, Int.reduceEq, Int.reduceLT, Int.reduceLE, Nat.reduceLeDiff, Nat.reduceEqDiff, eq_self, and_self, s54_5_1]
    refine hK _ _ ?_; clear hK K
    repeat' (first | refine H_seq ?_ | refine H_block ?_ | refine H_skip ?_ | refine H_nil ?_ | refine H_exit ?_ | refine H_ret ?_ | refine B_normal ?_ | refine B_same ?_ | refine B_other rfl ?_ | refine B_ret ?_ | refine L_exit ?_ | refine L_ret ?_)
    have hu2 := hu.fr f2
    by_cases hlt : A < (m.at_ : Int) + m.bs.length
    · refine H_condT rfl (by simpa using hlt) ?_
      repeat' (first | refine H_seq ?_ | refine H_block ?_ | refine H_skip ?_ | refine H_nil ?_ | refine H_exit ?_ | refine H_ret ?_ | refine B_normal ?_ | refine B_same ?_ | refine B_other rfl ?_ | refine B_ret ?_ | refine L_exit ?_ | refine L_ret ?_)
      obtain ⟨c2, c3⟩ : u2.cell? ⟨b, o + i * 2, none⟩ = some (.int .i64 m.at_) ∧ u2.cell? ⟨b, o + i * 2 + 1, none⟩ = some (.slice (some ⟨m.b, m.o, none⟩) m.bs.length m.c) := by
        obtain ⟨b', o', e, hc'⟩ := hu2.cells (by omega)
        cases e
        exact hc' i m hm
      refine H_drawn k54 s54_6 p54_6 (Nob) rfl mixed (by as_aux_lemma => kernel_rfl) fun K hK => ?_; simp (config := { maxSteps := 4000000 }) only [go_sem, beq_self_eq_true, List.getElem_toArray, List.getElem_cons_zero, List.getElem_cons_succ, decide_true, decide_false, cond_true, cond_false, Nat.reduceBEq, reduceCtorEq, Nat.reduceAdd, Nat.reduceMul, Nat.reduceSub, reduceIte, Int.reduceToNat, Int.reduceEq, Int.reduceLT, Int.reduceLE, Nat.reduceLeDiff, Nat.reduceEqDiff, eq_self, and_self, s54_6, p54_6, hu2.hs.cell, c2, c3]
      refine ⟨fun q => q, ⟨by omega, by omega⟩, fun q => q, fun q => q, ⟨by omega, by omega⟩, fun q => q, callC tcall_66 (rend_spec _ _ _ _ _ (by omega) (by omega)) ?_⟩
      rintro v3 u3 ⟨rfl, f3⟩
      refine ⟨f3, ?_⟩
      (try simp (config := { maxSteps := 4000000 }) only [go_sem, beq_self_eq_true, List.getElem_toArray, List.getElem_cons_zero, List.getElem_cons_succ, decide_true, decide_false, cond_true, cond_false, Nat.reduceBEq, reduceCtorEq, Nat.reduceAdd, Nat.reduceMul, Nat.reduceSub, reduceIte, Int.reduceToNat, Int.reduceEq, Int.reduceLT, Int.reduceLE, Nat.reduceLeDiff, Nat.reduceEqDiff, eq_self, and_self])
      refine hK _ _ ?_; clear hK K
      repeat' (first | refine H_seq ?_ | refine H_block ?_ | refine H_skip ?_ | refine H_nil ?_ | refine H_exit ?_ | refine H_ret ?_ | refine B_normal ?_ | refine B_same ?_ | refine B_other rfl ?_ | refine B_ret ?_ | refine L_exit ?_ | refine L_ret ?_)
      refine F_ret ?_
      (try simp (config := { maxSteps := 4000000 }) only [go_sem, beq_self_eq_true, List.getElem_toArray, List.getElem_cons_zero, List.getElem_cons_succ, decide_true, decide_false, cond_true, cond_false, Nat.reduceBEq, reduceCtorEq, Nat.reduceAdd, Nat.reduceMul, Nat.reduceSub, reduceIte, Int.reduceToNat, Int.reduceEq, Int.reduceLT, Int.reduceLE, Nat.reduceLeDiff, Nat.reduceEqDiff, eq_self, and_self])
      have : behindL ms A i := ⟨by omega, hlo, fun j x hj hx => by
        by_cases e : j = i
        · subst e; rw [hm] at hx; cases hx; simp only [MP.end_]; omega
        · have := ord_idx hh.canon.ord i j m.pc x.pc (by omega) (by rw [List.getElem?_map, hm]; rfl) (by rw [List.getElem?_map, hx]; rfl)
          simp only [MP.pc] at this
          simp only [MP.end_]; omega⟩
      rw [next_of this, hm]
      exact ⟨rfl, f.trans (f2.trans f3)⟩
    · refine H_condF rfl (by simpa using hlt) ?_
      repeat' (first | refine H_seq ?_ | refine H_block ?_ | refine H_skip ?_ | refine H_nil ?_ | refine H_exit ?_ | refine H_ret ?_ | refine B_normal ?_ | refine B_same ?_ | refine B_other rfl ?_ | refine B_ret ?_ | refine L_exit ?_ | refine L_ret ?_)
      refine H_region k54 s54_4 rfl fun K hK => ?_; simp (config := { maxSteps := 4000000 }) only [go_sem, beq_self_eq_true, List.getElem_toArray, List.getElem_cons_zero, List.getElem_cons_succ, decide_true, decide_false, cond_true, cond_false, Nat.reduceBEq, reduceCtorEq, Nat.reduceAdd, Nat.reduceMul, Nat.reduceSub, reduceIte, Int.reduceToNat, Int.reduceEq, Int.reduceLT, Int.reduceLE, Nat.reduceLeDiff, Nat.reduceEqDiff, eq_self, and_self, s54_4]
      refine hK _ _ ?_; clear hK K
      repeat' (first | refine H_seq ?_ | refine H_block ?_ | refine H_skip ?_ | refine H_nil ?_ | refine H_exit ?_ | refine H_ret ?_ | refine B_normal ?_ | refine B_same ?_ | refine B_other rfl ?_ | refine B_ret ?_ | refine L_exit ?_ | refine L_ret ?_)
      rw [wrapI (n := (i : Int) + 1) (by omega), show ((i : Int) + 1) = ((i + 1 : Nat) : Int) by omega]
      refine L_normal ⟨i + 1, ⟨rfl, rfl, rfl, trivial⟩, ⟨hin, f.trans f2, fun j x hj hx => ?_⟩, by omega⟩
      by_cases e : j = i
      · subst e; rw [hm] at hx; cases hx; simp only [MP.end_]; omega
      · exact hlo j x (by omega) hx
  · refine H_condF rfl (by simpa using hin) ?_
    repeat' (first | refine H_seq ?_ | refine H_block ?_ | refine H_skip ?_ | refine H_nil ?_ | refine H_exit ?_ | refine H_ret ?_ | refine B_normal ?_ | refine B_same ?_ | refine B_other rfl ?_ | refine B_ret ?_ | refine L_exit ?_ | refine L_ret ?_)
    refine H_drawn k54 s54_7 p54_7 (Nob) rfl mixed (by as_aux_lemma => kernel_rfl) fun K hK => ?_; simp (config := { maxSteps := 4000000 }) only [go_sem, beq_self_eq_true, List.getElem_toArray, List.getElem_cons_zero, List.getElem_cons_succ, decide_true, decide_false, cond_true, cond_false, Nat.reduceBEq, reduceCtorEq, Nat.reduceAdd, Nat.reduceMul, Nat.reduceSub, reduceIte, Int.reduceToNat, Int.reduceEq, Int.reduceLT, Int.reduceLE, Nat.reduceLeDiff, Nat.reduceEqDiff, eq_self, and_self, s54_7, p54_7, hu.hs.cell]
    refine ⟨fun q => q, fun q => q, ?_⟩
    refine hK _ _ ?_; clear hK K
    repeat' (first | refine H_seq ?_ | refine H_block ?_ | refine H_skip ?_ | refine H_nil ?_ | refine H_exit ?_ | refine H_ret ?_ | refine B_normal ?_ | refine B_same ?_ | refine B_other rfl ?_ | refine B_ret ?_ | refine L_exit ?_ | refine L_ret ?_)
    refine F_ret ?_
    (try simp (config := { maxSteps := 4000000 }) only [go_sem, beq_self_eq_true, List.getElem_toArray, List.getElem_cons_zero, List.getElem_cons_succ, decide_true, decide_false, cond_true, cond_false, Nat.reduceBEq, reduceCtorEq, Nat.reduceAdd, Nat.reduceMul, Nat.reduceSub, reduceIte, Int.reduceToNat, Int.reduceEq, Int.reduceLT, Int.reduceLE, Nat.reduceLeDiff, Nat.reduceEqDiff, eq_self, and_self])
    have : behindL ms A i := ⟨by omega, hlo, fun j m hj hm => by have := (List.getElem?_eq_some_iff.1 hm).1; omega⟩
    rw [next_of this, List.getElem?_eq_none (by omega)]
    exact ⟨rfl, f⟩
end Go.Proofs.Ytpdklpeojjkkaaa

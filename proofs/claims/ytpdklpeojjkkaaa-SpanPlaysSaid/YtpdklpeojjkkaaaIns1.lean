/- slices.Insert, of one piece. -/
import Derived.Test.YtpdklpeojjkkaaaIns0
namespace Go.Proofs.Ytpdklpeojjkkaaa
open Go
set_option linter.unusedVariables false
set_option linter.unusedSimpArgs false
set_option maxRecDepth 100000
/-- A row of one element in a block of its own. -/
theorem W.row1 {w : World} {bx : Nat} {V : List Value} (h : W w bx V) (hl : V.length = 2) : Row w (.slice (some ⟨bx, 0, none⟩) 1 1) 2 V :=
  ⟨_, _, _, rfl, by omega, Nat.le_refl _, .inr ⟨bx, 0, V, rfl, h.r, by omega, by rw [List.drop_zero, List.take_of_length_le (by omega)]⟩⟩
theorem insert_spec (a : Option Addr) (n c i bx : Nat) (xs V : List Value) (w : World) (hs : Own w (.slice a n c) 2 xs) (hi : i ≤ n) (hn : n ≤ 10000000) (hv : W w bx V) (hvl : V.length = 2)
    (h1x : ∀ u ∈ xs, u.oneCell' = true) (h1v : ∀ u ∈ V, u.oneCell' = true) (hne : blk (.slice a n c) ≠ some bx) :
    CallsE Try.prog 61 [.slice a n c, .int .i64 i, .slice (some ⟨bx, 0, none⟩) 1 1] w fun r u =>
      Own u r 2 (xs.take (i * 2) ++ V ++ xs.drop (i * 2)) ∧ Fr (fun b => blk (.slice a n c) = some b) w u ∧ (blk r = blk (.slice a n c) ∨ ∃ b, blk r = some b ∧ w.heap.size ≤ b) := by
  have hlx : xs.length = n * 2 := hs.row.len
  obtain ⟨hnc, hcm⟩ : n ≤ c ∧ c ≤ maxLen := by obtain ⟨_, _, _, hq, _, h1, h2, _⟩ := hs; cases hq; exact ⟨h1, h2⟩
  refine enter Try.func61 rfl Try.results61 Try.ntmps61 rfl ?_
  repeat' (first | refine H_seq ?_ | refine H_block ?_ | refine H_skip ?_ | refine H_nil ?_ | refine H_exit ?_ | refine H_ret ?_ | refine B_normal ?_ | refine B_same ?_ | refine B_other rfl ?_ | refine B_ret ?_ | refine L_exit ?_ | refine L_ret ?_)
  refine H_region k61 s61_0 rfl fun K hK => ?_; simp (config := { maxSteps := 4000000 }) only [go_sem, beq_self_eq_true, List.getElem_toArray, List.getElem_cons_zero, List.getElem_cons_succ, decide_true, decide_false, cond_true, cond_false, Nat.reduceBEq, reduceCtorEq, Nat.reduceAdd, Nat.reduceMul, Nat.reduceSub, reduceIte, Int.reduceToNat, Int.reduceEq, Int.reduceLT, Int.reduceLE, Nat.reduceLeDiff, Nat.reduceEqDiff, eq_self, and_self, s61_0]
  refine hK _ _ ?_; clear hK K
  repeat' (first | refine H_seq ?_ | refine H_block ?_ | refine H_skip ?_ | refine H_nil ?_ | refine H_exit ?_ | refine H_ret ?_ | refine B_normal ?_ | refine B_same ?_ | refine B_other rfl ?_ | refine B_ret ?_ | refine L_exit ?_ | refine L_ret ?_)
  refine H_region k61 s61_1 rfl fun K hK => ?_; simp (config := { maxSteps := 4000000 }) only [go_sem, beq_self_eq_true, List.getElem_toArray, List.getElem_cons_zero, List.getElem_cons_succ, decide_true, decide_false, cond_true, cond_false, Nat.reduceBEq, reduceCtorEq, Nat.reduceAdd, Nat.reduceMul, Nat.reduceSub, reduceIte, Int.reduceToNat, Int.reduceEq, Int.reduceLT, Int.reduceLE, Nat.reduceLeDiff, Nat.reduceEqDiff, eq_self, and_self, s61_1]
  refine ⟨by omega, ?_⟩
  refine hK _ _ ?_; clear hK K
  repeat' (first | refine H_seq ?_ | refine H_block ?_ | refine H_skip ?_ | refine H_nil ?_ | refine H_exit ?_ | refine H_ret ?_ | refine B_normal ?_ | refine B_same ?_ | refine B_other rfl ?_ | refine B_ret ?_ | refine L_exit ?_ | refine L_ret ?_)
  refine H_region k61 s61_2 rfl fun K hK => ?_; simp (config := { maxSteps := 4000000 }) only [go_sem, beq_self_eq_true, List.getElem_toArray, List.getElem_cons_zero, List.getElem_cons_succ, decide_true, decide_false, cond_true, cond_false, Nat.reduceBEq, reduceCtorEq, Nat.reduceAdd, Nat.reduceMul, Nat.reduceSub, reduceIte, Int.reduceToNat, Int.reduceEq, Int.reduceLT, Int.reduceLE, Nat.reduceLeDiff, Nat.reduceEqDiff, eq_self, and_self, s61_2]
  refine hK _ _ ?_; clear hK K
  repeat' (first | refine H_seq ?_ | refine H_block ?_ | refine H_skip ?_ | refine H_nil ?_ | refine H_exit ?_ | refine H_ret ?_ | refine B_normal ?_ | refine B_same ?_ | refine B_other rfl ?_ | refine B_ret ?_ | refine L_exit ?_ | refine L_ret ?_)
  refine H_region k61 s61_3 rfl fun K hK => ?_; simp (config := { maxSteps := 4000000 }) only [go_sem, beq_self_eq_true, List.getElem_toArray, List.getElem_cons_zero, List.getElem_cons_succ, decide_true, decide_false, cond_true, cond_false, Nat.reduceBEq, reduceCtorEq, Nat.reduceAdd, Nat.reduceMul, Nat.reduceSub, reduceIte, Int.reduceToNat, Int.reduceEq, Int.reduceLT, Int.reduceLE, Nat.reduceLeDiff, Nat.reduceEqDiff, eq_self, and_self, s61_3]
  refine hK _ _ ?_; clear hK K
  repeat' (first | refine H_seq ?_ | refine H_block ?_ | refine H_skip ?_ | refine H_nil ?_ | refine H_exit ?_ | refine H_ret ?_ | refine B_normal ?_ | refine B_same ?_ | refine B_other rfl ?_ | refine B_ret ?_ | refine L_exit ?_ | refine L_ret ?_)
  refine H_condF rfl (by simp) ?_
  repeat' (first | refine H_seq ?_ | refine H_block ?_ | refine H_skip ?_ | refine H_nil ?_ | refine H_exit ?_ | refine H_ret ?_ | refine B_normal ?_ | refine B_same ?_ | refine B_other rfl ?_ | refine B_ret ?_ | refine L_exit ?_ | refine L_ret ?_)
  refine H_region k61 s61_5 rfl fun K hK => ?_; simp (config := { maxSteps := 4000000 }) only [go_sem, beq_self_eq_true, List.getElem_toArray, List.getElem_cons_zero, List.getElem_cons_succ, decide_true, decide_false, cond_true, cond_false, Nat.reduceBEq, reduceCtorEq, Nat.reduceAdd, Nat.reduceMul, Nat.reduceSub, reduceIte, Int.reduceToNat, Int.reduceEq, Int.reduceLT, Int.reduceLE, Nat.reduceLeDiff, Nat.reduceEqDiff, eq_self, and_self, s61_5]
  refine hK _ _ ?_; clear hK K
  repeat' (first | refine H_seq ?_ | refine H_block ?_ | refine H_skip ?_ | refine H_nil ?_ | refine H_exit ?_ | refine H_ret ?_ | refine B_normal ?_ | refine B_same ?_ | refine B_other rfl ?_ | refine B_ret ?_ | refine L_exit ?_ | refine L_ret ?_)
  refine H_region k61 s61_6 rfl fun K hK => ?_; simp (config := { maxSteps := 4000000 }) only [go_sem, beq_self_eq_true, List.getElem_toArray, List.getElem_cons_zero, List.getElem_cons_succ, decide_true, decide_false, cond_true, cond_false, Nat.reduceBEq, reduceCtorEq, Nat.reduceAdd, Nat.reduceMul, Nat.reduceSub, reduceIte, Int.reduceToNat, Int.reduceEq, Int.reduceLT, Int.reduceLE, Nat.reduceLeDiff, Nat.reduceEqDiff, eq_self, and_self, s61_6]
  refine hK _ _ ?_; clear hK K
  repeat' (first | refine H_seq ?_ | refine H_block ?_ | refine H_skip ?_ | refine H_nil ?_ | refine H_exit ?_ | refine H_ret ?_ | refine B_normal ?_ | refine B_same ?_ | refine B_other rfl ?_ | refine B_ret ?_ | refine L_exit ?_ | refine L_ret ?_)
  by_cases hin : i = n
  · subst hin
    refine H_condT rfl (by simp) ?_
    repeat' (first | refine H_seq ?_ | refine H_block ?_ | refine H_skip ?_ | refine H_nil ?_ | refine H_exit ?_ | refine H_ret ?_ | refine B_normal ?_ | refine B_same ?_ | refine B_other rfl ?_ | refine B_ret ?_ | refine L_exit ?_ | refine L_ret ?_)
    refine H_region k61 s61_7 rfl fun K hK => ?_; simp (config := { maxSteps := 4000000 }) only [go_sem, beq_self_eq_true, List.getElem_toArray, List.getElem_cons_zero, List.getElem_cons_succ, decide_true, decide_false, cond_true, cond_false, Nat.reduceBEq, reduceCtorEq, Nat.reduceAdd, Nat.reduceMul, Nat.reduceSub, reduceIte, Int.reduceToNat, Int.reduceEq, Int.reduceLT, Int.reduceLE, Nat.reduceLeDiff, Nat.reduceEqDiff, eq_self, and_self, s61_7]
    refine appendC tsl_81 rfl rfl hs (hv.row1 hvl) h1v (by omega) ?_
    intro v u ho hf hb
    refine hK _ _ ?_; clear hK K
    repeat' (first | refine H_seq ?_ | refine H_block ?_ | refine H_skip ?_ | refine H_nil ?_ | refine H_exit ?_ | refine H_ret ?_ | refine B_normal ?_ | refine B_same ?_ | refine B_other rfl ?_ | refine B_ret ?_ | refine L_exit ?_ | refine L_ret ?_)
    refine F_ret ?_
    (try simp (config := { maxSteps := 4000000 }) only [go_sem, beq_self_eq_true, List.getElem_toArray, List.getElem_cons_zero, List.getElem_cons_succ, decide_true, decide_false, cond_true, cond_false, Nat.reduceBEq, reduceCtorEq, Nat.reduceAdd, Nat.reduceMul, Nat.reduceSub, reduceIte, Int.reduceToNat, Int.reduceEq, Int.reduceLT, Int.reduceLE, Nat.reduceLeDiff, Nat.reduceEqDiff, eq_self, and_self])
    rw [List.take_of_length_le (by omega), List.drop_of_length_le (by omega), List.append_nil]
    exact ⟨ho, hf, hb⟩
  refine H_condF rfl (by simp; omega) ?_
  repeat' (first | refine H_seq ?_ | refine H_block ?_ | refine H_skip ?_ | refine H_nil ?_ | refine H_exit ?_ | refine H_ret ?_ | refine B_normal ?_ | refine B_same ?_ | refine B_other rfl ?_ | refine B_ret ?_ | refine L_exit ?_ | refine L_ret ?_)
  obtain ⟨b, o, cs, rfl, hw, hfit, htk⟩ : ∃ b o cs, a = some ⟨b, o, none⟩ ∧ W w b cs ∧ o + c * 2 ≤ cs.length ∧ (cs.drop o).take (n * 2) = xs := by
    obtain ⟨_, _, _, hq, _, h1, h2, h⟩ := hs
    cases hq
    rcases h with ⟨_, h0⟩ | ⟨b, o, cs, ha, h3, h4, h5⟩
    · omega
    · exact ⟨b, o, cs, ha, h3, h4, h5⟩
  have hbx : bx ≠ b := fun e => hne (by rw [e]; rfl)
  refine H_region k61 s61_8 rfl fun K hK => ?_; simp (config := { maxSteps := 4000000 }) only [go_sem, beq_self_eq_true, List.getElem_toArray, List.getElem_cons_zero, List.getElem_cons_succ, decide_true, decide_false, cond_true, cond_false, Nat.reduceBEq, reduceCtorEq, Nat.reduceAdd, Nat.reduceMul, Nat.reduceSub, reduceIte, Int.reduceToNat, Int.reduceEq, Int.reduceLT, Int.reduceLE, Nat.reduceLeDiff, Nat.reduceEqDiff, eq_self, and_self, s61_8]
  rw [wrapI (by omega)]
  refine hK _ _ ?_; clear hK K
  repeat' (first | refine H_seq ?_ | refine H_block ?_ | refine H_skip ?_ | refine H_nil ?_ | refine H_exit ?_ | refine H_ret ?_ | refine B_normal ?_ | refine B_same ?_ | refine B_other rfl ?_ | refine B_ret ?_ | refine L_exit ?_ | refine L_ret ?_)
  by_cases hroom : n + 1 ≤ c
  · refine H_condF rfl (by simp; omega) ?_
    repeat' (first | refine H_seq ?_ | refine H_block ?_ | refine H_skip ?_ | refine H_nil ?_ | refine H_exit ?_ | refine H_ret ?_ | refine B_normal ?_ | refine B_same ?_ | refine B_other rfl ?_ | refine B_ret ?_ | refine L_exit ?_ | refine L_ret ?_)
    refine H_region k61 s61_13 rfl fun K hK => ?_; simp (config := { maxSteps := 4000000 }) only [go_sem, beq_self_eq_true, List.getElem_toArray, List.getElem_cons_zero, List.getElem_cons_succ, decide_true, decide_false, cond_true, cond_false, Nat.reduceBEq, reduceCtorEq, Nat.reduceAdd, Nat.reduceMul, Nat.reduceSub, reduceIte, Int.reduceToNat, Int.reduceEq, Int.reduceLT, Int.reduceLE, Nat.reduceLeDiff, Nat.reduceEqDiff, eq_self, and_self, s61_13]
    have e1 : IntKind.i64.wrap ((n : Int) + ((1 : Nat) : Int)) = ((n + 1 : Nat) : Int) := by rw [wrapI (by omega)]; rfl
    have e2 : IntKind.i64.wrap ((i : Int) + ((1 : Nat) : Int)) = ((i + 1 : Nat) : Int) := by rw [wrapI (by omega)]; rfl
    rw [e1, Int.toNat_natCast]
    refine ⟨by omega, ?_⟩
    refine hK _ _ ?_; clear hK K
    repeat' (first | refine H_seq ?_ | refine H_block ?_ | refine H_skip ?_ | refine H_nil ?_ | refine H_exit ?_ | refine H_ret ?_ | refine B_normal ?_ | refine B_same ?_ | refine B_other rfl ?_ | refine B_ret ?_ | refine L_exit ?_ | refine L_ret ?_)
    refine H_region k61 s61_14 rfl fun K hK => ?_; simp (config := { maxSteps := 4000000 }) only [go_sem, beq_self_eq_true, List.getElem_toArray, List.getElem_cons_zero, List.getElem_cons_succ, decide_true, decide_false, cond_true, cond_false, Nat.reduceBEq, reduceCtorEq, Nat.reduceAdd, Nat.reduceMul, Nat.reduceSub, reduceIte, Int.reduceToNat, Int.reduceEq, Int.reduceLT, Int.reduceLE, Nat.reduceLeDiff, Nat.reduceEqDiff, eq_self, and_self, s61_14, e2]
    rw [adv_some b o 2 (show i + 1 < c by omega)]
    refine ⟨by omega, overl_spec bx b _ _ _ _ _ V cs w _ hv hw hbx (by intro e; rw [e] at hfit; simp at hfit; omega) ?_⟩
    simp (config := { maxSteps := 4000000 }) only [go_sem, beq_self_eq_true, List.getElem_toArray, List.getElem_cons_zero, List.getElem_cons_succ, decide_true, decide_false, cond_true, cond_false, Nat.reduceBEq, reduceCtorEq, Nat.reduceAdd, Nat.reduceMul, Nat.reduceSub, reduceIte, Int.reduceToNat, Int.reduceEq, Int.reduceLT, Int.reduceLE, Nat.reduceLeDiff, Nat.reduceEqDiff, eq_self, and_self, s61_14_1]
    refine hK _ _ ?_; clear hK K
    repeat' (first | refine H_seq ?_ | refine H_block ?_ | refine H_skip ?_ | refine H_nil ?_ | refine H_exit ?_ | refine H_ret ?_ | refine B_normal ?_ | refine B_same ?_ | refine B_other rfl ?_ | refine B_ret ?_ | refine L_exit ?_ | refine L_ret ?_)
    refine H_condT rfl rfl ?_
    repeat' (first | refine H_seq ?_ | refine H_block ?_ | refine H_skip ?_ | refine H_nil ?_ | refine H_exit ?_ | refine H_ret ?_ | refine B_normal ?_ | refine B_same ?_ | refine B_other rfl ?_ | refine B_ret ?_ | refine L_exit ?_ | refine L_ret ?_)
    refine H_drawn k61 s61_15 p61_15 (Nob) rfl mixed (by as_aux_lemma => kernel_rfl) fun K hK => ?_; simp (config := { maxSteps := 4000000 }) only [go_sem, beq_self_eq_true, List.getElem_toArray, List.getElem_cons_zero, List.getElem_cons_succ, decide_true, decide_false, cond_true, cond_false, Nat.reduceBEq, reduceCtorEq, Nat.reduceAdd, Nat.reduceMul, Nat.reduceSub, reduceIte, Int.reduceToNat, Int.reduceEq, Int.reduceLT, Int.reduceLE, Nat.reduceLeDiff, Nat.reduceEqDiff, eq_self, and_self, s61_15, p61_15, e2]
    rw [adv_some b o 2 (show i + 1 < c by omega), adv_some b o 2 (show i < c by omega)]
    refine ⟨by omega, by omega, ?_⟩
    -- the block, in parts
    have hA : (xs.take (i * 2)).length = i * 2 := by rw [List.length_take]; omega
    have hB : (xs.drop (i * 2)).length = (n - i) * 2 := by rw [List.length_drop]; omega
    have hP : (cs.take o).length = o := by rw [List.length_take]; omega
    generalize hR : cs.drop (o + n * 2) = R at *
    have hRl : 2 ≤ R.length := by rw [← hR, List.length_drop]; omega
    have hcs : cs = cs.take o ++ (xs.take (i * 2) ++ (xs.drop (i * 2) ++ R)) := by
      rw [← List.append_assoc (xs.take (i * 2)), List.take_append_drop, ← htk, ← hR, ← List.drop_drop, List.take_append_drop, List.take_append_drop]
    generalize hAA : xs.take (i * 2) = A at *
    generalize hBB : xs.drop (i * 2) = B at *
    generalize hPP : cs.take o = P at *
    have hBR : B ++ R = (B ++ R).take 2 ++ (((B ++ R).drop 2).take B.length ++ R.drop 2) := by
      have : R.drop 2 = ((B ++ R).drop 2).drop B.length := by rw [List.drop_drop, Nat.add_comm, ← List.drop_drop, List.drop_left]
      rw [this, List.take_append_drop, List.take_append_drop]
    generalize hE : (B ++ R).take 2 = E at *
    have hEl : E.length = 2 := by rw [← hE, List.length_take, List.length_append]; omega
    generalize hM : ((B ++ R).drop 2).take B.length = M at *
    have hMl : M.length = (n - i) * 2 := by rw [← hM, List.length_take, List.length_drop, List.length_append]; omega
    have hsrc : Row w (.slice (some ⟨b, o + i * 2, none⟩) (n + 1 - i) (c - i)) 2 ((B ++ R).take ((n + 1 - i) * 2)) := by
      refine ⟨_, _, _, rfl, by rw [List.length_take, List.length_append]; omega, by omega, .inr ⟨b, o + i * 2, cs, rfl, hw.r, by omega, ?_⟩⟩
      congr 1
      rw [hcs, ← List.append_assoc, List.drop_left' (by rw [List.length_append]; omega)]
    have hw' : W w b ((P ++ A ++ E) ++ M ++ R.drop 2) := by
      rw [hcs, hBR] at hw
      simpa [List.append_assoc] using hw
    have hmin : min (n + 1 - i) (n + 1 - (i + 1)) = n - i := by omega
    have htB : ((B ++ R).take ((n + 1 - i) * 2)).take ((n - i) * 2) = B := by
      rw [List.take_take, Nat.min_eq_left (by omega), List.take_left' hB]
    refine copyV rfl tsl_81 hw' (by simp only [List.length_append]; omega) (by rw [hmin, hMl]) hsrc (fun u hu => by rw [hmin, htB] at hu; exact h1x u (List.mem_of_mem_drop (by rw [hBB]; exact hu))) ?_
    rw [hmin, htB]
    intro u1 p1
    refine hK _ _ ?_; clear hK K
    repeat' (first | refine H_seq ?_ | refine H_block ?_ | refine H_skip ?_ | refine H_nil ?_ | refine H_exit ?_ | refine H_ret ?_ | refine B_normal ?_ | refine B_same ?_ | refine B_other rfl ?_ | refine B_ret ?_ | refine L_exit ?_ | refine L_ret ?_)
    refine H_region k61 s61_16 rfl fun K hK => ?_; simp (config := { maxSteps := 4000000 }) only [go_sem, beq_self_eq_true, List.getElem_toArray, List.getElem_cons_zero, List.getElem_cons_succ, decide_true, decide_false, cond_true, cond_false, Nat.reduceBEq, reduceCtorEq, Nat.reduceAdd, Nat.reduceMul, Nat.reduceSub, reduceIte, Int.reduceToNat, Int.reduceEq, Int.reduceLT, Int.reduceLE, Nat.reduceLeDiff, Nat.reduceEqDiff, eq_self, and_self, s61_16]
    rw [adv_some b o 2 (show i < c by omega)]
    refine ⟨by omega, ?_⟩
    have hv1 := hv.fr p1.fr (fun e => hbx e)
    have p1b : W u1 b ((P ++ A) ++ E ++ (B ++ R.drop 2)) := by simpa [List.append_assoc] using p1.blk
    refine copyV rfl tsl_81 p1b (by simp only [List.length_append]; omega) (by rw [hEl]; omega) (hv1.row1 hvl) (fun u hu => h1v u (List.mem_of_mem_take hu)) ?_
    rw [List.take_of_length_le (show V.length ≤ min 1 (n + 1 - i) * 2 by omega)]
    intro u2 p2
    refine hK _ _ ?_; clear hK K
    repeat' (first | refine H_seq ?_ | refine H_block ?_ | refine H_skip ?_ | refine H_nil ?_ | refine H_exit ?_ | refine H_ret ?_ | refine B_normal ?_ | refine B_same ?_ | refine B_other rfl ?_ | refine B_ret ?_ | refine L_exit ?_ | refine L_ret ?_)
    refine H_region k61 s61_17 rfl fun K hK => ?_; simp (config := { maxSteps := 4000000 }) only [go_sem, beq_self_eq_true, List.getElem_toArray, List.getElem_cons_zero, List.getElem_cons_succ, decide_true, decide_false, cond_true, cond_false, Nat.reduceBEq, reduceCtorEq, Nat.reduceAdd, Nat.reduceMul, Nat.reduceSub, reduceIte, Int.reduceToNat, Int.reduceEq, Int.reduceLT, Int.reduceLE, Nat.reduceLeDiff, Nat.reduceEqDiff, eq_self, and_self, s61_17]
    refine hK _ _ ?_; clear hK K
    repeat' (first | refine H_seq ?_ | refine H_block ?_ | refine H_skip ?_ | refine H_nil ?_ | refine H_exit ?_ | refine H_ret ?_ | refine B_normal ?_ | refine B_same ?_ | refine B_other rfl ?_ | refine B_ret ?_ | refine L_exit ?_ | refine L_ret ?_)
    refine F_ret ?_
    (try simp (config := { maxSteps := 4000000 }) only [go_sem, beq_self_eq_true, List.getElem_toArray, List.getElem_cons_zero, List.getElem_cons_succ, decide_true, decide_false, cond_true, cond_false, Nat.reduceBEq, reduceCtorEq, Nat.reduceAdd, Nat.reduceMul, Nat.reduceSub, reduceIte, Int.reduceToNat, Int.reduceEq, Int.reduceLT, Int.reduceLE, Nat.reduceLeDiff, Nat.reduceEqDiff, eq_self, and_self])
    refine ⟨⟨_, _, _, rfl, ?_, hroom, hcm, .inr ⟨b, o, _, rfl, p2.blk, ?_, ?_⟩⟩, ?_, .inl rfl⟩
    · simp only [List.length_append]; omega
    · have : cs.length = o + (i * 2 + ((n - i) * 2 + R.length)) := by rw [hcs]; simp only [List.length_append]; omega
      simp only [List.length_append, List.length_drop]; omega
    · rw [show P ++ A ++ V ++ (B ++ R.drop 2) = P ++ ((A ++ V ++ B) ++ R.drop 2) by simp [List.append_assoc], List.drop_left' hP, List.take_left' (by simp only [List.length_append]; omega)]
    · exact (p1.fr.trans p2.fr).mono (fun k _ q => by simp only [Onb] at q; simp only [blk]; rw [q])
  · refine H_condT rfl (by simp; omega) ?_
    repeat' (first | refine H_seq ?_ | refine H_block ?_ | refine H_skip ?_ | refine H_nil ?_ | refine H_exit ?_ | refine H_ret ?_ | refine B_normal ?_ | refine B_same ?_ | refine B_other rfl ?_ | refine B_ret ?_ | refine L_exit ?_ | refine L_ret ?_)
    refine H_region k61 s61_9 rfl fun K hK => ?_; simp (config := { maxSteps := 4000000 }) only [go_sem, beq_self_eq_true, List.getElem_toArray, List.getElem_cons_zero, List.getElem_cons_succ, decide_true, decide_false, cond_true, cond_false, Nat.reduceBEq, reduceCtorEq, Nat.reduceAdd, Nat.reduceMul, Nat.reduceSub, reduceIte, Int.reduceToNat, Int.reduceEq, Int.reduceLT, Int.reduceLE, Nat.reduceLeDiff, Nat.reduceEqDiff, eq_self, and_self, s61_9]
    have e1 : IntKind.i64.wrap (IntKind.i64.wrap ((n : Int) + ((1 : Nat) : Int)) - i) = ((n + 1 - i : Nat) : Int) := by rw [wrapI (n := (n : Int) + ((1 : Nat) : Int)) (by omega), wrapI (by omega)]; omega
    rw [e1]
    refine ⟨by omega, rfl, ?_⟩
    rw [tsl_81]
    have hpre : Own w (.slice (some ⟨b, o, none⟩) i c) 2 (xs.take (i * 2)) :=
      ⟨_, _, _, rfl, by rw [List.length_take]; omega, by omega, hcm, .inr ⟨b, o, cs, rfl, hw, hfit, by rw [← htk, List.take_take]; congr 1; omega⟩⟩
    refine ⟨by decide, _, hpre, by omega, by simp [Value.oneCell'], fun a m c' e => ?_, ?_⟩
    · cases e
      rw [Int.toNat_natCast]
      simp only [maxLen]
      omega
    intro v u ho hf hb hnew
    rw [Int.toNat_natCast] at ho
    obtain ⟨hf, b2, hb2, hb2n⟩ := hnew _ _ _ rfl (by rw [Int.toNat_natCast]; omega)
    clear hnew hb hpre
    generalize hZ : reps [Value.int .i64 0, Value.slice none 0 0] (n + 1 - i) = Z at *
    have hA : (xs.take (i * 2)).length = i * 2 := by rw [List.length_take]; omega
    have hrowB := hs.row.sub i (by omega)
    rw [adv_some b o 2 (show i < c by omega)] at hrowB
    have hB : (xs.drop (i * 2)).length = (n - i) * 2 := by rw [List.length_drop]; omega
    have hZl : Z.length = (n + 1 - i) * 2 := by rw [← hZ, reps_length]; rfl
    generalize hAA : xs.take (i * 2) = A at *
    generalize hBB : xs.drop (i * 2) = B at *
    obtain ⟨a2, m2, c2, rfl, hl2, hmc2, hc2m, h2⟩ := ho
    obtain rfl : m2 = n + 1 := by clear h2; rw [List.length_append] at hl2; omega
    obtain ⟨o2, cs2, rfl, hw2, hfit2, htk2⟩ : ∃ o2 cs2, a2 = some ⟨b2, o2, none⟩ ∧ W u b2 cs2 ∧ o2 + c2 * 2 ≤ cs2.length ∧ (cs2.drop o2).take ((n + 1) * 2) = A ++ Z := by
      rcases h2 with ⟨rfl, h0⟩ | ⟨b', o2, cs2, rfl, h3, h4, h5⟩
      · cases hb2
      · simp only [blk, Option.some.injEq] at hb2
        subst hb2
        exact ⟨o2, cs2, rfl, h3, h4, h5⟩
    clear h2
    have hP2 : (cs2.take o2).length = o2 := by rw [List.length_take]; omega
    have hcs2 : cs2 = cs2.take o2 ++ (A ++ (Z.take 2 ++ (Z.drop 2 ++ cs2.drop (o2 + (n + 1) * 2)))) := by
      rw [← List.append_assoc (Z.take 2), List.take_append_drop, ← List.append_assoc A, ← htk2, ← List.drop_drop, List.take_append_drop, List.take_append_drop]
    generalize hT2 : cs2.drop (o2 + (n + 1) * 2) = T2 at *
    generalize hPP2 : cs2.take o2 = P2 at *
    have hZ2 : (Z.take 2).length = 2 := by rw [List.length_take]; omega
    have hZ3 : (Z.drop 2).length = (n - i) * 2 := by rw [List.length_drop]; omega
    generalize Z.take 2 = Z2 at *
    generalize Z.drop 2 = Z3 at *
    have hw2' : W u b2 ((P2 ++ A) ++ Z2 ++ (Z3 ++ T2)) := by rw [hcs2] at hw2; simpa [List.append_assoc] using hw2
    have hbx2 : bx ≠ b2 := by have := hv.lt; omega
    have hbb2 : b ≠ b2 := by have := hw.lt; omega
    have e2 : IntKind.i64.wrap ((i : Int) + ((1 : Nat) : Int)) = ((i + 1 : Nat) : Int) := by rw [wrapI (by omega)]; rfl
    refine hK _ _ ?_; clear hK K
    repeat' (first | refine H_seq ?_ | refine H_block ?_ | refine H_skip ?_ | refine H_nil ?_ | refine H_exit ?_ | refine H_ret ?_ | refine B_normal ?_ | refine B_same ?_ | refine B_other rfl ?_ | refine B_ret ?_ | refine L_exit ?_ | refine L_ret ?_)
    refine H_region k61 s61_10 rfl fun K hK => ?_; simp (config := { maxSteps := 4000000 }) only [go_sem, beq_self_eq_true, List.getElem_toArray, List.getElem_cons_zero, List.getElem_cons_succ, decide_true, decide_false, cond_true, cond_false, Nat.reduceBEq, reduceCtorEq, Nat.reduceAdd, Nat.reduceMul, Nat.reduceSub, reduceIte, Int.reduceToNat, Int.reduceEq, Int.reduceLT, Int.reduceLE, Nat.reduceLeDiff, Nat.reduceEqDiff, eq_self, and_self, s61_10]
    rw [adv_some b2 o2 2 (show i < c2 by omega)]
    refine ⟨by omega, copyV rfl tsl_81 hw2' (by simp only [List.length_append]; omega) (by rw [hZ2]; omega) ((hv.fr hf (fun q => q)).row1 hvl) (fun u hu => h1v u (List.mem_of_mem_take hu)) ?_⟩
    rw [List.take_of_length_le (show V.length ≤ min 1 (n + 1 - i) * 2 by omega)]
    intro u1 p1
    have hw3 : W u1 b2 ((P2 ++ A ++ V) ++ Z3 ++ T2) := by simpa [List.append_assoc] using p1.blk
    refine hK _ _ ?_; clear hK K
    repeat' (first | refine H_seq ?_ | refine H_block ?_ | refine H_skip ?_ | refine H_nil ?_ | refine H_exit ?_ | refine H_ret ?_ | refine B_normal ?_ | refine B_same ?_ | refine B_other rfl ?_ | refine B_ret ?_ | refine L_exit ?_ | refine L_ret ?_)
    refine H_drawn k61 s61_11 p61_11 (Nob) rfl mixed (by as_aux_lemma => kernel_rfl) fun K hK => ?_; simp (config := { maxSteps := 4000000 }) only [go_sem, beq_self_eq_true, List.getElem_toArray, List.getElem_cons_zero, List.getElem_cons_succ, decide_true, decide_false, cond_true, cond_false, Nat.reduceBEq, reduceCtorEq, Nat.reduceAdd, Nat.reduceMul, Nat.reduceSub, reduceIte, Int.reduceToNat, Int.reduceEq, Int.reduceLT, Int.reduceLE, Nat.reduceLeDiff, Nat.reduceEqDiff, eq_self, and_self, s61_11, p61_11, e2]
    rw [adv_some b2 o2 2 (show i + 1 < c2 by omega), adv_some b o 2 (show i < c by omega)]
    have hrow3 := (hrowB.fr hf (fun _ _ q => q)).fr p1.fr (fun b' hb' q => by simp only [blk, Option.some.injEq] at hb'; simp only [Onb] at q; omega)
    refine ⟨by omega, by omega, copyV rfl tsl_81 hw3 (by simp only [List.length_append]; omega) (by rw [hZ3]; omega) hrow3 (fun u hu => h1x u (List.mem_of_mem_drop (by rw [hBB]; exact List.mem_of_mem_take hu))) ?_⟩
    rw [List.take_of_length_le (show B.length ≤ min (n - i) (n + 1 - (i + 1)) * 2 by omega)]
    intro u2 p2
    refine hK _ _ ?_; clear hK K
    repeat' (first | refine H_seq ?_ | refine H_block ?_ | refine H_skip ?_ | refine H_nil ?_ | refine H_exit ?_ | refine H_ret ?_ | refine B_normal ?_ | refine B_same ?_ | refine B_other rfl ?_ | refine B_ret ?_ | refine L_exit ?_ | refine L_ret ?_)
    refine H_region k61 s61_12 rfl fun K hK => ?_; simp (config := { maxSteps := 4000000 }) only [go_sem, beq_self_eq_true, List.getElem_toArray, List.getElem_cons_zero, List.getElem_cons_succ, decide_true, decide_false, cond_true, cond_false, Nat.reduceBEq, reduceCtorEq, Nat.reduceAdd, Nat.reduceMul, Nat.reduceSub, reduceIte, Int.reduceToNat, Int.reduceEq, Int.reduceLT, Int.reduceLE, Nat.reduceLeDiff, Nat.reduceEqDiff, eq_self, and_self, s61_12]
    refine hK _ _ ?_; clear hK K
    repeat' (first | refine H_seq ?_ | refine H_block ?_ | refine H_skip ?_ | refine H_nil ?_ | refine H_exit ?_ | refine H_ret ?_ | refine B_normal ?_ | refine B_same ?_ | refine B_other rfl ?_ | refine B_ret ?_ | refine L_exit ?_ | refine L_ret ?_)
    refine F_ret ?_
    (try simp (config := { maxSteps := 4000000 }) only [go_sem, beq_self_eq_true, List.getElem_toArray, List.getElem_cons_zero, List.getElem_cons_succ, decide_true, decide_false, cond_true, cond_false, Nat.reduceBEq, reduceCtorEq, Nat.reduceAdd, Nat.reduceMul, Nat.reduceSub, reduceIte, Int.reduceToNat, Int.reduceEq, Int.reduceLT, Int.reduceLE, Nat.reduceLeDiff, Nat.reduceEqDiff, eq_self, and_self])
    refine ⟨⟨_, _, _, rfl, ?_, hmc2, hc2m, .inr ⟨b2, o2, _, rfl, p2.blk, ?_, ?_⟩⟩, ?_, .inr ⟨b2, rfl, hb2n⟩⟩
    · simp only [List.length_append]; omega
    · have : cs2.length = o2 + (i * 2 + (2 + ((n - i) * 2 + T2.length))) := by rw [hcs2]; simp only [List.length_append]; omega
      simp only [List.length_append]; omega
    · rw [show P2 ++ A ++ V ++ B ++ T2 = P2 ++ ((A ++ V ++ B) ++ T2) by simp [List.append_assoc], List.drop_left' hP2, List.take_left' (by simp only [List.length_append]; omega)]
    · exact (hf.trans2 p1.fr (fun _ _ q => q.elim) (fun k hk q => by simp only [Onb] at q; omega)).trans2 p2.fr (fun _ _ q => q) (fun k hk q => by simp only [Onb] at q; omega)
end Go.Proofs.Ytpdklpeojjkkaaa

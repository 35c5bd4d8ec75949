/- slices.Replace, by one piece. -/
import Derived.Test.YtpdklpeojjkkaaaIns1
namespace Go.Proofs.Ytpdklpeojjkkaaa
open Go
set_option linter.unusedVariables false
set_option linter.unusedSimpArgs false
set_option maxRecDepth 100000
theorem replace_spec (a : Option Addr) (n c i j bx : Nat) (xs V : List Value) (w : World) (hs : Own w (.slice a n c) 2 xs) (hij : i ≤ j) (hj2 : j ≤ i + 2) (hj : j ≤ n) (hn : n ≤ 10000000) (hv : W w bx V) (hvl : V.length = 2)
    (h1x : ∀ u ∈ xs, u.oneCell' = true) (h1v : ∀ u ∈ V, u.oneCell' = true) (hne : blk (.slice a n c) ≠ some bx) :
    CallsE Try.prog 46 [.slice a n c, .int .i64 i, .int .i64 j, .slice (some ⟨bx, 0, none⟩) 1 1] w fun r u =>
      Own u r 2 (xs.take (i * 2) ++ V ++ xs.drop (j * 2)) ∧ Fr (fun b => blk (.slice a n c) = some b) w u ∧ (blk r = blk (.slice a n c) ∨ ∃ b, blk r = some b ∧ w.heap.size ≤ b) := by
  have hlx : xs.length = n * 2 := hs.row.len
  obtain ⟨hnc, hcm⟩ : n ≤ c ∧ c ≤ maxLen := by obtain ⟨_, _, _, hq, _, h1, h2, _⟩ := hs; cases hq; exact ⟨h1, h2⟩
  refine enter Try.func46 rfl Try.results46 Try.ntmps46 rfl ?_
  repeat' (first | refine H_seq ?_ | refine H_block ?_ | refine H_skip ?_ | refine H_nil ?_ | refine H_exit ?_ | refine H_ret ?_ | refine B_normal ?_ | refine B_same ?_ | refine B_other rfl ?_ | refine B_ret ?_ | refine L_exit ?_ | refine L_ret ?_)
  refine H_region k46 s46_0 rfl fun K hK => ?_; simp (config := { maxSteps := 4000000 }) only [go_sem, beq_self_eq_true, List.getElem_toArray, List.getElem_cons_zero, List.getElem_cons_succ, decide_true, decide_false, cond_true, cond_false, Nat.reduceBEq, reduceCtorEq, Nat.reduceAdd, Nat.reduceMul, Nat.reduceSub, reduceIte, Int.reduceToNat, Int.reduceEq, Int.reduceLT, Int.reduceLE, Nat.reduceLeDiff, Nat.reduceEqDiff, eq_self, and_self, s46_0]
  refine hK _ _ ?_; clear hK K
  repeat' (first | refine H_seq ?_ | refine H_block ?_ | refine H_skip ?_ | refine H_nil ?_ | refine H_exit ?_ | refine H_ret ?_ | refine B_normal ?_ | refine B_same ?_ | refine B_other rfl ?_ | refine B_ret ?_ | refine L_exit ?_ | refine L_ret ?_)
  refine H_region k46 s46_1 rfl fun K hK => ?_; simp (config := { maxSteps := 4000000 }) only [go_sem, beq_self_eq_true, List.getElem_toArray, List.getElem_cons_zero, List.getElem_cons_succ, decide_true, decide_false, cond_true, cond_false, Nat.reduceBEq, reduceCtorEq, Nat.reduceAdd, Nat.reduceMul, Nat.reduceSub, reduceIte, Int.reduceToNat, Int.reduceEq, Int.reduceLT, Int.reduceLE, Nat.reduceLeDiff, Nat.reduceEqDiff, eq_self, and_self, s46_1]
  refine ⟨by omega, ?_⟩
  refine hK _ _ ?_; clear hK K
  repeat' (first | refine H_seq ?_ | refine H_block ?_ | refine H_skip ?_ | refine H_nil ?_ | refine H_exit ?_ | refine H_ret ?_ | refine B_normal ?_ | refine B_same ?_ | refine B_other rfl ?_ | refine B_ret ?_ | refine L_exit ?_ | refine L_ret ?_)
  refine H_region k46 s46_2 rfl fun K hK => ?_; simp (config := { maxSteps := 4000000 }) only [go_sem, beq_self_eq_true, List.getElem_toArray, List.getElem_cons_zero, List.getElem_cons_succ, decide_true, decide_false, cond_true, cond_false, Nat.reduceBEq, reduceCtorEq, Nat.reduceAdd, Nat.reduceMul, Nat.reduceSub, reduceIte, Int.reduceToNat, Int.reduceEq, Int.reduceLT, Int.reduceLE, Nat.reduceLeDiff, Nat.reduceEqDiff, eq_self, and_self, s46_2]
  refine hK _ _ ?_; clear hK K
  repeat' (first | refine H_seq ?_ | refine H_block ?_ | refine H_skip ?_ | refine H_nil ?_ | refine H_exit ?_ | refine H_ret ?_ | refine B_normal ?_ | refine B_same ?_ | refine B_other rfl ?_ | refine B_ret ?_ | refine L_exit ?_ | refine L_ret ?_)
  by_cases hijn : i = j
  · subst hijn
    refine H_condT rfl (by simp) ?_
    repeat' (first | refine H_seq ?_ | refine H_block ?_ | refine H_skip ?_ | refine H_nil ?_ | refine H_exit ?_ | refine H_ret ?_ | refine B_normal ?_ | refine B_same ?_ | refine B_other rfl ?_ | refine B_ret ?_ | refine L_exit ?_ | refine L_ret ?_)
    refine H_region k46 s46_3 rfl fun K hK => ?_; simp (config := { maxSteps := 4000000 }) only [go_sem, beq_self_eq_true, List.getElem_toArray, List.getElem_cons_zero, List.getElem_cons_succ, decide_true, decide_false, cond_true, cond_false, Nat.reduceBEq, reduceCtorEq, Nat.reduceAdd, Nat.reduceMul, Nat.reduceSub, reduceIte, Int.reduceToNat, Int.reduceEq, Int.reduceLT, Int.reduceLE, Nat.reduceLeDiff, Nat.reduceEqDiff, eq_self, and_self, s46_3]
    refine callC tcall_61 (insert_spec a n c i bx xs V w hs hj hn hv hvl h1x h1v hne) ?_
    rintro v u ⟨ho, hf, hb⟩
    (try simp (config := { maxSteps := 4000000 }) only [go_sem, beq_self_eq_true, List.getElem_toArray, List.getElem_cons_zero, List.getElem_cons_succ, decide_true, decide_false, cond_true, cond_false, Nat.reduceBEq, reduceCtorEq, Nat.reduceAdd, Nat.reduceMul, Nat.reduceSub, reduceIte, Int.reduceToNat, Int.reduceEq, Int.reduceLT, Int.reduceLE, Nat.reduceLeDiff, Nat.reduceEqDiff, eq_self, and_self])
    refine hK _ _ ?_; clear hK K
    repeat' (first | refine H_seq ?_ | refine H_block ?_ | refine H_skip ?_ | refine H_nil ?_ | refine H_exit ?_ | refine H_ret ?_ | refine B_normal ?_ | refine B_same ?_ | refine B_other rfl ?_ | refine B_ret ?_ | refine L_exit ?_ | refine L_ret ?_)
    refine F_ret ?_
    (try simp (config := { maxSteps := 4000000 }) only [go_sem, beq_self_eq_true, List.getElem_toArray, List.getElem_cons_zero, List.getElem_cons_succ, decide_true, decide_false, cond_true, cond_false, Nat.reduceBEq, reduceCtorEq, Nat.reduceAdd, Nat.reduceMul, Nat.reduceSub, reduceIte, Int.reduceToNat, Int.reduceEq, Int.reduceLT, Int.reduceLE, Nat.reduceLeDiff, Nat.reduceEqDiff, eq_self, and_self])
    exact ⟨ho, hf, hb⟩
  refine H_condF rfl (by simp; omega) ?_
  repeat' (first | refine H_seq ?_ | refine H_block ?_ | refine H_skip ?_ | refine H_nil ?_ | refine H_exit ?_ | refine H_ret ?_ | refine B_normal ?_ | refine B_same ?_ | refine B_other rfl ?_ | refine B_ret ?_ | refine L_exit ?_ | refine L_ret ?_)
  obtain ⟨b, o, cs, rfl, hw, hfit, htk⟩ : ∃ b o cs, a = some ⟨b, o, none⟩ ∧ W w b cs ∧ o + c * 2 ≤ cs.length ∧ (cs.drop o).take (n * 2) = xs := by
    obtain ⟨_, _, _, hq, _, h1, h2, h⟩ := hs
    cases hq
    rcases h with ⟨_, h0⟩ | ⟨b, o, cs, ha, h3, h4, h5⟩
    · omega
    · exact ⟨b, o, cs, ha, h3, h4, h5⟩
  have hbx : bx ≠ b := fun e => hne (by rw [e]; rfl)
  have hpre : Own w (.slice (some ⟨b, o, none⟩) i c) 2 (xs.take (i * 2)) :=
    ⟨_, _, _, rfl, by rw [List.length_take]; omega, by omega, hcm, .inr ⟨b, o, cs, rfl, hw, hfit, by rw [← htk, List.take_take]; congr 1; omega⟩⟩
  have hP : (cs.take o).length = o := by rw [List.length_take]; omega
  have hcs : cs = cs.take o ++ (xs.take (i * 2) ++ (xs.drop (i * 2) ++ cs.drop (o + n * 2))) := by
    rw [← List.append_assoc (xs.take (i * 2)), List.take_append_drop, ← htk, ← List.drop_drop, List.take_append_drop, List.take_append_drop]
  have hA : (xs.take (i * 2)).length = i * 2 := by rw [List.length_take]; omega
  have hXG : xs.drop (i * 2) = (xs.drop (i * 2)).take 2 ++ (((xs.drop (i * 2)).drop 2).take ((j - i - 1) * 2) ++ xs.drop (j * 2)) := by
    have : xs.drop (j * 2) = ((xs.drop (i * 2)).drop 2).drop ((j - i - 1) * 2) := by rw [List.drop_drop, List.drop_drop]; congr 1; omega
    rw [this, List.take_append_drop, List.take_append_drop]
  have hX : ((xs.drop (i * 2)).take 2).length = 2 := by rw [List.length_take, List.length_drop]; omega
  have hG : (((xs.drop (i * 2)).drop 2).take ((j - i - 1) * 2)).length = (j - i - 1) * 2 := by rw [List.length_take, List.length_drop, List.length_drop]; omega
  have hD : (xs.drop (j * 2)).length = (n - j) * 2 := by rw [List.length_drop]; omega
  have hT : (cs.drop (o + n * 2)).length = cs.length - (o + n * 2) := by rw [List.length_drop]
  have h1D : ∀ u ∈ xs.drop (j * 2), u.oneCell' = true := fun u hu => h1x u (List.mem_of_mem_drop hu)
  rw [hXG] at hcs
  generalize (xs.drop (i * 2)).take 2 = X at *
  generalize ((xs.drop (i * 2)).drop 2).take ((j - i - 1) * 2) = G at *
  generalize cs.drop (o + n * 2) = T at *
  generalize xs.take (i * 2) = A at *
  generalize xs.drop (j * 2) = D at *
  generalize cs.take o = P at *
  clear hXG htk
  have hcl : cs.length = o + (i * 2 + (2 + ((j - i - 1) * 2 + ((n - j) * 2 + T.length)))) := by rw [hcs]; simp only [List.length_append]; omega
  refine H_region k46 s46_4 rfl fun K hK => ?_; simp (config := { maxSteps := 4000000 }) only [go_sem, beq_self_eq_true, List.getElem_toArray, List.getElem_cons_zero, List.getElem_cons_succ, decide_true, decide_false, cond_true, cond_false, Nat.reduceBEq, reduceCtorEq, Nat.reduceAdd, Nat.reduceMul, Nat.reduceSub, reduceIte, Int.reduceToNat, Int.reduceEq, Int.reduceLT, Int.reduceLE, Nat.reduceLeDiff, Nat.reduceEqDiff, eq_self, and_self, s46_4]
  refine hK _ _ ?_; clear hK K
  repeat' (first | refine H_seq ?_ | refine H_block ?_ | refine H_skip ?_ | refine H_nil ?_ | refine H_exit ?_ | refine H_ret ?_ | refine B_normal ?_ | refine B_same ?_ | refine B_other rfl ?_ | refine B_ret ?_ | refine L_exit ?_ | refine L_ret ?_)
  by_cases hjn : j = n
  · subst hjn
    refine H_condT rfl (by simp) ?_
    repeat' (first | refine H_seq ?_ | refine H_block ?_ | refine H_skip ?_ | refine H_nil ?_ | refine H_exit ?_ | refine H_ret ?_ | refine B_normal ?_ | refine B_same ?_ | refine B_other rfl ?_ | refine B_ret ?_ | refine L_exit ?_ | refine L_ret ?_)
    refine H_region k46 s46_5 rfl fun K hK => ?_; simp (config := { maxSteps := 4000000 }) only [go_sem, beq_self_eq_true, List.getElem_toArray, List.getElem_cons_zero, List.getElem_cons_succ, decide_true, decide_false, cond_true, cond_false, Nat.reduceBEq, reduceCtorEq, Nat.reduceAdd, Nat.reduceMul, Nat.reduceSub, reduceIte, Int.reduceToNat, Int.reduceEq, Int.reduceLT, Int.reduceLE, Nat.reduceLeDiff, Nat.reduceEqDiff, eq_self, and_self, s46_5]
    refine ⟨by omega, ?_⟩
    refine appendC' tsl_81 rfl rfl hpre (hv.row1 hvl) h1v (by omega) ?_
    intro v u ho hf hb _ hroom
    obtain ⟨rfl, hp⟩ := hroom b o i c _ _ _ cs rfl rfl (by omega) hw
    have hw' : cs = (P ++ A) ++ X ++ (G ++ (D ++ T)) := by rw [hcs]; simp [List.append_assoc]
    rw [hw', show o + i * 2 = (P ++ A).length by rw [List.length_append]; omega, splice_mid _ _ _ _ (hvl.trans hX.symm)] at hp
    have hD0 : D = [] := List.eq_nil_of_length_eq_zero (by omega)
    subst hD0
    clear hroom hb ho
    have hfin : ∀ u, Fr (fun k => k = b) w u → ∀ R, W u b (P ++ A ++ V ++ R) → R.length = G.length + T.length → Own u (.slice (some ⟨b, o, none⟩) (i + 1) c) 2 (A ++ V) ∧ Fr (fun k => blk (.slice (some ⟨b, o, none⟩) j c) = some k) w u ∧ (blk (.slice (some ⟨b, o, none⟩) (i + 1) c) = blk (.slice (some ⟨b, o, none⟩) j c) ∨ ∃ k, blk (.slice (some ⟨b, o, none⟩) (i + 1) c) = some k ∧ w.heap.size ≤ k) := by
      intro u hf R hW hRl
      refine ⟨⟨_, _, _, rfl, by simp only [List.length_append]; omega, by omega, hcm, .inr ⟨b, o, _, rfl, hW, by simp only [List.length_append]; omega, ?_⟩⟩, hf.mono (fun k _ q => by simp only [blk]; rw [q]), .inl rfl⟩
      rw [show P ++ A ++ V ++ R = P ++ ((A ++ V) ++ R) by simp [List.append_assoc], List.drop_left' hP, List.take_left' (by simp only [List.length_append]; omega)]
    refine hK _ _ ?_; clear hK K
    repeat' (first | refine H_seq ?_ | refine H_block ?_ | refine H_skip ?_ | refine H_nil ?_ | refine H_exit ?_ | refine H_ret ?_ | refine B_normal ?_ | refine B_same ?_ | refine B_other rfl ?_ | refine B_ret ?_ | refine L_exit ?_ | refine L_ret ?_)
    refine H_region k46 s46_6 rfl fun K hK => ?_; simp (config := { maxSteps := 4000000 }) only [go_sem, beq_self_eq_true, List.getElem_toArray, List.getElem_cons_zero, List.getElem_cons_succ, decide_true, decide_false, cond_true, cond_false, Nat.reduceBEq, reduceCtorEq, Nat.reduceAdd, Nat.reduceMul, Nat.reduceSub, reduceIte, Int.reduceToNat, Int.reduceEq, Int.reduceLT, Int.reduceLE, Nat.reduceLeDiff, Nat.reduceEqDiff, eq_self, and_self, s46_6]
    refine hK _ _ ?_; clear hK K
    repeat' (first | refine H_seq ?_ | refine H_block ?_ | refine H_skip ?_ | refine H_nil ?_ | refine H_exit ?_ | refine H_ret ?_ | refine B_normal ?_ | refine B_same ?_ | refine B_other rfl ?_ | refine B_ret ?_ | refine L_exit ?_ | refine L_ret ?_)
    by_cases hl : i + 1 < j
    · refine H_condT rfl (by simp; omega) ?_
      repeat' (first | refine H_seq ?_ | refine H_block ?_ | refine H_skip ?_ | refine H_nil ?_ | refine H_exit ?_ | refine H_ret ?_ | refine B_normal ?_ | refine B_same ?_ | refine B_other rfl ?_ | refine B_ret ?_ | refine L_exit ?_ | refine L_ret ?_)
      refine H_region k46 s46_7 rfl fun K hK => ?_; simp (config := { maxSteps := 4000000 }) only [go_sem, beq_self_eq_true, List.getElem_toArray, List.getElem_cons_zero, List.getElem_cons_succ, decide_true, decide_false, cond_true, cond_false, Nat.reduceBEq, reduceCtorEq, Nat.reduceAdd, Nat.reduceMul, Nat.reduceSub, reduceIte, Int.reduceToNat, Int.reduceEq, Int.reduceLT, Int.reduceLE, Nat.reduceLeDiff, Nat.reduceEqDiff, eq_self, and_self, s46_7]
      rw [adv_some b o 2 (show i + 1 < c by omega)]
      have hpw : W u b ((P ++ A ++ V) ++ G ++ T) := by simpa [List.append_assoc] using hp.blk
      refine ⟨by omega, clearV (M := G) (L := P ++ A ++ V) (T := T) tsl_81 hpw (by simp only [List.length_append]; omega) (by omega) (by simp [Value.oneCell']) rfl ?_ (by omega)⟩
      intro u2 Z hZ hp2
      refine hK _ _ ?_; clear hK K
      repeat' (first | refine H_seq ?_ | refine H_block ?_ | refine H_skip ?_ | refine H_nil ?_ | refine H_exit ?_ | refine H_ret ?_ | refine B_normal ?_ | refine B_same ?_ | refine B_other rfl ?_ | refine B_ret ?_ | refine L_exit ?_ | refine L_ret ?_)
      refine H_region k46 s46_8 rfl fun K hK => ?_; simp (config := { maxSteps := 4000000 }) only [go_sem, beq_self_eq_true, List.getElem_toArray, List.getElem_cons_zero, List.getElem_cons_succ, decide_true, decide_false, cond_true, cond_false, Nat.reduceBEq, reduceCtorEq, Nat.reduceAdd, Nat.reduceMul, Nat.reduceSub, reduceIte, Int.reduceToNat, Int.reduceEq, Int.reduceLT, Int.reduceLE, Nat.reduceLeDiff, Nat.reduceEqDiff, eq_self, and_self, s46_8]
      refine hK _ _ ?_; clear hK K
      repeat' (first | refine H_seq ?_ | refine H_block ?_ | refine H_skip ?_ | refine H_nil ?_ | refine H_exit ?_ | refine H_ret ?_ | refine B_normal ?_ | refine B_same ?_ | refine B_other rfl ?_ | refine B_ret ?_ | refine L_exit ?_ | refine L_ret ?_)
      refine F_ret ?_
      (try simp (config := { maxSteps := 4000000 }) only [go_sem, beq_self_eq_true, List.getElem_toArray, List.getElem_cons_zero, List.getElem_cons_succ, decide_true, decide_false, cond_true, cond_false, Nat.reduceBEq, reduceCtorEq, Nat.reduceAdd, Nat.reduceMul, Nat.reduceSub, reduceIte, Int.reduceToNat, Int.reduceEq, Int.reduceLT, Int.reduceLE, Nat.reduceLeDiff, Nat.reduceEqDiff, eq_self, and_self])
      exact hfin u2 (hp.fr.trans hp2.fr) (Z ++ T) (by simpa [List.append_assoc] using hp2.blk) (by rw [List.length_append]; omega)
    · refine H_condF rfl (by simp; omega) ?_
      repeat' (first | refine H_seq ?_ | refine H_block ?_ | refine H_skip ?_ | refine H_nil ?_ | refine H_exit ?_ | refine H_ret ?_ | refine B_normal ?_ | refine B_same ?_ | refine B_other rfl ?_ | refine B_ret ?_ | refine L_exit ?_ | refine L_ret ?_)
      refine H_region k46 s46_8 rfl fun K hK => ?_; simp (config := { maxSteps := 4000000 }) only [go_sem, beq_self_eq_true, List.getElem_toArray, List.getElem_cons_zero, List.getElem_cons_succ, decide_true, decide_false, cond_true, cond_false, Nat.reduceBEq, reduceCtorEq, Nat.reduceAdd, Nat.reduceMul, Nat.reduceSub, reduceIte, Int.reduceToNat, Int.reduceEq, Int.reduceLT, Int.reduceLE, Nat.reduceLeDiff, Nat.reduceEqDiff, eq_self, and_self, s46_8]
      refine hK _ _ ?_; clear hK K
      repeat' (first | refine H_seq ?_ | refine H_block ?_ | refine H_skip ?_ | refine H_nil ?_ | refine H_exit ?_ | refine H_ret ?_ | refine B_normal ?_ | refine B_same ?_ | refine B_other rfl ?_ | refine B_ret ?_ | refine L_exit ?_ | refine L_ret ?_)
      refine F_ret ?_
      (try simp (config := { maxSteps := 4000000 }) only [go_sem, beq_self_eq_true, List.getElem_toArray, List.getElem_cons_zero, List.getElem_cons_succ, decide_true, decide_false, cond_true, cond_false, Nat.reduceBEq, reduceCtorEq, Nat.reduceAdd, Nat.reduceMul, Nat.reduceSub, reduceIte, Int.reduceToNat, Int.reduceEq, Int.reduceLT, Int.reduceLE, Nat.reduceLeDiff, Nat.reduceEqDiff, eq_self, and_self])
      exact hfin u hp.fr (G ++ T) (by simpa using hp.blk) (by rw [List.length_append])
  · refine H_condF rfl (by simp; omega) ?_
    repeat' (first | refine H_seq ?_ | refine H_block ?_ | refine H_skip ?_ | refine H_nil ?_ | refine H_exit ?_ | refine H_ret ?_ | refine B_normal ?_ | refine B_same ?_ | refine B_other rfl ?_ | refine B_ret ?_ | refine L_exit ?_ | refine L_ret ?_)
    refine H_drawn k46 s46_9 p46_9 (Nob) rfl mixed (by as_aux_lemma => kernel_rfl) fun K hK => ?_; simp (config := { maxSteps := 4000000 }) only [go_sem, beq_self_eq_true, List.getElem_toArray, List.getElem_cons_zero, List.getElem_cons_succ, decide_true, decide_false, cond_true, cond_false, Nat.reduceBEq, reduceCtorEq, Nat.reduceAdd, Nat.reduceMul, Nat.reduceSub, reduceIte, Int.reduceToNat, Int.reduceEq, Int.reduceLT, Int.reduceLE, Nat.reduceLeDiff, Nat.reduceEqDiff, eq_self, and_self, s46_9, p46_9]
    have e1 : IntKind.i64.wrap (IntKind.i64.wrap ((i : Int) + ((1 : Nat) : Int)) + ((n - j : Nat) : Int)) = ((i + 1 + (n - j) : Nat) : Int) := by rw [wrapI (n := (i : Int) + ((1 : Nat) : Int)) (by omega), wrapI (by omega)]; omega
    have e2 : IntKind.i64.wrap ((i : Int) + ((1 : Nat) : Int)) = ((i + 1 : Nat) : Int) := by rw [wrapI (by omega)]; rfl
    rw [e1]
    refine ⟨by omega, by omega, ?_⟩
    generalize htot : i + 1 + (n - j) = tot at *
    refine hK _ _ ?_; clear hK K
    repeat' (first | refine H_seq ?_ | refine H_block ?_ | refine H_skip ?_ | refine H_nil ?_ | refine H_exit ?_ | refine H_ret ?_ | refine B_normal ?_ | refine B_same ?_ | refine B_other rfl ?_ | refine B_ret ?_ | refine L_exit ?_ | refine L_ret ?_)
    refine H_region k46 s46_10 rfl fun K hK => ?_; simp (config := { maxSteps := 4000000 }) only [go_sem, beq_self_eq_true, List.getElem_toArray, List.getElem_cons_zero, List.getElem_cons_succ, decide_true, decide_false, cond_true, cond_false, Nat.reduceBEq, reduceCtorEq, Nat.reduceAdd, Nat.reduceMul, Nat.reduceSub, reduceIte, Int.reduceToNat, Int.reduceEq, Int.reduceLT, Int.reduceLE, Nat.reduceLeDiff, Nat.reduceEqDiff, eq_self, and_self, s46_10]
    refine hK _ _ ?_; clear hK K
    repeat' (first | refine H_seq ?_ | refine H_block ?_ | refine H_skip ?_ | refine H_nil ?_ | refine H_exit ?_ | refine H_ret ?_ | refine B_normal ?_ | refine B_same ?_ | refine B_other rfl ?_ | refine B_ret ?_ | refine L_exit ?_ | refine L_ret ?_)
    refine H_condF rfl (by simp; omega) ?_
    repeat' (first | refine H_seq ?_ | refine H_block ?_ | refine H_skip ?_ | refine H_nil ?_ | refine H_exit ?_ | refine H_ret ?_ | refine B_normal ?_ | refine B_same ?_ | refine B_other rfl ?_ | refine B_ret ?_ | refine L_exit ?_ | refine L_ret ?_)
    refine H_region k46 s46_15 rfl fun K hK => ?_; simp (config := { maxSteps := 4000000 }) only [go_sem, beq_self_eq_true, List.getElem_toArray, List.getElem_cons_zero, List.getElem_cons_succ, decide_true, decide_false, cond_true, cond_false, Nat.reduceBEq, reduceCtorEq, Nat.reduceAdd, Nat.reduceMul, Nat.reduceSub, reduceIte, Int.reduceToNat, Int.reduceEq, Int.reduceLT, Int.reduceLE, Nat.reduceLeDiff, Nat.reduceEqDiff, eq_self, and_self, s46_15]
    refine ⟨by omega, ?_⟩
    refine hK _ _ ?_; clear hK K
    repeat' (first | refine H_seq ?_ | refine H_block ?_ | refine H_skip ?_ | refine H_nil ?_ | refine H_exit ?_ | refine H_ret ?_ | refine B_normal ?_ | refine B_same ?_ | refine B_other rfl ?_ | refine B_ret ?_ | refine L_exit ?_ | refine L_ret ?_)
    refine H_region k46 s46_16 rfl fun K hK => ?_; simp (config := { maxSteps := 4000000 }) only [go_sem, beq_self_eq_true, List.getElem_toArray, List.getElem_cons_zero, List.getElem_cons_succ, decide_true, decide_false, cond_true, cond_false, Nat.reduceBEq, reduceCtorEq, Nat.reduceAdd, Nat.reduceMul, Nat.reduceSub, reduceIte, Int.reduceToNat, Int.reduceEq, Int.reduceLT, Int.reduceLE, Nat.reduceLeDiff, Nat.reduceEqDiff, eq_self, and_self, s46_16, e2]
    refine hK _ _ ?_; clear hK K
    repeat' (first | refine H_seq ?_ | refine H_block ?_ | refine H_skip ?_ | refine H_nil ?_ | refine H_exit ?_ | refine H_ret ?_ | refine B_normal ?_ | refine B_same ?_ | refine B_other rfl ?_ | refine B_ret ?_ | refine L_exit ?_ | refine L_ret ?_)
    refine H_condT rfl (by simp; omega) ?_
    repeat' (first | refine H_seq ?_ | refine H_block ?_ | refine H_skip ?_ | refine H_nil ?_ | refine H_exit ?_ | refine H_ret ?_ | refine B_normal ?_ | refine B_same ?_ | refine B_other rfl ?_ | refine B_ret ?_ | refine L_exit ?_ | refine L_ret ?_)
    refine H_region k46 s46_17 rfl fun K hK => ?_; simp (config := { maxSteps := 4000000 }) only [go_sem, beq_self_eq_true, List.getElem_toArray, List.getElem_cons_zero, List.getElem_cons_succ, decide_true, decide_false, cond_true, cond_false, Nat.reduceBEq, reduceCtorEq, Nat.reduceAdd, Nat.reduceMul, Nat.reduceSub, reduceIte, Int.reduceToNat, Int.reduceEq, Int.reduceLT, Int.reduceLE, Nat.reduceLeDiff, Nat.reduceEqDiff, eq_self, and_self, s46_17]
    rw [adv_some b o 2 (show i < c by omega)]
    have hw1 : W w b ((P ++ A) ++ X ++ (G ++ (D ++ T))) := by rw [hcs] at hw; simpa [List.append_assoc] using hw
    refine ⟨by omega, copyV rfl tsl_81 hw1 (by simp only [List.length_append]; omega) (by omega) (hv.row1 hvl) (fun u hu => h1v u (List.mem_of_mem_take hu)) ?_⟩
    rw [List.take_of_length_le (show V.length ≤ min 1 (tot - i) * 2 by omega)]
    intro u1 p1
    refine hK _ _ ?_; clear hK K
    repeat' (first | refine H_seq ?_ | refine H_block ?_ | refine H_skip ?_ | refine H_nil ?_ | refine H_exit ?_ | refine H_ret ?_ | refine B_normal ?_ | refine B_same ?_ | refine B_other rfl ?_ | refine B_ret ?_ | refine L_exit ?_ | refine L_ret ?_)
    refine H_drawn k46 s46_18 p46_18 (Nob) rfl mixed (by as_aux_lemma => kernel_rfl) fun K hK => ?_; simp (config := { maxSteps := 4000000 }) only [go_sem, beq_self_eq_true, List.getElem_toArray, List.getElem_cons_zero, List.getElem_cons_succ, decide_true, decide_false, cond_true, cond_false, Nat.reduceBEq, reduceCtorEq, Nat.reduceAdd, Nat.reduceMul, Nat.reduceSub, reduceIte, Int.reduceToNat, Int.reduceEq, Int.reduceLT, Int.reduceLE, Nat.reduceLeDiff, Nat.reduceEqDiff, eq_self, and_self, s46_18, p46_18, e2]
    rw [adv_some b o 2 (show i + 1 < c by omega), adv_some b o 2 (show j < c by omega)]
    obtain ⟨M, N, hGD, hMl, hNl⟩ : ∃ M N, G ++ D = M ++ N ∧ M.length = (n - j) * 2 ∧ N.length = (j - i - 1) * 2 :=
      ⟨_, _, (List.take_append_drop ((n - j) * 2) (G ++ D)).symm, by rw [List.length_take, List.length_append]; omega, by rw [List.length_drop, List.length_append]; omega⟩
    have hsrc : Row u1 (.slice (some ⟨b, o + j * 2, none⟩) (n - j) (c - j)) 2 D := by
      refine ⟨_, _, _, rfl, hD, by omega, .inr ⟨b, o + j * 2, _, rfl, p1.blk.r, by simp only [List.length_append]; omega, ?_⟩⟩
      rw [show P ++ A ++ V ++ (G ++ (D ++ T)) = (P ++ A ++ V ++ G) ++ (D ++ T) by simp [List.append_assoc], List.drop_left' (by simp only [List.length_append]; omega), List.take_left' hD]
    have hw2 : W u1 b ((P ++ A ++ V) ++ M ++ (N ++ T)) := by
      have := p1.blk
      rw [← List.append_assoc G, hGD] at this
      simpa [List.append_assoc] using this
    refine ⟨by omega, by omega, copyV rfl tsl_81 hw2 (by simp only [List.length_append]; omega) (by omega) hsrc (fun u hu => h1D u (List.mem_of_mem_take hu)) ?_⟩
    rw [List.take_of_length_le (show D.length ≤ min (n - j) (tot - (i + 1)) * 2 by omega)]
    intro u2 p2
    refine hK _ _ ?_; clear hK K
    repeat' (first | refine H_seq ?_ | refine H_block ?_ | refine H_skip ?_ | refine H_nil ?_ | refine H_exit ?_ | refine H_ret ?_ | refine B_normal ?_ | refine B_same ?_ | refine B_other rfl ?_ | refine B_ret ?_ | refine L_exit ?_ | refine L_ret ?_)
    refine H_region k46 s46_19 rfl fun K hK => ?_; simp (config := { maxSteps := 4000000 }) only [go_sem, beq_self_eq_true, List.getElem_toArray, List.getElem_cons_zero, List.getElem_cons_succ, decide_true, decide_false, cond_true, cond_false, Nat.reduceBEq, reduceCtorEq, Nat.reduceAdd, Nat.reduceMul, Nat.reduceSub, reduceIte, Int.reduceToNat, Int.reduceEq, Int.reduceLT, Int.reduceLE, Nat.reduceLeDiff, Nat.reduceEqDiff, eq_self, and_self, s46_19]
    refine ⟨by omega, ?_⟩
    have hfin : ∀ u, Fr (fun k => k = b) w u → ∀ R, W u b (P ++ A ++ V ++ D ++ R) → R.length = N.length + T.length → Own u (.slice (some ⟨b, o, none⟩) tot c) 2 (A ++ V ++ D) ∧ Fr (fun k => blk (.slice (some ⟨b, o, none⟩) n c) = some k) w u ∧ (blk (.slice (some ⟨b, o, none⟩) tot c) = blk (.slice (some ⟨b, o, none⟩) n c) ∨ ∃ k, blk (.slice (some ⟨b, o, none⟩) tot c) = some k ∧ w.heap.size ≤ k) := by
      intro u hf R hW hRl
      refine ⟨⟨_, _, _, rfl, by simp only [List.length_append]; omega, by omega, hcm, .inr ⟨b, o, _, rfl, hW, by simp only [List.length_append]; omega, ?_⟩⟩, hf.mono (fun k _ q => by simp only [blk]; rw [q]), .inl rfl⟩
      rw [show P ++ A ++ V ++ D ++ R = P ++ ((A ++ V ++ D) ++ R) by simp [List.append_assoc], List.drop_left' hP, List.take_left' (by simp only [List.length_append]; omega)]
    by_cases hz : n - tot = 0
    · unfold clearVC
      rw [tsl_81]
      refine ⟨_, _, _, rfl, by simp [Value.oneCell'], .inl ⟨hz, ?_⟩⟩
      refine hK _ _ ?_; clear hK K
      repeat' (first | refine H_seq ?_ | refine H_block ?_ | refine H_skip ?_ | refine H_nil ?_ | refine H_exit ?_ | refine H_ret ?_ | refine B_normal ?_ | refine B_same ?_ | refine B_other rfl ?_ | refine B_ret ?_ | refine L_exit ?_ | refine L_ret ?_)
      refine H_region k46 s46_20 rfl fun K hK => ?_; simp (config := { maxSteps := 4000000 }) only [go_sem, beq_self_eq_true, List.getElem_toArray, List.getElem_cons_zero, List.getElem_cons_succ, decide_true, decide_false, cond_true, cond_false, Nat.reduceBEq, reduceCtorEq, Nat.reduceAdd, Nat.reduceMul, Nat.reduceSub, reduceIte, Int.reduceToNat, Int.reduceEq, Int.reduceLT, Int.reduceLE, Nat.reduceLeDiff, Nat.reduceEqDiff, eq_self, and_self, s46_20]
      refine hK _ _ ?_; clear hK K
      repeat' (first | refine H_seq ?_ | refine H_block ?_ | refine H_skip ?_ | refine H_nil ?_ | refine H_exit ?_ | refine H_ret ?_ | refine B_normal ?_ | refine B_same ?_ | refine B_other rfl ?_ | refine B_ret ?_ | refine L_exit ?_ | refine L_ret ?_)
      refine F_ret ?_
      (try simp (config := { maxSteps := 4000000 }) only [go_sem, beq_self_eq_true, List.getElem_toArray, List.getElem_cons_zero, List.getElem_cons_succ, decide_true, decide_false, cond_true, cond_false, Nat.reduceBEq, reduceCtorEq, Nat.reduceAdd, Nat.reduceMul, Nat.reduceSub, reduceIte, Int.reduceToNat, Int.reduceEq, Int.reduceLT, Int.reduceLE, Nat.reduceLeDiff, Nat.reduceEqDiff, eq_self, and_self])
      exact hfin u2 (p1.fr.trans p2.fr) (N ++ T) (by simpa [List.append_assoc] using p2.blk) (by rw [List.length_append])
    · rw [adv_some b o 2 (show tot < c by omega)]
      have hw3 : W u2 b ((P ++ A ++ V ++ D) ++ N ++ T) := by simpa [List.append_assoc] using p2.blk
      refine clearV tsl_81 hw3 (by simp only [List.length_append]; omega) (by omega) (by simp [Value.oneCell']) rfl ?_ (by omega)
      intro u3 Z hZ p3
      refine hK _ _ ?_; clear hK K
      repeat' (first | refine H_seq ?_ | refine H_block ?_ | refine H_skip ?_ | refine H_nil ?_ | refine H_exit ?_ | refine H_ret ?_ | refine B_normal ?_ | refine B_same ?_ | refine B_other rfl ?_ | refine B_ret ?_ | refine L_exit ?_ | refine L_ret ?_)
      refine H_region k46 s46_20 rfl fun K hK => ?_; simp (config := { maxSteps := 4000000 }) only [go_sem, beq_self_eq_true, List.getElem_toArray, List.getElem_cons_zero, List.getElem_cons_succ, decide_true, decide_false, cond_true, cond_false, Nat.reduceBEq, reduceCtorEq, Nat.reduceAdd, Nat.reduceMul, Nat.reduceSub, reduceIte, Int.reduceToNat, Int.reduceEq, Int.reduceLT, Int.reduceLE, Nat.reduceLeDiff, Nat.reduceEqDiff, eq_self, and_self, s46_20]
      refine hK _ _ ?_; clear hK K
      repeat' (first | refine H_seq ?_ | refine H_block ?_ | refine H_skip ?_ | refine H_nil ?_ | refine H_exit ?_ | refine H_ret ?_ | refine B_normal ?_ | refine B_same ?_ | refine B_other rfl ?_ | refine B_ret ?_ | refine L_exit ?_ | refine L_ret ?_)
      refine F_ret ?_
      (try simp (config := { maxSteps := 4000000 }) only [go_sem, beq_self_eq_true, List.getElem_toArray, List.getElem_cons_zero, List.getElem_cons_succ, decide_true, decide_false, cond_true, cond_false, Nat.reduceBEq, reduceCtorEq, Nat.reduceAdd, Nat.reduceMul, Nat.reduceSub, reduceIte, Int.reduceToNat, Int.reduceEq, Int.reduceLT, Int.reduceLE, Nat.reduceLeDiff, Nat.reduceEqDiff, eq_self, and_self])
      exact hfin u3 ((p1.fr.trans p2.fr).trans p3.fr) (Z ++ T) (by simpa [List.append_assoc] using p3.blk) (by rw [List.length_append]; omega)
end Go.Proofs.Ytpdklpeojjkkaaa

/- mantleref01: New, Twin. -/
import Derived.Test.YtpdklpeojjkkaaaRefe
namespace Go.Proofs.Ytpdklpeojjkkaaa
open Go
set_option linter.unusedVariables false
set_option linter.unusedSimpArgs false
set_option maxRecDepth 100000
set_option maxHeartbeats 2000000
theorem rlay_nil (s : Nat) (A : Int) (a : Option Addr) (c : Nat) (w : World) : CallsE Try.prog 47 [ptrV s, .int .i64 A, .slice a 0 c] w fun r u => r = .tuple #[] ∧ u = w := by
  refine enter Try.func47 rfl Try.results47 Try.ntmps47 rfl ?_
  repeat' (first | refine H_seq ?_ | refine H_block ?_ | refine H_skip ?_ | refine H_nil ?_ | refine H_exit ?_ | refine H_ret ?_ | refine B_normal ?_ | refine B_same ?_ | refine B_other rfl ?_ | refine B_ret ?_ | refine L_exit ?_ | refine L_ret ?_)
  refine H_region k47 s47_0 rfl fun K hK => ?_; simp (config := { maxSteps := 4000000 }) only [go_sem, beq_self_eq_true, List.getElem_toArray, List.getElem_cons_zero, List.getElem_cons_succ, decide_true, decide_false, cond_true, cond_false, Nat.reduceBEq, reduceCtorEq, Nat.reduceAdd, Nat.reduceMul, Nat.reduceSub, reduceIte, Int.reduceToNat, Int.reduceEq, Int.reduceLT, Int.reduceLE, Nat.reduceLeDiff, Nat.reduceEqDiff, eq_self, and_self, s47_0]
  refine hK _ _ ?_; clear hK K
  repeat' (first | refine H_seq ?_ | refine H_block ?_ | refine H_skip ?_ | refine H_nil ?_ | refine H_exit ?_ | refine H_ret ?_ | refine B_normal ?_ | refine B_same ?_ | refine B_other rfl ?_ | refine B_ret ?_ | refine L_exit ?_ | refine L_ret ?_)
  refine H_condT rfl rfl ?_
  repeat' (first | refine H_seq ?_ | refine H_block ?_ | refine H_skip ?_ | refine H_nil ?_ | refine H_exit ?_ | refine H_ret ?_ | refine B_normal ?_ | refine B_same ?_ | refine B_other rfl ?_ | refine B_ret ?_ | refine L_exit ?_ | refine L_ret ?_)
  refine F_ret ?_
  (try simp (config := { maxSteps := 4000000 }) only [go_sem, beq_self_eq_true, List.getElem_toArray, List.getElem_cons_zero, List.getElem_cons_succ, decide_true, decide_false, cond_true, cond_false, Nat.reduceBEq, reduceCtorEq, Nat.reduceAdd, Nat.reduceMul, Nat.reduceSub, reduceIte, Int.reduceToNat, Int.reduceEq, Int.reduceLT, Int.reduceLE, Nat.reduceLeDiff, Nat.reduceEqDiff, eq_self, and_self])
theorem rnew_spec (a : Option Addr) (n cap : Nat) (bs : List UInt8) (w : World) (hv : Row w (.slice a n cap) 1 (bvs bs)) (hl : bs.length ≤ 4194304) :
    CallsE Try.prog 34 [.slice a n cap] w fun r u => ∃ s ms, r = ptrV s ∧ IsRef u (Fromb w.heap.size) s ms bs.length ∧ ms.map MP.pc = wholeL bs ∧ Fr Nob w u := by
  have hn : bs.length = n := by have := hv.len; rw [bvs_len] at this; omega
  refine enter Try.func34 rfl Try.results34 Try.ntmps34 rfl ?_
  repeat' (first | refine H_seq ?_ | refine H_block ?_ | refine H_skip ?_ | refine H_nil ?_ | refine H_exit ?_ | refine H_ret ?_ | refine B_normal ?_ | refine B_same ?_ | refine B_other rfl ?_ | refine B_ret ?_ | refine L_exit ?_ | refine L_ret ?_)
  refine H_region k34 s34_0 rfl fun K hK => ?_; simp (config := { maxSteps := 4000000 }) only [go_sem, beq_self_eq_true, List.getElem_toArray, List.getElem_cons_zero, List.getElem_cons_succ, decide_true, decide_false, cond_true, cond_false, Nat.reduceBEq, reduceCtorEq, Nat.reduceAdd, Nat.reduceMul, Nat.reduceSub, reduceIte, Int.reduceToNat, Int.reduceEq, Int.reduceLT, Int.reduceLE, Nat.reduceLeDiff, Nat.reduceEqDiff, eq_self, and_self, s34_0]
  refine hK _ _ ?_; clear hK K
  repeat' (first | refine H_seq ?_ | refine H_block ?_ | refine H_skip ?_ | refine H_nil ?_ | refine H_exit ?_ | refine H_ret ?_ | refine B_normal ?_ | refine B_same ?_ | refine B_other rfl ?_ | refine B_ret ?_ | refine L_exit ?_ | refine L_ret ?_)
  refine H_region k34 s34_1 rfl fun K hK => ?_; simp (config := { maxSteps := 4000000 }) only [go_sem, beq_self_eq_true, List.getElem_toArray, List.getElem_cons_zero, List.getElem_cons_succ, decide_true, decide_false, cond_true, cond_false, Nat.reduceBEq, reduceCtorEq, Nat.reduceAdd, Nat.reduceMul, Nat.reduceSub, reduceIte, Int.reduceToNat, Int.reduceEq, Int.reduceLT, Int.reduceLE, Nat.reduceLeDiff, Nat.reduceEqDiff, eq_self, and_self, s34_1]
  intro s w1 h1
  have hn1 := h1.num
  have hs1 := h1.size
  refine hK _ _ ?_; clear hK K
  repeat' (first | refine H_seq ?_ | refine H_block ?_ | refine H_skip ?_ | refine H_nil ?_ | refine H_exit ?_ | refine H_ret ?_ | refine B_normal ?_ | refine B_same ?_ | refine B_other rfl ?_ | refine B_ret ?_ | refine L_exit ?_ | refine L_ret ?_)
  refine H_region k34 s34_2 rfl fun K hK => ?_; simp (config := { maxSteps := 4000000 }) only [go_sem, beq_self_eq_true, List.getElem_toArray, List.getElem_cons_zero, List.getElem_cons_succ, decide_true, decide_false, cond_true, cond_false, Nat.reduceBEq, reduceCtorEq, Nat.reduceAdd, Nat.reduceMul, Nat.reduceSub, reduceIte, Int.reduceToNat, Int.reduceEq, Int.reduceLT, Int.reduceLE, Nat.reduceLeDiff, Nat.reduceEqDiff, eq_self, and_self, s34_2]
  refine hK _ _ ?_; clear hK K
  repeat' (first | refine H_seq ?_ | refine H_block ?_ | refine H_skip ?_ | refine H_nil ?_ | refine H_exit ?_ | refine H_ret ?_ | refine B_normal ?_ | refine B_same ?_ | refine B_other rfl ?_ | refine B_ret ?_ | refine L_exit ?_ | refine L_ret ?_)
  refine H_condF rfl (by simp; omega) ?_
  repeat' (first | refine H_seq ?_ | refine H_block ?_ | refine H_skip ?_ | refine H_nil ?_ | refine H_exit ?_ | refine H_ret ?_ | refine B_normal ?_ | refine B_same ?_ | refine B_other rfl ?_ | refine B_ret ?_ | refine L_exit ?_ | refine L_ret ?_)
  refine H_region k34 s34_4 rfl fun K hK => ?_; simp (config := { maxSteps := 4000000 }) only [go_sem, beq_self_eq_true, List.getElem_toArray, List.getElem_cons_zero, List.getElem_cons_succ, decide_true, decide_false, cond_true, cond_false, Nat.reduceBEq, reduceCtorEq, Nat.reduceAdd, Nat.reduceMul, Nat.reduceSub, reduceIte, Int.reduceToNat, Int.reduceEq, Int.reduceLT, Int.reduceLE, Nat.reduceLeDiff, Nat.reduceEqDiff, eq_self, and_self, s34_4]
  refine ⟨_, h1.blk, by simp, ?_⟩
  (try simp (config := { maxSteps := 4000000 }) only [go_sem, beq_self_eq_true, List.getElem_toArray, List.getElem_cons_zero, List.getElem_cons_succ, decide_true, decide_false, cond_true, cond_false, Nat.reduceBEq, reduceCtorEq, Nat.reduceAdd, Nat.reduceMul, Nat.reduceSub, reduceIte, Int.reduceToNat, Int.reduceEq, Int.reduceLT, Int.reduceLE, Nat.reduceLeDiff, Nat.reduceEqDiff, eq_self, and_self])
  intro w2 hp2
  have hs2 := hp2.size
  have f2 : Fr Nob w w2 := h1.fr.put hp2 (.inl (by omega))
  refine hK _ _ ?_; clear hK K
  repeat' (first | refine H_seq ?_ | refine H_block ?_ | refine H_skip ?_ | refine H_nil ?_ | refine H_exit ?_ | refine H_ret ?_ | refine B_normal ?_ | refine B_same ?_ | refine B_other rfl ?_ | refine B_ret ?_ | refine L_exit ?_ | refine L_ret ?_)
  refine H_region k34 s34_5 rfl fun K hK => ?_; simp (config := { maxSteps := 4000000 }) only [go_sem, beq_self_eq_true, List.getElem_toArray, List.getElem_cons_zero, List.getElem_cons_succ, decide_true, decide_false, cond_true, cond_false, Nat.reduceBEq, reduceCtorEq, Nat.reduceAdd, Nat.reduceMul, Nat.reduceSub, reduceIte, Int.reduceToNat, Int.reduceEq, Int.reduceLT, Int.reduceLE, Nat.reduceLeDiff, Nat.reduceEqDiff, eq_self, and_self, s34_5]
  by_cases h0 : n = 0
  · subst h0
    have hb0 : bs = [] := List.eq_nil_of_length_eq_zero hn
    subst hb0
    refine callC tcall_47 (rlay_nil s 0 a cap w2) ?_
    rintro v3 w3 ⟨rfl, rfl⟩
    (try simp (config := { maxSteps := 4000000 }) only [go_sem, beq_self_eq_true, List.getElem_toArray, List.getElem_cons_zero, List.getElem_cons_succ, decide_true, decide_false, cond_true, cond_false, Nat.reduceBEq, reduceCtorEq, Nat.reduceAdd, Nat.reduceMul, Nat.reduceSub, reduceIte, Int.reduceToNat, Int.reduceEq, Int.reduceLT, Int.reduceLE, Nat.reduceLeDiff, Nat.reduceEqDiff, eq_self, and_self])
    refine hK _ _ ?_; clear hK K
    repeat' (first | refine H_seq ?_ | refine H_block ?_ | refine H_skip ?_ | refine H_nil ?_ | refine H_exit ?_ | refine H_ret ?_ | refine B_normal ?_ | refine B_same ?_ | refine B_other rfl ?_ | refine B_ret ?_ | refine L_exit ?_ | refine L_ret ?_)
    refine H_region k34 s34_6 rfl fun K hK => ?_; simp (config := { maxSteps := 4000000 }) only [go_sem, beq_self_eq_true, List.getElem_toArray, List.getElem_cons_zero, List.getElem_cons_succ, decide_true, decide_false, cond_true, cond_false, Nat.reduceBEq, reduceCtorEq, Nat.reduceAdd, Nat.reduceMul, Nat.reduceSub, reduceIte, Int.reduceToNat, Int.reduceEq, Int.reduceLT, Int.reduceLE, Nat.reduceLeDiff, Nat.reduceEqDiff, eq_self, and_self, s34_6]
    refine hK _ _ ?_; clear hK K
    repeat' (first | refine H_seq ?_ | refine H_block ?_ | refine H_skip ?_ | refine H_nil ?_ | refine H_exit ?_ | refine H_ret ?_ | refine B_normal ?_ | refine B_same ?_ | refine B_other rfl ?_ | refine B_ret ?_ | refine L_exit ?_ | refine L_ret ?_)
    refine F_ret ?_
    (try simp (config := { maxSteps := 4000000 }) only [go_sem, beq_self_eq_true, List.getElem_toArray, List.getElem_cons_zero, List.getElem_cons_succ, decide_true, decide_false, cond_true, cond_false, Nat.reduceBEq, reduceCtorEq, Nat.reduceAdd, Nat.reduceMul, Nat.reduceSub, reduceIte, Int.reduceToNat, Int.reduceEq, Int.reduceLT, Int.reduceLE, Nat.reduceLeDiff, Nat.reduceEqDiff, eq_self, and_self])
    exact ⟨s, [], rfl, ⟨⟨none, 0, 0, ⟨hp2.blk, (Own.nil _ _).row, ⟨by simp [Ord], by simp, by simp [heldL]⟩⟩, fun b hb => (by cases hb)⟩, by simp only [Fromb]; omega, fun m hm => (by cases hm)⟩, rfl, f2⟩
  have hh2 : Hd w2 s none 0 0 n [] := ⟨hp2.blk, (Own.nil _ _).row, ⟨by simp [Ord], by omega, by simp [heldL]⟩⟩
  refine callC tcall_47 (rlay_spec s 0 n cap none a 0 0 n [] bs w2 hh2 (fun m hm => (by cases hm)) (hv.fr f2 (fun _ _ q => q)) (by omega) (by omega) (by simp [heldL]; omega)) ?_
  rintro v3 w3 ⟨rfl, a3, n3, c3, ms3, hW3, hr3, hb3, hp3, hm3, f3⟩
  (try simp (config := { maxSteps := 4000000 }) only [go_sem, beq_self_eq_true, List.getElem_toArray, List.getElem_cons_zero, List.getElem_cons_succ, decide_true, decide_false, cond_true, cond_false, Nat.reduceBEq, reduceCtorEq, Nat.reduceAdd, Nat.reduceMul, Nat.reduceSub, reduceIte, Int.reduceToNat, Int.reduceEq, Int.reduceLT, Int.reduceLE, Nat.reduceLeDiff, Nat.reduceEqDiff, eq_self, and_self])
  refine hK _ _ ?_; clear hK K
  repeat' (first | refine H_seq ?_ | refine H_block ?_ | refine H_skip ?_ | refine H_nil ?_ | refine H_exit ?_ | refine H_ret ?_ | refine B_normal ?_ | refine B_same ?_ | refine B_other rfl ?_ | refine B_ret ?_ | refine L_exit ?_ | refine L_ret ?_)
  refine H_region k34 s34_6 rfl fun K hK => ?_; simp (config := { maxSteps := 4000000 }) only [go_sem, beq_self_eq_true, List.getElem_toArray, List.getElem_cons_zero, List.getElem_cons_succ, decide_true, decide_false, cond_true, cond_false, Nat.reduceBEq, reduceCtorEq, Nat.reduceAdd, Nat.reduceMul, Nat.reduceSub, reduceIte, Int.reduceToNat, Int.reduceEq, Int.reduceLT, Int.reduceLE, Nat.reduceLeDiff, Nat.reduceEqDiff, eq_self, and_self, s34_6]
  refine hK _ _ ?_; clear hK K
  repeat' (first | refine H_seq ?_ | refine H_block ?_ | refine H_skip ?_ | refine H_nil ?_ | refine H_exit ?_ | refine H_ret ?_ | refine B_normal ?_ | refine B_same ?_ | refine B_other rfl ?_ | refine B_ret ?_ | refine L_exit ?_ | refine L_ret ?_)
  refine F_ret ?_
  (try simp (config := { maxSteps := 4000000 }) only [go_sem, beq_self_eq_true, List.getElem_toArray, List.getElem_cons_zero, List.getElem_cons_succ, decide_true, decide_false, cond_true, cond_false, Nat.reduceBEq, reduceCtorEq, Nat.reduceAdd, Nat.reduceMul, Nat.reduceSub, reduceIte, Int.reduceToNat, Int.reduceEq, Int.reduceLT, Int.reduceLE, Nat.reduceLeDiff, Nat.reduceEqDiff, eq_self, and_self])
  have hm3' : ms3.map MP.pc = wholeL bs := by
    rw [hm3]
    simp only [List.map_nil, clear_nil, insL]
    cases bs with
    | nil => simp at hn; omega
    | cons x r => rfl
  refine ⟨s, ms3, rfl, ⟨⟨a3, n3, c3, ⟨by rw [hn]; exact hW3, hr3, ?_⟩, fun b hb => ?_⟩, by simp only [Fromb]; omega, fun m hm => ?_⟩, hm3', f2.trans2 f3 (fun _ _ q => q) (fun b hb q => by simp only [Onb] at q; omega)⟩
  · rw [hm3']
    cases bs with
    | nil => simp at hn; omega
    | cons x r => exact ⟨by simp [wholeL, Ord], by omega, by simpa [wholeL, heldL] using hl⟩
  · have := hb3 b hb
    simp only [Fromb]; omega
  · obtain ⟨h4, h5⟩ := hp3 m hm
    rcases h5 with h5 | ⟨m0, hm0, _⟩
    · exact ⟨h4, by simp only [Fromb]; omega, by omega⟩
    · cases hm0
theorem rtwin_spec (s size : Nat) (F : Nat → Prop) (ms : List MP) (w : World) (h : IsRef w F s ms size) :
    CallsE Try.prog 36 [ptrV s] w fun r u => ∃ t ms', r = ptrV t ∧ IsRef u (Fromb w.heap.size) t ms' size ∧ ms'.map MP.pc = ms.map MP.pc ∧ Fr Nob w u := by
  obtain ⟨a, n, c, hh, hbl⟩ := h.hd
  have hz := hh.canon.size
  have hn := hh.len
  have hle := hh.heldLe
  refine enter Try.func36 rfl Try.results36 Try.ntmps36 rfl ?_
  repeat' (first | refine H_seq ?_ | refine H_block ?_ | refine H_skip ?_ | refine H_nil ?_ | refine H_exit ?_ | refine H_ret ?_ | refine B_normal ?_ | refine B_same ?_ | refine B_other rfl ?_ | refine B_ret ?_ | refine L_exit ?_ | refine L_ret ?_)
  refine H_region k36 s36_0 rfl fun K hK => ?_; simp (config := { maxSteps := 4000000 }) only [go_sem, beq_self_eq_true, List.getElem_toArray, List.getElem_cons_zero, List.getElem_cons_succ, decide_true, decide_false, cond_true, cond_false, Nat.reduceBEq, reduceCtorEq, Nat.reduceAdd, Nat.reduceMul, Nat.reduceSub, reduceIte, Int.reduceToNat, Int.reduceEq, Int.reduceLT, Int.reduceLE, Nat.reduceLeDiff, Nat.reduceEqDiff, eq_self, and_self, s36_0]
  refine hK _ _ ?_; clear hK K
  repeat' (first | refine H_seq ?_ | refine H_block ?_ | refine H_skip ?_ | refine H_nil ?_ | refine H_exit ?_ | refine H_ret ?_ | refine B_normal ?_ | refine B_same ?_ | refine B_other rfl ?_ | refine B_ret ?_ | refine L_exit ?_ | refine L_ret ?_)
  refine H_region k36 s36_1 rfl fun K hK => ?_; simp (config := { maxSteps := 4000000 }) only [go_sem, beq_self_eq_true, List.getElem_toArray, List.getElem_cons_zero, List.getElem_cons_succ, decide_true, decide_false, cond_true, cond_false, Nat.reduceBEq, reduceCtorEq, Nat.reduceAdd, Nat.reduceMul, Nat.reduceSub, reduceIte, Int.reduceToNat, Int.reduceEq, Int.reduceLT, Int.reduceLE, Nat.reduceLeDiff, Nat.reduceEqDiff, eq_self, and_self, s36_1, hh.hs.cell]
  intro t w1 h1
  have ht := h1.num
  refine hK _ _ ?_; clear hK K
  repeat' (first | refine H_seq ?_ | refine H_block ?_ | refine H_skip ?_ | refine H_nil ?_ | refine H_exit ?_ | refine H_ret ?_ | refine B_normal ?_ | refine B_same ?_ | refine B_other rfl ?_ | refine B_ret ?_ | refine L_exit ?_ | refine L_ret ?_)
  refine H_region k36 s36_2 rfl fun K hK => ?_; simp (config := { maxSteps := 4000000 }) only [go_sem, beq_self_eq_true, List.getElem_toArray, List.getElem_cons_zero, List.getElem_cons_succ, decide_true, decide_false, cond_true, cond_false, Nat.reduceBEq, reduceCtorEq, Nat.reduceAdd, Nat.reduceMul, Nat.reduceSub, reduceIte, Int.reduceToNat, Int.reduceEq, Int.reduceLT, Int.reduceLE, Nat.reduceLeDiff, Nat.reduceEqDiff, eq_self, and_self, s36_2]
  refine hK _ _ ?_; clear hK K
  repeat' (first | refine H_seq ?_ | refine H_block ?_ | refine H_skip ?_ | refine H_nil ?_ | refine H_exit ?_ | refine H_ret ?_ | refine B_normal ?_ | refine B_same ?_ | refine B_other rfl ?_ | refine B_ret ?_ | refine L_exit ?_ | refine L_ret ?_)
  refine H_loop (fun x : Nat × Value × List MP => [(0, ptrV s), (3, ptrV t), (4, .int .i64 x.1)])
    (fun x u => x.1 ≤ n ∧ Fr Nob w u ∧ w.heap.size < u.heap.size ∧ W u t [x.2.1, .int .i64 size] ∧ Fresh w u t x.2.1 x.2.2 ∧ x.2.2.map MP.pc = (ms.take x.1).map MP.pc) (fun x => n - x.1)
    (0, .slice none 0 0, []) ⟨rfl, rfl, rfl, trivial⟩ ⟨Nat.zero_le _, h1.fr, by have := h1.size; omega, h1.blk, ⟨Own.nil _ _, fun b hb => (by cases hb), fun m hm => (by cases hm), fun m hm => (by cases hm)⟩, rfl⟩ ?_
  rintro ⟨i, v, ms1⟩ u ⟨hi, hf, hsz, hW, hFr, hpc⟩
  simp only at hi hf hW hFr hpc
  have hu := hh.fr hf
  repeat' (first | refine H_seq ?_ | refine H_block ?_ | refine H_skip ?_ | refine H_nil ?_ | refine H_exit ?_ | refine H_ret ?_ | refine B_normal ?_ | refine B_same ?_ | refine B_other rfl ?_ | refine B_ret ?_ | refine L_exit ?_ | refine L_ret ?_)
  refine H_region k36 s36_3 rfl fun K hK => ?_; simp (config := { maxSteps := 4000000 }) only [go_sem, beq_self_eq_true, List.getElem_toArray, List.getElem_cons_zero, List.getElem_cons_succ, decide_true, decide_false, cond_true, cond_false, Nat.reduceBEq, reduceCtorEq, Nat.reduceAdd, Nat.reduceMul, Nat.reduceSub, reduceIte, Int.reduceToNat, Int.reduceEq, Int.reduceLT, Int.reduceLE, Nat.reduceLeDiff, Nat.reduceEqDiff, eq_self, and_self, s36_3, hu.hs.cell]
  refine hK _ _ ?_; clear hK K
  repeat' (first | refine H_seq ?_ | refine H_block ?_ | refine H_skip ?_ | refine H_nil ?_ | refine H_exit ?_ | refine H_ret ?_ | refine B_normal ?_ | refine B_same ?_ | refine B_other rfl ?_ | refine B_ret ?_ | refine L_exit ?_ | refine L_ret ?_)
  by_cases hin : i < n
  · refine H_condT rfl (by simpa using hin) ?_
    repeat' (first | refine H_seq ?_ | refine H_block ?_ | refine H_skip ?_ | refine H_nil ?_ | refine H_exit ?_ | refine H_ret ?_ | refine B_normal ?_ | refine B_same ?_ | refine B_other rfl ?_ | refine B_ret ?_ | refine L_exit ?_ | refine L_ret ?_)
    refine H_region k36 s36_5 rfl fun K hK => ?_; simp (config := { maxSteps := 4000000 }) only [go_sem, beq_self_eq_true, List.getElem_toArray, List.getElem_cons_zero, List.getElem_cons_succ, decide_true, decide_false, cond_true, cond_false, Nat.reduceBEq, reduceCtorEq, Nat.reduceAdd, Nat.reduceMul, Nat.reduceSub, reduceIte, Int.reduceToNat, Int.reduceEq, Int.reduceLT, Int.reduceLE, Nat.reduceLeDiff, Nat.reduceEqDiff, eq_self, and_self, s36_5]
    refine hK _ _ ?_; clear hK K
    repeat' (first | refine H_seq ?_ | refine H_block ?_ | refine H_skip ?_ | refine H_nil ?_ | refine H_exit ?_ | refine H_ret ?_ | refine B_normal ?_ | refine B_same ?_ | refine B_other rfl ?_ | refine B_ret ?_ | refine L_exit ?_ | refine L_ret ?_)
    obtain ⟨b, o, rfl, hc⟩ := hu.cells (by omega)
    obtain ⟨m, hm⟩ : ∃ m, ms[i]? = some m := ⟨ms[i]'(by omega), List.getElem?_eq_getElem _⟩
    obtain ⟨c0, c1⟩ := hc i m hm
    have hmem := List.mem_of_getElem? hm
    have he := canon_end hh.canon hmem
    have hmok := ((h.pcs m hmem).1).fr hf (fun q => q)
    have hnext : IntKind.i64.wrap ((i : Int) + 1) = ((i + 1 : Nat) : Int) := by rw [wrapI (by omega)]; omega
    refine H_region k36 s36_6 rfl fun K hK => ?_; simp (config := { maxSteps := 4000000 }) only [go_sem, beq_self_eq_true, List.getElem_toArray, List.getElem_cons_zero, List.getElem_cons_succ, decide_true, decide_false, cond_true, cond_false, Nat.reduceBEq, reduceCtorEq, Nat.reduceAdd, Nat.reduceMul, Nat.reduceSub, reduceIte, Int.reduceToNat, Int.reduceEq, Int.reduceLT, Int.reduceLE, Nat.reduceLeDiff, Nat.reduceEqDiff, eq_self, and_self, s36_6, hu.hs.cell, c0, c1]
    refine ⟨⟨by omega, by omega⟩, ?_⟩
    refine appendQ (xs := []) (ys := bvs m.bs) tsl_40 rfl rfl (by decide) (Own.nil _ _) (Fr.refl _ _) (MP.row hmok) (bvs_one _) (by rw [bvs_len]; simp only [List.length_nil]; omega) ?_
    intro v2 u2 ho2 f2 hb2
    rw [List.nil_append] at ho2
    have f2n : Fr Nob u u2 := f2.mono (fun _ _ q => by cases q)
    obtain ⟨a2, n2, c2, rfl⟩ := ho2.lit
    obtain ⟨b3, o3, rfl, rfl, hown⟩ := Own.piece ho2 he.1
    have hb3 : u.heap.size ≤ b3 := by
      rcases hb2 b3 rfl with q | q
      · cases q
      · exact q
    refine hK _ _ ?_; clear hK K
    repeat' (first | refine H_seq ?_ | refine H_block ?_ | refine H_skip ?_ | refine H_nil ?_ | refine H_exit ?_ | refine H_ret ?_ | refine B_normal ?_ | refine B_same ?_ | refine B_other rfl ?_ | refine B_ret ?_ | refine L_exit ?_ | refine L_ret ?_)
    have hu2 := hu.fr f2n
    have hW2 := hW.fr f2n (fun q => q)
    obtain ⟨d0, d1⟩ : u2.cell? ⟨b, o + i * 2, none⟩ = some (.int .i64 m.at_) ∧ u2.cell? ⟨b, o + i * 2 + 1, none⟩ = some (.slice (some ⟨m.b, m.o, none⟩) m.bs.length m.c) := by
      obtain ⟨b', o', e, hc'⟩ := hu2.cells (by omega)
      cases e
      exact hc' i m hm
    refine H_drawn k36 s36_7 p36_7 (Nob) rfl mixed (by as_aux_lemma => kernel_rfl) fun K hK => ?_; simp (config := { maxSteps := 4000000 }) only [go_sem, beq_self_eq_true, List.getElem_toArray, List.getElem_cons_zero, List.getElem_cons_succ, decide_true, decide_false, cond_true, cond_false, Nat.reduceBEq, reduceCtorEq, Nat.reduceAdd, Nat.reduceMul, Nat.reduceSub, reduceIte, Int.reduceToNat, Int.reduceEq, Int.reduceLT, Int.reduceLE, Nat.reduceLeDiff, Nat.reduceEqDiff, eq_self, and_self, s36_7, p36_7, hW2.cell, hu2.hs.cell, d0, d1]
    refine ⟨fun q => q, fun q => q, ⟨by omega, by omega⟩, fun q => q, ?_⟩
    intro b4 u4 h4
    have hlen : ms1.length = i := by
      have := congrArg List.length hpc
      rw [List.length_map, List.length_map, List.length_take] at this; omega
    have hFr4 : Fr Nob u u4 := f2n.trans h4.fr
    have hn4 := h4.num
    have hsz2 := f2n.size
    have ht4 : t < u.heap.size := hW.lt
    have hok4 := (hown m.at_).fr h4.fr (fun q => q)
    have hb3lt := (hown 0).lt
    simp only at hb3lt
    refine ⟨h4.fr, appendQ tsl_91 rfl rfl (by decide) (hFr.own.fr hFr4 (fun _ _ q => q)) (Fr.refl _ _) (Own.of_new (n := 1) (sz := 2) h4 rfl (by decide)).row (by simp [Value.oneCell']) (by rw [mcells_len, hlen]; simp only [List.length_cons, List.length_nil]; omega) ?_⟩
    intro v5 u5 ho5 f5 hb5
    obtain ⟨a5, n5, c5, rfl⟩ := ho5.lit
    have hW5 : W u5 t [v, .int .i64 size] := (hW.fr hFr4 (fun q => q)).fr f5 (fun q => (hFr.vb t q).2.1 rfl)
    refine ⟨by simp [vcells_slice], _, hW5, by simp [vcells_slice], by simp [vcells_slice, Value.oneCell'], ?_⟩
    (try simp (config := { maxSteps := 4000000 }) only [go_sem, beq_self_eq_true, List.getElem_toArray, List.getElem_cons_zero, List.getElem_cons_succ, decide_true, decide_false, cond_true, cond_false, Nat.reduceBEq, reduceCtorEq, Nat.reduceAdd, Nat.reduceMul, Nat.reduceSub, reduceIte, Int.reduceToNat, Int.reduceEq, Int.reduceLT, Int.reduceLE, Nat.reduceLeDiff, Nat.reduceEqDiff, eq_self, and_self])
    intro u6 hP6
    refine hK _ _ ?_; clear hK K
    repeat' (first | refine H_seq ?_ | refine H_block ?_ | refine H_skip ?_ | refine H_nil ?_ | refine H_exit ?_ | refine H_ret ?_ | refine B_normal ?_ | refine B_same ?_ | refine B_other rfl ?_ | refine B_ret ?_ | refine L_exit ?_ | refine L_ret ?_)
    refine H_region k36 s36_4 rfl fun K hK => ?_; simp (config := { maxSteps := 4000000 }) only [go_sem, beq_self_eq_true, List.getElem_toArray, List.getElem_cons_zero, List.getElem_cons_succ, decide_true, decide_false, cond_true, cond_false, Nat.reduceBEq, reduceCtorEq, Nat.reduceAdd, Nat.reduceMul, Nat.reduceSub, reduceIte, Int.reduceToNat, Int.reduceEq, Int.reduceLT, Int.reduceLE, Nat.reduceLeDiff, Nat.reduceEqDiff, eq_self, and_self, s36_4]
    refine hK _ _ ?_; clear hK K
    repeat' (first | refine H_seq ?_ | refine H_block ?_ | refine H_skip ?_ | refine H_nil ?_ | refine H_exit ?_ | refine H_ret ?_ | refine B_normal ?_ | refine B_same ?_ | refine B_other rfl ?_ | refine B_ret ?_ | refine L_exit ?_ | refine L_ret ?_)
    rw [hnext]
    have hvt : ∀ b, blk v = some b → b < u.heap.size := fun b hb => hFr.own.blk_lt hb
    have f5' : Fr Nob w u5 := (hf.trans hFr4).trans2 f5 (fun _ _ q => q) (fun b hb q => by have := (hFr.vb b q).1; omega)
    have f6 : Fr Nob w u6 := f5'.put hP6 (.inl (by omega))
    have hsz5 := f5.size
    have hold : ∀ x ∈ ms1, x.ok u6 := fun x hx => (((hFr.pcs x hx).1.fr hFr4 (fun q => q)).fr f5 (fun q => (hFr.vb _ q).2.2 x hx rfl)).fr hP6.fr (fun q => (hFr.pcs x hx).2.2 q)
    have hsz4 := h4.size
    have hok5 := hok4.fr f5 (fun q => by have := hvt _ q; simp only at this; omega)
    have hne5 : ∀ b, blk (.slice a5 n5 c5) = some b → b ≠ b3 := fun b hb => by
      rcases hb5 b hb with e | e
      · have := hvt b e; omega
      · omega
    have hnew : MP.ok u6 ⟨m.at_, m.bs, b3, o3, c2⟩ := hok5.fr hP6.fr (fun q => by simp only [Onb] at q; omega)
    refine L_normal ⟨(i + 1, .slice a5 n5 c5, ms1 ++ [⟨m.at_, m.bs, b3, o3, c2⟩]), ⟨rfl, rfl, rfl, trivial⟩, ⟨hin, f6, by have := hP6.size; omega, hP6.blk, ⟨?_, fun b hb => ?_, fun x hx => ?_, fun x hx y hy e => ?_⟩, ?_⟩, ?_⟩
    · have e : mcells (ms1 ++ [⟨m.at_, m.bs, b3, o3, c2⟩]) = mcells ms1 ++ [.int .i64 m.at_, .slice (some ⟨b3, o3, none⟩) m.bs.length c2] := by simp [mcells, MP.cells]
      rw [e]
      refine ho5.fr hP6.fr (fun b hb q => ?_)
      simp only [Onb] at q
      subst q
      rcases hb5 _ hb with e | hb'
      · exact (hFr.vb _ e).2.1 rfl
      · omega
    · rcases hb5 b hb with e | hb'
      · have hv := hFr.vb b e
        refine ⟨hv.1, hv.2.1, fun x hx => ?_⟩
        rcases List.mem_append.1 hx with hx | hx
        · exact hv.2.2 x hx
        · simp only [List.mem_singleton] at hx; subst hx
          have := hvt b e
          simp only; omega
      · refine ⟨by omega, by omega, fun x hx => ?_⟩
        rcases List.mem_append.1 hx with hx | hx
        · have := (hFr.pcs x hx).1.lt; omega
        · simp only [List.mem_singleton] at hx; subst hx
          exact fun e => hne5 b hb e.symm
    · rcases List.mem_append.1 hx with hx | hx
      · exact ⟨hold x hx, (hFr.pcs x hx).2⟩
      · simp only [List.mem_singleton] at hx; subst hx
        exact ⟨hnew, by simp only; omega, by simp only; omega⟩
    · rcases List.mem_append.1 hx with hx | hx <;> rcases List.mem_append.1 hy with hy | hy
      · exact hFr.al x hx y hy e
      · simp only [List.mem_singleton] at hy; subst hy
        have := (hFr.pcs x hx).1.lt; simp only at e; omega
      · simp only [List.mem_singleton] at hx; subst hx
        have := (hFr.pcs y hy).1.lt; simp only at e; omega
      · simp only [List.mem_singleton] at hx hy; subst hx; subst hy; rfl
    · rw [List.map_append, hpc, List.take_add_one, hm, Option.toList_some, List.map_append]
      rfl
    · show n - (i + 1) < n - i
      omega
  · refine H_condF rfl (by simpa using hin) ?_
    repeat' (first | refine H_seq ?_ | refine H_block ?_ | refine H_skip ?_ | refine H_nil ?_ | refine H_exit ?_ | refine H_ret ?_ | refine B_normal ?_ | refine B_same ?_ | refine B_other rfl ?_ | refine B_ret ?_ | refine L_exit ?_ | refine L_ret ?_)
    refine H_region k36 s36_8 rfl fun K hK => ?_; simp (config := { maxSteps := 4000000 }) only [go_sem, beq_self_eq_true, List.getElem_toArray, List.getElem_cons_zero, List.getElem_cons_succ, decide_true, decide_false, cond_true, cond_false, Nat.reduceBEq, reduceCtorEq, Nat.reduceAdd, Nat.reduceMul, Nat.reduceSub, reduceIte, Int.reduceToNat, Int.reduceEq, Int.reduceLT, Int.reduceLE, Nat.reduceLeDiff, Nat.reduceEqDiff, eq_self, and_self, s36_8]
    refine hK _ _ ?_; clear hK K
    repeat' (first | refine H_seq ?_ | refine H_block ?_ | refine H_skip ?_ | refine H_nil ?_ | refine H_exit ?_ | refine H_ret ?_ | refine B_normal ?_ | refine B_same ?_ | refine B_other rfl ?_ | refine B_ret ?_ | refine L_exit ?_ | refine L_ret ?_)
    refine F_ret ?_
    (try simp (config := { maxSteps := 4000000 }) only [go_sem, beq_self_eq_true, List.getElem_toArray, List.getElem_cons_zero, List.getElem_cons_succ, decide_true, decide_false, cond_true, cond_false, Nat.reduceBEq, reduceCtorEq, Nat.reduceAdd, Nat.reduceMul, Nat.reduceSub, reduceIte, Int.reduceToNat, Int.reduceEq, Int.reduceLT, Int.reduceLE, Nat.reduceLeDiff, Nat.reduceEqDiff, eq_self, and_self])
    rw [List.take_of_length_le (by omega)] at hpc
    have ht' := h1.size
    obtain ⟨av, nv, cv, rfl⟩ := hFr.own.lit
    exact ⟨t, ms1, rfl, ⟨⟨av, nv, cv, ⟨hW, hFr.own.row, by rw [hpc]; exact hh.canon⟩, fun b hb => ⟨(hFr.vb b hb).1, (hFr.vb b hb).2.1, hFr.own.blk_lt hb⟩⟩, by simp only [Fromb]; omega, fun x hx => hFr.pcs x hx⟩, hpc, hf⟩
end Go.Proofs.Ytpdklpeojjkkaaa

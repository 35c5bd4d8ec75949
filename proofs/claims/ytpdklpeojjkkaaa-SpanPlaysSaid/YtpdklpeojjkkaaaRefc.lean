/- mantleref01: Get. -/
import Derived.Test.YtpdklpeojjkkaaaRefb
namespace Go.Proofs.Ytpdklpeojjkkaaa
open Go
set_option linter.unusedVariables false
set_option linter.unusedSimpArgs false
set_option maxRecDepth 100000
set_option maxHeartbeats 2000000
theorem rget_spec (s : Nat) (a : Option Addr) (n c size : Nat) (ms : List MP) (at_ k : Int) (w : World) (hh : Hd w s a n c size ms) (hp : ∀ m ∈ ms, m.ok w) :
    CallsE Try.prog 53 [ptrV s, .int .i64 at_, .int .i64 k] w fun r u => Own u r 1 (bvs (getM (ms.map MP.pc) size at_ k)) ∧ (∀ b, blk r = some b → w.heap.size ≤ b) ∧ Fr Nob w u := by
  have hz := hh.canon.size
  have hle := hh.heldLe
  have hn := hh.len
  refine enter Try.func53 rfl Try.results53 Try.ntmps53 rfl ?_
  repeat' (first | refine H_seq ?_ | refine H_block ?_ | refine H_skip ?_ | refine H_nil ?_ | refine H_exit ?_ | refine H_ret ?_ | refine B_normal ?_ | refine B_same ?_ | refine B_other rfl ?_ | refine B_ret ?_ | refine L_exit ?_ | refine L_ret ?_)
  refine H_region k53 s53_0 rfl fun K hK => ?_; simp (config := { maxSteps := 4000000 }) only [go_sem, beq_self_eq_true, List.getElem_toArray, List.getElem_cons_zero, List.getElem_cons_succ, decide_true, decide_false, cond_true, cond_false, Nat.reduceBEq, reduceCtorEq, Nat.reduceAdd, Nat.reduceMul, Nat.reduceSub, reduceIte, Int.reduceToNat, Int.reduceEq, Int.reduceLT, Int.reduceLE, Nat.reduceLeDiff, Nat.reduceEqDiff, eq_self, and_self, s53_0]
  refine hK _ _ ?_; clear hK K
  repeat' (first | refine H_seq ?_ | refine H_block ?_ | refine H_skip ?_ | refine H_nil ?_ | refine H_exit ?_ | refine H_ret ?_ | refine B_normal ?_ | refine B_same ?_ | refine B_other rfl ?_ | refine B_ret ?_ | refine L_exit ?_ | refine L_ret ?_)
  refine H_region k53 s53_1 rfl fun K hK => ?_; simp (config := { maxSteps := 4000000 }) only [go_sem, beq_self_eq_true, List.getElem_toArray, List.getElem_cons_zero, List.getElem_cons_succ, decide_true, decide_false, cond_true, cond_false, Nat.reduceBEq, reduceCtorEq, Nat.reduceAdd, Nat.reduceMul, Nat.reduceSub, reduceIte, Int.reduceToNat, Int.reduceEq, Int.reduceLT, Int.reduceLE, Nat.reduceLeDiff, Nat.reduceEqDiff, eq_self, and_self, s53_1]
  suffices hc : ∀ d : Bool, d = decide (at_ < 0 ∨ k < 0 ∨ (size : Int) ≤ at_) → K [(0, ptrV s), (1, .int .i64 at_), (2, .int .i64 k), (6, .slice none 0 0), (25, .bool d)] w by
    refine grd_split (fun h1 => ?_) (fun h1 => ?_)
    · (try simp (config := { maxSteps := 4000000 }) only [go_sem, beq_self_eq_true, List.getElem_toArray, List.getElem_cons_zero, List.getElem_cons_succ, decide_true, decide_false, cond_true, cond_false, Nat.reduceBEq, reduceCtorEq, Nat.reduceAdd, Nat.reduceMul, Nat.reduceSub, reduceIte, Int.reduceToNat, Int.reduceEq, Int.reduceLT, Int.reduceLE, Nat.reduceLeDiff, Nat.reduceEqDiff, eq_self, and_self, h1])
      exact hc _ (by simp at h1; simp [h1])
    · (try simp (config := { maxSteps := 4000000 }) only [go_sem, beq_self_eq_true, List.getElem_toArray, List.getElem_cons_zero, List.getElem_cons_succ, decide_true, decide_false, cond_true, cond_false, Nat.reduceBEq, reduceCtorEq, Nat.reduceAdd, Nat.reduceMul, Nat.reduceSub, reduceIte, Int.reduceToNat, Int.reduceEq, Int.reduceLT, Int.reduceLE, Nat.reduceLeDiff, Nat.reduceEqDiff, eq_self, and_self, h1])
      refine grd_split (fun h2 => ?_) (fun h2 => ?_)
      · (try simp (config := { maxSteps := 4000000 }) only [go_sem, beq_self_eq_true, List.getElem_toArray, List.getElem_cons_zero, List.getElem_cons_succ, decide_true, decide_false, cond_true, cond_false, Nat.reduceBEq, reduceCtorEq, Nat.reduceAdd, Nat.reduceMul, Nat.reduceSub, reduceIte, Int.reduceToNat, Int.reduceEq, Int.reduceLT, Int.reduceLE, Nat.reduceLeDiff, Nat.reduceEqDiff, eq_self, and_self, h2])
        exact hc _ (by simp at h2; simp [h2])
      · (try simp (config := { maxSteps := 4000000 }) only [go_sem, beq_self_eq_true, List.getElem_toArray, List.getElem_cons_zero, List.getElem_cons_succ, decide_true, decide_false, cond_true, cond_false, Nat.reduceBEq, reduceCtorEq, Nat.reduceAdd, Nat.reduceMul, Nat.reduceSub, reduceIte, Int.reduceToNat, Int.reduceEq, Int.reduceLT, Int.reduceLE, Nat.reduceLeDiff, Nat.reduceEqDiff, eq_self, and_self, h2, hh.hs.cell])
        exact hc _ (by simp only [decide_eq_false_iff_not] at h1 h2; rw [Bool.eq_iff_iff, decide_eq_true_eq, decide_eq_true_eq]; omega)
  intro d hd
  refine hK _ _ ?_; clear hK K
  repeat' (first | refine H_seq ?_ | refine H_block ?_ | refine H_skip ?_ | refine H_nil ?_ | refine H_exit ?_ | refine H_ret ?_ | refine B_normal ?_ | refine B_same ?_ | refine B_other rfl ?_ | refine B_ret ?_ | refine L_exit ?_ | refine L_ret ?_)
  cases d with
  | true =>
    refine H_condT rfl rfl ?_
    repeat' (first | refine H_seq ?_ | refine H_block ?_ | refine H_skip ?_ | refine H_nil ?_ | refine H_exit ?_ | refine H_ret ?_ | refine B_normal ?_ | refine B_same ?_ | refine B_other rfl ?_ | refine B_ret ?_ | refine L_exit ?_ | refine L_ret ?_)
    refine H_region k53 s53_2 rfl fun K hK => ?_; simp (config := { maxSteps := 4000000 }) only [go_sem, beq_self_eq_true, List.getElem_toArray, List.getElem_cons_zero, List.getElem_cons_succ, decide_true, decide_false, cond_true, cond_false, Nat.reduceBEq, reduceCtorEq, Nat.reduceAdd, Nat.reduceMul, Nat.reduceSub, reduceIte, Int.reduceToNat, Int.reduceEq, Int.reduceLT, Int.reduceLE, Nat.reduceLeDiff, Nat.reduceEqDiff, eq_self, and_self, s53_2]
    refine hK _ _ ?_; clear hK K
    repeat' (first | refine H_seq ?_ | refine H_block ?_ | refine H_skip ?_ | refine H_nil ?_ | refine H_exit ?_ | refine H_ret ?_ | refine B_normal ?_ | refine B_same ?_ | refine B_other rfl ?_ | refine B_ret ?_ | refine L_exit ?_ | refine L_ret ?_)
    refine F_ret ?_
    (try simp (config := { maxSteps := 4000000 }) only [go_sem, beq_self_eq_true, List.getElem_toArray, List.getElem_cons_zero, List.getElem_cons_succ, decide_true, decide_false, cond_true, cond_false, Nat.reduceBEq, reduceCtorEq, Nat.reduceAdd, Nat.reduceMul, Nat.reduceSub, reduceIte, Int.reduceToNat, Int.reduceEq, Int.reduceLT, Int.reduceLE, Nat.reduceLeDiff, Nat.reduceEqDiff, eq_self, and_self])
    have hd : at_ < 0 ∨ k < 0 ∨ (size : Int) ≤ at_ := by simpa using hd.symm
    rw [getM, if_pos hd]
    exact ⟨Own.nil _ _, fun b hb => (by cases hb), Fr.refl _ _⟩
  | false =>
  have hd : ¬ (at_ < 0 ∨ k < 0 ∨ (size : Int) ≤ at_) := by simpa using hd.symm
  rw [getM, if_neg hd]
  obtain ⟨A, rfl⟩ : ∃ A : Nat, at_ = A := ⟨at_.toNat, by omega⟩
  obtain ⟨k', rfl⟩ : ∃ k' : Nat, k = k' := ⟨k.toNat, by omega⟩
  refine H_condF rfl rfl ?_
  repeat' (first | refine H_seq ?_ | refine H_block ?_ | refine H_skip ?_ | refine H_nil ?_ | refine H_exit ?_ | refine H_ret ?_ | refine B_normal ?_ | refine B_same ?_ | refine B_other rfl ?_ | refine B_ret ?_ | refine L_exit ?_ | refine L_ret ?_)
  refine H_region k53 s53_3 rfl fun K hK => ?_; simp (config := { maxSteps := 4000000 }) only [go_sem, beq_self_eq_true, List.getElem_toArray, List.getElem_cons_zero, List.getElem_cons_succ, decide_true, decide_false, cond_true, cond_false, Nat.reduceBEq, reduceCtorEq, Nat.reduceAdd, Nat.reduceMul, Nat.reduceSub, reduceIte, Int.reduceToNat, Int.reduceEq, Int.reduceLT, Int.reduceLE, Nat.reduceLeDiff, Nat.reduceEqDiff, eq_self, and_self, s53_3]
  refine hK _ _ ?_; clear hK K
  repeat' (first | refine H_seq ?_ | refine H_block ?_ | refine H_skip ?_ | refine H_nil ?_ | refine H_exit ?_ | refine H_ret ?_ | refine B_normal ?_ | refine B_same ?_ | refine B_other rfl ?_ | refine B_ret ?_ | refine L_exit ?_ | refine L_ret ?_)
  refine H_region k53 s53_4 rfl fun K hK => ?_; simp (config := { maxSteps := 4000000 }) only [go_sem, beq_self_eq_true, List.getElem_toArray, List.getElem_cons_zero, List.getElem_cons_succ, decide_true, decide_false, cond_true, cond_false, Nat.reduceBEq, reduceCtorEq, Nat.reduceAdd, Nat.reduceMul, Nat.reduceSub, reduceIte, Int.reduceToNat, Int.reduceEq, Int.reduceLT, Int.reduceLE, Nat.reduceLeDiff, Nat.reduceEqDiff, eq_self, and_self, s53_4, hh.hs.cell]
  rw [wrapI (by omega)]
  refine hK _ _ ?_; clear hK K
  repeat' (first | refine H_seq ?_ | refine H_block ?_ | refine H_skip ?_ | refine H_nil ?_ | refine H_exit ?_ | refine H_ret ?_ | refine B_normal ?_ | refine B_same ?_ | refine B_other rfl ?_ | refine B_ret ?_ | refine L_exit ?_ | refine L_ret ?_)
  obtain ⟨N, hN⟩ : ∃ N : Nat, min (min (k' : Int) 65536) ((size : Int) - A) = N := ⟨(min (min (k' : Int) 65536) ((size : Int) - A)).toNat, by omega⟩
  rw [hN]
  have hNs : A + N ≤ size ∧ N ≤ 65536 ∧ A < size := by omega
  refine H_cut (fun E u => hasE E [(0, ptrV s), (1, .int .i64 A), (2, .int .i64 N)] ∧ u = w) ?_ ?_
  · by_cases hmin : (size : Int) - A < min (k' : Int) 65536
    · refine H_condT rfl (by simpa using hmin) ?_
      repeat' (first | refine H_seq ?_ | refine H_block ?_ | refine H_skip ?_ | refine H_nil ?_ | refine H_exit ?_ | refine H_ret ?_ | refine B_normal ?_ | refine B_same ?_ | refine B_other rfl ?_ | refine B_ret ?_ | refine L_exit ?_ | refine L_ret ?_)
      refine H_region k53 s53_5 rfl fun K hK => ?_; simp (config := { maxSteps := 4000000 }) only [go_sem, beq_self_eq_true, List.getElem_toArray, List.getElem_cons_zero, List.getElem_cons_succ, decide_true, decide_false, cond_true, cond_false, Nat.reduceBEq, reduceCtorEq, Nat.reduceAdd, Nat.reduceMul, Nat.reduceSub, reduceIte, Int.reduceToNat, Int.reduceEq, Int.reduceLT, Int.reduceLE, Nat.reduceLeDiff, Nat.reduceEqDiff, eq_self, and_self, s53_5, hh.hs.cell]
      rw [wrapI (by omega), show ((size : Int) - A) = N by omega]
      refine hK _ _ ?_; clear hK K
      repeat' (first | refine H_seq ?_ | refine H_block ?_ | refine H_skip ?_ | refine H_nil ?_ | refine H_exit ?_ | refine H_ret ?_ | refine B_normal ?_ | refine B_same ?_ | refine B_other rfl ?_ | refine B_ret ?_ | refine L_exit ?_ | refine L_ret ?_)
      exact thenE_normal ⟨(by repeat' (first | exact trivial | refine ⟨rfl, ?_⟩)), rfl⟩
    · refine H_condF rfl (by simpa using hmin) ?_
      repeat' (first | refine H_seq ?_ | refine H_block ?_ | refine H_skip ?_ | refine H_nil ?_ | refine H_exit ?_ | refine H_ret ?_ | refine B_normal ?_ | refine B_same ?_ | refine B_other rfl ?_ | refine B_ret ?_ | refine L_exit ?_ | refine L_ret ?_)
      rw [show min (k' : Int) 65536 = N by omega]
      exact thenE_normal ⟨(by repeat' (first | exact trivial | refine ⟨rfl, ?_⟩)), rfl⟩
  rintro E u0 ⟨hE, rfl⟩
  refine H_weak _ hE ?_
  repeat' (first | refine H_seq ?_ | refine H_block ?_ | refine H_skip ?_ | refine H_nil ?_ | refine H_exit ?_ | refine H_ret ?_ | refine B_normal ?_ | refine B_same ?_ | refine B_other rfl ?_ | refine B_ret ?_ | refine L_exit ?_ | refine L_ret ?_)
  refine H_region k53 s53_6 rfl fun K hK => ?_; simp (config := { maxSteps := 4000000 }) only [go_sem, beq_self_eq_true, List.getElem_toArray, List.getElem_cons_zero, List.getElem_cons_succ, decide_true, decide_false, cond_true, cond_false, Nat.reduceBEq, reduceCtorEq, Nat.reduceAdd, Nat.reduceMul, Nat.reduceSub, reduceIte, Int.reduceToNat, Int.reduceEq, Int.reduceLT, Int.reduceLE, Nat.reduceLeDiff, Nat.reduceEqDiff, eq_self, and_self, s53_6]
  refine ⟨by omega, ?_⟩
  intro b w1 h1
  refine hK _ _ ?_; clear hK K
  repeat' (first | refine H_seq ?_ | refine H_block ?_ | refine H_skip ?_ | refine H_nil ?_ | refine H_exit ?_ | refine H_ret ?_ | refine B_normal ?_ | refine B_same ?_ | refine B_other rfl ?_ | refine B_ret ?_ | refine L_exit ?_ | refine L_ret ?_)
  have hb1 := h1.blk
  rw [reps_zero] at hb1
  have hbn := h1.num
  refine H_region k53 s53_7 rfl fun K hK => ?_; simp (config := { maxSteps := 4000000 }) only [go_sem, beq_self_eq_true, List.getElem_toArray, List.getElem_cons_zero, List.getElem_cons_succ, decide_true, decide_false, cond_true, cond_false, Nat.reduceBEq, reduceCtorEq, Nat.reduceAdd, Nat.reduceMul, Nat.reduceSub, reduceIte, Int.reduceToNat, Int.reduceEq, Int.reduceLT, Int.reduceLE, Nat.reduceLeDiff, Nat.reduceEqDiff, eq_self, and_self, s53_7]
  refine hK _ _ ?_; clear hK K
  repeat' (first | refine H_seq ?_ | refine H_block ?_ | refine H_skip ?_ | refine H_nil ?_ | refine H_exit ?_ | refine H_ret ?_ | refine B_normal ?_ | refine B_same ?_ | refine B_other rfl ?_ | refine B_ret ?_ | refine L_exit ?_ | refine L_ret ?_)
  refine H_loop (fun i : Nat => [(0, ptrV s), (1, .int .i64 A), (2, .int .i64 N), (7, .slice (some ⟨b, 0, none⟩) N N), (8, .int .i64 i)])
    (fun i u => i ≤ n ∧ Fr Nob u0 u ∧ W u b (bvs (getP ((ms.take i).map MP.pc) A N))) (fun i => n - i) 0
    ⟨rfl, rfl, rfl, rfl, rfl, trivial⟩ ⟨Nat.zero_le _, h1.fr, by rw [getP_nought (fun p hq => by simp at hq)]; exact hb1⟩ ?_
  rintro i u ⟨hi, hf, hb⟩
  have hu := hh.fr hf
  repeat' (first | refine H_seq ?_ | refine H_block ?_ | refine H_skip ?_ | refine H_nil ?_ | refine H_exit ?_ | refine H_ret ?_ | refine B_normal ?_ | refine B_same ?_ | refine B_other rfl ?_ | refine B_ret ?_ | refine L_exit ?_ | refine L_ret ?_)
  refine H_region k53 s53_8 rfl fun K hK => ?_; simp (config := { maxSteps := 4000000 }) only [go_sem, beq_self_eq_true, List.getElem_toArray, List.getElem_cons_zero, List.getElem_cons_succ, decide_true, decide_false, cond_true, cond_false, Nat.reduceBEq, reduceCtorEq, Nat.reduceAdd, Nat.reduceMul, Nat.reduceSub, reduceIte, Int.reduceToNat, Int.reduceEq, Int.reduceLT, Int.reduceLE, Nat.reduceLeDiff, Nat.reduceEqDiff, eq_self, and_self, s53_8, hu.hs.cell]
  refine hK _ _ ?_; clear hK K
  repeat' (first | refine H_seq ?_ | refine H_block ?_ | refine H_skip ?_ | refine H_nil ?_ | refine H_exit ?_ | refine H_ret ?_ | refine B_normal ?_ | refine B_same ?_ | refine B_other rfl ?_ | refine B_ret ?_ | refine L_exit ?_ | refine L_ret ?_)
  by_cases hin : i < n
  · refine H_condT rfl (by simpa using hin) ?_
    repeat' (first | refine H_seq ?_ | refine H_block ?_ | refine H_skip ?_ | refine H_nil ?_ | refine H_exit ?_ | refine H_ret ?_ | refine B_normal ?_ | refine B_same ?_ | refine B_other rfl ?_ | refine B_ret ?_ | refine L_exit ?_ | refine L_ret ?_)
    obtain ⟨bl, o, rfl, hc⟩ := hu.cells (by omega)
    obtain ⟨m, hm⟩ : ∃ m, ms[i]? = some m := ⟨ms[i]'(by omega), List.getElem?_eq_getElem _⟩
    obtain ⟨c0, c1⟩ := hc i m hm
    have hmem := List.mem_of_getElem? hm
    have he := canon_end hh.canon hmem
    have hcap : m.bs.length ≤ m.c := (hp m hmem).1
    have htake : (ms.take (i + 1)).map MP.pc = (ms.take i).map MP.pc ++ [m.pc] := by rw [take_snoc hm, List.map_append]; rfl
    have hord : Ord 0 ((ms.take i).map MP.pc ++ [m.pc]) size := by
      rw [← htake]
      have e : ms.map MP.pc = (ms.take (i + 1)).map MP.pc ++ (ms.drop (i + 1)).map MP.pc := by rw [← List.map_append, List.take_append_drop]
      exact ord_left (B := (ms.drop (i + 1)).map MP.pc) (by rw [← e]; exact hh.canon.ord)
    have hnext : IntKind.i64.wrap ((i : Int) + 1) = ((i + 1 : Nat) : Int) := by rw [wrapI (by omega)]; omega
    have hdec : n - (i + 1) < n - i := by omega
    refine H_region k53 s53_10 rfl fun K hK => ?_; simp (config := { maxSteps := 4000000 }) only [go_sem, beq_self_eq_true, List.getElem_toArray, List.getElem_cons_zero, List.getElem_cons_succ, decide_true, decide_false, cond_true, cond_false, Nat.reduceBEq, reduceCtorEq, Nat.reduceAdd, Nat.reduceMul, Nat.reduceSub, reduceIte, Int.reduceToNat, Int.reduceEq, Int.reduceLT, Int.reduceLE, Nat.reduceLeDiff, Nat.reduceEqDiff, eq_self, and_self, s53_10, hu.hs.cell, c0, c1]
    refine ⟨⟨by omega, by omega⟩, ?_⟩
    intro b9 u1 hN9
    refine ⟨_, hN9.blk, by simp, ?_⟩
    (try simp (config := { maxSteps := 4000000 }) only [go_sem, beq_self_eq_true, List.getElem_toArray, List.getElem_cons_zero, List.getElem_cons_succ, decide_true, decide_false, cond_true, cond_false, Nat.reduceBEq, reduceCtorEq, Nat.reduceAdd, Nat.reduceMul, Nat.reduceSub, reduceIte, Int.reduceToNat, Int.reduceEq, Int.reduceLT, Int.reduceLE, Nat.reduceLeDiff, Nat.reduceEqDiff, eq_self, and_self])
    intro u2 hP
    have hnum := hN9.num
    have hbl := hb.lt
    have f2u : Fr Nob u u2 := (Fr.new (Fr.refl Nob u) hN9).put hP (.inl (by omega))
    have hb2 := hb.fr f2u (fun q => q)
    have F2 := hf.trans f2u
    refine hK _ _ ?_; clear hK K
    repeat' (first | refine H_seq ?_ | refine H_block ?_ | refine H_skip ?_ | refine H_nil ?_ | refine H_exit ?_ | refine H_ret ?_ | refine B_normal ?_ | refine B_same ?_ | refine B_other rfl ?_ | refine B_ret ?_ | refine L_exit ?_ | refine L_ret ?_)
    refine H_region k53 s53_11 rfl fun K hK => ?_; simp (config := { maxSteps := 4000000 }) only [go_sem, beq_self_eq_true, List.getElem_toArray, List.getElem_cons_zero, List.getElem_cons_succ, decide_true, decide_false, cond_true, cond_false, Nat.reduceBEq, reduceCtorEq, Nat.reduceAdd, Nat.reduceMul, Nat.reduceSub, reduceIte, Int.reduceToNat, Int.reduceEq, Int.reduceLT, Int.reduceLE, Nat.reduceLeDiff, Nat.reduceEqDiff, eq_self, and_self, s53_11, hP.blk.cell]
    refine hK _ _ ?_; clear hK K
    repeat' (first | refine H_seq ?_ | refine H_block ?_ | refine H_skip ?_ | refine H_nil ?_ | refine H_exit ?_ | refine H_ret ?_ | refine B_normal ?_ | refine B_same ?_ | refine B_other rfl ?_ | refine B_ret ?_ | refine L_exit ?_ | refine L_ret ?_)
    refine H_region k53 s53_12 rfl fun K hK => ?_; simp (config := { maxSteps := 4000000 }) only [go_sem, beq_self_eq_true, List.getElem_toArray, List.getElem_cons_zero, List.getElem_cons_succ, decide_true, decide_false, cond_true, cond_false, Nat.reduceBEq, reduceCtorEq, Nat.reduceAdd, Nat.reduceMul, Nat.reduceSub, reduceIte, Int.reduceToNat, Int.reduceEq, Int.reduceLT, Int.reduceLE, Nat.reduceLeDiff, Nat.reduceEqDiff, eq_self, and_self, s53_12, hP.blk.cell]
    refine callC tcall_66 (rend_spec _ _ _ _ _ (by omega) (by omega)) ?_
    rintro v3 u3 ⟨rfl, f3⟩
    rw [wrapI (by omega)]
    have hW3 := hP.blk.fr f3 (fun q => q)
    have hb3 := hb2.fr f3 (fun q => q)
    have F3 := F2.trans f3
    simp (config := { maxSteps := 4000000 }) only [go_sem, beq_self_eq_true, List.getElem_toArray, List.getElem_cons_zero, List.getElem_cons_succ, decide_true, decide_false, cond_true, cond_false, Nat.reduceBEq, reduceCtorEq, Nat.reduceAdd, Nat.reduceMul, Nat.reduceSub, reduceIte, Int.reduceToNat, Int.reduceEq, Int.reduceLT, Int.reduceLE, Nat.reduceLeDiff, Nat.reduceEqDiff, eq_self, and_self, s53_12_1]
    refine hK _ _ ?_; clear hK K
    repeat' (first | refine H_seq ?_ | refine H_block ?_ | refine H_skip ?_ | refine H_nil ?_ | refine H_exit ?_ | refine H_ret ?_ | refine B_normal ?_ | refine B_same ?_ | refine B_other rfl ?_ | refine B_ret ?_ | refine L_exit ?_ | refine L_ret ?_)
    refine H_region k53 s53_13 rfl fun K hK => ?_; simp (config := { maxSteps := 4000000 }) only [go_sem, beq_self_eq_true, List.getElem_toArray, List.getElem_cons_zero, List.getElem_cons_succ, decide_true, decide_false, cond_true, cond_false, Nat.reduceBEq, reduceCtorEq, Nat.reduceAdd, Nat.reduceMul, Nat.reduceSub, reduceIte, Int.reduceToNat, Int.reduceEq, Int.reduceLT, Int.reduceLE, Nat.reduceLeDiff, Nat.reduceEqDiff, eq_self, and_self, s53_13]
    refine hK _ _ ?_; clear hK K
    repeat' (first | refine H_seq ?_ | refine H_block ?_ | refine H_skip ?_ | refine H_nil ?_ | refine H_exit ?_ | refine H_ret ?_ | refine B_normal ?_ | refine B_same ?_ | refine B_other rfl ?_ | refine B_ret ?_ | refine L_exit ?_ | refine L_ret ?_)
    obtain ⟨fr, hfr⟩ : ∃ fr : Nat, max A m.at_ = fr := ⟨_, rfl⟩
    obtain ⟨to, hto⟩ : ∃ to : Nat, min (A + N) (m.at_ + m.bs.length) = to := ⟨_, rfl⟩
    rw [show max (A : Int) (m.at_ : Int) = fr by omega, show min ((A : Int) + N) ((m.at_ : Int) + m.bs.length) = to by omega]
    by_cases hlt : fr < to
    · refine H_condT rfl (by simp; omega) ?_
      repeat' (first | refine H_seq ?_ | refine H_block ?_ | refine H_skip ?_ | refine H_nil ?_ | refine H_exit ?_ | refine H_ret ?_ | refine B_normal ?_ | refine B_same ?_ | refine B_other rfl ?_ | refine B_ret ?_ | refine L_exit ?_ | refine L_ret ?_)
      refine H_drawn k53 s53_14 p53_14 (Nob) rfl mixed (by as_aux_lemma => kernel_rfl) fun K hK => ?_; simp (config := { maxSteps := 4000000 }) only [go_sem, beq_self_eq_true, List.getElem_toArray, List.getElem_cons_zero, List.getElem_cons_succ, decide_true, decide_false, cond_true, cond_false, Nat.reduceBEq, reduceCtorEq, Nat.reduceAdd, Nat.reduceMul, Nat.reduceSub, reduceIte, Int.reduceToNat, Int.reduceEq, Int.reduceLT, Int.reduceLE, Nat.reduceLeDiff, Nat.reduceEqDiff, eq_self, and_self, s53_14, p53_14, hW3.cell]
      have hmok := (hp m hmem).fr F3 (fun q => q)
      have hrow := ((MP.row hmok).sub (fr - m.at_) (by omega)).pre (to - fr) (by omega)
      rw [adv_some _ _ _ (by omega)] at hrow
      simp only [Nat.mul_one, bvs_drop, bvs_take] at hrow
      rw [wrapI (n := (fr : Int) - A) (by omega), wrapI (n := (to : Int) - A) (by omega), wrapI (n := (fr : Int) - m.at_) (by omega), wrapI (n := (to : Int) - m.at_) (by omega),
        show ((fr : Int) - A).toNat = fr - A by omega, show ((to : Int) - A).toNat = to - A by omega, show ((fr : Int) - m.at_).toNat = fr - m.at_ by omega, show ((to : Int) - m.at_).toNat = to - m.at_ by omega,
        adv_some _ _ _ (by omega), adv_some _ _ _ (by omega)]
      simp only [Nat.mul_one, Nat.zero_add]
      rw [show to - m.at_ - (fr - m.at_) = to - fr by omega, show to - A - (fr - A) = to - fr by omega]
      refine ⟨⟨by omega, by omega, by omega⟩, fun q => q, fun q => q, fun q => q, ⟨by omega, by omega, by omega⟩, ?_⟩
      refine copyB rfl tsl_40 hb3 (by rw [getP_len]; omega) hrow ?_
      intro u4 hP4
      rw [List.take_take, Nat.min_self] at hP4
      refine hK _ _ ?_; clear hK K
      repeat' (first | refine H_seq ?_ | refine H_block ?_ | refine H_skip ?_ | refine H_nil ?_ | refine H_exit ?_ | refine H_ret ?_ | refine B_normal ?_ | refine B_same ?_ | refine B_other rfl ?_ | refine B_ret ?_ | refine L_exit ?_ | refine L_ret ?_)
      refine H_region k53 s53_9 rfl fun K hK => ?_; simp (config := { maxSteps := 4000000 }) only [go_sem, beq_self_eq_true, List.getElem_toArray, List.getElem_cons_zero, List.getElem_cons_succ, decide_true, decide_false, cond_true, cond_false, Nat.reduceBEq, reduceCtorEq, Nat.reduceAdd, Nat.reduceMul, Nat.reduceSub, reduceIte, Int.reduceToNat, Int.reduceEq, Int.reduceLT, Int.reduceLE, Nat.reduceLeDiff, Nat.reduceEqDiff, eq_self, and_self, s53_9]
      refine hK _ _ ?_; clear hK K
      repeat' (first | refine H_seq ?_ | refine H_block ?_ | refine H_skip ?_ | refine H_nil ?_ | refine H_exit ?_ | refine H_ret ?_ | refine B_normal ?_ | refine B_same ?_ | refine B_other rfl ?_ | refine B_ret ?_ | refine L_exit ?_ | refine L_ret ?_)
      rw [hnext]
      refine L_normal ⟨i + 1, ⟨rfl, rfl, rfl, rfl, rfl, trivial⟩, ⟨hin, F3.put hP4 (.inl (by omega)), ?_⟩, hdec⟩
      have hstep := get_step (a := A) (n := N) hord (by simp only [MP.pc]; omega) (by simp only [MP.pc]; omega)
      simp only [MP.pc] at hstep
      rw [htake]
      simp only [MP.pc]
      rw [← hstep]
      have e1 : fr - A = m.at_ - A := by omega
      have e2 : fr - m.at_ = A - m.at_ := by omega
      have e3 : (m.bs.drop (A - m.at_)).take (to - fr) = (m.bs.drop (A - m.at_)).take (N - (m.at_ - A)) := by
        by_cases h : A + N ≤ m.at_ + m.bs.length
        · congr 1; omega
        · rw [List.take_of_length_le (by rw [List.length_drop]; omega), List.take_of_length_le (by rw [List.length_drop]; omega)]
      rw [← e3, ← e1, ← e2]
      exact hP4.blk
    · refine H_condF rfl (by simp; omega) ?_
      repeat' (first | refine H_seq ?_ | refine H_block ?_ | refine H_skip ?_ | refine H_nil ?_ | refine H_exit ?_ | refine H_ret ?_ | refine B_normal ?_ | refine B_same ?_ | refine B_other rfl ?_ | refine B_ret ?_ | refine L_exit ?_ | refine L_ret ?_)
      refine H_region k53 s53_9 rfl fun K hK => ?_; simp (config := { maxSteps := 4000000 }) only [go_sem, beq_self_eq_true, List.getElem_toArray, List.getElem_cons_zero, List.getElem_cons_succ, decide_true, decide_false, cond_true, cond_false, Nat.reduceBEq, reduceCtorEq, Nat.reduceAdd, Nat.reduceMul, Nat.reduceSub, reduceIte, Int.reduceToNat, Int.reduceEq, Int.reduceLT, Int.reduceLE, Nat.reduceLeDiff, Nat.reduceEqDiff, eq_self, and_self, s53_9]
      refine hK _ _ ?_; clear hK K
      repeat' (first | refine H_seq ?_ | refine H_block ?_ | refine H_skip ?_ | refine H_nil ?_ | refine H_exit ?_ | refine H_ret ?_ | refine B_normal ?_ | refine B_same ?_ | refine B_other rfl ?_ | refine B_ret ?_ | refine L_exit ?_ | refine L_ret ?_)
      rw [hnext]
      refine L_normal ⟨i + 1, ⟨rfl, rfl, rfl, rfl, rfl, trivial⟩, ⟨hin, F3, ?_⟩, hdec⟩
      rw [htake, getP_congr (fun j hj => ?_)]
      · exact hb3
      · rw [abs_snoc hord, if_neg (by simp only [MP.pc]; omega)]
  · refine H_condF rfl (by simpa using hin) ?_
    repeat' (first | refine H_seq ?_ | refine H_block ?_ | refine H_skip ?_ | refine H_nil ?_ | refine H_exit ?_ | refine H_ret ?_ | refine B_normal ?_ | refine B_same ?_ | refine B_other rfl ?_ | refine B_ret ?_ | refine L_exit ?_ | refine L_ret ?_)
    refine H_region k53 s53_15 rfl fun K hK => ?_; simp (config := { maxSteps := 4000000 }) only [go_sem, beq_self_eq_true, List.getElem_toArray, List.getElem_cons_zero, List.getElem_cons_succ, decide_true, decide_false, cond_true, cond_false, Nat.reduceBEq, reduceCtorEq, Nat.reduceAdd, Nat.reduceMul, Nat.reduceSub, reduceIte, Int.reduceToNat, Int.reduceEq, Int.reduceLT, Int.reduceLE, Nat.reduceLeDiff, Nat.reduceEqDiff, eq_self, and_self, s53_15]
    refine hK _ _ ?_; clear hK K
    repeat' (first | refine H_seq ?_ | refine H_block ?_ | refine H_skip ?_ | refine H_nil ?_ | refine H_exit ?_ | refine H_ret ?_ | refine B_normal ?_ | refine B_same ?_ | refine B_other rfl ?_ | refine B_ret ?_ | refine L_exit ?_ | refine L_ret ?_)
    refine F_ret ?_
    (try simp (config := { maxSteps := 4000000 }) only [go_sem, beq_self_eq_true, List.getElem_toArray, List.getElem_cons_zero, List.getElem_cons_succ, decide_true, decide_false, cond_true, cond_false, Nat.reduceBEq, reduceCtorEq, Nat.reduceAdd, Nat.reduceMul, Nat.reduceSub, reduceIte, Int.reduceToNat, Int.reduceEq, Int.reduceLT, Int.reduceLE, Nat.reduceLeDiff, Nat.reduceEqDiff, eq_self, and_self])
    rw [List.take_of_length_le (by omega)] at hb
    refine ⟨⟨_, _, _, rfl, by rw [bvs_len, getP_len]; omega, Nat.le_refl _, by simp only [maxLen]; omega, .inr ⟨b, 0, _, rfl, hb, by rw [bvs_len, getP_len]; omega, ?_⟩⟩, fun b' hb' => ?_, hf⟩
    · rw [List.drop_zero, List.take_of_length_le (by rw [bvs_len, getP_len]; omega)]
    · simp only [blk, Option.some.injEq] at hb'; omega
end Go.Proofs.Ytpdklpeojjkkaaa

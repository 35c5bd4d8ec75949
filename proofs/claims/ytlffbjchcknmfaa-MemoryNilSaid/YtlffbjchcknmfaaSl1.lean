/- slices.Clone. -/
import Derived.Test.YtlffbjchcknmfaaGen
namespace Go.Proofs.Ytlffbjchcknmfaa
open Go
set_option linter.unusedVariables false
set_option linter.unusedSimpArgs false
/-- A byte, bytes, as cells. -/
def bv (c : UInt8) : Value := .int .u8 c.toNat
def bvs (bs : List UInt8) : List Value := bs.map bv
theorem bvs_len (bs : List UInt8) : (bvs bs).length = bs.length := by simp [bvs]
theorem bvs_one (bs : List UInt8) : ∀ u ∈ bvs bs, u.oneCell' = true := by
  intro u hu
  simp only [bvs, List.mem_map] at hu
  obtain ⟨c, _, rfl⟩ := hu
  rfl
theorem Own.of_new {w u : World} {b : Nat} {cs : List Value} {n sz : Nat} (h : New w b cs u) (hl : cs.length = n * sz) (hm : n ≤ maxLen) : Own u (.slice (some ⟨b, 0, none⟩) n n) sz cs :=
  ⟨_, _, _, rfl, hl, Nat.le_refl _, hm, .inr ⟨b, 0, cs, rfl, h.blk, by omega, by rw [List.drop_zero, ← hl]; exact List.take_length⟩⟩
set_option maxRecDepth 100000 in
theorem cloneb_spec (v : Value) (xs : List Value) (w : World) (hv : Row w v 1 xs) (h1 : ∀ u ∈ xs, u.oneCell' = true) (hl : xs.length ≤ 70368744177664) :
    CallsE Try.prog 94 [v] w fun r u => Own u r 1 xs ∧ Fr Nob w u ∧ ∀ b, blk r = some b → w.heap.size ≤ b := by
  have hv0 := hv
  obtain ⟨a, n, cap, rfl, hlx, hnc, hr⟩ := hv
  refine enter Try.func94 rfl Try.results94 Try.ntmps94 rfl ?_
  repeat' (first | refine H_seq ?_ | refine H_block ?_ | refine H_skip ?_ | refine H_nil ?_ | refine H_exit ?_ | refine H_ret ?_ | refine B_normal ?_ | refine B_same ?_ | refine B_other rfl ?_ | refine B_ret ?_ | refine L_exit ?_ | refine L_ret ?_)
  refine H_region k94 s94_0 rfl fun K hK => ?_; simp (config := { maxSteps := 4000000 }) only [go_sem, beq_self_eq_true, List.getElem_toArray, List.getElem_cons_zero, List.getElem_cons_succ, decide_true, decide_false, cond_true, cond_false, Nat.reduceBEq, reduceCtorEq, Nat.reduceAdd, Nat.reduceMul, Nat.reduceSub, reduceIte, Int.reduceToNat, Int.reduceEq, Int.reduceLT, Int.reduceLE, Nat.reduceLeDiff, Nat.reduceEqDiff, eq_self, and_self, s94_0]
  refine hK _ _ ?_; clear hK K
  repeat' (first | refine H_seq ?_ | refine H_block ?_ | refine H_skip ?_ | refine H_nil ?_ | refine H_exit ?_ | refine H_ret ?_ | refine B_normal ?_ | refine B_same ?_ | refine B_other rfl ?_ | refine B_ret ?_ | refine L_exit ?_ | refine L_ret ?_)
  refine H_region k94 s94_1 rfl fun K hK => ?_; simp (config := { maxSteps := 4000000 }) only [go_sem, beq_self_eq_true, List.getElem_toArray, List.getElem_cons_zero, List.getElem_cons_succ, decide_true, decide_false, cond_true, cond_false, Nat.reduceBEq, reduceCtorEq, Nat.reduceAdd, Nat.reduceMul, Nat.reduceSub, reduceIte, Int.reduceToNat, Int.reduceEq, Int.reduceLT, Int.reduceLE, Nat.reduceLeDiff, Nat.reduceEqDiff, eq_self, and_self, s94_1, Try.underlying22]
  refine hK _ _ ?_; clear hK K
  repeat' (first | refine H_seq ?_ | refine H_block ?_ | refine H_skip ?_ | refine H_nil ?_ | refine H_exit ?_ | refine H_ret ?_ | refine B_normal ?_ | refine B_same ?_ | refine B_other rfl ?_ | refine B_ret ?_ | refine L_exit ?_ | refine L_ret ?_)
  refine H_cond rfl (fun ha => ?_) (fun ha => ?_)
  · repeat' (first | refine H_seq ?_ | refine H_block ?_ | refine H_skip ?_ | refine H_nil ?_ | refine H_exit ?_ | refine H_ret ?_ | refine B_normal ?_ | refine B_same ?_ | refine B_other rfl ?_ | refine B_ret ?_ | refine L_exit ?_ | refine L_ret ?_)
    refine H_region k94 s94_2 rfl fun K hK => ?_; simp (config := { maxSteps := 4000000 }) only [go_sem, beq_self_eq_true, List.getElem_toArray, List.getElem_cons_zero, List.getElem_cons_succ, decide_true, decide_false, cond_true, cond_false, Nat.reduceBEq, reduceCtorEq, Nat.reduceAdd, Nat.reduceMul, Nat.reduceSub, reduceIte, Int.reduceToNat, Int.reduceEq, Int.reduceLT, Int.reduceLE, Nat.reduceLeDiff, Nat.reduceEqDiff, eq_self, and_self, s94_2]
    refine hK _ _ ?_; clear hK K
    repeat' (first | refine H_seq ?_ | refine H_block ?_ | refine H_skip ?_ | refine H_nil ?_ | refine H_exit ?_ | refine H_ret ?_ | refine B_normal ?_ | refine B_same ?_ | refine B_other rfl ?_ | refine B_ret ?_ | refine L_exit ?_ | refine L_ret ?_)
    refine F_ret ?_
    (try simp (config := { maxSteps := 4000000 }) only [go_sem, beq_self_eq_true, List.getElem_toArray, List.getElem_cons_zero, List.getElem_cons_succ, decide_true, decide_false, cond_true, cond_false, Nat.reduceBEq, reduceCtorEq, Nat.reduceAdd, Nat.reduceMul, Nat.reduceSub, reduceIte, Int.reduceToNat, Int.reduceEq, Int.reduceLT, Int.reduceLE, Nat.reduceLeDiff, Nat.reduceEqDiff, eq_self, and_self])
    obtain rfl : a = none := by simpa using ha
    have hn : n = 0 := by
      rcases hr with h | ⟨b, o, cs, h, _⟩
      · exact h
      · cases h
    have : xs = [] := List.eq_nil_of_length_eq_zero (by rw [hlx, hn])
    subst this
    exact ⟨Own.nil _ _, Fr.refl _ _, fun b hb => by cases hb⟩
  · repeat' (first | refine H_seq ?_ | refine H_block ?_ | refine H_skip ?_ | refine H_nil ?_ | refine H_exit ?_ | refine H_ret ?_ | refine B_normal ?_ | refine B_same ?_ | refine B_other rfl ?_ | refine B_ret ?_ | refine L_exit ?_ | refine L_ret ?_)
    refine H_region k94 s94_3 rfl fun K hK => ?_; simp (config := { maxSteps := 4000000 }) only [go_sem, beq_self_eq_true, List.getElem_toArray, List.getElem_cons_zero, List.getElem_cons_succ, decide_true, decide_false, cond_true, cond_false, Nat.reduceBEq, reduceCtorEq, Nat.reduceAdd, Nat.reduceMul, Nat.reduceSub, reduceIte, Int.reduceToNat, Int.reduceEq, Int.reduceLT, Int.reduceLE, Nat.reduceLeDiff, Nat.reduceEqDiff, eq_self, and_self, s94_3]
    intro b u hN
    refine appendC tsl_22 rfl rfl (Own.of_new (n := 0) hN rfl (Nat.zero_le _)) (hv0.fr hN.fr (fun _ _ q => q)) h1 (by simp; omega) ?_
    intro r u2 hown hfr hblk
    refine hK _ _ ?_; clear hK K
    repeat' (first | refine H_seq ?_ | refine H_block ?_ | refine H_skip ?_ | refine H_nil ?_ | refine H_exit ?_ | refine H_ret ?_ | refine B_normal ?_ | refine B_same ?_ | refine B_other rfl ?_ | refine B_ret ?_ | refine L_exit ?_ | refine L_ret ?_)
    refine F_ret ?_
    (try simp (config := { maxSteps := 4000000 }) only [go_sem, beq_self_eq_true, List.getElem_toArray, List.getElem_cons_zero, List.getElem_cons_succ, decide_true, decide_false, cond_true, cond_false, Nat.reduceBEq, reduceCtorEq, Nat.reduceAdd, Nat.reduceMul, Nat.reduceSub, reduceIte, Int.reduceToNat, Int.reduceEq, Int.reduceLT, Int.reduceLE, Nat.reduceLeDiff, Nat.reduceEqDiff, eq_self, and_self])
    have hb := hN.num
    refine ⟨hown, hN.fr.trans2 hfr (fun _ _ q => q) (fun i hi q => by simp only [blk, Option.some.injEq] at q; omega), fun k hk => ?_⟩
    rcases hblk with e | ⟨b', e, hb'⟩
    · rw [hk] at e; simp only [blk, Option.some.injEq] at e; omega
    · rw [hk] at e; simp only [Option.some.injEq] at e; have := hN.size; omega
end Go.Proofs.Ytlffbjchcknmfaa

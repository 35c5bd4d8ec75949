/- span: New. -/
import Derived.Test.YtlffbjchcknmfaaSpan0
namespace Go.Proofs.Ytlffbjchcknmfaa
open Go
set_option linter.unusedVariables false
set_option linter.unusedSimpArgs false
/-- The pieces of bytes that are all written. -/
def wholeL (bs : List UInt8) : List Pc := match bs with | [] => [] | _ => [(0, bs)]
theorem Row.take {w : World} {a : Option Addr} {n cap : Nat} {xs : List Value} (h : Row w (.slice a n cap) 1 xs) (k : Nat) (hk : k ≤ n) : Row w (.slice a k cap) 1 (xs.take k) := by
  obtain ⟨a', n', cap', hv, hl, hn, h⟩ := h
  cases hv
  refine ⟨_, _, _, rfl, by rw [List.length_take, hl]; omega, by omega, ?_⟩
  rcases h with h | ⟨b, o, cs, ha, hr, ho, ht⟩
  · exact .inl (by omega)
  · refine .inr ⟨b, o, cs, ha, hr, by omega, ?_⟩
    rw [← ht, List.take_take]; congr 1; omega
set_option maxRecDepth 100000 in
theorem snew_spec (a : Option Addr) (n cap : Nat) (bs : List UInt8) (w : World) (hv : Row w (.slice a n cap) 1 (bvs bs)) (hl : bs.length ≤ 140737488355328) :
    CallsE Try.prog 74 [.slice a n cap] w fun r u => ∃ s ms, r = .pointer (some ⟨s, 0, none⟩) ∧ IsSpan u (Fromb w.heap.size) s ms (bs.take 4194304).length ∧
      ms.map MP.pc = wholeL (bs.take 4194304) ∧ Fr Nob w u := by
  have hn : bs.length = n := by have := hv.len; rw [bvs_len] at this; omega
  refine enter Try.func74 rfl Try.results74 Try.ntmps74 rfl ?_
  repeat' (first | refine H_seq ?_ | refine H_block ?_ | refine H_skip ?_ | refine H_nil ?_ | refine H_exit ?_ | refine H_ret ?_ | refine B_normal ?_ | refine B_same ?_ | refine B_other rfl ?_ | refine B_ret ?_ | refine L_exit ?_ | refine L_ret ?_)
  refine H_region k74 s74_0 rfl fun K hK => ?_; simp (config := { maxSteps := 4000000 }) only [go_sem, beq_self_eq_true, List.getElem_toArray, List.getElem_cons_zero, List.getElem_cons_succ, decide_true, decide_false, cond_true, cond_false, Nat.reduceBEq, reduceCtorEq, Nat.reduceAdd, Nat.reduceMul, Nat.reduceSub, reduceIte, Int.reduceToNat, Int.reduceEq, Int.reduceLT, Int.reduceLE, Nat.reduceLeDiff, Nat.reduceEqDiff, eq_self, and_self, s74_0]
  refine hK _ _ ?_; clear hK K
  repeat' (first | refine H_seq ?_ | refine H_block ?_ | refine H_skip ?_ | refine H_nil ?_ | refine H_exit ?_ | refine H_ret ?_ | refine B_normal ?_ | refine B_same ?_ | refine B_other rfl ?_ | refine B_ret ?_ | refine L_exit ?_ | refine L_ret ?_)
  refine H_region k74 s74_1 rfl fun K hK => ?_; simp (config := { maxSteps := 4000000 }) only [go_sem, beq_self_eq_true, List.getElem_toArray, List.getElem_cons_zero, List.getElem_cons_succ, decide_true, decide_false, cond_true, cond_false, Nat.reduceBEq, reduceCtorEq, Nat.reduceAdd, Nat.reduceMul, Nat.reduceSub, reduceIte, Int.reduceToNat, Int.reduceEq, Int.reduceLT, Int.reduceLE, Nat.reduceLeDiff, Nat.reduceEqDiff, eq_self, and_self, s74_1]
  have hmin : (min (n : Int) 4194304).toNat = min n 4194304 := by omega
  have hcap : n ≤ cap := by obtain ⟨_, _, _, hq, _, h, _⟩ := hv; cases hq; exact h
  refine ⟨by omega, ?_⟩
  rw [hmin]
  have hB : (bvs bs).take (min n 4194304) = bvs (bs.take 4194304) := by
    unfold bvs
    rw [List.map_take, ← hn]
    rcases Nat.le_total bs.length 4194304 with h | h
    · rw [Nat.min_eq_left h, List.take_of_length_le (by simp), List.take_of_length_le (by simp; omega)]
    · rw [Nat.min_eq_right h]
  have hrow := hv.take (min n 4194304) (Nat.min_le_left _ _)
  rw [hB] at hrow
  refine callC tcall_94 (cloneb_spec _ _ _ hrow (bvs_one _) (by rw [bvs_len, List.length_take]; omega)) ?_
  generalize hBB : bs.take 4194304 = B at *
  have hBl : B.length ≤ 4194304 := by rw [← hBB, List.length_take]; omega
  rintro r u ⟨hown, hfr, hblk⟩
  have hown0 := hown
  obtain ⟨ra, rn, rc, rfl, hrl, hrc, hrm, hr⟩ := hown
  have hrn : rn = B.length := by rw [bvs_len] at hrl; omega
  subst hrn
  refine hK _ _ ?_; clear hK K
  repeat' (first | refine H_seq ?_ | refine H_block ?_ | refine H_skip ?_ | refine H_nil ?_ | refine H_exit ?_ | refine H_ret ?_ | refine B_normal ?_ | refine B_same ?_ | refine B_other rfl ?_ | refine B_ret ?_ | refine L_exit ?_ | refine L_ret ?_)
  refine H_region k74 s74_2 rfl fun K hK => ?_; simp (config := { maxSteps := 4000000 }) only [go_sem, beq_self_eq_true, List.getElem_toArray, List.getElem_cons_zero, List.getElem_cons_succ, decide_true, decide_false, cond_true, cond_false, Nat.reduceBEq, reduceCtorEq, Nat.reduceAdd, Nat.reduceMul, Nat.reduceSub, reduceIte, Int.reduceToNat, Int.reduceEq, Int.reduceLT, Int.reduceLE, Nat.reduceLeDiff, Nat.reduceEqDiff, eq_self, and_self, s74_2]
  intro s u2 hN
  refine hK _ _ ?_; clear hK K
  repeat' (first | refine H_seq ?_ | refine H_block ?_ | refine H_skip ?_ | refine H_nil ?_ | refine H_exit ?_ | refine H_ret ?_ | refine B_normal ?_ | refine B_same ?_ | refine B_other rfl ?_ | refine B_ret ?_ | refine L_exit ?_ | refine L_ret ?_)
  refine H_region k74 s74_3 rfl fun K hK => ?_; simp (config := { maxSteps := 4000000 }) only [go_sem, beq_self_eq_true, List.getElem_toArray, List.getElem_cons_zero, List.getElem_cons_succ, decide_true, decide_false, cond_true, cond_false, Nat.reduceBEq, reduceCtorEq, Nat.reduceAdd, Nat.reduceMul, Nat.reduceSub, reduceIte, Int.reduceToNat, Int.reduceEq, Int.reduceLT, Int.reduceLE, Nat.reduceLeDiff, Nat.reduceEqDiff, eq_self, and_self, s74_3]
  refine hK _ _ ?_; clear hK K
  repeat' (first | refine H_seq ?_ | refine H_block ?_ | refine H_skip ?_ | refine H_nil ?_ | refine H_exit ?_ | refine H_ret ?_ | refine B_normal ?_ | refine B_same ?_ | refine B_other rfl ?_ | refine B_ret ?_ | refine L_exit ?_ | refine L_ret ?_)
  have hs := hN.num
  by_cases h0 : B.length = 0
  · have hB0 : B = [] := List.eq_nil_of_length_eq_zero h0
    subst hB0
    refine H_condF rfl (by simp) ?_
    repeat' (first | refine H_seq ?_ | refine H_block ?_ | refine H_skip ?_ | refine H_nil ?_ | refine H_exit ?_ | refine H_ret ?_ | refine B_normal ?_ | refine B_same ?_ | refine B_other rfl ?_ | refine B_ret ?_ | refine L_exit ?_ | refine L_ret ?_)
    refine H_region k74 s74_5 rfl fun K hK => ?_; simp (config := { maxSteps := 4000000 }) only [go_sem, beq_self_eq_true, List.getElem_toArray, List.getElem_cons_zero, List.getElem_cons_succ, decide_true, decide_false, cond_true, cond_false, Nat.reduceBEq, reduceCtorEq, Nat.reduceAdd, Nat.reduceMul, Nat.reduceSub, reduceIte, Int.reduceToNat, Int.reduceEq, Int.reduceLT, Int.reduceLE, Nat.reduceLeDiff, Nat.reduceEqDiff, eq_self, and_self, s74_5]
    refine hK _ _ ?_; clear hK K
    repeat' (first | refine H_seq ?_ | refine H_block ?_ | refine H_skip ?_ | refine H_nil ?_ | refine H_exit ?_ | refine H_ret ?_ | refine B_normal ?_ | refine B_same ?_ | refine B_other rfl ?_ | refine B_ret ?_ | refine L_exit ?_ | refine L_ret ?_)
    refine F_ret ?_
    (try simp (config := { maxSteps := 4000000 }) only [go_sem, beq_self_eq_true, List.getElem_toArray, List.getElem_cons_zero, List.getElem_cons_succ, decide_true, decide_false, cond_true, cond_false, Nat.reduceBEq, reduceCtorEq, Nat.reduceAdd, Nat.reduceMul, Nat.reduceSub, reduceIte, Int.reduceToNat, Int.reduceEq, Int.reduceLT, Int.reduceLE, Nat.reduceLeDiff, Nat.reduceEqDiff, eq_self, and_self])
    refine ⟨s, [], rfl, ⟨⟨_, hN.blk, Own.nil _ _, fun b hb => (by cases hb)⟩, by have := hfr.size; simp only [Fromb]; omega, fun m hm => (by cases hm), fun m hm => (by cases hm), ⟨by simp [Ord], by simp, by simp [heldL]⟩⟩, rfl, hfr.trans hN.fr⟩
  · refine H_condT rfl (by simp; omega) ?_
    repeat' (first | refine H_seq ?_ | refine H_block ?_ | refine H_skip ?_ | refine H_nil ?_ | refine H_exit ?_ | refine H_ret ?_ | refine B_normal ?_ | refine B_same ?_ | refine B_other rfl ?_ | refine B_ret ?_ | refine L_exit ?_ | refine L_ret ?_)
    refine H_region k74 s74_4 rfl fun K hK => ?_; simp (config := { maxSteps := 4000000 }) only [go_sem, beq_self_eq_true, List.getElem_toArray, List.getElem_cons_zero, List.getElem_cons_succ, decide_true, decide_false, cond_true, cond_false, Nat.reduceBEq, reduceCtorEq, Nat.reduceAdd, Nat.reduceMul, Nat.reduceSub, reduceIte, Int.reduceToNat, Int.reduceEq, Int.reduceLT, Int.reduceLE, Nat.reduceLeDiff, Nat.reduceEqDiff, eq_self, and_self, s74_4]
    intro l u3 hN2
    have hl2 := hN2.num
    have hsz1 := hN.size
    have hsz0 := hfr.size
    refine ⟨_, hN2.keepW hN.blk, by simp, ?_⟩
    (try simp (config := { maxSteps := 4000000 }) only [go_sem, beq_self_eq_true, List.getElem_toArray, List.getElem_cons_zero, List.getElem_cons_succ, decide_true, decide_false, cond_true, cond_false, Nat.reduceBEq, reduceCtorEq, Nat.reduceAdd, Nat.reduceMul, Nat.reduceSub, reduceIte, Int.reduceToNat, Int.reduceEq, Int.reduceLT, Int.reduceLE, Nat.reduceLeDiff, Nat.reduceEqDiff, eq_self, and_self])
    intro u4 hP
    refine hK _ _ ?_; clear hK K
    repeat' (first | refine H_seq ?_ | refine H_block ?_ | refine H_skip ?_ | refine H_nil ?_ | refine H_exit ?_ | refine H_ret ?_ | refine B_normal ?_ | refine B_same ?_ | refine B_other rfl ?_ | refine B_ret ?_ | refine L_exit ?_ | refine L_ret ?_)
    refine H_region k74 s74_5 rfl fun K hK => ?_; simp (config := { maxSteps := 4000000 }) only [go_sem, beq_self_eq_true, List.getElem_toArray, List.getElem_cons_zero, List.getElem_cons_succ, decide_true, decide_false, cond_true, cond_false, Nat.reduceBEq, reduceCtorEq, Nat.reduceAdd, Nat.reduceMul, Nat.reduceSub, reduceIte, Int.reduceToNat, Int.reduceEq, Int.reduceLT, Int.reduceLE, Nat.reduceLeDiff, Nat.reduceEqDiff, eq_self, and_self, s74_5]
    refine hK _ _ ?_; clear hK K
    repeat' (first | refine H_seq ?_ | refine H_block ?_ | refine H_skip ?_ | refine H_nil ?_ | refine H_exit ?_ | refine H_ret ?_ | refine B_normal ?_ | refine B_same ?_ | refine B_other rfl ?_ | refine B_ret ?_ | refine L_exit ?_ | refine L_ret ?_)
    refine F_ret ?_
    (try simp (config := { maxSteps := 4000000 }) only [go_sem, beq_self_eq_true, List.getElem_toArray, List.getElem_cons_zero, List.getElem_cons_succ, decide_true, decide_false, cond_true, cond_false, Nat.reduceBEq, reduceCtorEq, Nat.reduceAdd, Nat.reduceMul, Nat.reduceSub, reduceIte, Int.reduceToNat, Int.reduceEq, Int.reduceLT, Int.reduceLE, Nat.reduceLeDiff, Nat.reduceEqDiff, eq_self, and_self])
    rcases hr with ⟨_, h⟩ | ⟨b, o, cs, rfl, hW, hcs, htk⟩
    · omega
    have hbl : w.heap.size ≤ b := hblk b rfl
    have hb1 := hW.lt
    have hbs : b ≠ s := by omega
    have hbL : b ≠ l := by omega
    have hls : l ≠ s := by omega
    rw [Nat.mul_one] at hcs htk
    have hok : MP.ok u4 ⟨0, B, b, o, rc⟩ := ⟨hrc, hrm, cs, hP.keepW (hN2.keepW (hN.keepW hW)) hbs, hcs, htk⟩
    have hlv : Own u4 (.slice (some ⟨l, 0, none⟩) 1 1) 2 (mcells [⟨0, B, b, o, rc⟩]) :=
      (Own.of_new (n := 1) (sz := 2) hN2 rfl (by decide)).fr hP.fr (fun k hk q => by simp only [blk, Option.some.injEq] at hk; simp only [Onb] at q; omega)
    refine ⟨s, [⟨0, B, b, o, rc⟩], rfl, ⟨⟨_, hP.blk, hlv, fun k hk => ?_⟩, ?_, fun m hm => ?_, fun m hm m' hm' _ => ?_, ⟨?_, by omega, ?_⟩⟩, ?_, ?_⟩
    · simp only [blk, Option.some.injEq] at hk
      subst hk
      refine ⟨by simp only [Fromb]; omega, hls, fun m hm => ?_⟩
      simp only [List.mem_singleton] at hm
      subst hm; exact hbL
    · simp only [Fromb]; omega
    · simp only [List.mem_singleton] at hm
      subst hm
      exact ⟨hok, hbl, hbs⟩
    · simp only [List.mem_singleton] at hm hm'
      subst hm; subst hm'; rfl
    · simp only [List.map_cons, List.map_nil, MP.pc, Ord]; omega
    · simpa [heldL, MP.pc] using hBl
    · cases B with
      | nil => simp at h0
      | cons x r => rfl
    · exact ((hfr.trans hN.fr).trans hN2.fr).put hP (.inl (by omega))
end Go.Proofs.Ytlffbjchcknmfaa

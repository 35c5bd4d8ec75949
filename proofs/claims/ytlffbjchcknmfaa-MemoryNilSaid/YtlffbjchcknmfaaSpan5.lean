/- span: cleared. -/
import Derived.Test.YtlffbjchcknmfaaSpan4
import Derived.Test.YtlffbjchcknmfaaPc3
namespace Go.Proofs.Ytlffbjchcknmfaa
open Go
set_option linter.unusedVariables false
set_option linter.unusedSimpArgs false
set_option maxRecDepth 100000
theorem Row.pre {w : World} {a : Option Addr} {n c sz : Nat} {xs : List Value} (h : Row w (.slice a n c) sz xs) (k : Nat) (hk : k ≤ n) : Row w (.slice a k c) sz (xs.take (k * sz)) := by
  obtain ⟨a', n', c', e, hl, hn, h⟩ := h
  cases e
  have := Nat.mul_le_mul_right sz hk
  refine ⟨_, _, _, rfl, by rw [List.length_take, hl]; omega, by omega, ?_⟩
  rcases h with h | ⟨b, o, cs, rfl, hr, ho, ht⟩
  · exact .inl (by omega)
  · refine .inr ⟨b, o, cs, rfl, hr, by omega, ?_⟩
    rw [← ht, List.take_take]; congr 1; omega
theorem mcells_take (ms : List MP) (i : Nat) : (mcells ms).take (i * 2) = mcells (ms.take i) := by
  induction ms generalizing i with
  | nil => simp [mcells]
  | cons m r ih =>
    cases i with
    | zero => simp [mcells]
    | succ i =>
      rw [show (i + 1) * 2 = i * 2 + 1 + 1 by omega]
      simp only [mcells, List.flatMap_cons, MP.cells, List.cons_append, List.nil_append, List.take_succ_cons] at *
      rw [ih i]
theorem clonep_spec (v : Value) (xs : List Value) (w : World) (hv : Row w v 2 xs) (h1 : ∀ u ∈ xs, u.oneCell' = true) (hl : xs.length ≤ 1099511627776) :
    CallsE Try.prog 130 [v] w fun r u => Own u r 2 xs ∧ Fr Nob w u ∧ ∀ b, blk r = some b → w.heap.size ≤ b := by
  have hv0 := hv
  obtain ⟨a, n, cap, rfl, hlx, hnc, hr⟩ := hv
  refine enter Try.func130 rfl Try.results130 Try.ntmps130 rfl ?_
  repeat' (first | refine H_seq ?_ | refine H_block ?_ | refine H_skip ?_ | refine H_nil ?_ | refine H_exit ?_ | refine H_ret ?_ | refine B_normal ?_ | refine B_same ?_ | refine B_other rfl ?_ | refine B_ret ?_ | refine L_exit ?_ | refine L_ret ?_)
  refine H_region k130 s130_0 rfl fun K hK => ?_; simp (config := { maxSteps := 4000000 }) only [go_sem, beq_self_eq_true, List.getElem_toArray, List.getElem_cons_zero, List.getElem_cons_succ, decide_true, decide_false, cond_true, cond_false, Nat.reduceBEq, reduceCtorEq, Nat.reduceAdd, Nat.reduceMul, Nat.reduceSub, reduceIte, Int.reduceToNat, Int.reduceEq, Int.reduceLT, Int.reduceLE, Nat.reduceLeDiff, Nat.reduceEqDiff, eq_self, and_self, s130_0]
  refine hK _ _ ?_; clear hK K
  repeat' (first | refine H_seq ?_ | refine H_block ?_ | refine H_skip ?_ | refine H_nil ?_ | refine H_exit ?_ | refine H_ret ?_ | refine B_normal ?_ | refine B_same ?_ | refine B_other rfl ?_ | refine B_ret ?_ | refine L_exit ?_ | refine L_ret ?_)
  refine H_region k130 s130_1 rfl fun K hK => ?_; simp (config := { maxSteps := 4000000 }) only [go_sem, beq_self_eq_true, List.getElem_toArray, List.getElem_cons_zero, List.getElem_cons_succ, decide_true, decide_false, cond_true, cond_false, Nat.reduceBEq, reduceCtorEq, Nat.reduceAdd, Nat.reduceMul, Nat.reduceSub, reduceIte, Int.reduceToNat, Int.reduceEq, Int.reduceLT, Int.reduceLE, Nat.reduceLeDiff, Nat.reduceEqDiff, eq_self, and_self, s130_1, Try.underlying156]
  refine hK _ _ ?_; clear hK K
  repeat' (first | refine H_seq ?_ | refine H_block ?_ | refine H_skip ?_ | refine H_nil ?_ | refine H_exit ?_ | refine H_ret ?_ | refine B_normal ?_ | refine B_same ?_ | refine B_other rfl ?_ | refine B_ret ?_ | refine L_exit ?_ | refine L_ret ?_)
  refine H_cond rfl (fun ha => ?_) (fun ha => ?_)
  · repeat' (first | refine H_seq ?_ | refine H_block ?_ | refine H_skip ?_ | refine H_nil ?_ | refine H_exit ?_ | refine H_ret ?_ | refine B_normal ?_ | refine B_same ?_ | refine B_other rfl ?_ | refine B_ret ?_ | refine L_exit ?_ | refine L_ret ?_)
    refine H_region k130 s130_2 rfl fun K hK => ?_; simp (config := { maxSteps := 4000000 }) only [go_sem, beq_self_eq_true, List.getElem_toArray, List.getElem_cons_zero, List.getElem_cons_succ, decide_true, decide_false, cond_true, cond_false, Nat.reduceBEq, reduceCtorEq, Nat.reduceAdd, Nat.reduceMul, Nat.reduceSub, reduceIte, Int.reduceToNat, Int.reduceEq, Int.reduceLT, Int.reduceLE, Nat.reduceLeDiff, Nat.reduceEqDiff, eq_self, and_self, s130_2]
    refine hK _ _ ?_; clear hK K
    repeat' (first | refine H_seq ?_ | refine H_block ?_ | refine H_skip ?_ | refine H_nil ?_ | refine H_exit ?_ | refine H_ret ?_ | refine B_normal ?_ | refine B_same ?_ | refine B_other rfl ?_ | refine B_ret ?_ | refine L_exit ?_ | refine L_ret ?_)
    refine F_ret ?_
    (try simp (config := { maxSteps := 4000000 }) only [go_sem, beq_self_eq_true, List.getElem_toArray, List.getElem_cons_zero, List.getElem_cons_succ, decide_true, decide_false, cond_true, cond_false, Nat.reduceBEq, reduceCtorEq, Nat.reduceAdd, Nat.reduceMul, Nat.reduceSub, reduceIte, Int.reduceToNat, Int.reduceEq, Int.reduceLT, Int.reduceLE, Nat.reduceLeDiff, Nat.reduceEqDiff, eq_self, and_self])
    obtain rfl : a = none := by simpa using ha
    have hn : n = 0 := by
      rcases hr with h | ⟨b, o, cs, h, _⟩
      · exact h
      · cases h
    have : xs = [] := List.eq_nil_of_length_eq_zero (by rw [hlx, hn, Nat.zero_mul])
    subst this
    exact ⟨Own.nil _ _, Fr.refl _ _, fun b hb => (by cases hb)⟩
  · repeat' (first | refine H_seq ?_ | refine H_block ?_ | refine H_skip ?_ | refine H_nil ?_ | refine H_exit ?_ | refine H_ret ?_ | refine B_normal ?_ | refine B_same ?_ | refine B_other rfl ?_ | refine B_ret ?_ | refine L_exit ?_ | refine L_ret ?_)
    refine H_region k130 s130_3 rfl fun K hK => ?_; simp (config := { maxSteps := 4000000 }) only [go_sem, beq_self_eq_true, List.getElem_toArray, List.getElem_cons_zero, List.getElem_cons_succ, decide_true, decide_false, cond_true, cond_false, Nat.reduceBEq, reduceCtorEq, Nat.reduceAdd, Nat.reduceMul, Nat.reduceSub, reduceIte, Int.reduceToNat, Int.reduceEq, Int.reduceLT, Int.reduceLE, Nat.reduceLeDiff, Nat.reduceEqDiff, eq_self, and_self, s130_3]
    intro b u hN
    refine appendC tsl_156 rfl rfl (Own.of_new (n := 0) hN rfl (Nat.zero_le _)) (hv0.fr hN.fr (fun _ _ q => q)) h1 (by simp; omega) ?_
    intro r u2 hown hfr hblk
    refine hK _ _ ?_; clear hK K
    repeat' (first | refine H_seq ?_ | refine H_block ?_ | refine H_skip ?_ | refine H_nil ?_ | refine H_exit ?_ | refine H_ret ?_ | refine B_normal ?_ | refine B_same ?_ | refine B_other rfl ?_ | refine B_ret ?_ | refine L_exit ?_ | refine L_ret ?_)
    refine F_ret ?_
    (try simp (config := { maxSteps := 4000000 }) only [go_sem, beq_self_eq_true, List.getElem_toArray, List.getElem_cons_zero, List.getElem_cons_succ, decide_true, decide_false, cond_true, cond_false, Nat.reduceBEq, reduceCtorEq, Nat.reduceAdd, Nat.reduceMul, Nat.reduceSub, reduceIte, Int.reduceToNat, Int.reduceEq, Int.reduceLT, Int.reduceLE, Nat.reduceLeDiff, Nat.reduceEqDiff, eq_self, and_self])
    have hb := hN.num
    refine ⟨hown, hN.fr.trans2 hfr (fun _ _ q => q) (fun i hi q => by simp only [blk, Option.some.injEq] at q; omega), fun k hk => ?_⟩
    rcases hblk with e | ⟨b', e, hb'⟩
    · rw [hk] at e; simp only [blk, Option.some.injEq] at e; omega
    · rw [hk] at e; simp only [Option.some.injEq] at e; have := hN.size; omega
/-- What is left of a piece in memory. -/
def clearMP (f t : Nat) (m : MP) : List MP :=
  (if m.at_ < f then [⟨m.at_, m.bs.take (f - m.at_), m.b, m.o, m.c⟩] else []) ++ (if t < m.at_ + m.bs.length then [⟨max m.at_ t, m.bs.drop (t - m.at_), m.b, m.o + (t - m.at_), m.c - (t - m.at_)⟩] else [])
theorem clearMP_pc (f t : Nat) (m : MP) : (clearMP f t m).map MP.pc = clearP f t m.pc := by
  unfold clearMP clearP
  simp only [MP.pc, List.map_append]
  congr 1
  · split <;> rename_i h <;> simp [h, MP.pc]
  · split <;> rename_i h <;> simp [h, MP.pc]
theorem clearML_pc (f t : Nat) (ms : List MP) : (ms.flatMap (clearMP f t)).map MP.pc = clearL f t (ms.map MP.pc) := by
  induction ms with
  | nil => rfl
  | cons m r ih => rw [List.flatMap_cons, List.map_append, ih, clearMP_pc, List.map_cons, clear_cons]
theorem clearMP_mem {f t : Nat} {m x : MP} (h : x ∈ clearMP f t m) : x.b = m.b ∧ x.o + m.at_ = m.o + x.at_ := by
  unfold clearMP at h
  rcases List.mem_append.1 h with h | h
  · split at h
    · simp only [List.mem_singleton] at h; subst h; exact ⟨rfl, rfl⟩
    · cases h
  · split at h
    · simp only [List.mem_singleton] at h; subst h; exact ⟨rfl, by simp only; omega⟩
    · cases h
theorem clearMP_ok {f t : Nat} {m x : MP} {w : World} (hm : m.ok w) (h : x ∈ clearMP f t m) : x.ok w := by
  obtain ⟨h1, h2, cs, h3, h4, h5⟩ := hm
  unfold clearMP at h
  rcases List.mem_append.1 h with h | h
  · split at h
    · simp only [List.mem_singleton] at h; subst h
      refine ⟨by simp only [List.length_take]; omega, h2, cs, h3, h4, ?_⟩
      simp only [List.length_take, ← bvs_take, ← h5, List.take_take]
    · cases h
  · split at h
    · rename_i hc
      simp only [List.mem_singleton] at h; subst h
      refine ⟨by simp only [List.length_drop]; omega, by simp only; omega, cs, h3, by simp only; omega, ?_⟩
      simp only [List.length_drop, ← bvs_drop, ← h5, List.drop_take, List.drop_drop]
    · cases h
theorem clearMP_ahead {f t : Nat} {m : MP} (h : m.at_ + m.bs.length ≤ f) (hft : f < t) (h0 : 0 < m.bs.length) : clearMP f t m = [m] := by
  unfold clearMP
  rw [if_pos (by omega), if_neg (by omega), List.take_of_length_le (by omega)]
  rfl
theorem clearML_ahead {f t : Nat} (hft : f < t) : ∀ {ms : List MP}, (∀ m ∈ ms, m.at_ + m.bs.length ≤ f ∧ 0 < m.bs.length) → ms.flatMap (clearMP f t) = ms
  | [], _ => rfl
  | m :: r, h => by
    rw [List.flatMap_cons, clearMP_ahead (h m (by simp)).1 hft (h m (by simp)).2, clearML_ahead hft (fun q hq => h q (by simp [hq]))]
    rfl
theorem mcells_one (ms : List MP) : ∀ u ∈ mcells ms, u.oneCell' = true := by
  intro u hu
  simp only [mcells, List.mem_flatMap, MP.cells] at hu
  obtain ⟨m, _, hu⟩ := hu
  simp only [List.mem_cons, List.not_mem_nil, or_false] at hu
  rcases hu with rfl | rfl <;> rfl
theorem mcells_append (l r : List MP) : mcells (l ++ r) = mcells l ++ mcells r := by simp [mcells]
/-- How many begin ahead of a place. -/
def aheadN (f : Nat) (ms : List MP) : Nat := (ms.filter fun m => decide (m.at_ < f)).length
theorem clearML_len (f t : Nat) (ms : List MP) : (ms.flatMap (clearMP f t)).length ≤ 2 * ms.length := by
  induction ms with
  | nil => exact Nat.le_refl _
  | cons m r ih =>
    rw [List.flatMap_cons, List.length_append, List.length_cons]
    have : (clearMP f t m).length ≤ 2 := by
      unfold clearMP
      rw [List.length_append]
      split <;> split <;> simp
    omega
theorem cleared_spec (s : Nat) (a : Option Addr) (n c size : Nat) (ms : List MP) (f t : Nat) (w : World) (hh : Hd w s a n c size ms) (hp : ∀ m ∈ ms, m.ok w) (hft : f < t) (ht : t ≤ 1073741824) :
    CallsE Try.prog 92 [ptrV s, .int .i64 f, .int .i64 t] w fun r u => ∃ v, r = .tuple #[v, .int .i64 (aheadN f ms)] ∧ Own u v 2 (mcells (ms.flatMap (clearMP f t))) ∧ (∀ b, blk v = some b → w.heap.size ≤ b) ∧ Fr Nob w u := by
  have hz := hh.canon.size
  have hle := hh.heldLe
  have hn := hh.len
  have hnc : n ≤ c := by obtain ⟨_, _, _, hq, _, h, _⟩ := hh.row; cases hq; exact h
  refine enter Try.func92 rfl Try.results92 Try.ntmps92 rfl ?_
  repeat' (first | refine H_seq ?_ | refine H_block ?_ | refine H_skip ?_ | refine H_nil ?_ | refine H_exit ?_ | refine H_ret ?_ | refine B_normal ?_ | refine B_same ?_ | refine B_other rfl ?_ | refine B_ret ?_ | refine L_exit ?_ | refine L_ret ?_)
  refine H_region k92 s92_0 rfl fun K hK => ?_; simp (config := { maxSteps := 4000000 }) only [go_sem, beq_self_eq_true, List.getElem_toArray, List.getElem_cons_zero, List.getElem_cons_succ, decide_true, decide_false, cond_true, cond_false, Nat.reduceBEq, reduceCtorEq, Nat.reduceAdd, Nat.reduceMul, Nat.reduceSub, reduceIte, Int.reduceToNat, Int.reduceEq, Int.reduceLT, Int.reduceLE, Nat.reduceLeDiff, Nat.reduceEqDiff, eq_self, and_self, s92_0]
  refine hK _ _ ?_; clear hK K
  repeat' (first | refine H_seq ?_ | refine H_block ?_ | refine H_skip ?_ | refine H_nil ?_ | refine H_exit ?_ | refine H_ret ?_ | refine B_normal ?_ | refine B_same ?_ | refine B_other rfl ?_ | refine B_ret ?_ | refine L_exit ?_ | refine L_ret ?_)
  refine H_region k92 s92_1 rfl fun K hK => ?_; simp (config := { maxSteps := 4000000 }) only [go_sem, beq_self_eq_true, List.getElem_toArray, List.getElem_cons_zero, List.getElem_cons_succ, decide_true, decide_false, cond_true, cond_false, Nat.reduceBEq, reduceCtorEq, Nat.reduceAdd, Nat.reduceMul, Nat.reduceSub, reduceIte, Int.reduceToNat, Int.reduceEq, Int.reduceLT, Int.reduceLE, Nat.reduceLeDiff, Nat.reduceEqDiff, eq_self, and_self, s92_1]
  refine callC tcall_90 (behind_spec s a n c size ms _ _ hh) ?_
  rintro v w1 ⟨i, rfl, hi, f1⟩
  (try simp (config := { maxSteps := 4000000 }) only [go_sem, beq_self_eq_true, List.getElem_toArray, List.getElem_cons_zero, List.getElem_cons_succ, decide_true, decide_false, cond_true, cond_false, Nat.reduceBEq, reduceCtorEq, Nat.reduceAdd, Nat.reduceMul, Nat.reduceSub, reduceIte, Int.reduceToNat, Int.reduceEq, Int.reduceLT, Int.reduceLE, Nat.reduceLeDiff, Nat.reduceEqDiff, eq_self, and_self])
  refine hK _ _ ?_; clear hK K
  repeat' (first | refine H_seq ?_ | refine H_block ?_ | refine H_skip ?_ | refine H_nil ?_ | refine H_exit ?_ | refine H_ret ?_ | refine B_normal ?_ | refine B_same ?_ | refine B_other rfl ?_ | refine B_ret ?_ | refine L_exit ?_ | refine L_ret ?_)
  have hin := hi.1
  have hh1 := hh.fr f1
  refine H_region k92 s92_2 rfl fun K hK => ?_; simp (config := { maxSteps := 4000000 }) only [go_sem, beq_self_eq_true, List.getElem_toArray, List.getElem_cons_zero, List.getElem_cons_succ, decide_true, decide_false, cond_true, cond_false, Nat.reduceBEq, reduceCtorEq, Nat.reduceAdd, Nat.reduceMul, Nat.reduceSub, reduceIte, Int.reduceToNat, Int.reduceEq, Int.reduceLT, Int.reduceLE, Nat.reduceLeDiff, Nat.reduceEqDiff, eq_self, and_self, s92_2, hh1.hs.cell]
  refine ⟨by omega, ?_⟩
  have hrow1 := hh1.row.pre i (by omega)
  rw [mcells_take] at hrow1
  refine callC tcall_130 (clonep_spec _ _ _ hrow1 (mcells_one _) (by rw [mcells_len, List.length_take]; omega)) ?_
  rintro v w2 ⟨ho2, f2, hb2⟩
  refine hK _ _ ?_; clear hK K
  repeat' (first | refine H_seq ?_ | refine H_block ?_ | refine H_skip ?_ | refine H_nil ?_ | refine H_exit ?_ | refine H_ret ?_ | refine B_normal ?_ | refine B_same ?_ | refine B_other rfl ?_ | refine B_ret ?_ | refine L_exit ?_ | refine L_ret ?_)
  have hh2 := hh1.fr f2
  refine H_region k92 s92_3 rfl fun K hK => ?_; simp (config := { maxSteps := 4000000 }) only [go_sem, beq_self_eq_true, List.getElem_toArray, List.getElem_cons_zero, List.getElem_cons_succ, decide_true, decide_false, cond_true, cond_false, Nat.reduceBEq, reduceCtorEq, Nat.reduceAdd, Nat.reduceMul, Nat.reduceSub, reduceIte, Int.reduceToNat, Int.reduceEq, Int.reduceLT, Int.reduceLE, Nat.reduceLeDiff, Nat.reduceEqDiff, eq_self, and_self, s92_3]
  refine hK _ _ ?_; clear hK K
  repeat' (first | refine H_seq ?_ | refine H_block ?_ | refine H_skip ?_ | refine H_nil ?_ | refine H_exit ?_ | refine H_ret ?_ | refine B_normal ?_ | refine B_same ?_ | refine B_other rfl ?_ | refine B_ret ?_ | refine L_exit ?_ | refine L_ret ?_)
  refine H_region k92 s92_4 rfl fun K hK => ?_; simp (config := { maxSteps := 4000000 }) only [go_sem, beq_self_eq_true, List.getElem_toArray, List.getElem_cons_zero, List.getElem_cons_succ, decide_true, decide_false, cond_true, cond_false, Nat.reduceBEq, reduceCtorEq, Nat.reduceAdd, Nat.reduceMul, Nat.reduceSub, reduceIte, Int.reduceToNat, Int.reduceEq, Int.reduceLT, Int.reduceLE, Nat.reduceLeDiff, Nat.reduceEqDiff, eq_self, and_self, s92_4, hh2.hs.cell]
  refine ⟨by omega, ?_⟩
  refine hK _ _ ?_; clear hK K
  repeat' (first | refine H_seq ?_ | refine H_block ?_ | refine H_skip ?_ | refine H_nil ?_ | refine H_exit ?_ | refine H_ret ?_ | refine B_normal ?_ | refine B_same ?_ | refine B_other rfl ?_ | refine B_ret ?_ | refine L_exit ?_ | refine L_ret ?_)
  have hrow := hh.row.sub i (by omega)
  rw [mcells_drop] at hrow
  generalize hav : adv a c i 2 = a' at *
  have hAhead : ∀ m ∈ ms.take i, m.at_ + m.bs.length ≤ f ∧ 0 < m.bs.length := fun m hm => by
    obtain ⟨j, hj⟩ := List.getElem?_of_mem hm
    rw [List.getElem?_take] at hj
    split at hj
    · rename_i hji
      have := hi.2.1 j m hji hj
      simp only [MP.end_] at this
      exact ⟨by omega, (canon_end hh.canon (List.mem_of_getElem? hj)).1⟩
    · cases hj
  have hA0 : aheadN f (ms.take i) = i := by
    unfold aheadN
    rw [List.filter_eq_self.2 (fun m hm => by have := hAhead m hm; simp; omega), List.length_take]
    omega
  have hsz2 := (f1.trans f2).size
  refine H_loop (fun x : Nat × Value => [(0, ptrV s), (1, .int .i64 f), (2, .int .i64 t), (9, x.2), (10, .int .i64 (aheadN f (ms.take (i + x.1)))), (29, .slice a' (n - i) (c - i)), (30, .int .i64 (n - i : Nat)), (31, .int .i64 x.1)])
    (fun x u => x.1 ≤ n - i ∧ Fr Nob w u ∧ Own u x.2 2 (mcells ((ms.take (i + x.1)).flatMap (clearMP f t))) ∧ ∀ b, blk x.2 = some b → w.heap.size ≤ b) (fun x => n - i - x.1) (0, v)
    ⟨rfl, rfl, rfl, rfl, by simp [eget, hA0], rfl, by simp [eget], rfl, trivial⟩ ⟨Nat.zero_le _, f1.trans f2, ?_, fun b hb => by have := hb2 b hb; have := f1.size; omega⟩ ?_
  · rw [Nat.add_zero, clearML_ahead hft hAhead]; exact ho2
  rintro ⟨k, v⟩ u ⟨hk, hf, ho, hbk⟩
  simp only at hk ho hbk
  repeat' (first | refine H_seq ?_ | refine H_block ?_ | refine H_skip ?_ | refine H_nil ?_ | refine H_exit ?_ | refine H_ret ?_ | refine B_normal ?_ | refine B_same ?_ | refine B_other rfl ?_ | refine B_ret ?_ | refine L_exit ?_ | refine L_ret ?_)
  refine H_region k92 s92_5 rfl fun K hK => ?_; simp (config := { maxSteps := 4000000 }) only [go_sem, beq_self_eq_true, List.getElem_toArray, List.getElem_cons_zero, List.getElem_cons_succ, decide_true, decide_false, cond_true, cond_false, Nat.reduceBEq, reduceCtorEq, Nat.reduceAdd, Nat.reduceMul, Nat.reduceSub, reduceIte, Int.reduceToNat, Int.reduceEq, Int.reduceLT, Int.reduceLE, Nat.reduceLeDiff, Nat.reduceEqDiff, eq_self, and_self, s92_5]
  refine hK _ _ ?_; clear hK K
  repeat' (first | refine H_seq ?_ | refine H_block ?_ | refine H_skip ?_ | refine H_nil ?_ | refine H_exit ?_ | refine H_ret ?_ | refine B_normal ?_ | refine B_same ?_ | refine B_other rfl ?_ | refine B_ret ?_ | refine L_exit ?_ | refine L_ret ?_)
  by_cases hkn : k < n - i
  · refine H_condT rfl (by simpa using hkn) ?_
    repeat' (first | refine H_seq ?_ | refine H_block ?_ | refine H_skip ?_ | refine H_nil ?_ | refine H_exit ?_ | refine H_ret ?_ | refine B_normal ?_ | refine B_same ?_ | refine B_other rfl ?_ | refine B_ret ?_ | refine L_exit ?_ | refine L_ret ?_)
    have hr := hrow.fr hf (fun _ _ q => q)
    obtain ⟨b8, o8, rfl, _, hc⟩ := rowM_cells hr (by omega)
    obtain ⟨m, hm⟩ : ∃ m, ms[i + k]? = some m := ⟨ms[i + k]'(by omega), List.getElem?_eq_getElem _⟩
    obtain ⟨c0, c1⟩ := hc k m (by rw [List.getElem?_drop]; exact hm)
    have hmm := List.mem_of_getElem? hm
    have he := canon_end hh.canon hmm
    have hae := hi.2.2 (i + k) m (by omega) hm
    simp only [MP.end_] at hae
    have htake : ms.take (i + (k + 1)) = ms.take (i + k) ++ [m] := by
      rw [show i + (k + 1) = i + k + 1 by omega, List.take_add_one, hm]; rfl
    have hal : aheadN f (ms.take (i + (k + 1))) = aheadN f (ms.take (i + k)) + (if m.at_ < f then 1 else 0) := by
      unfold aheadN
      rw [htake, List.filter_append, List.length_append]
      congr 1
      by_cases h : m.at_ < f <;> simp [h]
    have hcl : (ms.take (i + (k + 1))).flatMap (clearMP f t) = (ms.take (i + k)).flatMap (clearMP f t) ++ clearMP f t m := by
      rw [htake, List.flatMap_append]; simp
    refine H_region k92 s92_6 rfl fun K hK => ?_; simp (config := { maxSteps := 4000000 }) only [go_sem, beq_self_eq_true, List.getElem_toArray, List.getElem_cons_zero, List.getElem_cons_succ, decide_true, decide_false, cond_true, cond_false, Nat.reduceBEq, reduceCtorEq, Nat.reduceAdd, Nat.reduceMul, Nat.reduceSub, reduceIte, Int.reduceToNat, Int.reduceEq, Int.reduceLT, Int.reduceLE, Nat.reduceLeDiff, Nat.reduceEqDiff, eq_self, and_self, s92_6, c0, c1]
    refine ⟨⟨by omega, by omega⟩, ?_⟩
    intro b9 u1 h9
    refine ⟨_, h9.blk, by simp, ?_⟩
    (try simp (config := { maxSteps := 4000000 }) only [go_sem, beq_self_eq_true, List.getElem_toArray, List.getElem_cons_zero, List.getElem_cons_succ, decide_true, decide_false, cond_true, cond_false, Nat.reduceBEq, reduceCtorEq, Nat.reduceAdd, Nat.reduceMul, Nat.reduceSub, reduceIte, Int.reduceToNat, Int.reduceEq, Int.reduceLT, Int.reduceLE, Nat.reduceLeDiff, Nat.reduceEqDiff, eq_self, and_self])
    intro u2 h2
    have h9n := h9.num
    have hsz := hf.size
    have hf2 : Fr Nob u u2 := h9.fr.put h2 (.inl (by omega))
    have hbl9 : ∀ b, blk v = some b → b ≠ b9 := fun b hb => by have := ho.blk_lt hb; omega
    replace ho := ho.fr hf2 (fun _ _ q => q)
    replace hf := hf.trans hf2
    refine hK _ _ ?_; clear hK K
    repeat' (first | refine H_seq ?_ | refine H_block ?_ | refine H_skip ?_ | refine H_nil ?_ | refine H_exit ?_ | refine H_ret ?_ | refine B_normal ?_ | refine B_same ?_ | refine B_other rfl ?_ | refine B_ret ?_ | refine L_exit ?_ | refine L_ret ?_)
    refine H_region k92 s92_7 rfl fun K hK => ?_; simp (config := { maxSteps := 4000000 }) only [go_sem, beq_self_eq_true, List.getElem_toArray, List.getElem_cons_zero, List.getElem_cons_succ, decide_true, decide_false, cond_true, cond_false, Nat.reduceBEq, reduceCtorEq, Nat.reduceAdd, Nat.reduceMul, Nat.reduceSub, reduceIte, Int.reduceToNat, Int.reduceEq, Int.reduceLT, Int.reduceLE, Nat.reduceLeDiff, Nat.reduceEqDiff, eq_self, and_self, s92_7, h2.blk.cell]
    refine hK _ _ ?_; clear hK K
    repeat' (first | refine H_seq ?_ | refine H_block ?_ | refine H_skip ?_ | refine H_nil ?_ | refine H_exit ?_ | refine H_ret ?_ | refine B_normal ?_ | refine B_same ?_ | refine B_other rfl ?_ | refine B_ret ?_ | refine L_exit ?_ | refine L_ret ?_)
    have hah : aheadN f (ms.take (i + k)) ≤ (ms.take (i + k)).length := List.length_filter_le _ _
    have h9c := h2.blk
    have hlen := clearML_len f t (ms.take (i + k))
    have hlt : (ms.take (i + k)).length ≤ i + k := by rw [List.length_take]; omega
    have hpm := (hp m hmm).fr hf (fun q => q)
    have hL : clearMP f t m = (if m.at_ < f then [⟨m.at_, m.bs.take (f - m.at_), m.b, m.o, m.c⟩] else []) ++ (if t < m.at_ + m.bs.length then [⟨max m.at_ t, m.bs.drop (t - m.at_), m.b, m.o + (t - m.at_), m.c - (t - m.at_)⟩] else []) := rfl
    by_cases hmf : m.at_ < f
    case' pos =>
      refine H_condT rfl (by simpa using hmf) ?_
      repeat' (first | refine H_seq ?_ | refine H_block ?_ | refine H_skip ?_ | refine H_nil ?_ | refine H_exit ?_ | refine H_ret ?_ | refine B_normal ?_ | refine B_same ?_ | refine B_other rfl ?_ | refine B_ret ?_ | refine L_exit ?_ | refine L_ret ?_)
      refine H_drawn k92 s92_8 p92_8 (Nob) rfl mixed (by as_aux_lemma => kernel_rfl) fun K hK => ?_; simp (config := { maxSteps := 4000000 }) only [go_sem, beq_self_eq_true, List.getElem_toArray, List.getElem_cons_zero, List.getElem_cons_succ, decide_true, decide_false, cond_true, cond_false, Nat.reduceBEq, reduceCtorEq, Nat.reduceAdd, Nat.reduceMul, Nat.reduceSub, reduceIte, Int.reduceToNat, Int.reduceEq, Int.reduceLT, Int.reduceLE, Nat.reduceLeDiff, Nat.reduceEqDiff, eq_self, and_self, s92_8, p92_8, h9c.cell]
      rw [wrapI (by omega), show ((f : Int) - m.at_).toNat = f - m.at_ by omega]
      refine ⟨fun q => q, fun q => q, fun q => q, ⟨by omega, by have := hpm.1; omega⟩, ?_⟩
      intro b5 u5 h5
      refine appendC tsl_156 rfl rfl (ho.fr h5.fr (fun _ _ q => q)) (Own.of_new (n := 1) h5 rfl (by decide)).row (by simp [Value.oneCell']) (by rw [mcells_len]; simp only [List.length_cons, List.length_nil]; omega) ?_
      intro v3 u3 ho3 hf3 hb3
      have hsz5 := hf.size
      have hf3' : Fr Nob w u3 := (hf.trans h5.fr).trans2 hf3 (fun _ _ q => q) (fun b hb e => by have := hbk b e; omega)
      have h9c3 := (h5.keepW h9c).fr hf3 (fun e => by have := ho.blk_lt e; have := hbl9 b9 e; omega)
      replace hbk : ∀ b, blk v3 = some b → w.heap.size ≤ b := fun b hb => by
        rcases hb3 with e | ⟨b', e, hb'⟩
        · exact hbk b (by rw [← e]; exact hb)
        · rw [hb] at e; cases e; have := h5.fr.size; omega
      replace ho : Own u3 v3 2 (mcells ((ms.take (i + k)).flatMap (clearMP f t) ++ (if m.at_ < f then [⟨m.at_, m.bs.take (f - m.at_), m.b, m.o, m.c⟩] else []))) := by
        rw [if_pos hmf, mcells_append]
        have e : (m.bs.take (f - m.at_)).length = f - m.at_ := by rw [List.length_take]; omega
        simpa [mcells, MP.cells, e] using ho3
      refine hK _ _ ?_; clear hK K
      repeat' (first | refine H_seq ?_ | refine H_block ?_ | refine H_skip ?_ | refine H_nil ?_ | refine H_exit ?_ | refine H_ret ?_ | refine B_normal ?_ | refine B_same ?_ | refine B_other rfl ?_ | refine B_ret ?_ | refine L_exit ?_ | refine L_ret ?_)
      refine H_region k92 s92_9 rfl fun K hK => ?_; simp (config := { maxSteps := 4000000 }) only [go_sem, beq_self_eq_true, List.getElem_toArray, List.getElem_cons_zero, List.getElem_cons_succ, decide_true, decide_false, cond_true, cond_false, Nat.reduceBEq, reduceCtorEq, Nat.reduceAdd, Nat.reduceMul, Nat.reduceSub, reduceIte, Int.reduceToNat, Int.reduceEq, Int.reduceLT, Int.reduceLE, Nat.reduceLeDiff, Nat.reduceEqDiff, eq_self, and_self, s92_9]
      rw [wrapI (by omega), show ((aheadN f (ms.take (i + k)) : Int) + 1) = ((aheadN f (ms.take (i + k)) + (if m.at_ < f then 1 else 0) : Nat) : Int) by rw [if_pos hmf]; omega]
      refine hK _ _ ?_; clear hK K
      repeat' (first | refine H_seq ?_ | refine H_block ?_ | refine H_skip ?_ | refine H_nil ?_ | refine H_exit ?_ | refine H_ret ?_ | refine B_normal ?_ | refine B_same ?_ | refine B_other rfl ?_ | refine B_ret ?_ | refine L_exit ?_ | refine L_ret ?_)
      have hfc := hf3'
      have h9d := h9c3
      clear hf hf3' hf3 hb3 h5 ho3 h9c h9c3
    case' neg =>
      refine H_condF rfl (by simpa using hmf) ?_
      repeat' (first | refine H_seq ?_ | refine H_block ?_ | refine H_skip ?_ | refine H_nil ?_ | refine H_exit ?_ | refine H_ret ?_ | refine B_normal ?_ | refine B_same ?_ | refine B_other rfl ?_ | refine B_ret ?_ | refine L_exit ?_ | refine L_ret ?_)
      have hfc := hf
      have h9d := h9c
      replace ho : Own u2 v 2 (mcells ((ms.take (i + k)).flatMap (clearMP f t) ++ (if m.at_ < f then [⟨m.at_, m.bs.take (f - m.at_), m.b, m.o, m.c⟩] else []))) := by
        rw [if_neg hmf, List.append_nil]; exact ho
      rw [show aheadN f (ms.take (i + k)) = aheadN f (ms.take (i + k)) + (if m.at_ < f then 1 else 0) by rw [if_neg hmf]; rfl]
      clear hf h9c
      generalize v = v3 at *
      generalize u2 = u3 at *
    all_goals
      refine H_region k92 s92_10 rfl fun K hK => ?_; simp (config := { maxSteps := 4000000 }) only [go_sem, beq_self_eq_true, List.getElem_toArray, List.getElem_cons_zero, List.getElem_cons_succ, decide_true, decide_false, cond_true, cond_false, Nat.reduceBEq, reduceCtorEq, Nat.reduceAdd, Nat.reduceMul, Nat.reduceSub, reduceIte, Int.reduceToNat, Int.reduceEq, Int.reduceLT, Int.reduceLE, Nat.reduceLeDiff, Nat.reduceEqDiff, eq_self, and_self, s92_10, h9d.cell]
      refine callC tcall_91 (end_spec _ _ _ _ _ (by omega) (by omega) (by omega)) ?_
      rintro v7 u7 ⟨rfl, f7⟩
      simp (config := { maxSteps := 4000000 }) only [go_sem, beq_self_eq_true, List.getElem_toArray, List.getElem_cons_zero, List.getElem_cons_succ, decide_true, decide_false, cond_true, cond_false, Nat.reduceBEq, reduceCtorEq, Nat.reduceAdd, Nat.reduceMul, Nat.reduceSub, reduceIte, Int.reduceToNat, Int.reduceEq, Int.reduceLT, Int.reduceLE, Nat.reduceLeDiff, Nat.reduceEqDiff, eq_self, and_self, s92_10_1]
      replace ho := ho.fr f7 (fun _ _ q => q)
      have hf7 := hfc.trans f7
      have h9e := h9d.fr f7 (fun q => q)
      clear hfc h9d f7
      refine hK _ _ ?_; clear hK K
      repeat' (first | refine H_seq ?_ | refine H_block ?_ | refine H_skip ?_ | refine H_nil ?_ | refine H_exit ?_ | refine H_ret ?_ | refine B_normal ?_ | refine B_same ?_ | refine B_other rfl ?_ | refine B_ret ?_ | refine L_exit ?_ | refine L_ret ?_)
      rw [← hal]
      by_cases hmt : t < m.at_ + m.bs.length
      · refine H_condT rfl (by simp; omega) ?_
        repeat' (first | refine H_seq ?_ | refine H_block ?_ | refine H_skip ?_ | refine H_nil ?_ | refine H_exit ?_ | refine H_ret ?_ | refine B_normal ?_ | refine B_same ?_ | refine B_other rfl ?_ | refine B_ret ?_ | refine L_exit ?_ | refine L_ret ?_)
        refine H_drawn k92 s92_11 p92_11 (Nob) rfl mixed (by as_aux_lemma => kernel_rfl) fun K hK => ?_; simp (config := { maxSteps := 4000000 }) only [go_sem, beq_self_eq_true, List.getElem_toArray, List.getElem_cons_zero, List.getElem_cons_succ, decide_true, decide_false, cond_true, cond_false, Nat.reduceBEq, reduceCtorEq, Nat.reduceAdd, Nat.reduceMul, Nat.reduceSub, reduceIte, Int.reduceToNat, Int.reduceEq, Int.reduceLT, Int.reduceLE, Nat.reduceLeDiff, Nat.reduceEqDiff, eq_self, and_self, s92_11, p92_11, h9e.cell]
        have ek : (max 0 (IntKind.i64.wrap ((t : Int) - m.at_))).toNat = t - m.at_ := by rw [wrapI (by omega)]; omega
        have ekl : 0 ≤ max 0 (IntKind.i64.wrap ((t : Int) - m.at_)) ∧ max 0 (IntKind.i64.wrap ((t : Int) - m.at_)) ≤ (m.bs.length : Int) ∧ (m.bs.length : Int) ≤ m.c := by
          have := hpm.1
          rw [wrapI (by omega)]; omega
        rw [ek, adv_some m.b m.o 1 (show t - m.at_ < m.c by have := hpm.1; omega)]
        refine ⟨fun q => q, fun q => q, fun q => q, ekl, ?_⟩
        intro b5 u5 h5
        have hl2 : (mcells ((ms.take (i + k)).flatMap (clearMP f t) ++ (if m.at_ < f then [⟨m.at_, m.bs.take (f - m.at_), m.b, m.o, m.c⟩] else []))).length ≤ (2 * (i + k) + 1) * 2 := by
          rw [mcells_len, List.length_append]
          have : (if m.at_ < f then [(⟨m.at_, m.bs.take (f - m.at_), m.b, m.o, m.c⟩ : MP)] else []).length ≤ 1 := by split <;> simp
          omega
        refine appendC tsl_156 rfl rfl (ho.fr h5.fr (fun _ _ q => q)) (Own.of_new (n := 1) h5 rfl (by decide)).row (by simp [Value.oneCell']) (by simp only [List.length_cons, List.length_nil]; omega) ?_
        intro v8 u8 ho8 hf8 hb8
        have hf8' : Fr Nob w u8 := (hf7.trans h5.fr).trans2 hf8 (fun _ _ q => q) (fun b hb e => by have := hbk b e; omega)
        refine hK _ _ ?_; clear hK K
        repeat' (first | refine H_seq ?_ | refine H_block ?_ | refine H_skip ?_ | refine H_nil ?_ | refine H_exit ?_ | refine H_ret ?_ | refine B_normal ?_ | refine B_same ?_ | refine B_other rfl ?_ | refine B_ret ?_ | refine L_exit ?_ | refine L_ret ?_)
        refine H_region k92 s92_12 rfl fun K hK => ?_; simp (config := { maxSteps := 4000000 }) only [go_sem, beq_self_eq_true, List.getElem_toArray, List.getElem_cons_zero, List.getElem_cons_succ, decide_true, decide_false, cond_true, cond_false, Nat.reduceBEq, reduceCtorEq, Nat.reduceAdd, Nat.reduceMul, Nat.reduceSub, reduceIte, Int.reduceToNat, Int.reduceEq, Int.reduceLT, Int.reduceLE, Nat.reduceLeDiff, Nat.reduceEqDiff, eq_self, and_self, s92_12]
        refine hK _ _ ?_; clear hK K
        repeat' (first | refine H_seq ?_ | refine H_block ?_ | refine H_skip ?_ | refine H_nil ?_ | refine H_exit ?_ | refine H_ret ?_ | refine B_normal ?_ | refine B_same ?_ | refine B_other rfl ?_ | refine B_ret ?_ | refine L_exit ?_ | refine L_ret ?_)
        rw [wrapI (n := (k : Int) + 1) (by omega), show ((k : Int) + 1) = ((k + 1 : Nat) : Int) by omega]
        refine L_normal ⟨(k + 1, v8), ⟨rfl, rfl, rfl, rfl, rfl, rfl, rfl, rfl, trivial⟩, ⟨hkn, hf8', ?_, fun b hb => ?_⟩, ?_⟩
        · rw [hcl, hL, if_pos hmt, ← List.append_assoc, mcells_append _ [_]]
          have e : (m.bs.drop (t - m.at_)).length = m.bs.length - (t - m.at_) := by rw [List.length_drop]
          have e2 : ((max m.at_ t : Nat) : Int) = max (m.at_ : Int) t := by omega
          simpa [mcells, MP.cells, e, e2] using ho8
        · have := hf7.size
          rcases hb8 with e | ⟨b', e, hb'⟩
          · exact hbk b (by rw [← e]; exact hb)
          · simp only at hb; rw [hb] at e; cases e; have := h5.fr.size; omega
        · show n - i - (k + 1) < n - i - k
          omega
      · refine H_condF rfl (by simp; omega) ?_
        repeat' (first | refine H_seq ?_ | refine H_block ?_ | refine H_skip ?_ | refine H_nil ?_ | refine H_exit ?_ | refine H_ret ?_ | refine B_normal ?_ | refine B_same ?_ | refine B_other rfl ?_ | refine B_ret ?_ | refine L_exit ?_ | refine L_ret ?_)
        refine H_region k92 s92_12 rfl fun K hK => ?_; simp (config := { maxSteps := 4000000 }) only [go_sem, beq_self_eq_true, List.getElem_toArray, List.getElem_cons_zero, List.getElem_cons_succ, decide_true, decide_false, cond_true, cond_false, Nat.reduceBEq, reduceCtorEq, Nat.reduceAdd, Nat.reduceMul, Nat.reduceSub, reduceIte, Int.reduceToNat, Int.reduceEq, Int.reduceLT, Int.reduceLE, Nat.reduceLeDiff, Nat.reduceEqDiff, eq_self, and_self, s92_12]
        refine hK _ _ ?_; clear hK K
        repeat' (first | refine H_seq ?_ | refine H_block ?_ | refine H_skip ?_ | refine H_nil ?_ | refine H_exit ?_ | refine H_ret ?_ | refine B_normal ?_ | refine B_same ?_ | refine B_other rfl ?_ | refine B_ret ?_ | refine L_exit ?_ | refine L_ret ?_)
        rw [wrapI (n := (k : Int) + 1) (by omega), show ((k : Int) + 1) = ((k + 1 : Nat) : Int) by omega]
        refine L_normal ⟨(k + 1, v3), ⟨rfl, rfl, rfl, rfl, rfl, rfl, rfl, rfl, trivial⟩, ⟨hkn, hf7, ?_, hbk⟩, ?_⟩
        · rw [hcl, hL, if_neg hmt, List.append_nil]; exact ho
        · show n - i - (k + 1) < n - i - k
          omega
  · refine H_condF rfl (by simpa using hkn) ?_
    repeat' (first | refine H_seq ?_ | refine H_block ?_ | refine H_skip ?_ | refine H_nil ?_ | refine H_exit ?_ | refine H_ret ?_ | refine B_normal ?_ | refine B_same ?_ | refine B_other rfl ?_ | refine B_ret ?_ | refine L_exit ?_ | refine L_ret ?_)
    refine H_region k92 s92_13 rfl fun K hK => ?_; simp (config := { maxSteps := 4000000 }) only [go_sem, beq_self_eq_true, List.getElem_toArray, List.getElem_cons_zero, List.getElem_cons_succ, decide_true, decide_false, cond_true, cond_false, Nat.reduceBEq, reduceCtorEq, Nat.reduceAdd, Nat.reduceMul, Nat.reduceSub, reduceIte, Int.reduceToNat, Int.reduceEq, Int.reduceLT, Int.reduceLE, Nat.reduceLeDiff, Nat.reduceEqDiff, eq_self, and_self, s92_13]
    refine hK _ _ ?_; clear hK K
    repeat' (first | refine H_seq ?_ | refine H_block ?_ | refine H_skip ?_ | refine H_nil ?_ | refine H_exit ?_ | refine H_ret ?_ | refine B_normal ?_ | refine B_same ?_ | refine B_other rfl ?_ | refine B_ret ?_ | refine L_exit ?_ | refine L_ret ?_)
    refine F_ret ?_
    (try simp (config := { maxSteps := 4000000 }) only [go_sem, beq_self_eq_true, List.getElem_toArray, List.getElem_cons_zero, List.getElem_cons_succ, decide_true, decide_false, cond_true, cond_false, Nat.reduceBEq, reduceCtorEq, Nat.reduceAdd, Nat.reduceMul, Nat.reduceSub, reduceIte, Int.reduceToNat, Int.reduceEq, Int.reduceLT, Int.reduceLE, Nat.reduceLeDiff, Nat.reduceEqDiff, eq_self, and_self])
    rw [List.take_of_length_le (by omega)] at ho ⊢
    exact ⟨v, rfl, ho, hbk, hf⟩
end Go.Proofs.Ytlffbjchcknmfaa

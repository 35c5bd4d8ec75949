/- span: Get. -/
import Derived.Test.YtlffbjchcknmfaaSpan3
import Derived.Test.YtlffbjchcknmfaaPc2
namespace Go.Proofs.Ytlffbjchcknmfaa
open Go
set_option linter.unusedVariables false
set_option linter.unusedSimpArgs false
set_option maxRecDepth 100000
theorem bvs_take (bs : List UInt8) (k : Nat) : (bvs bs).take k = bvs (bs.take k) := by simp [bvs, List.map_take]
theorem bvs_drop (bs : List UInt8) (k : Nat) : (bvs bs).drop k = bvs (bs.drop k) := by simp [bvs, List.map_drop]
theorem bvs_spl (xs ys : List UInt8) (o : Nat) : splice (bvs xs) o (bvs ys) = bvs (spl xs o ys) := by simp [splice, spl, bvs, List.map_take, List.map_drop]
/-- A row's rest. -/
theorem Row.sub {w : World} {a : Option Addr} {n c sz : Nat} {xs : List Value} (h : Row w (.slice a n c) sz xs) (k : Nat) (hk : k ≤ n) : Row w (.slice (adv a c k sz) (n - k) (c - k)) sz (xs.drop (k * sz)) := by
  obtain ⟨a', n', c', e, hl, hn, h⟩ := h
  cases e
  have hm : (n - k) * sz + k * sz = n * sz := by rw [← Nat.add_mul, Nat.sub_add_cancel hk]
  refine ⟨_, _, _, rfl, by rw [List.length_drop, hl]; omega, by omega, ?_⟩
  by_cases h0 : n - k = 0
  · exact .inl h0
  rcases h with h | ⟨b, o, cs, rfl, hr, ho, ht⟩
  · omega
  unfold adv
  rw [if_neg (by omega)]
  refine .inr ⟨b, o + k * sz, cs, by simp [addr_add], hr, by omega, ?_⟩
  rw [← ht, List.drop_take, List.drop_drop]
  congr 1; omega
theorem mcells_drop (ms : List MP) (i : Nat) : (mcells ms).drop (i * 2) = mcells (ms.drop i) := by
  induction ms generalizing i with
  | nil => simp [mcells]
  | cons m r ih =>
    cases i with
    | zero => simp
    | succ i =>
      rw [show (i + 1) * 2 = i * 2 + 1 + 1 by omega]
      simp only [mcells, List.flatMap_cons, MP.cells, List.cons_append, List.nil_append, List.drop_succ_cons] at *
      exact ih i
theorem getP_nought {ps : List Pc} {a n : Nat} (h : ∀ p ∈ ps, p.1 + p.2.length ≤ a) : getP ps a n = List.replicate n 0 := by
  apply List.ext_getElem?
  intro j
  by_cases hj : j < n
  · rw [getP_get _ _ _ _ hj, abs_none (fun p hp => by have := h p hp; omega)]
    simp [hj]
  · rw [List.getElem?_eq_none (by rw [getP_len]; omega), List.getElem?_eq_none (by simp; omega)]
theorem reps_zero (n : Nat) : reps [.int .u8 0] n = bvs (List.replicate n 0) := by
  induction n with
  | zero => rfl
  | succ n ih => simp only [reps, ih]; rfl
/-- Bytes are copied into a block of bytes. -/
theorem copyB {P : Program} {w : World} {K : Value → World → Prop} {t t' : TypeId} {b o n c m c' by_ : Nat} {z : List Value} {a' : Option Addr} {xs ys : List UInt8} (htt : t = t') (ht : tsl P t = some (1, z, by_)) (hw : W w b (bvs xs)) (ho : o + n ≤ xs.length)
    (hr : Row w (.slice a' m c') 1 (bvs ys)) (hk : ∀ u, Put w b (bvs (spl xs o (ys.take n))) u → K (.int .i64 (min m n : Nat)) u) : copyVC P w K t t' (.slice (some ⟨b, o, none⟩) n c) (.slice a' m c') := by
  refine ⟨htt, ?_⟩
  rw [ht]
  have hl : ys.length = m := by have := hr.len; rw [bvs_len] at this; omega
  refine ⟨_, n, c, bvs ys, a', m, c', rfl, rfl, hr, fun u hu => bvs_one _ u (List.mem_of_mem_take hu), .inr ⟨b, o, bvs xs, rfl, hw, by rw [bvs_len]; omega, fun u hp => hk u ?_⟩⟩
  rw [Nat.mul_one, bvs_take, bvs_spl] at hp
  have : ys.take (min m n) = ys.take n := by rw [← List.take_take, List.take_of_length_le (by rw [List.length_take]; omega)]
  rwa [this] at hp
theorem MP.row {w : World} {m : MP} (h : m.ok w) : Row w (.slice (some ⟨m.b, m.o, none⟩) m.bs.length m.c) 1 (bvs m.bs) := by
  obtain ⟨h1, h2, cs, h3, h4, h5⟩ := h
  exact ⟨_, _, _, rfl, by simp [bvs_len], h1, .inr ⟨_, _, cs, rfl, h3.r, by omega, by simpa using h5⟩⟩
theorem getb_spec (s : Nat) (a : Option Addr) (n c size : Nat) (ms : List MP) (at_ k : Int) (w : World) (hh : Hd w s a n c size ms) (hp : ∀ m ∈ ms, m.ok w) :
    CallsE Try.prog 139 [ptrV s, .int .i64 at_, .int .i64 k] w fun r u => Own u r 1 (bvs (getM (ms.map MP.pc) size at_ k)) ∧ (∀ b, blk r = some b → w.heap.size ≤ b) ∧ Fr Nob w u := by
  have hz := hh.canon.size
  have hle := hh.heldLe
  have hn := hh.len
  refine enter Try.func139 rfl Try.results139 Try.ntmps139 rfl ?_
  repeat' (first | refine H_seq ?_ | refine H_block ?_ | refine H_skip ?_ | refine H_nil ?_ | refine H_exit ?_ | refine H_ret ?_ | refine B_normal ?_ | refine B_same ?_ | refine B_other rfl ?_ | refine B_ret ?_ | refine L_exit ?_ | refine L_ret ?_)
  refine H_region k139 s139_0 rfl fun K hK => ?_; simp (config := { maxSteps := 4000000 }) only [go_sem, beq_self_eq_true, List.getElem_toArray, List.getElem_cons_zero, List.getElem_cons_succ, decide_true, decide_false, cond_true, cond_false, Nat.reduceBEq, reduceCtorEq, Nat.reduceAdd, Nat.reduceMul, Nat.reduceSub, reduceIte, Int.reduceToNat, Int.reduceEq, Int.reduceLT, Int.reduceLE, Nat.reduceLeDiff, Nat.reduceEqDiff, eq_self, and_self, s139_0]
  refine hK _ _ ?_; clear hK K
  repeat' (first | refine H_seq ?_ | refine H_block ?_ | refine H_skip ?_ | refine H_nil ?_ | refine H_exit ?_ | refine H_ret ?_ | refine B_normal ?_ | refine B_same ?_ | refine B_other rfl ?_ | refine B_ret ?_ | refine L_exit ?_ | refine L_ret ?_)
  refine H_region k139 s139_1 rfl fun K hK => ?_; simp (config := { maxSteps := 4000000 }) only [go_sem, beq_self_eq_true, List.getElem_toArray, List.getElem_cons_zero, List.getElem_cons_succ, decide_true, decide_false, cond_true, cond_false, Nat.reduceBEq, reduceCtorEq, Nat.reduceAdd, Nat.reduceMul, Nat.reduceSub, reduceIte, Int.reduceToNat, Int.reduceEq, Int.reduceLT, Int.reduceLE, Nat.reduceLeDiff, Nat.reduceEqDiff, eq_self, and_self, s139_1, Try.underlying50]
  suffices hc : ∀ d : Bool, d = decide (at_ < 0 ∨ k < 0 ∨ (size : Int) ≤ at_) → K [(0, ptrV s), (1, .int .i64 at_), (2, .int .i64 k), (6, .slice none 0 0), (27, .bool d)] w by
    refine grd_split (fun h1 => ?_) (fun h1 => ?_)
    · (try simp (config := { maxSteps := 4000000 }) only [go_sem, beq_self_eq_true, List.getElem_toArray, List.getElem_cons_zero, List.getElem_cons_succ, decide_true, decide_false, cond_true, cond_false, Nat.reduceBEq, reduceCtorEq, Nat.reduceAdd, Nat.reduceMul, Nat.reduceSub, reduceIte, Int.reduceToNat, Int.reduceEq, Int.reduceLT, Int.reduceLE, Nat.reduceLeDiff, Nat.reduceEqDiff, eq_self, and_self, h1])
      exact hc _ (by simp at h1; simp [h1])
    · (try simp (config := { maxSteps := 4000000 }) only [go_sem, beq_self_eq_true, List.getElem_toArray, List.getElem_cons_zero, List.getElem_cons_succ, decide_true, decide_false, cond_true, cond_false, Nat.reduceBEq, reduceCtorEq, Nat.reduceAdd, Nat.reduceMul, Nat.reduceSub, reduceIte, Int.reduceToNat, Int.reduceEq, Int.reduceLT, Int.reduceLE, Nat.reduceLeDiff, Nat.reduceEqDiff, eq_self, and_self, h1])
      refine grd_split (fun h2 => ?_) (fun h2 => ?_)
      · (try simp (config := { maxSteps := 4000000 }) only [go_sem, beq_self_eq_true, List.getElem_toArray, List.getElem_cons_zero, List.getElem_cons_succ, decide_true, decide_false, cond_true, cond_false, Nat.reduceBEq, reduceCtorEq, Nat.reduceAdd, Nat.reduceMul, Nat.reduceSub, reduceIte, Int.reduceToNat, Int.reduceEq, Int.reduceLT, Int.reduceLE, Nat.reduceLeDiff, Nat.reduceEqDiff, eq_self, and_self, h2])
        exact hc _ (by simp at h2; simp [h2])
      · (try simp (config := { maxSteps := 4000000 }) only [go_sem, beq_self_eq_true, List.getElem_toArray, List.getElem_cons_zero, List.getElem_cons_succ, decide_true, decide_false, cond_true, cond_false, Nat.reduceBEq, reduceCtorEq, Nat.reduceAdd, Nat.reduceMul, Nat.reduceSub, reduceIte, Int.reduceToNat, Int.reduceEq, Int.reduceLT, Int.reduceLE, Nat.reduceLeDiff, Nat.reduceEqDiff, eq_self, and_self, h2, hh.hs.cell])
        exact hc _ (by simp only [decide_eq_false_iff_not] at h1 h2; rw [Bool.eq_iff_iff, decide_eq_true_eq, decide_eq_true_eq]; omega)
  intro d hd
  refine hK _ _ ?_; clear hK K
  repeat' (first | refine H_seq ?_ | refine H_block ?_ | refine H_skip ?_ | refine H_nil ?_ | refine H_exit ?_ | refine H_ret ?_ | refine B_normal ?_ | refine B_same ?_ | refine B_other rfl ?_ | refine B_ret ?_ | refine L_exit ?_ | refine L_ret ?_)
  cases d with
  | true =>
    refine H_condT rfl rfl ?_
    repeat' (first | refine H_seq ?_ | refine H_block ?_ | refine H_skip ?_ | refine H_nil ?_ | refine H_exit ?_ | refine H_ret ?_ | refine B_normal ?_ | refine B_same ?_ | refine B_other rfl ?_ | refine B_ret ?_ | refine L_exit ?_ | refine L_ret ?_)
    refine H_region k139 s139_2 rfl fun K hK => ?_; simp (config := { maxSteps := 4000000 }) only [go_sem, beq_self_eq_true, List.getElem_toArray, List.getElem_cons_zero, List.getElem_cons_succ, decide_true, decide_false, cond_true, cond_false, Nat.reduceBEq, reduceCtorEq, Nat.reduceAdd, Nat.reduceMul, Nat.reduceSub, reduceIte, Int.reduceToNat, Int.reduceEq, Int.reduceLT, Int.reduceLE, Nat.reduceLeDiff, Nat.reduceEqDiff, eq_self, and_self, s139_2]
    refine hK _ _ ?_; clear hK K
    repeat' (first | refine H_seq ?_ | refine H_block ?_ | refine H_skip ?_ | refine H_nil ?_ | refine H_exit ?_ | refine H_ret ?_ | refine B_normal ?_ | refine B_same ?_ | refine B_other rfl ?_ | refine B_ret ?_ | refine L_exit ?_ | refine L_ret ?_)
    refine F_ret ?_
    (try simp (config := { maxSteps := 4000000 }) only [go_sem, beq_self_eq_true, List.getElem_toArray, List.getElem_cons_zero, List.getElem_cons_succ, decide_true, decide_false, cond_true, cond_false, Nat.reduceBEq, reduceCtorEq, Nat.reduceAdd, Nat.reduceMul, Nat.reduceSub, reduceIte, Int.reduceToNat, Int.reduceEq, Int.reduceLT, Int.reduceLE, Nat.reduceLeDiff, Nat.reduceEqDiff, eq_self, and_self])
    have hd : at_ < 0 ∨ k < 0 ∨ (size : Int) ≤ at_ := by simpa using hd.symm
    rw [getM, if_pos hd]
    exact ⟨Own.nil _ _, fun b hb => (by cases hb), Fr.refl _ _⟩
  | false =>
  have hd : ¬ (at_ < 0 ∨ k < 0 ∨ (size : Int) ≤ at_) := by simpa using hd.symm
  rw [getM, if_neg hd]
  obtain ⟨A, rfl⟩ : ∃ A : Nat, at_ = A := ⟨at_.toNat, by omega⟩
  obtain ⟨k', rfl⟩ : ∃ k' : Nat, k = k' := ⟨k.toNat, by omega⟩
  refine H_condF rfl rfl ?_
  repeat' (first | refine H_seq ?_ | refine H_block ?_ | refine H_skip ?_ | refine H_nil ?_ | refine H_exit ?_ | refine H_ret ?_ | refine B_normal ?_ | refine B_same ?_ | refine B_other rfl ?_ | refine B_ret ?_ | refine L_exit ?_ | refine L_ret ?_)
  refine H_region k139 s139_3 rfl fun K hK => ?_; simp (config := { maxSteps := 4000000 }) only [go_sem, beq_self_eq_true, List.getElem_toArray, List.getElem_cons_zero, List.getElem_cons_succ, decide_true, decide_false, cond_true, cond_false, Nat.reduceBEq, reduceCtorEq, Nat.reduceAdd, Nat.reduceMul, Nat.reduceSub, reduceIte, Int.reduceToNat, Int.reduceEq, Int.reduceLT, Int.reduceLE, Nat.reduceLeDiff, Nat.reduceEqDiff, eq_self, and_self, s139_3, hh.hs.cell]
  rw [wrapI (by omega)]
  obtain ⟨N, hN⟩ : ∃ N : Nat, min (min (k' : Int) 65536) ((size : Int) - A) = N := ⟨(min (min (k' : Int) 65536) ((size : Int) - A)).toNat, by omega⟩
  rw [hN]
  have hNs : A + N ≤ size ∧ N ≤ 65536 ∧ A < size := by omega
  refine hK _ _ ?_; clear hK K
  repeat' (first | refine H_seq ?_ | refine H_block ?_ | refine H_skip ?_ | refine H_nil ?_ | refine H_exit ?_ | refine H_ret ?_ | refine B_normal ?_ | refine B_same ?_ | refine B_other rfl ?_ | refine B_ret ?_ | refine L_exit ?_ | refine L_ret ?_)
  refine H_region k139 s139_4 rfl fun K hK => ?_; simp (config := { maxSteps := 4000000 }) only [go_sem, beq_self_eq_true, List.getElem_toArray, List.getElem_cons_zero, List.getElem_cons_succ, decide_true, decide_false, cond_true, cond_false, Nat.reduceBEq, reduceCtorEq, Nat.reduceAdd, Nat.reduceMul, Nat.reduceSub, reduceIte, Int.reduceToNat, Int.reduceEq, Int.reduceLT, Int.reduceLE, Nat.reduceLeDiff, Nat.reduceEqDiff, eq_self, and_self, s139_4]
  refine ⟨by omega, ?_⟩
  intro b w1 h1
  refine hK _ _ ?_; clear hK K
  repeat' (first | refine H_seq ?_ | refine H_block ?_ | refine H_skip ?_ | refine H_nil ?_ | refine H_exit ?_ | refine H_ret ?_ | refine B_normal ?_ | refine B_same ?_ | refine B_other rfl ?_ | refine B_ret ?_ | refine L_exit ?_ | refine L_ret ?_)
  have hh1 := hh.fr h1.fr
  refine H_drawn k139 s139_5 p139_5 (Nob) rfl mixed (by as_aux_lemma => kernel_rfl) fun K hK => ?_; simp (config := { maxSteps := 4000000 }) only [go_sem, beq_self_eq_true, List.getElem_toArray, List.getElem_cons_zero, List.getElem_cons_succ, decide_true, decide_false, cond_true, cond_false, Nat.reduceBEq, reduceCtorEq, Nat.reduceAdd, Nat.reduceMul, Nat.reduceSub, reduceIte, Int.reduceToNat, Int.reduceEq, Int.reduceLT, Int.reduceLE, Nat.reduceLeDiff, Nat.reduceEqDiff, eq_self, and_self, s139_5, p139_5, hh1.hs.cell]
  refine ⟨fun q => q, callC tcall_90 (behind_spec s a n c size ms _ _ hh1) ?_⟩
  rintro v w2 ⟨i, rfl, hi, f2⟩
  refine ⟨f2, ?_⟩
  have hin := hi.1
  have hnc : n ≤ c := by obtain ⟨_, _, _, hq, _, h, _⟩ := hh.row; cases hq; exact h
  simp (config := { maxSteps := 4000000 }) only [go_sem, beq_self_eq_true, List.getElem_toArray, List.getElem_cons_zero, List.getElem_cons_succ, decide_true, decide_false, cond_true, cond_false, Nat.reduceBEq, reduceCtorEq, Nat.reduceAdd, Nat.reduceMul, Nat.reduceSub, reduceIte, Int.reduceToNat, Int.reduceEq, Int.reduceLT, Int.reduceLE, Nat.reduceLeDiff, Nat.reduceEqDiff, eq_self, and_self, s139_5, p139_5_1]
  refine ⟨by omega, ?_⟩
  refine hK _ _ ?_; clear hK K
  repeat' (first | refine H_seq ?_ | refine H_block ?_ | refine H_skip ?_ | refine H_nil ?_ | refine H_exit ?_ | refine H_ret ?_ | refine B_normal ?_ | refine B_same ?_ | refine B_other rfl ?_ | refine B_ret ?_ | refine L_exit ?_ | refine L_ret ?_)
  have hrow := hh.row.sub i (by omega)
  rw [mcells_drop] at hrow
  have hb2 := h1.blk.fr f2 (fun q => q)
  rw [reps_zero] at hb2
  generalize hav : adv a c i 2 = a' at *
  have hbn := h1.num
  have hw1 := h1.fr.trans f2
  have hlen : (ms.drop i).length = n - i := by rw [List.length_drop]; omega
  refine H_loop (fun k : Nat => [(0, ptrV s), (1, .int .i64 A), (2, .int .i64 N), (7, .slice (some ⟨b, 0, none⟩) N N), (46, .slice a' (n - i) (c - i)), (47, .int .i64 (n - i : Nat)), (48, .int .i64 k)])
    (fun k u => k ≤ n - i ∧ Fr Nob w u ∧ W u b (bvs (getP ((ms.take (i + k)).map MP.pc) A N))) (fun k => n - i - k) 0
    ⟨rfl, rfl, rfl, rfl, rfl, by simp [eget], rfl, trivial⟩ ⟨Nat.zero_le _, hw1, ?_⟩ ?_
  · rw [getP_nought]
    · exact hb2
    · intro p hq
      rw [List.map_take, Nat.add_zero] at hq
      obtain ⟨j, hj⟩ := List.getElem?_of_mem hq
      rw [List.getElem?_take] at hj
      split at hj
      · rename_i hji
        rw [List.getElem?_map] at hj
        obtain ⟨x, hx, rfl⟩ := Option.map_eq_some_iff.1 hj
        have := hi.2.1 j x hji hx
        simp only [MP.end_] at this
        simp only [MP.pc]
        omega
      · cases hj
  rintro k u ⟨hk, hf, hb⟩
  repeat' (first | refine H_seq ?_ | refine H_block ?_ | refine H_skip ?_ | refine H_nil ?_ | refine H_exit ?_ | refine H_ret ?_ | refine B_normal ?_ | refine B_same ?_ | refine B_other rfl ?_ | refine B_ret ?_ | refine L_exit ?_ | refine L_ret ?_)
  refine H_region k139 s139_6 rfl fun K hK => ?_; simp (config := { maxSteps := 4000000 }) only [go_sem, beq_self_eq_true, List.getElem_toArray, List.getElem_cons_zero, List.getElem_cons_succ, decide_true, decide_false, cond_true, cond_false, Nat.reduceBEq, reduceCtorEq, Nat.reduceAdd, Nat.reduceMul, Nat.reduceSub, reduceIte, Int.reduceToNat, Int.reduceEq, Int.reduceLT, Int.reduceLE, Nat.reduceLeDiff, Nat.reduceEqDiff, eq_self, and_self, s139_6]
  refine hK _ _ ?_; clear hK K
  repeat' (first | refine H_seq ?_ | refine H_block ?_ | refine H_skip ?_ | refine H_nil ?_ | refine H_exit ?_ | refine H_ret ?_ | refine B_normal ?_ | refine B_same ?_ | refine B_other rfl ?_ | refine B_ret ?_ | refine L_exit ?_ | refine L_ret ?_)
  by_cases hkn : k < n - i
  · refine H_condT rfl (by simpa using hkn) ?_
    repeat' (first | refine H_seq ?_ | refine H_block ?_ | refine H_skip ?_ | refine H_nil ?_ | refine H_exit ?_ | refine H_ret ?_ | refine B_normal ?_ | refine B_same ?_ | refine B_other rfl ?_ | refine B_ret ?_ | refine L_exit ?_ | refine L_ret ?_)
    have hr := hrow.fr hf (fun _ _ q => q)
    obtain ⟨b8, o8, rfl, _, hc⟩ := rowM_cells hr (by omega)
    obtain ⟨m, hm⟩ : ∃ m, ms[i + k]? = some m := ⟨ms[i + k]'(by omega), List.getElem?_eq_getElem _⟩
    obtain ⟨c0, c1⟩ := hc k m (by rw [List.getElem?_drop]; exact hm)
    have hmm := List.mem_of_getElem? hm
    have he := canon_end hh.canon hmm
    have hae := hi.2.2 (i + k) m (by omega) hm
    simp only [MP.end_] at hae
    refine H_region k139 s139_7 rfl fun K hK => ?_; simp (config := { maxSteps := 4000000 }) only [go_sem, beq_self_eq_true, List.getElem_toArray, List.getElem_cons_zero, List.getElem_cons_succ, decide_true, decide_false, cond_true, cond_false, Nat.reduceBEq, reduceCtorEq, Nat.reduceAdd, Nat.reduceMul, Nat.reduceSub, reduceIte, Int.reduceToNat, Int.reduceEq, Int.reduceLT, Int.reduceLE, Nat.reduceLeDiff, Nat.reduceEqDiff, eq_self, and_self, s139_7, c0, c1]
    refine ⟨⟨by omega, by omega⟩, ?_⟩
    intro b9 u1 h9
    refine ⟨_, h9.blk, by simp, ?_⟩
    (try simp (config := { maxSteps := 4000000 }) only [go_sem, beq_self_eq_true, List.getElem_toArray, List.getElem_cons_zero, List.getElem_cons_succ, decide_true, decide_false, cond_true, cond_false, Nat.reduceBEq, reduceCtorEq, Nat.reduceAdd, Nat.reduceMul, Nat.reduceSub, reduceIte, Int.reduceToNat, Int.reduceEq, Int.reduceLT, Int.reduceLE, Nat.reduceLeDiff, Nat.reduceEqDiff, eq_self, and_self])
    intro u2 h2
    have h9n := h9.num
    have hsz := hf.size
    have hbl := hb.lt
    have hf2 : Fr Nob u u2 := h9.fr.put h2 (.inl (by omega))
    replace hb := hb.fr hf2 (fun q => q)
    replace hf := hf.trans hf2
    have hpu : ∀ m ∈ ms, m.ok u2 := fun m hm => (hp m hm).fr hf (fun q => q)
    refine hK _ _ ?_; clear hK K
    repeat' (first | refine H_seq ?_ | refine H_block ?_ | refine H_skip ?_ | refine H_nil ?_ | refine H_exit ?_ | refine H_ret ?_ | refine B_normal ?_ | refine B_same ?_ | refine B_other rfl ?_ | refine B_ret ?_ | refine L_exit ?_ | refine L_ret ?_)
    refine H_region k139 s139_9 rfl fun K hK => ?_; simp (config := { maxSteps := 4000000 }) only [go_sem, beq_self_eq_true, List.getElem_toArray, List.getElem_cons_zero, List.getElem_cons_succ, decide_true, decide_false, cond_true, cond_false, Nat.reduceBEq, reduceCtorEq, Nat.reduceAdd, Nat.reduceMul, Nat.reduceSub, reduceIte, Int.reduceToNat, Int.reduceEq, Int.reduceLT, Int.reduceLE, Nat.reduceLeDiff, Nat.reduceEqDiff, eq_self, and_self, s139_9, h2.blk.cell]
    rw [wrapI (by omega)]
    refine hK _ _ ?_; clear hK K
    repeat' (first | refine H_seq ?_ | refine H_block ?_ | refine H_skip ?_ | refine H_nil ?_ | refine H_exit ?_ | refine H_ret ?_ | refine B_normal ?_ | refine B_same ?_ | refine B_other rfl ?_ | refine B_ret ?_ | refine L_exit ?_ | refine L_ret ?_)
    have hsplit : ms.map MP.pc = (ms.take (i + k)).map MP.pc ++ (ms.drop (i + k)).map MP.pc := by rw [← List.map_append, List.take_append_drop]
    have htake : (ms.take (i + (k + 1))).map MP.pc = (ms.take (i + k)).map MP.pc ++ [m.pc] := by
      rw [show i + (k + 1) = i + k + 1 by omega, List.take_add_one, hm, Option.toList_some, List.map_append]; rfl
    by_cases hend : A + N ≤ m.at_
    · refine H_condT rfl (by simp; omega) ?_
      repeat' (first | refine H_seq ?_ | refine H_block ?_ | refine H_skip ?_ | refine H_nil ?_ | refine H_exit ?_ | refine H_ret ?_ | refine B_normal ?_ | refine B_same ?_ | refine B_other rfl ?_ | refine B_ret ?_ | refine L_exit ?_ | refine L_ret ?_)
      refine H_region k139 s139_10 rfl fun K hK => ?_; simp (config := { maxSteps := 4000000 }) only [go_sem, beq_self_eq_true, List.getElem_toArray, List.getElem_cons_zero, List.getElem_cons_succ, decide_true, decide_false, cond_true, cond_false, Nat.reduceBEq, reduceCtorEq, Nat.reduceAdd, Nat.reduceMul, Nat.reduceSub, reduceIte, Int.reduceToNat, Int.reduceEq, Int.reduceLT, Int.reduceLE, Nat.reduceLeDiff, Nat.reduceEqDiff, eq_self, and_self, s139_10]
      refine hK _ _ ?_; clear hK K
      repeat' (first | refine H_seq ?_ | refine H_block ?_ | refine H_skip ?_ | refine H_nil ?_ | refine H_exit ?_ | refine H_ret ?_ | refine B_normal ?_ | refine B_same ?_ | refine B_other rfl ?_ | refine B_ret ?_ | refine L_exit ?_ | refine L_ret ?_)
      refine F_ret ?_
      (try simp (config := { maxSteps := 4000000 }) only [go_sem, beq_self_eq_true, List.getElem_toArray, List.getElem_cons_zero, List.getElem_cons_succ, decide_true, decide_false, cond_true, cond_false, Nat.reduceBEq, reduceCtorEq, Nat.reduceAdd, Nat.reduceMul, Nat.reduceSub, reduceIte, Int.reduceToNat, Int.reduceEq, Int.reduceLT, Int.reduceLE, Nat.reduceLeDiff, Nat.reduceEqDiff, eq_self, and_self])
      rw [hN, Int.toNat_natCast]
      have hfull : getP (ms.map MP.pc) A N = getP ((ms.take (i + k)).map MP.pc) A N := by
        refine getP_congr fun j hj => ?_
        rw [hsplit, abs_append, abs_none (ps := (ms.drop (i + k)).map MP.pc)]
        · cases absL ((ms.take (i + k)).map MP.pc) (A + j) <;> rfl
        · intro p hq
          obtain ⟨j', hj'⟩ := List.getElem?_of_mem hq
          rw [List.getElem?_map, List.getElem?_drop] at hj'
          obtain ⟨x, hx, rfl⟩ := Option.map_eq_some_iff.1 hj'
          simp only [MP.pc]
          rcases Nat.eq_zero_or_pos j' with rfl | hpos
          · rw [Nat.add_zero, hm] at hx; cases hx; omega
          · have := ord_get hh.canon.ord (i + k) (i + k + j') m.pc x.pc (by omega) (by rw [List.getElem?_map, hm]; rfl) (by rw [List.getElem?_map, hx]; rfl)
            simp only [MP.pc] at this
            omega
      rw [hfull]
      exact ⟨⟨_, _, _, rfl, by simp [bvs_len, getP_len], Nat.le_refl _, Nat.le_trans hNs.2.1 (by decide), .inr ⟨b, 0, _, rfl, hb, by simp [bvs_len, getP_len], by simp [List.take_of_length_le, bvs_len, getP_len]⟩⟩, fun b' hb' => by simp only [blk, Option.some.injEq] at hb'; omega, hf⟩
    refine H_condF rfl (by simp; omega) ?_
    repeat' (first | refine H_seq ?_ | refine H_block ?_ | refine H_skip ?_ | refine H_nil ?_ | refine H_exit ?_ | refine H_ret ?_ | refine B_normal ?_ | refine B_same ?_ | refine B_other rfl ?_ | refine B_ret ?_ | refine L_exit ?_ | refine L_ret ?_)
    refine H_region k139 s139_11 rfl fun K hK => ?_; simp (config := { maxSteps := 4000000 }) only [go_sem, beq_self_eq_true, List.getElem_toArray, List.getElem_cons_zero, List.getElem_cons_succ, decide_true, decide_false, cond_true, cond_false, Nat.reduceBEq, reduceCtorEq, Nat.reduceAdd, Nat.reduceMul, Nat.reduceSub, reduceIte, Int.reduceToNat, Int.reduceEq, Int.reduceLT, Int.reduceLE, Nat.reduceLeDiff, Nat.reduceEqDiff, eq_self, and_self, s139_11, h2.blk.cell]
    refine hK _ _ ?_; clear hK K
    repeat' (first | refine H_seq ?_ | refine H_block ?_ | refine H_skip ?_ | refine H_nil ?_ | refine H_exit ?_ | refine H_ret ?_ | refine B_normal ?_ | refine B_same ?_ | refine B_other rfl ?_ | refine B_ret ?_ | refine L_exit ?_ | refine L_ret ?_)
    have hord : Ord 0 ((ms.take (i + k)).map MP.pc ++ [m.pc]) size := by
      rw [← htake]
      have := hh.canon.ord
      rw [← List.take_append_drop (i + (k + 1)) ms, List.map_append] at this
      exact ord_left this
    have hstep := get_step (a := A) (n := N) hord (by simp only [MP.pc]; omega) (by simp only [MP.pc]; omega)
    simp only [MP.pc] at hstep
    have hmr := MP.row (hpu m hmm)
    by_cases hat : A ≤ m.at_
    · refine H_condT rfl (by simpa using hat) ?_
      repeat' (first | refine H_seq ?_ | refine H_block ?_ | refine H_skip ?_ | refine H_nil ?_ | refine H_exit ?_ | refine H_ret ?_ | refine B_normal ?_ | refine B_same ?_ | refine B_other rfl ?_ | refine B_ret ?_ | refine L_exit ?_ | refine L_ret ?_)
      refine H_drawn k139 s139_12 p139_12 (Nob) rfl mixed (by as_aux_lemma => kernel_rfl) fun K hK => ?_; simp (config := { maxSteps := 4000000 }) only [go_sem, beq_self_eq_true, List.getElem_toArray, List.getElem_cons_zero, List.getElem_cons_succ, decide_true, decide_false, cond_true, cond_false, Nat.reduceBEq, reduceCtorEq, Nat.reduceAdd, Nat.reduceMul, Nat.reduceSub, reduceIte, Int.reduceToNat, Int.reduceEq, Int.reduceLT, Int.reduceLE, Nat.reduceLeDiff, Nat.reduceEqDiff, eq_self, and_self, s139_12, p139_12, h2.blk.cell]
      rw [wrapI (by omega), show ((m.at_ : Int) - A).toNat = m.at_ - A by omega, adv_some b 0 1 (show m.at_ - A < N by omega)]
      refine ⟨fun q => q, ⟨by omega, by omega⟩, fun q => q, copyB rfl tsl_22 hb (by rw [getP_len]; omega) hmr ?_⟩
      intro u3 h3
      refine hK _ _ ?_; clear hK K
      repeat' (first | refine H_seq ?_ | refine H_block ?_ | refine H_skip ?_ | refine H_nil ?_ | refine H_exit ?_ | refine H_ret ?_ | refine B_normal ?_ | refine B_same ?_ | refine B_other rfl ?_ | refine B_ret ?_ | refine L_exit ?_ | refine L_ret ?_)
      refine H_region k139 s139_13 rfl fun K hK => ?_; simp (config := { maxSteps := 4000000 }) only [go_sem, beq_self_eq_true, List.getElem_toArray, List.getElem_cons_zero, List.getElem_cons_succ, decide_true, decide_false, cond_true, cond_false, Nat.reduceBEq, reduceCtorEq, Nat.reduceAdd, Nat.reduceMul, Nat.reduceSub, reduceIte, Int.reduceToNat, Int.reduceEq, Int.reduceLT, Int.reduceLE, Nat.reduceLeDiff, Nat.reduceEqDiff, eq_self, and_self, s139_13]
      refine hK _ _ ?_; clear hK K
      repeat' (first | refine H_seq ?_ | refine H_block ?_ | refine H_skip ?_ | refine H_nil ?_ | refine H_exit ?_ | refine H_ret ?_ | refine B_normal ?_ | refine B_same ?_ | refine B_other rfl ?_ | refine B_ret ?_ | refine L_exit ?_ | refine L_ret ?_)
      rw [wrapI (n := (k : Int) + 1) (by omega), show ((k : Int) + 1) = ((k + 1 : Nat) : Int) by omega]
      refine L_normal ⟨k + 1, ⟨rfl, rfl, rfl, rfl, rfl, rfl, rfl, trivial⟩, ⟨hkn, hf.put h3 (.inl (by omega)), ?_⟩, by omega⟩
      have := h3.blk
      rw [htake]
      show W u3 b (bvs (getP (_ ++ [(m.at_, m.bs)]) A N))
      rw [← hstep]
      rw [Nat.zero_add, Nat.mul_one] at this
      rwa [show A - m.at_ = 0 by omega, List.drop_zero]
    · refine H_condF rfl (by simpa using hat) ?_
      repeat' (first | refine H_seq ?_ | refine H_block ?_ | refine H_skip ?_ | refine H_nil ?_ | refine H_exit ?_ | refine H_ret ?_ | refine B_normal ?_ | refine B_same ?_ | refine B_other rfl ?_ | refine B_ret ?_ | refine L_exit ?_ | refine L_ret ?_)
      refine H_region k139 s139_8 rfl fun K hK => ?_; simp (config := { maxSteps := 4000000 }) only [go_sem, beq_self_eq_true, List.getElem_toArray, List.getElem_cons_zero, List.getElem_cons_succ, decide_true, decide_false, cond_true, cond_false, Nat.reduceBEq, reduceCtorEq, Nat.reduceAdd, Nat.reduceMul, Nat.reduceSub, reduceIte, Int.reduceToNat, Int.reduceEq, Int.reduceLT, Int.reduceLE, Nat.reduceLeDiff, Nat.reduceEqDiff, eq_self, and_self, s139_8, h2.blk.cell]
      rw [wrapI (by omega), show ((A : Int) - m.at_).toNat = A - m.at_ by omega]
      refine ⟨⟨by omega, by omega, by have := (hpu m hmm).1; omega⟩, copyB rfl tsl_22 hb (by rw [getP_len]; omega) (by have := hmr.sub (A - m.at_) (by omega); rw [Nat.mul_one, bvs_drop] at this; exact this) ?_⟩
      intro u3 h3
      refine hK _ _ ?_; clear hK K
      repeat' (first | refine H_seq ?_ | refine H_block ?_ | refine H_skip ?_ | refine H_nil ?_ | refine H_exit ?_ | refine H_ret ?_ | refine B_normal ?_ | refine B_same ?_ | refine B_other rfl ?_ | refine B_ret ?_ | refine L_exit ?_ | refine L_ret ?_)
      refine H_region k139 s139_13 rfl fun K hK => ?_; simp (config := { maxSteps := 4000000 }) only [go_sem, beq_self_eq_true, List.getElem_toArray, List.getElem_cons_zero, List.getElem_cons_succ, decide_true, decide_false, cond_true, cond_false, Nat.reduceBEq, reduceCtorEq, Nat.reduceAdd, Nat.reduceMul, Nat.reduceSub, reduceIte, Int.reduceToNat, Int.reduceEq, Int.reduceLT, Int.reduceLE, Nat.reduceLeDiff, Nat.reduceEqDiff, eq_self, and_self, s139_13]
      refine hK _ _ ?_; clear hK K
      repeat' (first | refine H_seq ?_ | refine H_block ?_ | refine H_skip ?_ | refine H_nil ?_ | refine H_exit ?_ | refine H_ret ?_ | refine B_normal ?_ | refine B_same ?_ | refine B_other rfl ?_ | refine B_ret ?_ | refine L_exit ?_ | refine L_ret ?_)
      rw [wrapI (n := (k : Int) + 1) (by omega), show ((k : Int) + 1) = ((k + 1 : Nat) : Int) by omega]
      refine L_normal ⟨k + 1, ⟨rfl, rfl, rfl, rfl, rfl, rfl, rfl, trivial⟩, ⟨hkn, hf.put h3 (.inl (by omega)), ?_⟩, by omega⟩
      have := h3.blk
      rw [htake]
      show W u3 b (bvs (getP (_ ++ [(m.at_, m.bs)]) A N))
      rw [← hstep]
      rwa [show m.at_ - A = 0 by omega, Nat.sub_zero]
  · refine H_condF rfl (by simpa using hkn) ?_
    repeat' (first | refine H_seq ?_ | refine H_block ?_ | refine H_skip ?_ | refine H_nil ?_ | refine H_exit ?_ | refine H_ret ?_ | refine B_normal ?_ | refine B_same ?_ | refine B_other rfl ?_ | refine B_ret ?_ | refine L_exit ?_ | refine L_ret ?_)
    refine H_region k139 s139_14 rfl fun K hK => ?_; simp (config := { maxSteps := 4000000 }) only [go_sem, beq_self_eq_true, List.getElem_toArray, List.getElem_cons_zero, List.getElem_cons_succ, decide_true, decide_false, cond_true, cond_false, Nat.reduceBEq, reduceCtorEq, Nat.reduceAdd, Nat.reduceMul, Nat.reduceSub, reduceIte, Int.reduceToNat, Int.reduceEq, Int.reduceLT, Int.reduceLE, Nat.reduceLeDiff, Nat.reduceEqDiff, eq_self, and_self, s139_14]
    refine hK _ _ ?_; clear hK K
    repeat' (first | refine H_seq ?_ | refine H_block ?_ | refine H_skip ?_ | refine H_nil ?_ | refine H_exit ?_ | refine H_ret ?_ | refine B_normal ?_ | refine B_same ?_ | refine B_other rfl ?_ | refine B_ret ?_ | refine L_exit ?_ | refine L_ret ?_)
    refine F_ret ?_
    (try simp (config := { maxSteps := 4000000 }) only [go_sem, beq_self_eq_true, List.getElem_toArray, List.getElem_cons_zero, List.getElem_cons_succ, decide_true, decide_false, cond_true, cond_false, Nat.reduceBEq, reduceCtorEq, Nat.reduceAdd, Nat.reduceMul, Nat.reduceSub, reduceIte, Int.reduceToNat, Int.reduceEq, Int.reduceLT, Int.reduceLE, Nat.reduceLeDiff, Nat.reduceEqDiff, eq_self, and_self])
    rw [hN, Int.toNat_natCast]
    rw [List.take_of_length_le (by omega)] at hb
    exact ⟨⟨_, _, _, rfl, by simp [bvs_len, getP_len], Nat.le_refl _, Nat.le_trans hNs.2.1 (by decide), .inr ⟨b, 0, _, rfl, hb, by simp [bvs_len, getP_len], by simp [List.take_of_length_le, bvs_len, getP_len]⟩⟩, fun b' hb' => by simp only [blk, Option.some.injEq] at hb'; omega, hf⟩
end Go.Proofs.Ytlffbjchcknmfaa

/- mantleref01: taken. -/
import Derived.Test.YtpdklpeojjkkaaaRefa
import Derived.Test.YtpdklpeojjkkaaaSpan8
namespace Go.Proofs.Ytpdklpeojjkkaaa
open Go
set_option linter.unusedVariables false
set_option linter.unusedSimpArgs false
set_option maxRecDepth 100000
set_option maxHeartbeats 2000000
theorem clearMP_out {f t : Nat} {m : MP} (hft : f < t) (h0 : 0 < m.bs.length) (h : m.at_ + m.bs.length ≤ f ∨ t ≤ m.at_) : clearMP f t m = [m] := by
  unfold clearMP
  rcases h with h | h
  · rw [if_pos (by omega), if_neg (by omega), List.take_of_length_le (by omega)]; rfl
  · rw [if_neg (by omega), if_pos (by omega), show t - m.at_ = 0 by omega, show max m.at_ t = m.at_ by omega]; simp
/-- 'append' of one piece to a list of this function's own. -/
theorem appendP {P : Program} {w u u4 : World} {K : Value → World → Prop} {t : TypeId} {by_ b4 : Nat} {z : List Value} {v : Value} {L : List MP} (x : MP) {cs : List Value} (ht : tsl P t = some (2, z, by_)) (hby : Nat.ble 1 by_ = true) (hb64 : by_ ≤ 64)
    (hs : Own u v 2 (mcells L)) (hN : New u b4 cs u4) (hx : cs = x.cells) (hlen : L.length ≤ 1073741824) (hf : Fr Nob w u) (hbk : ∀ b, blk v = some b → w.heap.size ≤ b)
    (hk : ∀ v' u', Own u' v' 2 (mcells (L ++ [x])) → (∀ b, blk v' = some b → w.heap.size ≤ b) → Fr Nob w u' → (∀ b cs, W u b cs → blk v ≠ some b → W u' b cs) → (∀ b, blk v' = some b → blk v = some b ∨ u.heap.size ≤ b) → K v' u') :
    appendVC P u4 K t t v (.slice (some ⟨b4, 0, none⟩) 1 1) := by
  subst hx
  have hn := hN.num
  refine appendC ht rfl hby (hs.fr hN.fr (fun _ _ q => q)) (Own.of_new (n := 1) (sz := 2) hN rfl (by decide)).row (by simp [MP.cells, Value.oneCell']) (by
    rw [mcells_len]; simp only [MP.cells, List.length_cons, List.length_nil]
    have : (L.length * 2 + (0 + 1 + 1)) * by_ ≤ (L.length * 2 + (0 + 1 + 1)) * 64 := Nat.mul_le_mul_left _ hb64
    omega) ?_
  intro v' u' ho f hb
  refine hk v' u' (by rw [mcells_append]; simpa [mcells] using ho) (fun b hb' => ?_) ?_ (fun b cs hW hne => ?_) (fun b hb' => ?_)
  · rcases hb with e | ⟨b', e, hb2⟩
    · exact hbk b (by rw [← e]; exact hb')
    · rw [hb'] at e; cases e; have := hN.fr.size; have := hf.size; omega
  · exact (hf.trans hN.fr).trans2 f (fun _ _ q => q) (fun b hb' q => by have := hbk b q; omega)
  · exact (hW.fr hN.fr (fun q => q)).fr f (fun q => hne q)
  · rcases hb with e | ⟨b', e, hb2⟩
    · exact .inl (by rw [← e]; exact hb')
    · rw [hb'] at e; cases e; have := hN.fr.size; exact .inr (by omega)
theorem rtaken_spec (s : Nat) (a : Option Addr) (n c size : Nat) (ms : List MP) (f t : Nat) (w : World) (hh : Hd w s a n c size ms) (hp : ∀ m ∈ ms, m.ok w) (hft : f < t) (ht : t ≤ 2147483648) :
    CallsE Try.prog 65 [ptrV s, .int .i64 f, .int .i64 t] w fun r u => Own u r 2 (mcells (ms.flatMap (clearMP f t))) ∧ (∀ b, blk r = some b → w.heap.size ≤ b) ∧ Fr Nob w u := by
  have hz := hh.canon.size
  have hle := hh.heldLe
  have hn := hh.len
  refine enter Try.func65 rfl Try.results65 Try.ntmps65 rfl ?_
  repeat' (first | refine H_seq ?_ | refine H_block ?_ | refine H_skip ?_ | refine H_nil ?_ | refine H_exit ?_ | refine H_ret ?_ | refine B_normal ?_ | refine B_same ?_ | refine B_other rfl ?_ | refine B_ret ?_ | refine L_exit ?_ | refine L_ret ?_)
  refine H_region k65 s65_0 rfl fun K hK => ?_; simp (config := { maxSteps := 4000000 }) only [go_sem, beq_self_eq_true, List.getElem_toArray, List.getElem_cons_zero, List.getElem_cons_succ, decide_true, decide_false, cond_true, cond_false, Nat.reduceBEq, reduceCtorEq, Nat.reduceAdd, Nat.reduceMul, Nat.reduceSub, reduceIte, Int.reduceToNat, Int.reduceEq, Int.reduceLT, Int.reduceLE, Nat.reduceLeDiff, Nat.reduceEqDiff, eq_self, and_self, s65_0]
  refine hK _ _ ?_; clear hK K
  repeat' (first | refine H_seq ?_ | refine H_block ?_ | refine H_skip ?_ | refine H_nil ?_ | refine H_exit ?_ | refine H_ret ?_ | refine B_normal ?_ | refine B_same ?_ | refine B_other rfl ?_ | refine B_ret ?_ | refine L_exit ?_ | refine L_ret ?_)
  refine H_region k65 s65_1 rfl fun K hK => ?_; simp (config := { maxSteps := 4000000 }) only [go_sem, beq_self_eq_true, List.getElem_toArray, List.getElem_cons_zero, List.getElem_cons_succ, decide_true, decide_false, cond_true, cond_false, Nat.reduceBEq, reduceCtorEq, Nat.reduceAdd, Nat.reduceMul, Nat.reduceSub, reduceIte, Int.reduceToNat, Int.reduceEq, Int.reduceLT, Int.reduceLE, Nat.reduceLeDiff, Nat.reduceEqDiff, eq_self, and_self, s65_1]
  refine hK _ _ ?_; clear hK K
  repeat' (first | refine H_seq ?_ | refine H_block ?_ | refine H_skip ?_ | refine H_nil ?_ | refine H_exit ?_ | refine H_ret ?_ | refine B_normal ?_ | refine B_same ?_ | refine B_other rfl ?_ | refine B_ret ?_ | refine L_exit ?_ | refine L_ret ?_)
  refine H_region k65 s65_2 rfl fun K hK => ?_; simp (config := { maxSteps := 4000000 }) only [go_sem, beq_self_eq_true, List.getElem_toArray, List.getElem_cons_zero, List.getElem_cons_succ, decide_true, decide_false, cond_true, cond_false, Nat.reduceBEq, reduceCtorEq, Nat.reduceAdd, Nat.reduceMul, Nat.reduceSub, reduceIte, Int.reduceToNat, Int.reduceEq, Int.reduceLT, Int.reduceLE, Nat.reduceLeDiff, Nat.reduceEqDiff, eq_self, and_self, s65_2]
  refine hK _ _ ?_; clear hK K
  repeat' (first | refine H_seq ?_ | refine H_block ?_ | refine H_skip ?_ | refine H_nil ?_ | refine H_exit ?_ | refine H_ret ?_ | refine B_normal ?_ | refine B_same ?_ | refine B_other rfl ?_ | refine B_ret ?_ | refine L_exit ?_ | refine L_ret ?_)
  refine H_loop (fun x : Nat × Value => [(0, ptrV s), (1, .int .i64 f), (2, .int .i64 t), (7, x.2), (8, .int .i64 x.1)])
    (fun x u => x.1 ≤ n ∧ Fr Nob w u ∧ Own u x.2 2 (mcells ((ms.take x.1).flatMap (clearMP f t))) ∧ ∀ b, blk x.2 = some b → w.heap.size ≤ b) (fun x => n - x.1) (0, .slice none 0 0)
    ⟨rfl, rfl, rfl, rfl, rfl, trivial⟩ ⟨Nat.zero_le _, Fr.refl _ _, Own.nil _ _, fun b hb => (by cases hb)⟩ ?_
  rintro ⟨i, v⟩ u ⟨hi, hf, ho, hbk⟩
  simp only at hi hf ho hbk
  have hu := hh.fr hf
  repeat' (first | refine H_seq ?_ | refine H_block ?_ | refine H_skip ?_ | refine H_nil ?_ | refine H_exit ?_ | refine H_ret ?_ | refine B_normal ?_ | refine B_same ?_ | refine B_other rfl ?_ | refine B_ret ?_ | refine L_exit ?_ | refine L_ret ?_)
  refine H_region k65 s65_3 rfl fun K hK => ?_; simp (config := { maxSteps := 4000000 }) only [go_sem, beq_self_eq_true, List.getElem_toArray, List.getElem_cons_zero, List.getElem_cons_succ, decide_true, decide_false, cond_true, cond_false, Nat.reduceBEq, reduceCtorEq, Nat.reduceAdd, Nat.reduceMul, Nat.reduceSub, reduceIte, Int.reduceToNat, Int.reduceEq, Int.reduceLT, Int.reduceLE, Nat.reduceLeDiff, Nat.reduceEqDiff, eq_self, and_self, s65_3, hu.hs.cell]
  refine hK _ _ ?_; clear hK K
  repeat' (first | refine H_seq ?_ | refine H_block ?_ | refine H_skip ?_ | refine H_nil ?_ | refine H_exit ?_ | refine H_ret ?_ | refine B_normal ?_ | refine B_same ?_ | refine B_other rfl ?_ | refine B_ret ?_ | refine L_exit ?_ | refine L_ret ?_)
  by_cases hin : i < n
  · refine H_condT rfl (by simpa using hin) ?_
    repeat' (first | refine H_seq ?_ | refine H_block ?_ | refine H_skip ?_ | refine H_nil ?_ | refine H_exit ?_ | refine H_ret ?_ | refine B_normal ?_ | refine B_same ?_ | refine B_other rfl ?_ | refine B_ret ?_ | refine L_exit ?_ | refine L_ret ?_)
    obtain ⟨b, o, rfl, hc⟩ := hu.cells (by omega)
    obtain ⟨m, hm⟩ : ∃ m, ms[i]? = some m := ⟨ms[i]'(by omega), List.getElem?_eq_getElem _⟩
    obtain ⟨c0, c1⟩ := hc i m hm
    have hmem := List.mem_of_getElem? hm
    have he := canon_end hh.canon hmem
    have hcap : m.bs.length ≤ m.c := (hp m hmem).1
    have hcl : (ms.take (i + 1)).flatMap (clearMP f t) = (ms.take i).flatMap (clearMP f t) ++ clearMP f t m := by
      rw [take_snoc hm, List.flatMap_append]; simp
    have hlen := clearML_len f t (ms.take i)
    rw [List.length_take] at hlen
    refine H_region k65 s65_5 rfl fun K hK => ?_; simp (config := { maxSteps := 4000000 }) only [go_sem, beq_self_eq_true, List.getElem_toArray, List.getElem_cons_zero, List.getElem_cons_succ, decide_true, decide_false, cond_true, cond_false, Nat.reduceBEq, reduceCtorEq, Nat.reduceAdd, Nat.reduceMul, Nat.reduceSub, reduceIte, Int.reduceToNat, Int.reduceEq, Int.reduceLT, Int.reduceLE, Nat.reduceLeDiff, Nat.reduceEqDiff, eq_self, and_self, s65_5, hu.hs.cell, c0, c1]
    refine ⟨⟨by omega, by omega⟩, ?_⟩
    intro b1 u1 hN
    refine ⟨_, hN.blk, by simp, ?_⟩
    (try simp (config := { maxSteps := 4000000 }) only [go_sem, beq_self_eq_true, List.getElem_toArray, List.getElem_cons_zero, List.getElem_cons_succ, decide_true, decide_false, cond_true, cond_false, Nat.reduceBEq, reduceCtorEq, Nat.reduceAdd, Nat.reduceMul, Nat.reduceSub, reduceIte, Int.reduceToNat, Int.reduceEq, Int.reduceLT, Int.reduceLE, Nat.reduceLeDiff, Nat.reduceEqDiff, eq_self, and_self])
    intro u2 hP
    have f2 : Fr Nob w u2 := (hf.new hN).put hP (.inl (by have := hN.num; have := hf.size; omega))
    have f2u : Fr Nob u u2 := (Fr.new (Fr.refl Nob u) hN).put hP (.inl (by have := hN.num; omega))
    refine hK _ _ ?_; clear hK K
    repeat' (first | refine H_seq ?_ | refine H_block ?_ | refine H_skip ?_ | refine H_nil ?_ | refine H_exit ?_ | refine H_ret ?_ | refine B_normal ?_ | refine B_same ?_ | refine B_other rfl ?_ | refine B_ret ?_ | refine L_exit ?_ | refine L_ret ?_)
    refine H_region k65 s65_6 rfl fun K hK => ?_; simp (config := { maxSteps := 4000000 }) only [go_sem, beq_self_eq_true, List.getElem_toArray, List.getElem_cons_zero, List.getElem_cons_succ, decide_true, decide_false, cond_true, cond_false, Nat.reduceBEq, reduceCtorEq, Nat.reduceAdd, Nat.reduceMul, Nat.reduceSub, reduceIte, Int.reduceToNat, Int.reduceEq, Int.reduceLT, Int.reduceLE, Nat.reduceLeDiff, Nat.reduceEqDiff, eq_self, and_self, s65_6, hP.blk.cell]
    refine callC tcall_66 (rend_spec _ _ _ _ _ (by omega) (by omega)) ?_
    rintro v3 u3 ⟨rfl, f3⟩
    have hW3 := hP.blk.fr f3 (fun q => q)
    have F3 := f2.trans f3
    have hb1 : ∀ b, blk v = some b → b ≠ b1 := fun b hb => by have := ho.blk_lt hb; have := hN.num; omega
    have ho3 := ho.fr (f2u.trans f3) (fun _ _ q => q)
    have hbv : blk v ≠ some b1 := fun e => hb1 b1 e rfl
    have hnext : IntKind.i64.wrap ((i : Int) + 1) = ((i + 1 : Nat) : Int) := by rw [wrapI (by omega)]; omega
    have hdec : n - (i + 1) < n - i := by omega
    simp (config := { maxSteps := 4000000 }) only [go_sem, beq_self_eq_true, List.getElem_toArray, List.getElem_cons_zero, List.getElem_cons_succ, decide_true, decide_false, cond_true, cond_false, Nat.reduceBEq, reduceCtorEq, Nat.reduceAdd, Nat.reduceMul, Nat.reduceSub, reduceIte, Int.reduceToNat, Int.reduceEq, Int.reduceLT, Int.reduceLE, Nat.reduceLeDiff, Nat.reduceEqDiff, eq_self, and_self, s65_6_1]
    suffices hq : ∀ d : Bool, d = decide (m.at_ + m.bs.length ≤ f ∨ t ≤ m.at_) → K [(0, ptrV s), (1, .int .i64 f), (2, .int .i64 t), (7, v), (8, .int .i64 i), (9, ptrV b1), (16, .bool (decide ((i : Int) < n))), (35, .bool d)] u3 by
      refine grd_split (fun h1 => ?_) (fun h1 => ?_)
      · (try simp (config := { maxSteps := 4000000 }) only [go_sem, beq_self_eq_true, List.getElem_toArray, List.getElem_cons_zero, List.getElem_cons_succ, decide_true, decide_false, cond_true, cond_false, Nat.reduceBEq, reduceCtorEq, Nat.reduceAdd, Nat.reduceMul, Nat.reduceSub, reduceIte, Int.reduceToNat, Int.reduceEq, Int.reduceLT, Int.reduceLE, Nat.reduceLeDiff, Nat.reduceEqDiff, eq_self, and_self, h1])
        exact hq _ (by simp at h1; simp; omega)
      · (try simp (config := { maxSteps := 4000000 }) only [go_sem, beq_self_eq_true, List.getElem_toArray, List.getElem_cons_zero, List.getElem_cons_succ, decide_true, decide_false, cond_true, cond_false, Nat.reduceBEq, reduceCtorEq, Nat.reduceAdd, Nat.reduceMul, Nat.reduceSub, reduceIte, Int.reduceToNat, Int.reduceEq, Int.reduceLT, Int.reduceLE, Nat.reduceLeDiff, Nat.reduceEqDiff, eq_self, and_self, h1, hW3.cell])
        exact hq _ (by simp at h1; simp; omega)
    intro d hd
    refine hK _ _ ?_; clear hK K
    repeat' (first | refine H_seq ?_ | refine H_block ?_ | refine H_skip ?_ | refine H_nil ?_ | refine H_exit ?_ | refine H_ret ?_ | refine B_normal ?_ | refine B_same ?_ | refine B_other rfl ?_ | refine B_ret ?_ | refine L_exit ?_ | refine L_ret ?_)
    cases d with
    | true =>
      have hout := clearMP_out hft he.1 (by simpa using hd.symm)
      rw [hout] at hcl
      refine H_condT rfl rfl ?_
      repeat' (first | refine H_seq ?_ | refine H_block ?_ | refine H_skip ?_ | refine H_nil ?_ | refine H_exit ?_ | refine H_ret ?_ | refine B_normal ?_ | refine B_same ?_ | refine B_other rfl ?_ | refine B_ret ?_ | refine L_exit ?_ | refine L_ret ?_)
      refine H_region k65 s65_7 rfl fun K hK => ?_; simp (config := { maxSteps := 4000000 }) only [go_sem, beq_self_eq_true, List.getElem_toArray, List.getElem_cons_zero, List.getElem_cons_succ, decide_true, decide_false, cond_true, cond_false, Nat.reduceBEq, reduceCtorEq, Nat.reduceAdd, Nat.reduceMul, Nat.reduceSub, reduceIte, Int.reduceToNat, Int.reduceEq, Int.reduceLT, Int.reduceLE, Nat.reduceLeDiff, Nat.reduceEqDiff, eq_self, and_self, s65_7, hW3.cell]
      intro b4 u4 h4
      refine appendP (w := w) m tsl_91 rfl (by decide) ho3 h4 rfl (by omega) F3 hbk ?_
      intro v5 u5 ho5 hb5 f5 _ _
      refine hK _ _ ?_; clear hK K
      repeat' (first | refine H_seq ?_ | refine H_block ?_ | refine H_skip ?_ | refine H_nil ?_ | refine H_exit ?_ | refine H_ret ?_ | refine B_normal ?_ | refine B_same ?_ | refine B_other rfl ?_ | refine B_ret ?_ | refine L_exit ?_ | refine L_ret ?_)
      refine H_region k65 s65_4 rfl fun K hK => ?_; simp (config := { maxSteps := 4000000 }) only [go_sem, beq_self_eq_true, List.getElem_toArray, List.getElem_cons_zero, List.getElem_cons_succ, decide_true, decide_false, cond_true, cond_false, Nat.reduceBEq, reduceCtorEq, Nat.reduceAdd, Nat.reduceMul, Nat.reduceSub, reduceIte, Int.reduceToNat, Int.reduceEq, Int.reduceLT, Int.reduceLE, Nat.reduceLeDiff, Nat.reduceEqDiff, eq_self, and_self, s65_4]
      refine hK _ _ ?_; clear hK K
      repeat' (first | refine H_seq ?_ | refine H_block ?_ | refine H_skip ?_ | refine H_nil ?_ | refine H_exit ?_ | refine H_ret ?_ | refine B_normal ?_ | refine B_same ?_ | refine B_other rfl ?_ | refine B_ret ?_ | refine L_exit ?_ | refine L_ret ?_)
      rw [hnext]
      exact L_normal ⟨(i + 1, v5), ⟨rfl, rfl, rfl, rfl, rfl, trivial⟩, ⟨hin, f5, by rw [hcl]; exact ho5, hb5⟩, hdec⟩
    | false =>
    have hin2 : ¬ (m.at_ + m.bs.length ≤ f ∨ t ≤ m.at_) := by simpa using hd.symm
    refine H_condF rfl rfl ?_
    repeat' (first | refine H_seq ?_ | refine H_block ?_ | refine H_skip ?_ | refine H_nil ?_ | refine H_exit ?_ | refine H_ret ?_ | refine B_normal ?_ | refine B_same ?_ | refine B_other rfl ?_ | refine B_ret ?_ | refine L_exit ?_ | refine L_ret ?_)
    refine H_region k65 s65_8 rfl fun K hK => ?_; simp (config := { maxSteps := 4000000 }) only [go_sem, beq_self_eq_true, List.getElem_toArray, List.getElem_cons_zero, List.getElem_cons_succ, decide_true, decide_false, cond_true, cond_false, Nat.reduceBEq, reduceCtorEq, Nat.reduceAdd, Nat.reduceMul, Nat.reduceSub, reduceIte, Int.reduceToNat, Int.reduceEq, Int.reduceLT, Int.reduceLE, Nat.reduceLeDiff, Nat.reduceEqDiff, eq_self, and_self, s65_8, hW3.cell]
    refine hK _ _ ?_; clear hK K
    repeat' (first | refine H_seq ?_ | refine H_block ?_ | refine H_skip ?_ | refine H_nil ?_ | refine H_exit ?_ | refine H_ret ?_ | refine B_normal ?_ | refine B_same ?_ | refine B_other rfl ?_ | refine B_ret ?_ | refine L_exit ?_ | refine L_ret ?_)
    have hL : clearMP f t m = (if m.at_ < f then [⟨m.at_, m.bs.take (f - m.at_), m.b, m.o, m.c⟩] else []) ++ (if t < m.at_ + m.bs.length then [⟨max m.at_ t, m.bs.drop (t - m.at_), m.b, m.o + (t - m.at_), m.c - (t - m.at_)⟩] else []) := rfl
    refine H_cut (fun E u' => ∃ v', hasE E [(0, ptrV s), (1, .int .i64 f), (2, .int .i64 t), (7, v'), (8, .int .i64 i), (9, ptrV b1)] ∧ Own u' v' 2 (mcells ((ms.take i).flatMap (clearMP f t) ++ (if m.at_ < f then [⟨m.at_, m.bs.take (f - m.at_), m.b, m.o, m.c⟩] else []))) ∧ (∀ b, blk v' = some b → w.heap.size ≤ b) ∧ Fr Nob w u' ∧ W u' b1 [.int .i64 m.at_, .slice (some ⟨m.b, m.o, none⟩) m.bs.length m.c] ∧ blk v' ≠ some b1) ?_ ?_
    · by_cases hmf : m.at_ < f
      · refine H_condT rfl (by simpa using hmf) ?_
        repeat' (first | refine H_seq ?_ | refine H_block ?_ | refine H_skip ?_ | refine H_nil ?_ | refine H_exit ?_ | refine H_ret ?_ | refine B_normal ?_ | refine B_same ?_ | refine B_other rfl ?_ | refine B_ret ?_ | refine L_exit ?_ | refine L_ret ?_)
        refine H_drawn k65 s65_9 p65_9 (Nob) rfl mixed (by as_aux_lemma => kernel_rfl) fun K hK => ?_; simp (config := { maxSteps := 4000000 }) only [go_sem, beq_self_eq_true, List.getElem_toArray, List.getElem_cons_zero, List.getElem_cons_succ, decide_true, decide_false, cond_true, cond_false, Nat.reduceBEq, reduceCtorEq, Nat.reduceAdd, Nat.reduceMul, Nat.reduceSub, reduceIte, Int.reduceToNat, Int.reduceEq, Int.reduceLT, Int.reduceLE, Nat.reduceLeDiff, Nat.reduceEqDiff, eq_self, and_self, s65_9, p65_9, hW3.cell]
        rw [wrapI (by omega), show ((f : Int) - m.at_).toNat = f - m.at_ by omega]
        refine ⟨fun q => q, fun q => q, fun q => q, ⟨by omega, by omega⟩, ?_⟩
        intro b4 u4 h4
        refine appendP (w := w) ⟨m.at_, m.bs.take (f - m.at_), m.b, m.o, m.c⟩ tsl_91 rfl (by decide) ho3 h4 (by simp only [MP.cells, List.length_take]; rw [Nat.min_eq_left (by omega)]) (by omega) F3 hbk ?_
        intro v5 u5 ho5 hb5 f5 hk5 hb5'
        refine hK _ _ ?_; clear hK K
        repeat' (first | refine H_seq ?_ | refine H_block ?_ | refine H_skip ?_ | refine H_nil ?_ | refine H_exit ?_ | refine H_ret ?_ | refine B_normal ?_ | refine B_same ?_ | refine B_other rfl ?_ | refine B_ret ?_ | refine L_exit ?_ | refine L_ret ?_)
        exact thenE_normal ⟨v5, (by repeat' (first | exact trivial | refine ⟨rfl, ?_⟩)), by rw [if_pos hmf]; exact ho5, hb5, f5, hk5 b1 _ hW3 hbv, fun e => by
          rcases hb5' b1 e with h | h
          · exact hbv h
          · have := hW3.lt; omega⟩
      · refine H_condF rfl (by simpa using hmf) ?_
        repeat' (first | refine H_seq ?_ | refine H_block ?_ | refine H_skip ?_ | refine H_nil ?_ | refine H_exit ?_ | refine H_ret ?_ | refine B_normal ?_ | refine B_same ?_ | refine B_other rfl ?_ | refine B_ret ?_ | refine L_exit ?_ | refine L_ret ?_)
        exact thenE_normal ⟨v, (by repeat' (first | exact trivial | refine ⟨rfl, ?_⟩)), by rw [if_neg hmf, List.append_nil]; exact ho3, hbk, F3, hW3, hbv⟩
    · rintro E u' ⟨v', hE, ho', hb', F', hW', hbv'⟩
      refine H_weak _ hE ?_
      repeat' (first | refine H_seq ?_ | refine H_block ?_ | refine H_skip ?_ | refine H_nil ?_ | refine H_exit ?_ | refine H_ret ?_ | refine B_normal ?_ | refine B_same ?_ | refine B_other rfl ?_ | refine B_ret ?_ | refine L_exit ?_ | refine L_ret ?_)
      refine H_region k65 s65_10 rfl fun K hK => ?_; simp (config := { maxSteps := 4000000 }) only [go_sem, beq_self_eq_true, List.getElem_toArray, List.getElem_cons_zero, List.getElem_cons_succ, decide_true, decide_false, cond_true, cond_false, Nat.reduceBEq, reduceCtorEq, Nat.reduceAdd, Nat.reduceMul, Nat.reduceSub, reduceIte, Int.reduceToNat, Int.reduceEq, Int.reduceLT, Int.reduceLE, Nat.reduceLeDiff, Nat.reduceEqDiff, eq_self, and_self, s65_10, hW'.cell]
      refine callC tcall_66 (rend_spec _ _ _ _ _ (by omega) (by omega)) ?_
      rintro v6 u6 ⟨rfl, f6⟩
      have hW6 := hW'.fr f6 (fun q => q)
      simp (config := { maxSteps := 4000000 }) only [go_sem, beq_self_eq_true, List.getElem_toArray, List.getElem_cons_zero, List.getElem_cons_succ, decide_true, decide_false, cond_true, cond_false, Nat.reduceBEq, reduceCtorEq, Nat.reduceAdd, Nat.reduceMul, Nat.reduceSub, reduceIte, Int.reduceToNat, Int.reduceEq, Int.reduceLT, Int.reduceLE, Nat.reduceLeDiff, Nat.reduceEqDiff, eq_self, and_self, s65_10_1]
      refine hK _ _ ?_; clear hK K
      repeat' (first | refine H_seq ?_ | refine H_block ?_ | refine H_skip ?_ | refine H_nil ?_ | refine H_exit ?_ | refine H_ret ?_ | refine B_normal ?_ | refine B_same ?_ | refine B_other rfl ?_ | refine B_ret ?_ | refine L_exit ?_ | refine L_ret ?_)
      by_cases hmt : t < m.at_ + m.bs.length
      · refine H_condT rfl (by simp; omega) ?_
        repeat' (first | refine H_seq ?_ | refine H_block ?_ | refine H_skip ?_ | refine H_nil ?_ | refine H_exit ?_ | refine H_ret ?_ | refine B_normal ?_ | refine B_same ?_ | refine B_other rfl ?_ | refine B_ret ?_ | refine L_exit ?_ | refine L_ret ?_)
        refine H_region k65 s65_11 rfl fun K hK => ?_; simp (config := { maxSteps := 4000000 }) only [go_sem, beq_self_eq_true, List.getElem_toArray, List.getElem_cons_zero, List.getElem_cons_succ, decide_true, decide_false, cond_true, cond_false, Nat.reduceBEq, reduceCtorEq, Nat.reduceAdd, Nat.reduceMul, Nat.reduceSub, reduceIte, Int.reduceToNat, Int.reduceEq, Int.reduceLT, Int.reduceLE, Nat.reduceLeDiff, Nat.reduceEqDiff, eq_self, and_self, s65_11, hW6.cell]
        rw [wrapI (by omega), show ((t : Int) - m.at_).toNat = t - m.at_ by omega, adv_some _ _ _ (by omega), Nat.mul_one]
        refine ⟨⟨by omega, by omega, by omega⟩, ?_⟩
        intro b4 u4 h4
        refine appendP (w := w) ⟨max m.at_ t, m.bs.drop (t - m.at_), m.b, m.o + (t - m.at_), m.c - (t - m.at_)⟩ tsl_91 rfl (by decide) (ho'.fr f6 (fun _ _ q => q)) h4 (by simp only [MP.cells, List.length_drop]; rw [Nat.max_eq_right (by omega)]) (by
          rw [List.length_append]
          have : (if m.at_ < f then [(⟨m.at_, m.bs.take (f - m.at_), m.b, m.o, m.c⟩ : MP)] else []).length ≤ 1 := by split <;> simp
          omega) (F'.trans f6) hb' ?_
        intro v7 u7 ho7 hb7 f7 _ _
        refine hK _ _ ?_; clear hK K
        repeat' (first | refine H_seq ?_ | refine H_block ?_ | refine H_skip ?_ | refine H_nil ?_ | refine H_exit ?_ | refine H_ret ?_ | refine B_normal ?_ | refine B_same ?_ | refine B_other rfl ?_ | refine B_ret ?_ | refine L_exit ?_ | refine L_ret ?_)
        refine H_region k65 s65_4 rfl fun K hK => ?_; simp (config := { maxSteps := 4000000 }) only [go_sem, beq_self_eq_true, List.getElem_toArray, List.getElem_cons_zero, List.getElem_cons_succ, decide_true, decide_false, cond_true, cond_false, Nat.reduceBEq, reduceCtorEq, Nat.reduceAdd, Nat.reduceMul, Nat.reduceSub, reduceIte, Int.reduceToNat, Int.reduceEq, Int.reduceLT, Int.reduceLE, Nat.reduceLeDiff, Nat.reduceEqDiff, eq_self, and_self, s65_4]
        refine hK _ _ ?_; clear hK K
        repeat' (first | refine H_seq ?_ | refine H_block ?_ | refine H_skip ?_ | refine H_nil ?_ | refine H_exit ?_ | refine H_ret ?_ | refine B_normal ?_ | refine B_same ?_ | refine B_other rfl ?_ | refine B_ret ?_ | refine L_exit ?_ | refine L_ret ?_)
        rw [hnext]
        refine L_normal ⟨(i + 1, v7), ⟨rfl, rfl, rfl, rfl, rfl, trivial⟩, ⟨hin, f7, ?_, hb7⟩, hdec⟩
        rw [hcl, hL, if_pos hmt, ← List.append_assoc]
        exact ho7
      · refine H_condF rfl (by simp; omega) ?_
        repeat' (first | refine H_seq ?_ | refine H_block ?_ | refine H_skip ?_ | refine H_nil ?_ | refine H_exit ?_ | refine H_ret ?_ | refine B_normal ?_ | refine B_same ?_ | refine B_other rfl ?_ | refine B_ret ?_ | refine L_exit ?_ | refine L_ret ?_)
        refine H_region k65 s65_4 rfl fun K hK => ?_; simp (config := { maxSteps := 4000000 }) only [go_sem, beq_self_eq_true, List.getElem_toArray, List.getElem_cons_zero, List.getElem_cons_succ, decide_true, decide_false, cond_true, cond_false, Nat.reduceBEq, reduceCtorEq, Nat.reduceAdd, Nat.reduceMul, Nat.reduceSub, reduceIte, Int.reduceToNat, Int.reduceEq, Int.reduceLT, Int.reduceLE, Nat.reduceLeDiff, Nat.reduceEqDiff, eq_self, and_self, s65_4]
        refine hK _ _ ?_; clear hK K
        repeat' (first | refine H_seq ?_ | refine H_block ?_ | refine H_skip ?_ | refine H_nil ?_ | refine H_exit ?_ | refine H_ret ?_ | refine B_normal ?_ | refine B_same ?_ | refine B_other rfl ?_ | refine B_ret ?_ | refine L_exit ?_ | refine L_ret ?_)
        rw [hnext]
        refine L_normal ⟨(i + 1, v'), ⟨rfl, rfl, rfl, rfl, rfl, trivial⟩, ⟨hin, F'.trans f6, ?_, hb'⟩, hdec⟩
        rw [hcl, hL, if_neg hmt, List.append_nil]
        exact ho'.fr f6 (fun _ _ q => q)
  · refine H_condF rfl (by simpa using hin) ?_
    repeat' (first | refine H_seq ?_ | refine H_block ?_ | refine H_skip ?_ | refine H_nil ?_ | refine H_exit ?_ | refine H_ret ?_ | refine B_normal ?_ | refine B_same ?_ | refine B_other rfl ?_ | refine B_ret ?_ | refine L_exit ?_ | refine L_ret ?_)
    refine H_region k65 s65_12 rfl fun K hK => ?_; simp (config := { maxSteps := 4000000 }) only [go_sem, beq_self_eq_true, List.getElem_toArray, List.getElem_cons_zero, List.getElem_cons_succ, decide_true, decide_false, cond_true, cond_false, Nat.reduceBEq, reduceCtorEq, Nat.reduceAdd, Nat.reduceMul, Nat.reduceSub, reduceIte, Int.reduceToNat, Int.reduceEq, Int.reduceLT, Int.reduceLE, Nat.reduceLeDiff, Nat.reduceEqDiff, eq_self, and_self, s65_12]
    refine hK _ _ ?_; clear hK K
    repeat' (first | refine H_seq ?_ | refine H_block ?_ | refine H_skip ?_ | refine H_nil ?_ | refine H_exit ?_ | refine H_ret ?_ | refine B_normal ?_ | refine B_same ?_ | refine B_other rfl ?_ | refine B_ret ?_ | refine L_exit ?_ | refine L_ret ?_)
    refine F_ret ?_
    (try simp (config := { maxSteps := 4000000 }) only [go_sem, beq_self_eq_true, List.getElem_toArray, List.getElem_cons_zero, List.getElem_cons_succ, decide_true, decide_false, cond_true, cond_false, Nat.reduceBEq, reduceCtorEq, Nat.reduceAdd, Nat.reduceMul, Nat.reduceSub, reduceIte, Int.reduceToNat, Int.reduceEq, Int.reduceLT, Int.reduceLE, Nat.reduceLeDiff, Nat.reduceEqDiff, eq_self, and_self])
    rw [List.take_of_length_le (by omega)] at ho
    exact ⟨ho, hbk, hf⟩
end Go.Proofs.Ytpdklpeojjkkaaa

/- span: Twin. -/
import Derived.Test.YtpdklpeojjkkaaaSpan9
namespace Go.Proofs.Ytpdklpeojjkkaaa
open Go
set_option linter.unusedVariables false
set_option linter.unusedSimpArgs false
set_option maxRecDepth 100000
set_option maxHeartbeats 1000000
/-- Pieces made so far: each in a block of its own, all new since w. -/
structure Fresh (w u : World) (t : Nat) (v : Value) (ms : List MP) : Prop where
  own : Own u v 2 (mcells ms)
  vb : ∀ b, blk v = some b → w.heap.size ≤ b ∧ b ≠ t ∧ ∀ m ∈ ms, m.b ≠ b
  pcs : ∀ m ∈ ms, m.ok u ∧ w.heap.size ≤ m.b ∧ m.b ≠ t
  al : ∀ m ∈ ms, ∀ m' ∈ ms, m.b = m'.b → m = m'
theorem twin_spec (s size : Nat) (F : Nat → Prop) (ms : List MP) (w : World) (h : IsSpan w F s ms size) :
    CallsE Try.prog 35 [ptrV s] w fun r u => ∃ t ms', r = ptrV t ∧ IsSpan u (Fromb w.heap.size) t ms' size ∧ ms'.map MP.pc = ms.map MP.pc ∧ Fr Nob w u := by
  obtain ⟨a, n, c, hh, hbl⟩ := h.hdr
  have hz := h.canon.size
  have hn := hh.len
  have hle := hh.heldLe
  refine enter Try.func35 rfl Try.results35 Try.ntmps35 rfl ?_
  repeat' (first | refine H_seq ?_ | refine H_block ?_ | refine H_skip ?_ | refine H_nil ?_ | refine H_exit ?_ | refine H_ret ?_ | refine B_normal ?_ | refine B_same ?_ | refine B_other rfl ?_ | refine B_ret ?_ | refine L_exit ?_ | refine L_ret ?_)
  refine H_region k35 s35_0 rfl fun K hK => ?_; simp (config := { maxSteps := 4000000 }) only [go_sem, beq_self_eq_true, List.getElem_toArray, List.getElem_cons_zero, List.getElem_cons_succ, decide_true, decide_false, cond_true, cond_false, Nat.reduceBEq, reduceCtorEq, Nat.reduceAdd, Nat.reduceMul, Nat.reduceSub, reduceIte, Int.reduceToNat, Int.reduceEq, Int.reduceLT, Int.reduceLE, Nat.reduceLeDiff, Nat.reduceEqDiff, eq_self, and_self, s35_0]
  refine hK _ _ ?_; clear hK K
  repeat' (first | refine H_seq ?_ | refine H_block ?_ | refine H_skip ?_ | refine H_nil ?_ | refine H_exit ?_ | refine H_ret ?_ | refine B_normal ?_ | refine B_same ?_ | refine B_other rfl ?_ | refine B_ret ?_ | refine L_exit ?_ | refine L_ret ?_)
  refine H_region k35 s35_1 rfl fun K hK => ?_; simp (config := { maxSteps := 4000000 }) only [go_sem, beq_self_eq_true, List.getElem_toArray, List.getElem_cons_zero, List.getElem_cons_succ, decide_true, decide_false, cond_true, cond_false, Nat.reduceBEq, reduceCtorEq, Nat.reduceAdd, Nat.reduceMul, Nat.reduceSub, reduceIte, Int.reduceToNat, Int.reduceEq, Int.reduceLT, Int.reduceLE, Nat.reduceLeDiff, Nat.reduceEqDiff, eq_self, and_self, s35_1, Try.underlying49]
  refine hK _ _ ?_; clear hK K
  repeat' (first | refine H_seq ?_ | refine H_block ?_ | refine H_skip ?_ | refine H_nil ?_ | refine H_exit ?_ | refine H_ret ?_ | refine B_normal ?_ | refine B_same ?_ | refine B_other rfl ?_ | refine B_ret ?_ | refine L_exit ?_ | refine L_ret ?_)
  refine H_condF rfl rfl ?_
  repeat' (first | refine H_seq ?_ | refine H_block ?_ | refine H_skip ?_ | refine H_nil ?_ | refine H_exit ?_ | refine H_ret ?_ | refine B_normal ?_ | refine B_same ?_ | refine B_other rfl ?_ | refine B_ret ?_ | refine L_exit ?_ | refine L_ret ?_)
  refine H_region k35 s35_3 rfl fun K hK => ?_; simp (config := { maxSteps := 4000000 }) only [go_sem, beq_self_eq_true, List.getElem_toArray, List.getElem_cons_zero, List.getElem_cons_succ, decide_true, decide_false, cond_true, cond_false, Nat.reduceBEq, reduceCtorEq, Nat.reduceAdd, Nat.reduceMul, Nat.reduceSub, reduceIte, Int.reduceToNat, Int.reduceEq, Int.reduceLT, Int.reduceLE, Nat.reduceLeDiff, Nat.reduceEqDiff, eq_self, and_self, s35_3, hh.hs.cell]
  intro t w1 h1
  have ht := h1.num
  have hh1 := hh.fr h1.fr
  refine hK _ _ ?_; clear hK K
  repeat' (first | refine H_seq ?_ | refine H_block ?_ | refine H_skip ?_ | refine H_nil ?_ | refine H_exit ?_ | refine H_ret ?_ | refine B_normal ?_ | refine B_same ?_ | refine B_other rfl ?_ | refine B_ret ?_ | refine L_exit ?_ | refine L_ret ?_)
  refine H_region k35 s35_4 rfl fun K hK => ?_; simp (config := { maxSteps := 4000000 }) only [go_sem, beq_self_eq_true, List.getElem_toArray, List.getElem_cons_zero, List.getElem_cons_succ, decide_true, decide_false, cond_true, cond_false, Nat.reduceBEq, reduceCtorEq, Nat.reduceAdd, Nat.reduceMul, Nat.reduceSub, reduceIte, Int.reduceToNat, Int.reduceEq, Int.reduceLT, Int.reduceLE, Nat.reduceLeDiff, Nat.reduceEqDiff, eq_self, and_self, s35_4, hh1.hs.cell]
  refine hK _ _ ?_; clear hK K
  repeat' (first | refine H_seq ?_ | refine H_block ?_ | refine H_skip ?_ | refine H_nil ?_ | refine H_exit ?_ | refine H_ret ?_ | refine B_normal ?_ | refine B_same ?_ | refine B_other rfl ?_ | refine B_ret ?_ | refine L_exit ?_ | refine L_ret ?_)
  refine H_loop (fun x : Nat × Value × List MP => [(0, ptrV s), (3, ptrV t), (17, .slice a n c), (18, .int .i64 n), (19, .int .i64 x.1)])
    (fun x u => x.1 ≤ n ∧ Fr Nob w u ∧ w.heap.size < u.heap.size ∧ W u t [x.2.1, .int .i64 size] ∧ Fresh w u t x.2.1 x.2.2 ∧ x.2.2.map MP.pc = (ms.take x.1).map MP.pc) (fun x => n - x.1)
    (0, .slice none 0 0, []) ⟨rfl, rfl, rfl, rfl, rfl, trivial⟩ ⟨Nat.zero_le _, h1.fr, by have := h1.size; omega, h1.blk, ⟨Own.nil _ _, fun b hb => (by cases hb), fun m hm => (by cases hm), fun m hm => (by cases hm)⟩, rfl⟩ ?_
  rintro ⟨i, v, ms1⟩ u ⟨hi, hf, hsz, hW, hFr, hpc⟩
  simp only at hi hf hW hFr hpc
  repeat' (first | refine H_seq ?_ | refine H_block ?_ | refine H_skip ?_ | refine H_nil ?_ | refine H_exit ?_ | refine H_ret ?_ | refine B_normal ?_ | refine B_same ?_ | refine B_other rfl ?_ | refine B_ret ?_ | refine L_exit ?_ | refine L_ret ?_)
  refine H_region k35 s35_5 rfl fun K hK => ?_; simp (config := { maxSteps := 4000000 }) only [go_sem, beq_self_eq_true, List.getElem_toArray, List.getElem_cons_zero, List.getElem_cons_succ, decide_true, decide_false, cond_true, cond_false, Nat.reduceBEq, reduceCtorEq, Nat.reduceAdd, Nat.reduceMul, Nat.reduceSub, reduceIte, Int.reduceToNat, Int.reduceEq, Int.reduceLT, Int.reduceLE, Nat.reduceLeDiff, Nat.reduceEqDiff, eq_self, and_self, s35_5]
  refine hK _ _ ?_; clear hK K
  repeat' (first | refine H_seq ?_ | refine H_block ?_ | refine H_skip ?_ | refine H_nil ?_ | refine H_exit ?_ | refine H_ret ?_ | refine B_normal ?_ | refine B_same ?_ | refine B_other rfl ?_ | refine B_ret ?_ | refine L_exit ?_ | refine L_ret ?_)
  by_cases hin : i < n
  · refine H_condT rfl (by simpa using hin) ?_
    repeat' (first | refine H_seq ?_ | refine H_block ?_ | refine H_skip ?_ | refine H_nil ?_ | refine H_exit ?_ | refine H_ret ?_ | refine B_normal ?_ | refine B_same ?_ | refine B_other rfl ?_ | refine B_ret ?_ | refine L_exit ?_ | refine L_ret ?_)
    have hhu := hh.fr hf
    obtain ⟨b, o, rfl, hc⟩ := hhu.cells (by omega)
    obtain ⟨m, hm⟩ : ∃ m, ms[i]? = some m := ⟨ms[i]'(by omega), List.getElem?_eq_getElem _⟩
    obtain ⟨c0, c1⟩ := hc i m hm
    refine H_region k35 s35_6 rfl fun K hK => ?_; simp (config := { maxSteps := 4000000 }) only [go_sem, beq_self_eq_true, List.getElem_toArray, List.getElem_cons_zero, List.getElem_cons_succ, decide_true, decide_false, cond_true, cond_false, Nat.reduceBEq, reduceCtorEq, Nat.reduceAdd, Nat.reduceMul, Nat.reduceSub, reduceIte, Int.reduceToNat, Int.reduceEq, Int.reduceLT, Int.reduceLE, Nat.reduceLeDiff, Nat.reduceEqDiff, eq_self, and_self, s35_6, c0, c1]
    refine ⟨⟨by omega, by omega⟩, ?_⟩
    intro b1 u1 hN
    refine ⟨_, hN.blk, by simp, ?_⟩
    (try simp (config := { maxSteps := 4000000 }) only [go_sem, beq_self_eq_true, List.getElem_toArray, List.getElem_cons_zero, List.getElem_cons_succ, decide_true, decide_false, cond_true, cond_false, Nat.reduceBEq, reduceCtorEq, Nat.reduceAdd, Nat.reduceMul, Nat.reduceSub, reduceIte, Int.reduceToNat, Int.reduceEq, Int.reduceLT, Int.reduceLE, Nat.reduceLeDiff, Nat.reduceEqDiff, eq_self, and_self])
    intro u2 hP
    have hmem := List.mem_of_getElem? hm
    have f2 : Fr Nob u u2 := hN.fr.put hP (.inl (by have := hN.num; omega))
    have hsz2 : u2.heap.size = u.heap.size + 1 := by rw [hP.size, hN.size]
    refine hK _ _ ?_; clear hK K
    repeat' (first | refine H_seq ?_ | refine H_block ?_ | refine H_skip ?_ | refine H_nil ?_ | refine H_exit ?_ | refine H_ret ?_ | refine B_normal ?_ | refine B_same ?_ | refine B_other rfl ?_ | refine B_ret ?_ | refine L_exit ?_ | refine L_ret ?_)
    have hW2 := hW.fr f2 (fun q => q)
    refine H_drawn k35 s35_7 p35_7 (Nob) rfl mixed (by as_aux_lemma => kernel_rfl) fun K hK => ?_; simp (config := { maxSteps := 4000000 }) only [go_sem, beq_self_eq_true, List.getElem_toArray, List.getElem_cons_zero, List.getElem_cons_succ, decide_true, decide_false, cond_true, cond_false, Nat.reduceBEq, reduceCtorEq, Nat.reduceAdd, Nat.reduceMul, Nat.reduceSub, reduceIte, Int.reduceToNat, Int.reduceEq, Int.reduceLT, Int.reduceLE, Nat.reduceLeDiff, Nat.reduceEqDiff, eq_self, and_self, s35_7, p35_7, hP.blk.cell, hW2.cell]
    refine ⟨fun q => q, fun q => q, fun q => q, callC tcall_41 (cloneb_spec _ _ _ (MP.row (((h.oks m hmem).fr hf (fun q => q)).fr f2 (fun q => q))) (bvs_one _) (by rw [bvs_len]; have := canon_end h.canon hmem; omega)) ?_⟩
    rintro v3 u3 ⟨ho3, f3, hb3⟩
    obtain ⟨a3, n3, c3, rfl⟩ := ho3.lit
    refine ⟨f3, ?_⟩
    simp (config := { maxSteps := 4000000 }) only [go_sem, beq_self_eq_true, List.getElem_toArray, List.getElem_cons_zero, List.getElem_cons_succ, decide_true, decide_false, cond_true, cond_false, Nat.reduceBEq, reduceCtorEq, Nat.reduceAdd, Nat.reduceMul, Nat.reduceSub, reduceIte, Int.reduceToNat, Int.reduceEq, Int.reduceLT, Int.reduceLE, Nat.reduceLeDiff, Nat.reduceEqDiff, eq_self, and_self, s35_7, p35_7_1]
    intro b4 u4 h4
    have hW4 := (hW2.fr f3 (fun q => q)).fr h4.fr (fun q => q)
    have hsz3 := f3.size
    have hn4 := h4.num
    have hsz4 := h4.size
    have ht4 : t < u.heap.size := hW.lt
    -- the piece that is new
    obtain ⟨b3, o3, rfl, hok⟩ : ∃ b3 o3, a3 = some ⟨b3, o3, none⟩ ∧ MP.ok u4 ⟨m.at_, m.bs, b3, o3, c3⟩ ∧ n3 = m.bs.length := by
      have hpos := (canon_end h.canon hmem).1
      obtain ⟨a', n', c', e, hl, hnc, hcm, hr⟩ := ho3
      cases e
      have hn3 : n3 = m.bs.length := by rw [bvs_len] at hl; omega
      rcases hr with ⟨rfl, h0⟩ | ⟨b', o', cs, rfl, hw, hcs, htk⟩
      · omega
      · exact ⟨b', o', rfl, ⟨by simp only; omega, hcm, cs, hw.fr h4.fr (fun q => q), by simp only; omega, by rw [← hn3, ← htk, Nat.mul_one]⟩, hn3⟩
    obtain ⟨hok, rfl⟩ := hok
    have hb3' := hb3 b3 rfl
    have hb3lt : b3 < u3.heap.size := ho3.blk_lt rfl
    have hlen : ms1.length = i := by
      have := congrArg List.length hpc
      rw [List.length_map, List.length_map, List.length_take] at this; omega
    have hFr4 : Fr Nob u u4 := f2.trans (f3.trans h4.fr)
    refine ⟨h4.fr, appendC tsl_81 rfl rfl (hFr.own.fr hFr4 (fun _ _ q => q)) (Own.of_new (n := 1) (sz := 2) h4 rfl (by decide)).row (by simp [Value.oneCell']) (by rw [mcells_len, hlen]; simp; omega) ?_⟩
    intro v5 u5 ho5 f5 hb5
    obtain ⟨a5, n5, c5, rfl⟩ := ho5.lit
    have hvt : ∀ b, blk v = some b → b < u.heap.size := fun b hb => hFr.own.blk_lt hb
    have hW5 : W u5 t [v, .int .i64 size] := hW4.fr f5 (fun q => (hFr.vb t q).2.1 rfl)
    refine ⟨by simp [vcells_slice], _, hW5, by simp [vcells_slice], by simp [vcells_slice, Value.oneCell'], ?_⟩
    (try simp (config := { maxSteps := 4000000 }) only [go_sem, beq_self_eq_true, List.getElem_toArray, List.getElem_cons_zero, List.getElem_cons_succ, decide_true, decide_false, cond_true, cond_false, Nat.reduceBEq, reduceCtorEq, Nat.reduceAdd, Nat.reduceMul, Nat.reduceSub, reduceIte, Int.reduceToNat, Int.reduceEq, Int.reduceLT, Int.reduceLE, Nat.reduceLeDiff, Nat.reduceEqDiff, eq_self, and_self])
    intro u6 hP6
    refine hK _ _ ?_; clear hK K
    repeat' (first | refine H_seq ?_ | refine H_block ?_ | refine H_skip ?_ | refine H_nil ?_ | refine H_exit ?_ | refine H_ret ?_ | refine B_normal ?_ | refine B_same ?_ | refine B_other rfl ?_ | refine B_ret ?_ | refine L_exit ?_ | refine L_ret ?_)
    refine H_region k35 s35_8 rfl fun K hK => ?_; simp (config := { maxSteps := 4000000 }) only [go_sem, beq_self_eq_true, List.getElem_toArray, List.getElem_cons_zero, List.getElem_cons_succ, decide_true, decide_false, cond_true, cond_false, Nat.reduceBEq, reduceCtorEq, Nat.reduceAdd, Nat.reduceMul, Nat.reduceSub, reduceIte, Int.reduceToNat, Int.reduceEq, Int.reduceLT, Int.reduceLE, Nat.reduceLeDiff, Nat.reduceEqDiff, eq_self, and_self, s35_8]
    refine hK _ _ ?_; clear hK K
    repeat' (first | refine H_seq ?_ | refine H_block ?_ | refine H_skip ?_ | refine H_nil ?_ | refine H_exit ?_ | refine H_ret ?_ | refine B_normal ?_ | refine B_same ?_ | refine B_other rfl ?_ | refine B_ret ?_ | refine L_exit ?_ | refine L_ret ?_)
    rw [wrapI (n := (i : Int) + 1) (by omega), show ((i : Int) + 1) = ((i + 1 : Nat) : Int) by omega]
    have f5' : Fr Nob w u5 := (hf.trans hFr4).trans2 f5 (fun _ _ q => q) (fun b hb q => by have := (hFr.vb b q).1; omega)
    have f6 : Fr Nob w u6 := f5'.put hP6 (.inl (by omega))
    have hsz5 := f5.size
    have hold : ∀ x ∈ ms1, x.ok u6 := fun x hx => (((hFr.pcs x hx).1.fr hFr4 (fun q => q)).fr f5 (fun q => (hFr.vb _ q).2.2 x hx rfl)).fr hP6.fr (fun q => (hFr.pcs x hx).2.2 q)
    have hnew : MP.ok u6 ⟨m.at_, m.bs, b3, o3, c3⟩ := (hok.fr f5 (fun q => by have := hvt _ q; simp only at this; omega)).fr hP6.fr (fun q => by simp only [Onb] at q; omega)
    refine L_normal ⟨(i + 1, .slice a5 n5 c5, ms1 ++ [⟨m.at_, m.bs, b3, o3, c3⟩]), ⟨rfl, rfl, rfl, rfl, rfl, trivial⟩, ⟨hin, f6, by have := hP6.size; omega, hP6.blk, ⟨?_, fun b hb => ?_, fun x hx => ?_, fun x hx y hy e => ?_⟩, ?_⟩, ?_⟩
    · have e : mcells (ms1 ++ [⟨m.at_, m.bs, b3, o3, c3⟩]) = mcells ms1 ++ [.int .i64 m.at_, .slice (some ⟨b3, o3, none⟩) m.bs.length c3] := by simp [mcells, MP.cells]
      rw [e]
      refine ho5.fr hP6.fr (fun b hb q => ?_)
      simp only [Onb] at q
      subst q
      rcases hb5 with e | ⟨b', e, hb'⟩
      · exact (hFr.vb _ (by rw [← e]; exact hb)).2.1 rfl
      · rw [hb] at e; cases e; omega
    · rcases hb5 with e | ⟨b', e, hb'⟩
      · have hv := hFr.vb b (by rw [← e]; exact hb)
        refine ⟨hv.1, hv.2.1, fun x hx => ?_⟩
        rcases List.mem_append.1 hx with hx | hx
        · exact hv.2.2 x hx
        · simp only [List.mem_singleton] at hx; subst hx
          have := hvt b (by rw [← e]; exact hb)
          simp only; omega
      · simp only at hb
        rw [hb] at e; cases e
        refine ⟨by omega, by omega, fun x hx => ?_⟩
        rcases List.mem_append.1 hx with hx | hx
        · have := (hFr.pcs x hx).1.lt; omega
        · simp only [List.mem_singleton] at hx; subst hx
          simp only; omega
    · rcases List.mem_append.1 hx with hx | hx
      · exact ⟨hold x hx, (hFr.pcs x hx).2⟩
      · simp only [List.mem_singleton] at hx; subst hx
        exact ⟨hnew, by simp only; omega, by simp only; omega⟩
    · rcases List.mem_append.1 hx with hx | hx <;> rcases List.mem_append.1 hy with hy | hy
      · exact hFr.al x hx y hy e
      · simp only [List.mem_singleton] at hy; subst hy
        have := (hFr.pcs x hx).1.lt; simp only at e; omega
      · simp only [List.mem_singleton] at hx; subst hx
        have := (hFr.pcs y hy).1.lt; simp only at e; omega
      · simp only [List.mem_singleton] at hx hy; subst hx; subst hy; rfl
    · rw [List.map_append, hpc, List.take_add_one, hm, Option.toList_some, List.map_append]
      rfl
    · show n - (i + 1) < n - i
      omega
  · refine H_condF rfl (by simpa using hin) ?_
    repeat' (first | refine H_seq ?_ | refine H_block ?_ | refine H_skip ?_ | refine H_nil ?_ | refine H_exit ?_ | refine H_ret ?_ | refine B_normal ?_ | refine B_same ?_ | refine B_other rfl ?_ | refine B_ret ?_ | refine L_exit ?_ | refine L_ret ?_)
    refine H_region k35 s35_9 rfl fun K hK => ?_; simp (config := { maxSteps := 4000000 }) only [go_sem, beq_self_eq_true, List.getElem_toArray, List.getElem_cons_zero, List.getElem_cons_succ, decide_true, decide_false, cond_true, cond_false, Nat.reduceBEq, reduceCtorEq, Nat.reduceAdd, Nat.reduceMul, Nat.reduceSub, reduceIte, Int.reduceToNat, Int.reduceEq, Int.reduceLT, Int.reduceLE, Nat.reduceLeDiff, Nat.reduceEqDiff, eq_self, and_self, s35_9]
    refine hK _ _ ?_; clear hK K
    repeat' (first | refine H_seq ?_ | refine H_block ?_ | refine H_skip ?_ | refine H_nil ?_ | refine H_exit ?_ | refine H_ret ?_ | refine B_normal ?_ | refine B_same ?_ | refine B_other rfl ?_ | refine B_ret ?_ | refine L_exit ?_ | refine L_ret ?_)
    refine F_ret ?_
    (try simp (config := { maxSteps := 4000000 }) only [go_sem, beq_self_eq_true, List.getElem_toArray, List.getElem_cons_zero, List.getElem_cons_succ, decide_true, decide_false, cond_true, cond_false, Nat.reduceBEq, reduceCtorEq, Nat.reduceAdd, Nat.reduceMul, Nat.reduceSub, reduceIte, Int.reduceToNat, Int.reduceEq, Int.reduceLT, Int.reduceLE, Nat.reduceLeDiff, Nat.reduceEqDiff, eq_self, and_self])
    rw [List.take_of_length_le (by omega)] at hpc
    have ht' := h1.size
    refine ⟨t, ms1, rfl, ⟨⟨v, hW, hFr.own, fun b hb => ⟨(hFr.vb b hb).1, (hFr.vb b hb).2⟩⟩, by simp only [Fromb]; omega, fun x hx => ⟨(hFr.pcs x hx).1, (hFr.pcs x hx).2⟩, fun x hx y hy e => ?_, by rw [hpc]; exact h.canon⟩, hpc, hf⟩
    rw [hFr.al x hx y hy e]
end Go.Proofs.Ytpdklpeojjkkaaa

/- span: Put. -/
import Derived.Test.YtpdklpeojjkkaaaSpan7
import Derived.Test.YtpdklpeojjkkaaaPc4
namespace Go.Proofs.Ytpdklpeojjkkaaa
open Go
set_option linter.unusedVariables false
set_option linter.unusedSimpArgs false
set_option maxRecDepth 100000
set_option maxHeartbeats 1000000
theorem Left_.lay {F : Nat → Prop} {w u : World} {s size i A : Nat} {ms : List MP} {m : MP} {bs : List UInt8} (h : IsSpan w F s ms size) (hm : ms[i]? = some m) (h1 : m.at_ ≤ A) (h2 : A + bs.length ≤ m.at_ + m.bs.length) (h0 : 0 < bs.length)
    (hu : IsSpan u (Fnew F w) s (layMP ms i m (A - m.at_) bs) size ∧ Fr F w u) : Left_ F w s (putM (ms.map MP.pc) size A bs) (.int .i64 0) u := by
  have hi : i < ms.length := (List.getElem?_eq_some_iff.1 hm).1
  have hz := h.canon.size
  have hcm := canon_end h.canon (List.mem_of_getElem? hm)
  have hps : ms.map MP.pc = (ms.take i).map MP.pc ++ m.pc :: (ms.drop (i + 1)).map MP.pc := by
    have e : ms = ms.take i ++ m :: ms.drop (i + 1) := by
      have := List.take_append_drop i ms
      rw [List.drop_eq_getElem_cons hi, (List.getElem?_eq_some_iff.1 hm).2] at this
      exact this.symm
    conv => lhs; rw [e]
    rw [List.map_append, List.map_cons]
  have hw := ins_within (a := A) (bs := bs) (by rw [← hps]; exact h.canon.ord) h1 h2 h0
  rw [← hps] at hw
  have hlay : (layMP ms i m (A - m.at_) bs).map MP.pc = insL (clearL A (A + bs.length) (ms.map MP.pc)) A bs := by
    rw [hw]
    unfold layMP
    rw [List.set_eq_take_append_cons_drop, if_pos hi, List.map_append, List.map_cons]
    rfl
  have hheld : heldL (clearL A (A + bs.length) (ms.map MP.pc)) + bs.length ≤ 4194304 := by
    rw [← ins_held _ A bs, ← hlay]; exact hu.1.canon.held
  have hsz : max size (A + bs.length) = size := by omega
  unfold putM
  rw [if_neg (by omega), if_neg (by omega), if_neg (by omega), Int.toNat_natCast, if_neg (by omega), hsz]
  exact ⟨rfl, _, hu.1, hlay, hu.2⟩
/-- A new list, of what is left of the pieces and of new ones. -/
theorem IsSpan.set2 {w u u' : World} {F : Nat → Prop} {s size size' : Nat} {ms ms' : List MP} {v : Value} (h : IsSpan w F s ms size) (f : Fr Nob w u) (ho : Own u v 2 (mcells ms')) (hb : ∀ b, blk v = some b → w.heap.size ≤ b ∧ ∀ x ∈ ms', x.b ≠ b)
    (hok : ∀ x ∈ ms', x.ok u) (hd : ∀ x ∈ ms', (∃ m ∈ ms, x.b = m.b ∧ x.o + m.at_ = m.o + x.at_) ∨ w.heap.size ≤ x.b) (hal : ∀ x ∈ ms', ∀ y ∈ ms', w.heap.size ≤ x.b → x.b = y.b → x.o + y.at_ = y.o + x.at_)
    (hc : Canon (ms'.map MP.pc) size') (hp : Put u s [v, .int .i64 size'] u') : IsSpan u' (Fnew F w) s ms' size' ∧ Fr F w u' := by
  have hs := h.lt
  have hxs : ∀ x ∈ ms', x.b ≠ s := fun x hx e => by
    rcases hd x hx with ⟨m, hm, e1, _⟩ | hge
    · exact (h.pcs m hm).2.2 (by rw [← e1]; exact e)
    · omega
  refine ⟨⟨⟨v, hp.blk, ho.fr hp.fr (fun b hb' q => ?_), fun b hb' => ⟨.inr (hb b hb').1, ?_, (hb b hb').2⟩⟩, .inl h.own, fun m hm => ⟨(hok m hm).fr hp.fr (hxs m hm), ?_, hxs m hm⟩, fun x hx y hy e => ?_, hc⟩, ?_⟩
  · have := (hb b hb').1; simp only [Onb] at q; omega
  · have := (hb b hb').1; omega
  · rcases hd m hm with ⟨m', hm', e, _⟩ | hge
    · rw [e]; exact .inl (h.pcs m' hm').2.1
    · exact .inr hge
  · rcases hd x hx with ⟨m1, hm1, e1, e2⟩ | hge
    · rcases hd y hy with ⟨m2, hm2, e3, e4⟩ | hge
      · have := h.al m1 hm1 m2 hm2 (by rw [← e1, ← e3]; exact e)
        omega
      · have := hal y hy x hx hge e.symm; omega
    · exact hal x hx y hy hge e
  · exact f.trans2 hp.fr (fun _ _ q => q.elim) (fun i hi q => by simp only [Onb] at q; rw [q]; exact h.own)
theorem Own.lit {w : World} {v : Value} {sz : Nat} {xs : List Value} (h : Own w v sz xs) : ∃ a n c, v = .slice a n c := by
  obtain ⟨a, n, c, hv, _⟩ := h
  exact ⟨a, n, c, hv⟩
theorem copyS {P : Program} {w : World} {K : Value → World → Prop} {t t' : TypeId} {b o n c m c' sz by_ : Nat} {z cs xs : List Value} {a' : Option Addr} (htt : t = t') (ht : tsl P t = some (sz, z, by_)) (hw : W w b cs) (ho : o + min m n * sz ≤ cs.length)
    (hr : Row w (.slice a' m c') sz xs) (h1 : ∀ u ∈ xs.take (min m n * sz), u.oneCell' = true) (hk : ∀ u, Put w b (splice cs o (xs.take (min m n * sz))) u → K (.int .i64 (min m n : Nat)) u) : copyVC P w K t t' (.slice (some ⟨b, o, none⟩) n c) (.slice a' m c') := by
  refine ⟨htt, ?_⟩
  rw [ht]
  exact ⟨_, n, c, xs, a', m, c', rfl, rfl, hr, h1, .inr ⟨b, o, cs, rfl, hw, ho, hk⟩⟩
theorem sput_spec (s size : Nat) (F : Nat → Prop) (ms : List MP) (at_ : Int) (a' : Option Addr) (k c' : Nat) (bs : List UInt8) (w : World) (h : IsSpan w F s ms size) (hb : Row w (.slice a' k c') 1 (bvs bs)) (hk : k ≤ maxLen) :
    CallsE Try.prog 26 [ptrV s, .int .i64 at_, .slice a' k c'] w fun r u => Left_ F w s (putM (ms.map MP.pc) size at_ bs) r u := by
  obtain ⟨a, n, c, hh, hbl⟩ := h.hdr
  have hz := h.canon.size
  have hn := hh.len
  have hle := hh.heldLe
  have hkl : bs.length = k := by have := hb.len; rw [bvs_len] at this; omega
  simp only [maxLen] at hk
  refine enter Try.func26 rfl Try.results26 Try.ntmps26 rfl ?_
  repeat' (first | refine H_seq ?_ | refine H_block ?_ | refine H_skip ?_ | refine H_nil ?_ | refine H_exit ?_ | refine H_ret ?_ | refine B_normal ?_ | refine B_same ?_ | refine B_other rfl ?_ | refine B_ret ?_ | refine L_exit ?_ | refine L_ret ?_)
  refine H_region k26 s26_0 rfl fun K hK => ?_; simp (config := { maxSteps := 4000000 }) only [go_sem, beq_self_eq_true, List.getElem_toArray, List.getElem_cons_zero, List.getElem_cons_succ, decide_true, decide_false, cond_true, cond_false, Nat.reduceBEq, reduceCtorEq, Nat.reduceAdd, Nat.reduceMul, Nat.reduceSub, reduceIte, Int.reduceToNat, Int.reduceEq, Int.reduceLT, Int.reduceLE, Nat.reduceLeDiff, Nat.reduceEqDiff, eq_self, and_self, s26_0]
  refine hK _ _ ?_; clear hK K
  repeat' (first | refine H_seq ?_ | refine H_block ?_ | refine H_skip ?_ | refine H_nil ?_ | refine H_exit ?_ | refine H_ret ?_ | refine B_normal ?_ | refine B_same ?_ | refine B_other rfl ?_ | refine B_ret ?_ | refine L_exit ?_ | refine L_ret ?_)
  refine H_region k26 s26_1 rfl fun K hK => ?_; simp (config := { maxSteps := 4000000 }) only [go_sem, beq_self_eq_true, List.getElem_toArray, List.getElem_cons_zero, List.getElem_cons_succ, decide_true, decide_false, cond_true, cond_false, Nat.reduceBEq, reduceCtorEq, Nat.reduceAdd, Nat.reduceMul, Nat.reduceSub, reduceIte, Int.reduceToNat, Int.reduceEq, Int.reduceLT, Int.reduceLE, Nat.reduceLeDiff, Nat.reduceEqDiff, eq_self, and_self, s26_1, Try.underlying49]
  refine hK _ _ ?_; clear hK K
  repeat' (first | refine H_seq ?_ | refine H_block ?_ | refine H_skip ?_ | refine H_nil ?_ | refine H_exit ?_ | refine H_ret ?_ | refine B_normal ?_ | refine B_same ?_ | refine B_other rfl ?_ | refine B_ret ?_ | refine L_exit ?_ | refine L_ret ?_)
  refine H_condF rfl rfl ?_
  repeat' (first | refine H_seq ?_ | refine H_block ?_ | refine H_skip ?_ | refine H_nil ?_ | refine H_exit ?_ | refine H_ret ?_ | refine B_normal ?_ | refine B_same ?_ | refine B_other rfl ?_ | refine B_ret ?_ | refine L_exit ?_ | refine L_ret ?_)
  refine H_region k26 s26_3 rfl fun K hK => ?_; simp (config := { maxSteps := 4000000 }) only [go_sem, beq_self_eq_true, List.getElem_toArray, List.getElem_cons_zero, List.getElem_cons_succ, decide_true, decide_false, cond_true, cond_false, Nat.reduceBEq, reduceCtorEq, Nat.reduceAdd, Nat.reduceMul, Nat.reduceSub, reduceIte, Int.reduceToNat, Int.reduceEq, Int.reduceLT, Int.reduceLE, Nat.reduceLeDiff, Nat.reduceEqDiff, eq_self, and_self, s26_3]
  refine hK _ _ ?_; clear hK K
  repeat' (first | refine H_seq ?_ | refine H_block ?_ | refine H_skip ?_ | refine H_nil ?_ | refine H_exit ?_ | refine H_ret ?_ | refine B_normal ?_ | refine B_same ?_ | refine B_other rfl ?_ | refine B_ret ?_ | refine L_exit ?_ | refine L_ret ?_)
  by_cases h1 : at_ < 0
  · refine H_condT rfl (by simpa using h1) ?_
    repeat' (first | refine H_seq ?_ | refine H_block ?_ | refine H_skip ?_ | refine H_nil ?_ | refine H_exit ?_ | refine H_ret ?_ | refine B_normal ?_ | refine B_same ?_ | refine B_other rfl ?_ | refine B_ret ?_ | refine L_exit ?_ | refine L_ret ?_)
    refine H_region k26 s26_4 rfl fun K hK => ?_; simp (config := { maxSteps := 4000000 }) only [go_sem, beq_self_eq_true, List.getElem_toArray, List.getElem_cons_zero, List.getElem_cons_succ, decide_true, decide_false, cond_true, cond_false, Nat.reduceBEq, reduceCtorEq, Nat.reduceAdd, Nat.reduceMul, Nat.reduceSub, reduceIte, Int.reduceToNat, Int.reduceEq, Int.reduceLT, Int.reduceLE, Nat.reduceLeDiff, Nat.reduceEqDiff, eq_self, and_self, s26_4]
    refine hK _ _ ?_; clear hK K
    repeat' (first | refine H_seq ?_ | refine H_block ?_ | refine H_skip ?_ | refine H_nil ?_ | refine H_exit ?_ | refine H_ret ?_ | refine B_normal ?_ | refine B_same ?_ | refine B_other rfl ?_ | refine B_ret ?_ | refine L_exit ?_ | refine L_ret ?_)
    refine F_ret ?_
    (try simp (config := { maxSteps := 4000000 }) only [go_sem, beq_self_eq_true, List.getElem_toArray, List.getElem_cons_zero, List.getElem_cons_succ, decide_true, decide_false, cond_true, cond_false, Nat.reduceBEq, reduceCtorEq, Nat.reduceAdd, Nat.reduceMul, Nat.reduceSub, reduceIte, Int.reduceToNat, Int.reduceEq, Int.reduceLT, Int.reduceLE, Nat.reduceLeDiff, Nat.reduceEqDiff, eq_self, and_self])
    unfold putM
    rw [if_pos h1]
    exact Left_.same h (Fr.refl _ _) 2
  refine H_condF rfl (by simpa using h1) ?_
  repeat' (first | refine H_seq ?_ | refine H_block ?_ | refine H_skip ?_ | refine H_nil ?_ | refine H_exit ?_ | refine H_ret ?_ | refine B_normal ?_ | refine B_same ?_ | refine B_other rfl ?_ | refine B_ret ?_ | refine L_exit ?_ | refine L_ret ?_)
  refine H_region k26 s26_5 rfl fun K hK => ?_; simp (config := { maxSteps := 4000000 }) only [go_sem, beq_self_eq_true, List.getElem_toArray, List.getElem_cons_zero, List.getElem_cons_succ, decide_true, decide_false, cond_true, cond_false, Nat.reduceBEq, reduceCtorEq, Nat.reduceAdd, Nat.reduceMul, Nat.reduceSub, reduceIte, Int.reduceToNat, Int.reduceEq, Int.reduceLT, Int.reduceLE, Nat.reduceLeDiff, Nat.reduceEqDiff, eq_self, and_self, s26_5]
  refine hK _ _ ?_; clear hK K
  repeat' (first | refine H_seq ?_ | refine H_block ?_ | refine H_skip ?_ | refine H_nil ?_ | refine H_exit ?_ | refine H_ret ?_ | refine B_normal ?_ | refine B_same ?_ | refine B_other rfl ?_ | refine B_ret ?_ | refine L_exit ?_ | refine L_ret ?_)
  by_cases h2 : k = 0
  · refine H_condT rfl (by simp; omega) ?_
    repeat' (first | refine H_seq ?_ | refine H_block ?_ | refine H_skip ?_ | refine H_nil ?_ | refine H_exit ?_ | refine H_ret ?_ | refine B_normal ?_ | refine B_same ?_ | refine B_other rfl ?_ | refine B_ret ?_ | refine L_exit ?_ | refine L_ret ?_)
    refine H_region k26 s26_6 rfl fun K hK => ?_; simp (config := { maxSteps := 4000000 }) only [go_sem, beq_self_eq_true, List.getElem_toArray, List.getElem_cons_zero, List.getElem_cons_succ, decide_true, decide_false, cond_true, cond_false, Nat.reduceBEq, reduceCtorEq, Nat.reduceAdd, Nat.reduceMul, Nat.reduceSub, reduceIte, Int.reduceToNat, Int.reduceEq, Int.reduceLT, Int.reduceLE, Nat.reduceLeDiff, Nat.reduceEqDiff, eq_self, and_self, s26_6]
    refine hK _ _ ?_; clear hK K
    repeat' (first | refine H_seq ?_ | refine H_block ?_ | refine H_skip ?_ | refine H_nil ?_ | refine H_exit ?_ | refine H_ret ?_ | refine B_normal ?_ | refine B_same ?_ | refine B_other rfl ?_ | refine B_ret ?_ | refine L_exit ?_ | refine L_ret ?_)
    refine F_ret ?_
    (try simp (config := { maxSteps := 4000000 }) only [go_sem, beq_self_eq_true, List.getElem_toArray, List.getElem_cons_zero, List.getElem_cons_succ, decide_true, decide_false, cond_true, cond_false, Nat.reduceBEq, reduceCtorEq, Nat.reduceAdd, Nat.reduceMul, Nat.reduceSub, reduceIte, Int.reduceToNat, Int.reduceEq, Int.reduceLT, Int.reduceLE, Nat.reduceLeDiff, Nat.reduceEqDiff, eq_self, and_self])
    unfold putM
    rw [if_neg h1, if_pos (by omega)]
    exact Left_.same h (Fr.refl _ _) 0
  refine H_condF rfl (by simp; omega) ?_
  repeat' (first | refine H_seq ?_ | refine H_block ?_ | refine H_skip ?_ | refine H_nil ?_ | refine H_exit ?_ | refine H_ret ?_ | refine B_normal ?_ | refine B_same ?_ | refine B_other rfl ?_ | refine B_ret ?_ | refine L_exit ?_ | refine L_ret ?_)
  refine H_region k26 s26_7 rfl fun K hK => ?_; simp (config := { maxSteps := 4000000 }) only [go_sem, beq_self_eq_true, List.getElem_toArray, List.getElem_cons_zero, List.getElem_cons_succ, decide_true, decide_false, cond_true, cond_false, Nat.reduceBEq, reduceCtorEq, Nat.reduceAdd, Nat.reduceMul, Nat.reduceSub, reduceIte, Int.reduceToNat, Int.reduceEq, Int.reduceLT, Int.reduceLE, Nat.reduceLeDiff, Nat.reduceEqDiff, eq_self, and_self, s26_7]
  rw [wrapI (by omega)]
  refine hK _ _ ?_; clear hK K
  repeat' (first | refine H_seq ?_ | refine H_block ?_ | refine H_skip ?_ | refine H_nil ?_ | refine H_exit ?_ | refine H_ret ?_ | refine B_normal ?_ | refine B_same ?_ | refine B_other rfl ?_ | refine B_ret ?_ | refine L_exit ?_ | refine L_ret ?_)
  by_cases h3 : 1073741824 - (k : Int) < at_
  · refine H_condT rfl (by simp; omega) ?_
    repeat' (first | refine H_seq ?_ | refine H_block ?_ | refine H_skip ?_ | refine H_nil ?_ | refine H_exit ?_ | refine H_ret ?_ | refine B_normal ?_ | refine B_same ?_ | refine B_other rfl ?_ | refine B_ret ?_ | refine L_exit ?_ | refine L_ret ?_)
    refine H_region k26 s26_8 rfl fun K hK => ?_; simp (config := { maxSteps := 4000000 }) only [go_sem, beq_self_eq_true, List.getElem_toArray, List.getElem_cons_zero, List.getElem_cons_succ, decide_true, decide_false, cond_true, cond_false, Nat.reduceBEq, reduceCtorEq, Nat.reduceAdd, Nat.reduceMul, Nat.reduceSub, reduceIte, Int.reduceToNat, Int.reduceEq, Int.reduceLT, Int.reduceLE, Nat.reduceLeDiff, Nat.reduceEqDiff, eq_self, and_self, s26_8]
    refine hK _ _ ?_; clear hK K
    repeat' (first | refine H_seq ?_ | refine H_block ?_ | refine H_skip ?_ | refine H_nil ?_ | refine H_exit ?_ | refine H_ret ?_ | refine B_normal ?_ | refine B_same ?_ | refine B_other rfl ?_ | refine B_ret ?_ | refine L_exit ?_ | refine L_ret ?_)
    refine F_ret ?_
    (try simp (config := { maxSteps := 4000000 }) only [go_sem, beq_self_eq_true, List.getElem_toArray, List.getElem_cons_zero, List.getElem_cons_succ, decide_true, decide_false, cond_true, cond_false, Nat.reduceBEq, reduceCtorEq, Nat.reduceAdd, Nat.reduceMul, Nat.reduceSub, reduceIte, Int.reduceToNat, Int.reduceEq, Int.reduceLT, Int.reduceLE, Nat.reduceLeDiff, Nat.reduceEqDiff, eq_self, and_self])
    unfold putM
    rw [if_neg h1, if_neg (by omega), if_pos (by omega)]
    exact Left_.same h (Fr.refl _ _) 3
  refine H_condF rfl (by simp; omega) ?_
  repeat' (first | refine H_seq ?_ | refine H_block ?_ | refine H_skip ?_ | refine H_nil ?_ | refine H_exit ?_ | refine H_ret ?_ | refine B_normal ?_ | refine B_same ?_ | refine B_other rfl ?_ | refine B_ret ?_ | refine L_exit ?_ | refine L_ret ?_)
  obtain ⟨A, rfl⟩ : ∃ A : Nat, at_ = A := ⟨at_.toNat, by omega⟩
  refine H_region k26 s26_9 rfl fun K hK => ?_; simp (config := { maxSteps := 4000000 }) only [go_sem, beq_self_eq_true, List.getElem_toArray, List.getElem_cons_zero, List.getElem_cons_succ, decide_true, decide_false, cond_true, cond_false, Nat.reduceBEq, reduceCtorEq, Nat.reduceAdd, Nat.reduceMul, Nat.reduceSub, reduceIte, Int.reduceToNat, Int.reduceEq, Int.reduceLT, Int.reduceLE, Nat.reduceLeDiff, Nat.reduceEqDiff, eq_self, and_self, s26_9]
  rw [wrapI (by omega), show ((A : Int) + k) = ((A + k : Nat) : Int) by omega]
  refine hK _ _ ?_; clear hK K
  repeat' (first | refine H_seq ?_ | refine H_block ?_ | refine H_skip ?_ | refine H_nil ?_ | refine H_exit ?_ | refine H_ret ?_ | refine B_normal ?_ | refine B_same ?_ | refine B_other rfl ?_ | refine B_ret ?_ | refine L_exit ?_ | refine L_ret ?_)
  refine H_region k26 s26_10 rfl fun K hK => ?_; simp (config := { maxSteps := 4000000 }) only [go_sem, beq_self_eq_true, List.getElem_toArray, List.getElem_cons_zero, List.getElem_cons_succ, decide_true, decide_false, cond_true, cond_false, Nat.reduceBEq, reduceCtorEq, Nat.reduceAdd, Nat.reduceMul, Nat.reduceSub, reduceIte, Int.reduceToNat, Int.reduceEq, Int.reduceLT, Int.reduceLE, Nat.reduceLeDiff, Nat.reduceEqDiff, eq_self, and_self, s26_10]
  refine callC tcall_43 (behind_spec s a n c size ms _ _ hh) ?_
  rintro v u ⟨i, rfl, hi, f⟩
  (try simp (config := { maxSteps := 4000000 }) only [go_sem, beq_self_eq_true, List.getElem_toArray, List.getElem_cons_zero, List.getElem_cons_succ, decide_true, decide_false, cond_true, cond_false, Nat.reduceBEq, reduceCtorEq, Nat.reduceAdd, Nat.reduceMul, Nat.reduceSub, reduceIte, Int.reduceToNat, Int.reduceEq, Int.reduceLT, Int.reduceLE, Nat.reduceLeDiff, Nat.reduceEqDiff, eq_self, and_self])
  refine hK _ _ ?_; clear hK K
  repeat' (first | refine H_seq ?_ | refine H_block ?_ | refine H_skip ?_ | refine H_nil ?_ | refine H_exit ?_ | refine H_ret ?_ | refine B_normal ?_ | refine B_same ?_ | refine B_other rfl ?_ | refine B_ret ?_ | refine L_exit ?_ | refine L_ret ?_)
  have hu := hh.fr f
  refine H_region k26 s26_11 rfl fun K hK => ?_; simp (config := { maxSteps := 4000000 }) only [go_sem, beq_self_eq_true, List.getElem_toArray, List.getElem_cons_zero, List.getElem_cons_succ, decide_true, decide_false, cond_true, cond_false, Nat.reduceBEq, reduceCtorEq, Nat.reduceAdd, Nat.reduceMul, Nat.reduceSub, reduceIte, Int.reduceToNat, Int.reduceEq, Int.reduceLT, Int.reduceLE, Nat.reduceLeDiff, Nat.reduceEqDiff, eq_self, and_self, s26_11, hu.hs.cell]
  suffices hc : ∀ (d : Bool) (u2 : World), Fr Nob u u2 → (d = true → ∃ m, ms[i]? = some m ∧ m.at_ ≤ A ∧ A + k ≤ m.at_ + m.bs.length) →
      K [(0, ptrV s), (1, .int .i64 A), (2, .slice a' k c'), (6, .int .i64 0), (7, .int .i64 (A + k : Nat)), (8, .int .i64 i), (13, .bool false), (16, .bool (decide ((A : Int) < 0))), (19, .bool (decide ((k : Int) = 0))), (23, .bool (decide (1073741824 - (k : Int) < A))), (66, .bool d)] u2 by
    refine grd_split (fun h5 => ?_) (fun h5 => ?_)
    · have hin : i < n := by simp at h5; exact h5
      obtain ⟨b, o, rfl, hcl⟩ := hu.cells (by omega)
      obtain ⟨m, hm⟩ : ∃ m, ms[i]? = some m := ⟨ms[i]'(by omega), List.getElem?_eq_getElem _⟩
      obtain ⟨c0, c1⟩ := hcl i m hm
      have he := canon_end h.canon (List.mem_of_getElem? hm)
      (try simp (config := { maxSteps := 4000000 }) only [go_sem, beq_self_eq_true, List.getElem_toArray, List.getElem_cons_zero, List.getElem_cons_succ, decide_true, decide_false, cond_true, cond_false, Nat.reduceBEq, reduceCtorEq, Nat.reduceAdd, Nat.reduceMul, Nat.reduceSub, reduceIte, Int.reduceToNat, Int.reduceEq, Int.reduceLT, Int.reduceLE, Nat.reduceLeDiff, Nat.reduceEqDiff, eq_self, and_self, h5, hu.hs.cell, c0, c1])
      refine ⟨by omega, grd_split (fun h6 => ?_) (fun h6 => ?_)⟩
      · (try simp (config := { maxSteps := 4000000 }) only [go_sem, beq_self_eq_true, List.getElem_toArray, List.getElem_cons_zero, List.getElem_cons_succ, decide_true, decide_false, cond_true, cond_false, Nat.reduceBEq, reduceCtorEq, Nat.reduceAdd, Nat.reduceMul, Nat.reduceSub, reduceIte, Int.reduceToNat, Int.reduceEq, Int.reduceLT, Int.reduceLE, Nat.reduceLeDiff, Nat.reduceEqDiff, eq_self, and_self, h5, h6, hu.hs.cell, c0, c1])
        refine ⟨by omega, callC tcall_44 (end_spec _ _ _ _ _ (by omega) (by omega) (by omega)) ?_⟩
        rintro v2 u2 ⟨rfl, f2⟩
        simp (config := { maxSteps := 4000000 }) only [go_sem, beq_self_eq_true, List.getElem_toArray, List.getElem_cons_zero, List.getElem_cons_succ, decide_true, decide_false, cond_true, cond_false, Nat.reduceBEq, reduceCtorEq, Nat.reduceAdd, Nat.reduceMul, Nat.reduceSub, reduceIte, Int.reduceToNat, Int.reduceEq, Int.reduceLT, Int.reduceLE, Nat.reduceLeDiff, Nat.reduceEqDiff, eq_self, and_self, s26_11_1]
        exact hc _ u2 f2 fun h7 => ⟨m, hm, by simp at h6; omega, by simp at h7; omega⟩
      · (try simp (config := { maxSteps := 4000000 }) only [go_sem, beq_self_eq_true, List.getElem_toArray, List.getElem_cons_zero, List.getElem_cons_succ, decide_true, decide_false, cond_true, cond_false, Nat.reduceBEq, reduceCtorEq, Nat.reduceAdd, Nat.reduceMul, Nat.reduceSub, reduceIte, Int.reduceToNat, Int.reduceEq, Int.reduceLT, Int.reduceLE, Nat.reduceLeDiff, Nat.reduceEqDiff, eq_self, and_self, h5, h6, hu.hs.cell, c0, c1])
        exact hc _ u (Fr.refl _ _) fun h7 => by cases h7
    · (try simp (config := { maxSteps := 4000000 }) only [go_sem, beq_self_eq_true, List.getElem_toArray, List.getElem_cons_zero, List.getElem_cons_succ, decide_true, decide_false, cond_true, cond_false, Nat.reduceBEq, reduceCtorEq, Nat.reduceAdd, Nat.reduceMul, Nat.reduceSub, reduceIte, Int.reduceToNat, Int.reduceEq, Int.reduceLT, Int.reduceLE, Nat.reduceLeDiff, Nat.reduceEqDiff, eq_self, and_self, h5])
      exact hc _ u (Fr.refl _ _) fun h7 => by cases h7
  intro d u2 f2 hd
  have hu2 := hu.fr f2
  have fw2 : Fr Nob w u2 := f.trans f2
  clear hu f f2
  refine hK _ _ ?_; clear hK K
  repeat' (first | refine H_seq ?_ | refine H_block ?_ | refine H_skip ?_ | refine H_nil ?_ | refine H_exit ?_ | refine H_ret ?_ | refine B_normal ?_ | refine B_same ?_ | refine B_other rfl ?_ | refine B_ret ?_ | refine L_exit ?_ | refine L_ret ?_)
  cases d with
  | true =>
    obtain ⟨m, hm, hm1, hm2⟩ := hd rfl
    have hin : i < n := by rw [← hn]; exact (List.getElem?_eq_some_iff.1 hm).1
    have he := canon_end h.canon (List.mem_of_getElem? hm)
    obtain ⟨b, o, rfl, hcl⟩ := hu2.cells (by omega)
    obtain ⟨c0, c1⟩ := hcl i m hm
    refine H_condT rfl rfl ?_
    repeat' (first | refine H_seq ?_ | refine H_block ?_ | refine H_skip ?_ | refine H_nil ?_ | refine H_exit ?_ | refine H_ret ?_ | refine B_normal ?_ | refine B_same ?_ | refine B_other rfl ?_ | refine B_ret ?_ | refine L_exit ?_ | refine L_ret ?_)
    refine H_drawn k26 s26_12 p26_12 (Nob) rfl mixed (by as_aux_lemma => kernel_rfl) fun K hK => ?_; simp (config := { maxSteps := 4000000 }) only [go_sem, beq_self_eq_true, List.getElem_toArray, List.getElem_cons_zero, List.getElem_cons_succ, decide_true, decide_false, cond_true, cond_false, Nat.reduceBEq, reduceCtorEq, Nat.reduceAdd, Nat.reduceMul, Nat.reduceSub, reduceIte, Int.reduceToNat, Int.reduceEq, Int.reduceLT, Int.reduceLE, Nat.reduceLeDiff, Nat.reduceEqDiff, eq_self, and_self, s26_12, p26_12, hu2.hs.cell, c0, c1]
    have hs2 := h.fr fw2 (fun _ _ q => q)
    obtain ⟨g1, g2, cs, g3, g4, g5⟩ := hs2.oks m (List.mem_of_getElem? hm)
    rw [wrapI (by omega), show ((A : Int) - m.at_).toNat = A - m.at_ by omega, adv_some m.b m.o 1 (show A - m.at_ < m.c by omega)]
    refine ⟨fun q => q, by omega, fun q => q, fun q => q, by omega, fun q => q, by omega, copyS rfl tsl_40 g3 (by omega) (hb.fr fw2 (fun _ _ q => q)) (fun u hu => bvs_one _ u (List.mem_of_mem_take hu)) ?_⟩
    rw [Nat.mul_one, Nat.mul_one, List.take_of_length_le (show (bvs bs).length ≤ min k (m.bs.length - (A - m.at_)) by rw [bvs_len]; omega)]
    intro u3 p3
    refine hK _ _ ?_; clear hK K
    repeat' (first | refine H_seq ?_ | refine H_block ?_ | refine H_skip ?_ | refine H_nil ?_ | refine H_exit ?_ | refine H_ret ?_ | refine B_normal ?_ | refine B_same ?_ | refine B_other rfl ?_ | refine B_ret ?_ | refine L_exit ?_ | refine L_ret ?_)
    refine H_region k26 s26_13 rfl fun K hK => ?_; simp (config := { maxSteps := 4000000 }) only [go_sem, beq_self_eq_true, List.getElem_toArray, List.getElem_cons_zero, List.getElem_cons_succ, decide_true, decide_false, cond_true, cond_false, Nat.reduceBEq, reduceCtorEq, Nat.reduceAdd, Nat.reduceMul, Nat.reduceSub, reduceIte, Int.reduceToNat, Int.reduceEq, Int.reduceLT, Int.reduceLE, Nat.reduceLeDiff, Nat.reduceEqDiff, eq_self, and_self, s26_13]
    refine hK _ _ ?_; clear hK K
    repeat' (first | refine H_seq ?_ | refine H_block ?_ | refine H_skip ?_ | refine H_nil ?_ | refine H_exit ?_ | refine H_ret ?_ | refine B_normal ?_ | refine B_same ?_ | refine B_other rfl ?_ | refine B_ret ?_ | refine L_exit ?_ | refine L_ret ?_)
    refine F_ret ?_
    (try simp (config := { maxSteps := 4000000 }) only [go_sem, beq_self_eq_true, List.getElem_toArray, List.getElem_cons_zero, List.getElem_cons_succ, decide_true, decide_false, cond_true, cond_false, Nat.reduceBEq, reduceCtorEq, Nat.reduceAdd, Nat.reduceMul, Nat.reduceSub, reduceIte, Int.reduceToNat, Int.reduceEq, Int.reduceLT, Int.reduceLE, Nat.reduceLeDiff, Nat.reduceEqDiff, eq_self, and_self])
    have hlay := hs2.lay hm (k := A - m.at_) (bs := bs) (by omega) g3 p3
    have hsz2 := fw2.size
    refine Left_.lay h hm hm1 (by omega) (by omega) ⟨hlay.1.mono (fun b _ q => ?_), (fw2.nob).trans hlay.2⟩
    rcases q with q | q
    · exact .inl q
    · exact .inr (by omega)
  | false =>
    refine H_condF rfl rfl ?_
    repeat' (first | refine H_seq ?_ | refine H_block ?_ | refine H_skip ?_ | refine H_nil ?_ | refine H_exit ?_ | refine H_ret ?_ | refine B_normal ?_ | refine B_same ?_ | refine B_other rfl ?_ | refine B_ret ?_ | refine L_exit ?_ | refine L_ret ?_)
    refine H_region k26 s26_14 rfl fun K hK => ?_; simp (config := { maxSteps := 4000000 }) only [go_sem, beq_self_eq_true, List.getElem_toArray, List.getElem_cons_zero, List.getElem_cons_succ, decide_true, decide_false, cond_true, cond_false, Nat.reduceBEq, reduceCtorEq, Nat.reduceAdd, Nat.reduceMul, Nat.reduceSub, reduceIte, Int.reduceToNat, Int.reduceEq, Int.reduceLT, Int.reduceLE, Nat.reduceLeDiff, Nat.reduceEqDiff, eq_self, and_self, s26_14]
    have hs2 := h.fr fw2 (fun _ _ q => q)
    refine callC tcall_45 (cleared_spec s a n c size ms A (A + k) _ hu2 hs2.oks (by omega) (by omega)) ?_
    rintro v u3 ⟨lv, rfl, ho, hbk, f3⟩
    obtain ⟨al, nl, cl, rfl⟩ := ho.lit
    (try simp (config := { maxSteps := 4000000 }) only [go_sem, beq_self_eq_true, List.getElem_toArray, List.getElem_cons_zero, List.getElem_cons_succ, decide_true, decide_false, cond_true, cond_false, Nat.reduceBEq, reduceCtorEq, Nat.reduceAdd, Nat.reduceMul, Nat.reduceSub, reduceIte, Int.reduceToNat, Int.reduceEq, Int.reduceLT, Int.reduceLE, Nat.reduceLeDiff, Nat.reduceEqDiff, eq_self, and_self])
    refine hK _ _ ?_; clear hK K
    repeat' (first | refine H_seq ?_ | refine H_block ?_ | refine H_skip ?_ | refine H_nil ?_ | refine H_exit ?_ | refine H_ret ?_ | refine B_normal ?_ | refine B_same ?_ | refine B_other rfl ?_ | refine B_ret ?_ | refine L_exit ?_ | refine L_ret ?_)
    refine H_region k26 s26_15 rfl fun K hK => ?_; simp (config := { maxSteps := 4000000 }) only [go_sem, beq_self_eq_true, List.getElem_toArray, List.getElem_cons_zero, List.getElem_cons_succ, decide_true, decide_false, cond_true, cond_false, Nat.reduceBEq, reduceCtorEq, Nat.reduceAdd, Nat.reduceMul, Nat.reduceSub, reduceIte, Int.reduceToNat, Int.reduceEq, Int.reduceLT, Int.reduceLE, Nat.reduceLeDiff, Nat.reduceEqDiff, eq_self, and_self, s26_15]
    have hL := clearML_pc A (A + k) ms
    have hLh : heldL (clearL A (A + k) (ms.map MP.pc)) ≤ 4194304 := Nat.le_trans (clear_held (by omega) _) h.canon.held
    have hnl : (ms.flatMap (clearMP A (A + k))).length = nl := (ho.row.elem (f := MP.cells) (fun _ _ => rfl) (by decide)).1
    have hLl := clearML_len A (A + k) ms
    refine callC tcall_42 (held_spec al nl cl _ _ ho.row (by rw [hL]; omega) (by omega)) ?_
    rintro v4 u4 ⟨rfl, f4⟩
    simp (config := { maxSteps := 4000000 }) only [go_sem, beq_self_eq_true, List.getElem_toArray, List.getElem_cons_zero, List.getElem_cons_succ, decide_true, decide_false, cond_true, cond_false, Nat.reduceBEq, reduceCtorEq, Nat.reduceAdd, Nat.reduceMul, Nat.reduceSub, reduceIte, Int.reduceToNat, Int.reduceEq, Int.reduceLT, Int.reduceLE, Nat.reduceLeDiff, Nat.reduceEqDiff, eq_self, and_self, s26_15_1]
    rw [hL, wrapI (by omega)]
    refine hK _ _ ?_; clear hK K
    repeat' (first | refine H_seq ?_ | refine H_block ?_ | refine H_skip ?_ | refine H_nil ?_ | refine H_exit ?_ | refine H_ret ?_ | refine B_normal ?_ | refine B_same ?_ | refine B_other rfl ?_ | refine B_ret ?_ | refine L_exit ?_ | refine L_ret ?_)
    by_cases h6 : 4194304 < heldL (clearL A (A + k) (ms.map MP.pc)) + k
    · refine H_condT rfl (by simp; omega) ?_
      repeat' (first | refine H_seq ?_ | refine H_block ?_ | refine H_skip ?_ | refine H_nil ?_ | refine H_exit ?_ | refine H_ret ?_ | refine B_normal ?_ | refine B_same ?_ | refine B_other rfl ?_ | refine B_ret ?_ | refine L_exit ?_ | refine L_ret ?_)
      refine H_region k26 s26_16 rfl fun K hK => ?_; simp (config := { maxSteps := 4000000 }) only [go_sem, beq_self_eq_true, List.getElem_toArray, List.getElem_cons_zero, List.getElem_cons_succ, decide_true, decide_false, cond_true, cond_false, Nat.reduceBEq, reduceCtorEq, Nat.reduceAdd, Nat.reduceMul, Nat.reduceSub, reduceIte, Int.reduceToNat, Int.reduceEq, Int.reduceLT, Int.reduceLE, Nat.reduceLeDiff, Nat.reduceEqDiff, eq_self, and_self, s26_16]
      refine hK _ _ ?_; clear hK K
      repeat' (first | refine H_seq ?_ | refine H_block ?_ | refine H_skip ?_ | refine H_nil ?_ | refine H_exit ?_ | refine H_ret ?_ | refine B_normal ?_ | refine B_same ?_ | refine B_other rfl ?_ | refine B_ret ?_ | refine L_exit ?_ | refine L_ret ?_)
      refine F_ret ?_
      (try simp (config := { maxSteps := 4000000 }) only [go_sem, beq_self_eq_true, List.getElem_toArray, List.getElem_cons_zero, List.getElem_cons_succ, decide_true, decide_false, cond_true, cond_false, Nat.reduceBEq, reduceCtorEq, Nat.reduceAdd, Nat.reduceMul, Nat.reduceSub, reduceIte, Int.reduceToNat, Int.reduceEq, Int.reduceLT, Int.reduceLE, Nat.reduceLeDiff, Nat.reduceEqDiff, eq_self, and_self])
      unfold putM
      rw [if_neg h1, if_neg (by omega), if_neg (by omega), Int.toNat_natCast, hkl, if_pos (by omega)]
      exact Left_.same h (fw2.trans (f3.trans f4)) 3
    refine H_condF rfl (by simp; omega) ?_
    repeat' (first | refine H_seq ?_ | refine H_block ?_ | refine H_skip ?_ | refine H_nil ?_ | refine H_exit ?_ | refine H_ret ?_ | refine B_normal ?_ | refine B_same ?_ | refine B_other rfl ?_ | refine B_ret ?_ | refine L_exit ?_ | refine L_ret ?_)
    obtain ⟨PA, PB, hPL, hPN, hPA, hPB⟩ := clear_split (f := A) (t := A + k) (by omega) h.canon.ord
    have hNN : PA.length = aheadN A ms := by
      rw [hPN, aheadN, List.filter_map, List.length_map]; rfl
    have hordL := clear_ord (f := A) (t := A + k) (by omega) h.canon.ord
    have hNL : aheadN A ms ≤ (clearL A (A + k) (ms.map MP.pc)).length := by rw [hPL, List.length_append]; omega
    have hpt : (clearL A (A + k) (ms.map MP.pc)).take (aheadN A ms) = PA := by rw [hPL, List.take_left' hNN]
    have hpd : (clearL A (A + k) (ms.map MP.pc)).drop (aheadN A ms) = PB := by rw [hPL, List.drop_left' hNN]
    rw [← hpt] at hPA
    rw [← hpd] at hPB
    have hokL : ∀ x ∈ ms.flatMap (clearMP A (A + k)), x.ok u3 := fun x hx => (clearML_ok hs2.oks x hx).fr f3 (fun q => q)
    have hderL := clearML_der (f := A) (t := A + k) (ms := ms)
    have hcanL : ∀ (j : Nat) x, (ms.flatMap (clearMP A (A + k)))[j]? = some x → (clearL A (A + k) (ms.map MP.pc))[j]? = some x.pc ∧ 0 < x.bs.length ∧ x.at_ + x.bs.length ≤ size := fun j x hx => by
      have e : (clearL A (A + k) (ms.map MP.pc))[j]? = some x.pc := by rw [← hL, List.getElem?_map, hx]; rfl
      have := hordL.lo _ (List.mem_of_getElem? e)
      exact ⟨e, this.2.1, this.2.2⟩
    have hlenP : (clearL A (A + k) (ms.map MP.pc)).length = nl := by rw [← hL, List.length_map, hnl]
    generalize hLM : ms.flatMap (clearMP A (A + k)) = L at *
    generalize hLP : clearL A (A + k) (ms.map MP.pc) = LP at *
    generalize hNA : aheadN A ms = N at *
    have hlv3 : ∀ b, blk (.slice al nl cl) = some b → b < u3.heap.size := fun b hb => ho.blk_lt hb
    have hNb : N ≤ nl ∧ nl ≤ 8388608 := by omega
    clear hPL hPN hNN hpt hpd hLM
    refine H_region k26 s26_17 rfl fun K hK => ?_; simp (config := { maxSteps := 4000000 }) only [go_sem, beq_self_eq_true, List.getElem_toArray, List.getElem_cons_zero, List.getElem_cons_succ, decide_true, decide_false, cond_true, cond_false, Nat.reduceBEq, reduceCtorEq, Nat.reduceAdd, Nat.reduceMul, Nat.reduceSub, reduceIte, Int.reduceToNat, Int.reduceEq, Int.reduceLT, Int.reduceLE, Nat.reduceLeDiff, Nat.reduceEqDiff, eq_self, and_self, s26_17]
    intro b11 u5 h5
    refine ⟨_, h5.blk, by simp, ?_⟩
    (try simp (config := { maxSteps := 4000000 }) only [go_sem, beq_self_eq_true, List.getElem_toArray, List.getElem_cons_zero, List.getElem_cons_succ, decide_true, decide_false, cond_true, cond_false, Nat.reduceBEq, reduceCtorEq, Nat.reduceAdd, Nat.reduceMul, Nat.reduceSub, reduceIte, Int.reduceToNat, Int.reduceEq, Int.reduceLT, Int.reduceLE, Nat.reduceLeDiff, Nat.reduceEqDiff, eq_self, and_self])
    intro u6 h6'
    have h5n := h5.num
    have f4s := f4.size
    have f36 : Fr Nob u3 u6 := (f4.trans h5.fr).put h6' (.inl (by omega))
    have h11 := h6'.blk
    refine hK _ _ ?_; clear hK K
    repeat' (first | refine H_seq ?_ | refine H_block ?_ | refine H_skip ?_ | refine H_nil ?_ | refine H_exit ?_ | refine H_ret ?_ | refine B_normal ?_ | refine B_same ?_ | refine B_other rfl ?_ | refine B_ret ?_ | refine L_exit ?_ | refine L_ret ?_)
    clear h5 h6' f4
    refine H_region k26 s26_18 rfl fun K hK => ?_; simp (config := { maxSteps := 4000000 }) only [go_sem, beq_self_eq_true, List.getElem_toArray, List.getElem_cons_zero, List.getElem_cons_succ, decide_true, decide_false, cond_true, cond_false, Nat.reduceBEq, reduceCtorEq, Nat.reduceAdd, Nat.reduceMul, Nat.reduceSub, reduceIte, Int.reduceToNat, Int.reduceEq, Int.reduceLT, Int.reduceLE, Nat.reduceLeDiff, Nat.reduceEqDiff, eq_self, and_self, s26_18]
    suffices hc : ∀ (d : Bool) (u7 : World), Fr Nob u6 u7 → (d = true → ∃ x, 0 < N ∧ L[N - 1]? = some x ∧ x.at_ + x.bs.length = A) → (d = false → ∀ x, 0 < N → L[N - 1]? = some x → x.at_ + x.bs.length ≠ A) →
        K [(0, ptrV s), (1, .int .i64 A), (2, .slice a' k c'), (6, .int .i64 0), (7, .int .i64 (A + k : Nat)), (8, .int .i64 i), (9, .slice al nl cl), (10, .int .i64 N), (11, ptrV b11), (12, .int .i64 N), (13, .bool false), (16, .bool (decide ((A : Int) < 0))), (19, .bool (decide ((k : Int) = 0))), (23, .bool (decide (1073741824 - (k : Int) < A))), (66, .bool false), (100, .bool (decide (4194304 < (heldL LP : Int) + k))), (115, .bool d)] u7 by
      refine grd_split (fun h7 => ?_) (fun h7 => ?_)
      · have hN0 : 0 < N := by simp at h7; omega
        obtain ⟨b8, o8, rfl, _, hcl⟩ := rowM_cells (ho.row.fr f36 (fun _ _ q => q)) (by omega)
        obtain ⟨x, hx⟩ : ∃ x, L[N - 1]? = some x := by
          have : L.length = nl := (ho.row.elem (f := MP.cells) (fun _ _ => rfl) (by decide)).1
          exact ⟨L[N - 1]'(by omega), List.getElem?_eq_getElem _⟩
        obtain ⟨c0, c1⟩ := hcl _ x hx
        have hxe := (hcanL _ x hx).2
        have e1 : IntKind.i64.wrap ((N : Int) - 1) = ((N - 1 : Nat) : Int) := by rw [wrapI (by omega)]; omega
        (try simp (config := { maxSteps := 4000000 }) only [go_sem, beq_self_eq_true, List.getElem_toArray, List.getElem_cons_zero, List.getElem_cons_succ, decide_true, decide_false, cond_true, cond_false, Nat.reduceBEq, reduceCtorEq, Nat.reduceAdd, Nat.reduceMul, Nat.reduceSub, reduceIte, Int.reduceToNat, Int.reduceEq, Int.reduceLT, Int.reduceLE, Nat.reduceLeDiff, Nat.reduceEqDiff, eq_self, and_self, h7, e1, c0, c1])
        refine ⟨by omega, callC tcall_44 (end_spec _ _ _ _ _ (by omega) (by omega) (by omega)) ?_⟩
        rintro v7 u7 ⟨rfl, f7⟩
        simp (config := { maxSteps := 4000000 }) only [go_sem, beq_self_eq_true, List.getElem_toArray, List.getElem_cons_zero, List.getElem_cons_succ, decide_true, decide_false, cond_true, cond_false, Nat.reduceBEq, reduceCtorEq, Nat.reduceAdd, Nat.reduceMul, Nat.reduceSub, reduceIte, Int.reduceToNat, Int.reduceEq, Int.reduceLT, Int.reduceLE, Nat.reduceLeDiff, Nat.reduceEqDiff, eq_self, and_self, s26_18_1]
        exact hc _ u7 f7 (fun h8 => ⟨x, hN0, hx, by simp at h8; omega⟩) (fun h8 y _ hy => by rw [hx] at hy; cases hy; simp at h8; omega)
      · (try simp (config := { maxSteps := 4000000 }) only [go_sem, beq_self_eq_true, List.getElem_toArray, List.getElem_cons_zero, List.getElem_cons_succ, decide_true, decide_false, cond_true, cond_false, Nat.reduceBEq, reduceCtorEq, Nat.reduceAdd, Nat.reduceMul, Nat.reduceSub, reduceIte, Int.reduceToNat, Int.reduceEq, Int.reduceLT, Int.reduceLE, Nat.reduceLeDiff, Nat.reduceEqDiff, eq_self, and_self, h7])
        exact hc _ u6 (Fr.refl _ _) (fun h8 => by cases h8) (fun _ x h9 => by simp at h7; omega)
    intro d u7 f67 hdT hdF
    have h117 := h11.fr f67 (fun q => q)
    have f37 := f36.trans f67
    refine hK _ _ ?_; clear hK K
    repeat' (first | refine H_seq ?_ | refine H_block ?_ | refine H_skip ?_ | refine H_nil ?_ | refine H_exit ?_ | refine H_ret ?_ | refine B_normal ?_ | refine B_same ?_ | refine B_other rfl ?_ | refine B_ret ?_ | refine L_exit ?_ | refine L_ret ?_)
    clear h11 f67 f36
    have hb11 : u3.heap.size ≤ b11 := by omega
    refine H_cut (fun E u9 => ∃ i' at0 Y0 ao no co, E = [(0, ptrV s), (1, .int .i64 A), (2, .slice a' k c'), (6, .int .i64 0), (7, .int .i64 (A + k : Nat)), (8, .int .i64 i), (9, .slice al nl cl), (10, .int .i64 (i' : Nat)), (11, ptrV b11), (12, .int .i64 (N : Nat)), (13, .bool false), (16, .bool (decide ((A : Int) < 0))), (19, .bool (decide ((k : Int) = 0))), (23, .bool (decide (1073741824 - (k : Int) < A))), (66, .bool false), (100, .bool (decide (4194304 < (heldL LP : Int) + k))), (115, .bool d)] ∧ Fr Nob u3 u9 ∧
        Own u9 (.slice ao no co) 1 (bvs Y0) ∧ (∀ b, blk (.slice ao no co) = some b → u3.heap.size ≤ b ∧ b ≠ b11) ∧ W u9 b11 [.int .i64 (at0 : Nat), .slice ao no co] ∧ at0 + Y0.length = A ∧
        ((i' = N ∧ at0 = A ∧ Y0 = [] ∧ ∀ p, 0 < N → LP[N - 1]? = some p → p.1 + p.2.length ≠ A) ∨ (∃ p, 0 < N ∧ LP[N - 1]? = some p ∧ p.1 + p.2.length = A ∧ i' + 1 = N ∧ at0 = p.1 ∧ Y0 = p.2))) ?_ ?_
    · cases d with
      | true =>
        obtain ⟨x, hN0, hx, hxA⟩ := hdT rfl
        have hrl := ho.row.fr f37 (fun _ _ q => q)
        have hxe := (hcanL _ x hx).2
        have hxp := (hcanL _ x hx).1
        have hxo := (hokL x (List.mem_of_getElem? hx)).fr f37 (fun q => q)
        refine H_condT rfl rfl ?_
        repeat' (first | refine H_seq ?_ | refine H_block ?_ | refine H_skip ?_ | refine H_nil ?_ | refine H_exit ?_ | refine H_ret ?_ | refine B_normal ?_ | refine B_same ?_ | refine B_other rfl ?_ | refine B_ret ?_ | refine L_exit ?_ | refine L_ret ?_)
        have e1 : IntKind.i64.wrap ((N : Int) - 1) = ((N - 1 : Nat) : Int) := by rw [wrapI (by omega)]; omega
        refine H_region k26 s26_19 rfl fun K hK => ?_; simp (config := { maxSteps := 4000000 }) only [go_sem, beq_self_eq_true, List.getElem_toArray, List.getElem_cons_zero, List.getElem_cons_succ, decide_true, decide_false, cond_true, cond_false, Nat.reduceBEq, reduceCtorEq, Nat.reduceAdd, Nat.reduceMul, Nat.reduceSub, reduceIte, Int.reduceToNat, Int.reduceEq, Int.reduceLT, Int.reduceLE, Nat.reduceLeDiff, Nat.reduceEqDiff, eq_self, and_self, s26_19, e1]
        refine hK _ _ ?_; clear hK K
        repeat' (first | refine H_seq ?_ | refine H_block ?_ | refine H_skip ?_ | refine H_nil ?_ | refine H_exit ?_ | refine H_ret ?_ | refine B_normal ?_ | refine B_same ?_ | refine B_other rfl ?_ | refine B_ret ?_ | refine L_exit ?_ | refine L_ret ?_)
        obtain ⟨b8, o8, rfl, _, hcl⟩ := rowM_cells hrl (by omega)
        obtain ⟨c0, c1⟩ := hcl _ x hx
        refine H_drawn k26 s26_20 p26_20 (Nob) rfl mixed (by as_aux_lemma => kernel_rfl) fun K hK => ?_; simp (config := { maxSteps := 4000000 }) only [go_sem, beq_self_eq_true, List.getElem_toArray, List.getElem_cons_zero, List.getElem_cons_succ, decide_true, decide_false, cond_true, cond_false, Nat.reduceBEq, reduceCtorEq, Nat.reduceAdd, Nat.reduceMul, Nat.reduceSub, reduceIte, Int.reduceToNat, Int.reduceEq, Int.reduceLT, Int.reduceLE, Nat.reduceLeDiff, Nat.reduceEqDiff, eq_self, and_self, s26_20, p26_20, c0, c1]
        refine ⟨by omega, fun q => q, by omega, fun q => q, callC tcall_41 (cloneb_spec _ _ _ (MP.row hxo) (bvs_one _) (by rw [bvs_len]; omega)) ?_⟩
        rintro ob u8 ⟨hob, f8, hobn⟩
        obtain ⟨ao, no, co, rfl⟩ := hob.lit
        refine ⟨f8, ?_⟩
        simp (config := { maxSteps := 4000000 }) only [go_sem, beq_self_eq_true, List.getElem_toArray, List.getElem_cons_zero, List.getElem_cons_succ, decide_true, decide_false, cond_true, cond_false, Nat.reduceBEq, reduceCtorEq, Nat.reduceAdd, Nat.reduceMul, Nat.reduceSub, reduceIte, Int.reduceToNat, Int.reduceEq, Int.reduceLT, Int.reduceLE, Nat.reduceLeDiff, Nat.reduceEqDiff, eq_self, and_self, s26_20, p26_20_1]
        refine ⟨_, h117.fr f8 (fun q => q), by simp, ?_⟩
        (try simp (config := { maxSteps := 4000000 }) only [go_sem, beq_self_eq_true, List.getElem_toArray, List.getElem_cons_zero, List.getElem_cons_succ, decide_true, decide_false, cond_true, cond_false, Nat.reduceBEq, reduceCtorEq, Nat.reduceAdd, Nat.reduceMul, Nat.reduceSub, reduceIte, Int.reduceToNat, Int.reduceEq, Int.reduceLT, Int.reduceLE, Nat.reduceLeDiff, Nat.reduceEqDiff, eq_self, and_self])
        intro u9 p9
        have hs37 := f37.size
        have hb117 := h117.lt
        have f39 : Fr Nob u3 u9 := (f37.trans f8).put p9 (.inl hb11)
        have hob9 : Own u9 (.slice ao no co) 1 (bvs x.bs) := hob.fr p9.fr (fun b hb q => by have := hobn b hb; simp only [Onb] at q; omega)
        have hobb : ∀ b, blk (.slice ao no co) = some b → u3.heap.size ≤ b ∧ b ≠ b11 := fun b hb => by have := hobn b hb; exact ⟨by omega, by omega⟩
        have h119 := p9.blk
        have hl : (N - 1 = N ∧ x.at_ = A ∧ x.bs = [] ∧ ∀ p, 0 < N → LP[N - 1]? = some p → p.1 + p.2.length ≠ A) ∨ (∃ p, 0 < N ∧ LP[N - 1]? = some p ∧ p.1 + p.2.length = A ∧ N - 1 + 1 = N ∧ x.at_ = p.1 ∧ x.bs = p.2) :=
          .inr ⟨x.pc, hN0, hxp, hxA, by omega, rfl, rfl⟩
        have hY : x.at_ + x.bs.length = A := hxA
        refine hK _ _ ?_; clear hK K
        repeat' (first | refine H_seq ?_ | refine H_block ?_ | refine H_skip ?_ | refine H_nil ?_ | refine H_exit ?_ | refine H_ret ?_ | refine B_normal ?_ | refine B_same ?_ | refine B_other rfl ?_ | refine B_ret ?_ | refine L_exit ?_ | refine L_ret ?_)
        exact thenE_normal ⟨N - 1, x.at_, x.bs, ao, no, co, rfl, f39, hob9, hobb, h119, hY, hl⟩
      | false =>
        refine H_condF rfl rfl ?_
        repeat' (first | refine H_seq ?_ | refine H_block ?_ | refine H_skip ?_ | refine H_nil ?_ | refine H_exit ?_ | refine H_ret ?_ | refine B_normal ?_ | refine B_same ?_ | refine B_other rfl ?_ | refine B_ret ?_ | refine L_exit ?_ | refine L_ret ?_)
        refine thenE_normal ⟨N, A, [], none, 0, 0, rfl, f37, Own.nil _ _, fun b hb => (by cases hb), h117, rfl, .inl ⟨rfl, rfl, rfl, fun p hN0 hp => ?_⟩⟩
        obtain ⟨x, hx⟩ : ∃ x, L[N - 1]? = some x := ⟨L[N - 1]'(by omega), List.getElem?_eq_getElem _⟩
        rw [(hcanL _ x hx).1] at hp
        cases hp
        exact hdF rfl x hN0 hx
    clear h117 f37 hdT hdF u7
    rintro E u9 ⟨i', at0, Y0, ao, no, co, rfl, f39, hob, hobb, h119, hY, hl⟩
    repeat' (first | refine H_seq ?_ | refine H_block ?_ | refine H_skip ?_ | refine H_nil ?_ | refine H_exit ?_ | refine H_ret ?_ | refine B_normal ?_ | refine B_same ?_ | refine B_other rfl ?_ | refine B_ret ?_ | refine L_exit ?_ | refine L_ret ?_)
    refine H_region k26 s26_21 rfl fun K hK => ?_; simp (config := { maxSteps := 4000000 }) only [go_sem, beq_self_eq_true, List.getElem_toArray, List.getElem_cons_zero, List.getElem_cons_succ, decide_true, decide_false, cond_true, cond_false, Nat.reduceBEq, reduceCtorEq, Nat.reduceAdd, Nat.reduceMul, Nat.reduceSub, reduceIte, Int.reduceToNat, Int.reduceEq, Int.reduceLT, Int.reduceLE, Nat.reduceLeDiff, Nat.reduceEqDiff, eq_self, and_self, s26_21, h119.cell]
    have hb9 := hb.fr (fw2.trans (f3.trans f39)) (fun _ _ q => q)
    refine appendC tsl_40 rfl rfl hob hb9 (bvs_one bs) (by rw [bvs_len, bvs_len]; omega) ?_
    intro v10 u10 ho10 hf10 hb10
    rw [show bvs Y0 ++ bvs bs = bvs (Y0 ++ bs) by simp [bvs]] at ho10
    obtain ⟨a10, n10, c10, rfl⟩ := ho10.lit
    have hb11s := h119.lt
    have h1110 := h119.fr hf10 (fun q => (hobb _ q).2 rfl)
    have hs39 := f39.size
    have f310 : Fr Nob u3 u10 := f39.trans2 hf10 (fun _ _ q => q) (fun b hb' q => by have := (hobb b q).1; omega)
    have hobb10 : ∀ b, blk (.slice a10 n10 c10) = some b → u3.heap.size ≤ b ∧ b ≠ b11 := fun b hb' => by
      rcases hb10 with e | ⟨b2, e, hb2⟩
      · exact hobb b (by rw [← e]; exact hb')
      · rw [hb'] at e; cases e; exact ⟨by omega, by omega⟩
    clear hb10
    refine ⟨rfl, _, h1110, by simp [vcells_slice], by simp [vcells_slice, Value.oneCell'], ?_⟩
    (try simp (config := { maxSteps := 4000000 }) only [go_sem, beq_self_eq_true, List.getElem_toArray, List.getElem_cons_zero, List.getElem_cons_succ, decide_true, decide_false, cond_true, cond_false, Nat.reduceBEq, reduceCtorEq, Nat.reduceAdd, Nat.reduceMul, Nat.reduceSub, reduceIte, Int.reduceToNat, Int.reduceEq, Int.reduceLT, Int.reduceLE, Nat.reduceLeDiff, Nat.reduceEqDiff, eq_self, and_self])
    intro u11 p11
    have f311 : Fr Nob u3 u11 := f310.put p11 (.inl hb11)
    have ho11 : Own u11 (.slice a10 n10 c10) 1 (bvs (Y0 ++ bs)) := ho10.fr p11.fr (fun b hb' q => (hobb10 b hb').2 q)
    have h1111 := p11.blk
    refine hK _ _ ?_; clear hK K
    repeat' (first | refine H_seq ?_ | refine H_block ?_ | refine H_skip ?_ | refine H_nil ?_ | refine H_exit ?_ | refine H_ret ?_ | refine B_normal ?_ | refine B_same ?_ | refine B_other rfl ?_ | refine B_ret ?_ | refine L_exit ?_ | refine L_ret ?_)
    clear f310 hf10 p11 h1110 ho10 f39 hob h119 hb9 hobb hs39
    refine H_region k26 s26_22 rfl fun K hK => ?_; simp (config := { maxSteps := 4000000 }) only [go_sem, beq_self_eq_true, List.getElem_toArray, List.getElem_cons_zero, List.getElem_cons_succ, decide_true, decide_false, cond_true, cond_false, Nat.reduceBEq, reduceCtorEq, Nat.reduceAdd, Nat.reduceMul, Nat.reduceSub, reduceIte, Int.reduceToNat, Int.reduceEq, Int.reduceLT, Int.reduceLE, Nat.reduceLeDiff, Nat.reduceEqDiff, eq_self, and_self, s26_22]
    suffices hc : ∀ e : Bool, (e = true → ∃ x, L[N]? = some x ∧ x.at_ = A + k) → (e = false → ∀ x, L[N]? = some x → x.at_ ≠ A + k) → K [(0, ptrV s), (1, .int .i64 A), (2, .slice a' k c'), (6, .int .i64 0), (7, .int .i64 (A + k : Nat)), (8, .int .i64 i), (9, .slice al nl cl), (10, .int .i64 (i' : Nat)), (11, ptrV b11), (12, .int .i64 (N : Nat)), (13, .bool false), (16, .bool (decide ((A : Int) < 0))), (19, .bool (decide ((k : Int) = 0))), (23, .bool (decide (1073741824 - (k : Int) < A))), (66, .bool false), (100, .bool (decide (4194304 < (heldL LP : Int) + k))), (115, .bool d), (147, .bool e)] u11 by
      refine grd_split (fun h7 => ?_) (fun h7 => ?_)
      · have hN0 : N < nl := by simp at h7; omega
        obtain ⟨b8, o8, rfl, _, hcl⟩ := rowM_cells (ho.row.fr f311 (fun _ _ q => q)) (by omega)
        obtain ⟨x, hx⟩ : ∃ x, L[N]? = some x := ⟨L[N]'(by omega), List.getElem?_eq_getElem _⟩
        obtain ⟨c0, c1⟩ := hcl _ x hx
        (try simp (config := { maxSteps := 4000000 }) only [go_sem, beq_self_eq_true, List.getElem_toArray, List.getElem_cons_zero, List.getElem_cons_succ, decide_true, decide_false, cond_true, cond_false, Nat.reduceBEq, reduceCtorEq, Nat.reduceAdd, Nat.reduceMul, Nat.reduceSub, reduceIte, Int.reduceToNat, Int.reduceEq, Int.reduceLT, Int.reduceLE, Nat.reduceLeDiff, Nat.reduceEqDiff, eq_self, and_self, h7, c0, c1])
        refine ⟨by omega, ?_⟩
        exact hc _ (fun h8 => ⟨x, hx, by simp at h8; omega⟩) (fun h8 y hy => by rw [hx] at hy; cases hy; simp at h8; omega)
      · (try simp (config := { maxSteps := 4000000 }) only [go_sem, beq_self_eq_true, List.getElem_toArray, List.getElem_cons_zero, List.getElem_cons_succ, decide_true, decide_false, cond_true, cond_false, Nat.reduceBEq, reduceCtorEq, Nat.reduceAdd, Nat.reduceMul, Nat.reduceSub, reduceIte, Int.reduceToNat, Int.reduceEq, Int.reduceLT, Int.reduceLE, Nat.reduceLeDiff, Nat.reduceEqDiff, eq_self, and_self, h7])
        exact hc _ (fun h8 => by cases h8) (fun _ x hx => by have := (List.getElem?_eq_some_iff.1 hx).1; simp at h7; omega)
    intro e heT heF
    refine hK _ _ ?_; clear hK K
    repeat' (first | refine H_seq ?_ | refine H_block ?_ | refine H_skip ?_ | refine H_nil ?_ | refine H_exit ?_ | refine H_ret ?_ | refine B_normal ?_ | refine B_same ?_ | refine B_other rfl ?_ | refine B_ret ?_ | refine L_exit ?_ | refine L_ret ?_)
    refine H_cut (fun E u => ∃ j' Y2 a2 n2 c2, E = [(0, ptrV s), (1, .int .i64 A), (2, .slice a' k c'), (6, .int .i64 0), (7, .int .i64 (A + k : Nat)), (8, .int .i64 i), (9, .slice al nl cl), (10, .int .i64 (i' : Nat)), (11, ptrV b11), (12, .int .i64 (j' : Nat)), (13, .bool false), (16, .bool (decide ((A : Int) < 0))), (19, .bool (decide ((k : Int) = 0))), (23, .bool (decide (1073741824 - (k : Int) < A))), (66, .bool false), (100, .bool (decide (4194304 < (heldL LP : Int) + k))), (115, .bool d), (147, .bool e)] ∧ Fr Nob u3 u ∧
        Own u (.slice a2 n2 c2) 1 (bvs Y2) ∧ (∀ b, blk (.slice a2 n2 c2) = some b → u3.heap.size ≤ b ∧ b ≠ b11) ∧ W u b11 [.int .i64 (at0 : Nat), .slice a2 n2 c2] ∧
        ((j' = N ∧ Y2 = Y0 ++ bs ∧ ∀ p, LP[N]? = some p → p.1 ≠ A + bs.length) ∨ (∃ p, LP[N]? = some p ∧ p.1 = A + bs.length ∧ j' = N + 1 ∧ Y2 = Y0 ++ bs ++ p.2))) ?_ ?_
    · cases e with
      | true =>
        obtain ⟨x, hx, hxA⟩ := heT rfl
        have hxe := (hcanL _ x hx).2
        have hxp := (hcanL _ x hx).1
        have hxo := (hokL x (List.mem_of_getElem? hx)).fr f311 (fun q => q)
        have hNl : N < nl := by have := (List.getElem?_eq_some_iff.1 hx).1; omega
        obtain ⟨b8, o8, rfl, _, hcl⟩ := rowM_cells (ho.row.fr f311 (fun _ _ q => q)) (by omega)
        obtain ⟨c0, c1⟩ := hcl _ x hx
        refine H_condT rfl rfl ?_
        repeat' (first | refine H_seq ?_ | refine H_block ?_ | refine H_skip ?_ | refine H_nil ?_ | refine H_exit ?_ | refine H_ret ?_ | refine B_normal ?_ | refine B_same ?_ | refine B_other rfl ?_ | refine B_ret ?_ | refine L_exit ?_ | refine L_ret ?_)
        refine H_drawn k26 s26_23 p26_23 (Nob) rfl mixed (by as_aux_lemma => kernel_rfl) fun K hK => ?_; simp (config := { maxSteps := 4000000 }) only [go_sem, beq_self_eq_true, List.getElem_toArray, List.getElem_cons_zero, List.getElem_cons_succ, decide_true, decide_false, cond_true, cond_false, Nat.reduceBEq, reduceCtorEq, Nat.reduceAdd, Nat.reduceMul, Nat.reduceSub, reduceIte, Int.reduceToNat, Int.reduceEq, Int.reduceLT, Int.reduceLE, Nat.reduceLeDiff, Nat.reduceEqDiff, eq_self, and_self, s26_23, p26_23, h1111.cell, c0, c1]
        have hxr := MP.row hxo
        refine ⟨fun q => q, by omega, fun q => q, appendC tsl_40 rfl rfl ho11 hxr (bvs_one _) (by rw [bvs_len, bvs_len, List.length_append]; omega) ?_⟩
        intro v12 u12 ho12 hf12 hb12
        rw [show bvs (Y0 ++ bs) ++ bvs x.bs = bvs (Y0 ++ bs ++ x.bs) by simp [bvs]] at ho12
        obtain ⟨a12, n12, c12, rfl⟩ := ho12.lit
        have hb11s := h1111.lt
        have h1112 := h1111.fr hf12 (fun q => (hobb10 _ q).2 rfl)
        have hs311 := f311.size
        have f312 : Fr Nob u3 u12 := f311.trans2 hf12 (fun _ _ q => q) (fun b hb' q => by have := (hobb10 b q).1; omega)
        have hobb12 : ∀ b, blk (.slice a12 n12 c12) = some b → u3.heap.size ≤ b ∧ b ≠ b11 := fun b hb' => by
          rcases hb12 with e | ⟨b2, e, hb2⟩
          · exact hobb10 b (by rw [← e]; exact hb')
          · rw [hb'] at e; cases e; exact ⟨by omega, by omega⟩
        clear hb12
        refine ⟨rfl, _, h1112, by simp [vcells_slice], by simp [vcells_slice, Value.oneCell'], ?_⟩
        (try simp (config := { maxSteps := 4000000 }) only [go_sem, beq_self_eq_true, List.getElem_toArray, List.getElem_cons_zero, List.getElem_cons_succ, decide_true, decide_false, cond_true, cond_false, Nat.reduceBEq, reduceCtorEq, Nat.reduceAdd, Nat.reduceMul, Nat.reduceSub, reduceIte, Int.reduceToNat, Int.reduceEq, Int.reduceLT, Int.reduceLE, Nat.reduceLeDiff, Nat.reduceEqDiff, eq_self, and_self])
        intro u13 p13
        refine hK _ _ ?_; clear hK K
        repeat' (first | refine H_seq ?_ | refine H_block ?_ | refine H_skip ?_ | refine H_nil ?_ | refine H_exit ?_ | refine H_ret ?_ | refine B_normal ?_ | refine B_same ?_ | refine B_other rfl ?_ | refine B_ret ?_ | refine L_exit ?_ | refine L_ret ?_)
        refine H_region k26 s26_24 rfl fun K hK => ?_; simp (config := { maxSteps := 4000000 }) only [go_sem, beq_self_eq_true, List.getElem_toArray, List.getElem_cons_zero, List.getElem_cons_succ, decide_true, decide_false, cond_true, cond_false, Nat.reduceBEq, reduceCtorEq, Nat.reduceAdd, Nat.reduceMul, Nat.reduceSub, reduceIte, Int.reduceToNat, Int.reduceEq, Int.reduceLT, Int.reduceLE, Nat.reduceLeDiff, Nat.reduceEqDiff, eq_self, and_self, s26_24]
        rw [wrapI (by omega), show ((N : Int) + 1) = ((N + 1 : Nat) : Int) by omega]
        refine hK _ _ ?_; clear hK K
        repeat' (first | refine H_seq ?_ | refine H_block ?_ | refine H_skip ?_ | refine H_nil ?_ | refine H_exit ?_ | refine H_ret ?_ | refine B_normal ?_ | refine B_same ?_ | refine B_other rfl ?_ | refine B_ret ?_ | refine L_exit ?_ | refine L_ret ?_)
        exact thenE_normal ⟨N + 1, _, _, _, _, rfl, f312.put p13 (.inl hb11), ho12.fr p13.fr (fun b hb' q => (hobb12 b hb').2 q), hobb12, p13.blk, .inr ⟨x.pc, hxp, by simp only [MP.pc]; omega, rfl, rfl⟩⟩
      | false =>
        refine H_condF rfl rfl ?_
        repeat' (first | refine H_seq ?_ | refine H_block ?_ | refine H_skip ?_ | refine H_nil ?_ | refine H_exit ?_ | refine H_ret ?_ | refine B_normal ?_ | refine B_same ?_ | refine B_other rfl ?_ | refine B_ret ?_ | refine L_exit ?_ | refine L_ret ?_)
        refine thenE_normal ⟨N, _, _, _, _, rfl, f311, ho11, hobb10, h1111, .inl ⟨rfl, rfl, fun p hp => ?_⟩⟩
        obtain ⟨x, hx⟩ : ∃ x, L[N]? = some x := ⟨L[N]'(by have := (List.getElem?_eq_some_iff.1 hp).1; omega), List.getElem?_eq_getElem _⟩
        rw [(hcanL _ x hx).1] at hp
        cases hp
        have := heF rfl x hx
        simp only [MP.pc]
        omega
    clear h1111 f311 ho11 heT heF hobb10 u11
    rintro E u12 ⟨j', Y2, a2, n2, c2, rfl, f312, ho12, hobb12, h1112, hr⟩
    repeat' (first | refine H_seq ?_ | refine H_block ?_ | refine H_skip ?_ | refine H_nil ?_ | refine H_exit ?_ | refine H_ret ?_ | refine B_normal ?_ | refine B_same ?_ | refine B_other rfl ?_ | refine B_ret ?_ | refine L_exit ?_ | refine L_ret ?_)
    have hk0 : 0 < bs.length := by clear hl hr; omega
    have hji : i' ≤ j' ∧ j' ≤ i' + 2 ∧ j' ≤ nl := by
      have e1 : i' ≤ N ∧ N ≤ i' + 1 := by
        rcases hl with ⟨e, _⟩ | ⟨_, _, _, _, e, _⟩ <;> omega
      rcases hr with ⟨e, _⟩ | ⟨p, hp, _, e, _⟩
      · omega
      · have := (List.getElem?_eq_some_iff.1 hp).1; omega
    have hY2 : 0 < Y2.length := by
      rcases hr with ⟨_, e, _⟩ | ⟨_, _, _, _, e⟩ <;> rw [e] <;> simp only [List.length_append] <;> omega
    have hcanN := ins_replace hordL hNL hPA (by rw [hkl]; exact hPB) hk0 hl hr
    clear hl hr
    refine H_region k26 s26_25 rfl fun K hK => ?_; simp (config := { maxSteps := 4000000 }) only [go_sem, beq_self_eq_true, List.getElem_toArray, List.getElem_cons_zero, List.getElem_cons_succ, decide_true, decide_false, cond_true, cond_false, Nat.reduceBEq, reduceCtorEq, Nat.reduceAdd, Nat.reduceMul, Nat.reduceSub, reduceIte, Int.reduceToNat, Int.reduceEq, Int.reduceLT, Int.reduceLE, Nat.reduceLeDiff, Nat.reduceEqDiff, eq_self, and_self, s26_25, h1112.cell]
    intro b14 u14 h14
    have h14n := h14.num
    have h14s := h14.size
    have f314 : Fr Nob u3 u14 := f312.trans h14.fr
    have hs312 := f312.size
    refine callC tcall_46 (replace_spec al nl cl i' j' b14 (mcells L) [.int .i64 at0, .slice a2 n2 c2] u14 (ho.fr f314 (fun _ _ q => q)) (by omega) (by omega) (by omega) (by omega) h14.blk rfl (mcells_one _) (by simp [Value.oneCell']) (fun e => by have := hlv3 _ e; omega)) ?_
    rintro v15 u15 ⟨ho15, hf15, hb15⟩
    simp (config := { maxSteps := 4000000 }) only [go_sem, beq_self_eq_true, List.getElem_toArray, List.getElem_cons_zero, List.getElem_cons_succ, decide_true, decide_false, cond_true, cond_false, Nat.reduceBEq, reduceCtorEq, Nat.reduceAdd, Nat.reduceMul, Nat.reduceSub, reduceIte, Int.reduceToNat, Int.reduceEq, Int.reduceLT, Int.reduceLE, Nat.reduceLeDiff, Nat.reduceEqDiff, eq_self, and_self, s26_25_1]
    obtain ⟨a15, n15, c15, rfl⟩ := ho15.lit
    have hs2s := fw2.size
    have hs3s := f3.size
    have hlt := h.lt
    have hW14 : W u14 s [.slice a n c, .int .i64 size] := hu2.hs.fr (f3.trans f314) (fun q => q)
    have hW15 : W u15 s [.slice a n c, .int .i64 size] := hW14.fr hf15 (fun q => by have := hbk s q; omega)
    refine ⟨rfl, _, hW15, by simp [vcells_slice], by simp [vcells_slice, Value.oneCell'], ?_⟩
    (try simp (config := { maxSteps := 4000000 }) only [go_sem, beq_self_eq_true, List.getElem_toArray, List.getElem_cons_zero, List.getElem_cons_succ, decide_true, decide_false, cond_true, cond_false, Nat.reduceBEq, reduceCtorEq, Nat.reduceAdd, Nat.reduceMul, Nat.reduceSub, reduceIte, Int.reduceToNat, Int.reduceEq, Int.reduceLT, Int.reduceLE, Nat.reduceLeDiff, Nat.reduceEqDiff, eq_self, and_self])
    intro u16 p16
    refine hK _ _ ?_; clear hK K
    repeat' (first | refine H_seq ?_ | refine H_block ?_ | refine H_skip ?_ | refine H_nil ?_ | refine H_exit ?_ | refine H_ret ?_ | refine B_normal ?_ | refine B_same ?_ | refine B_other rfl ?_ | refine B_ret ?_ | refine L_exit ?_ | refine L_ret ?_)
    refine H_region k26 s26_26 rfl fun K hK => ?_; simp (config := { maxSteps := 4000000 }) only [go_sem, beq_self_eq_true, List.getElem_toArray, List.getElem_cons_zero, List.getElem_cons_succ, decide_true, decide_false, cond_true, cond_false, Nat.reduceBEq, reduceCtorEq, Nat.reduceAdd, Nat.reduceMul, Nat.reduceSub, reduceIte, Int.reduceToNat, Int.reduceEq, Int.reduceLT, Int.reduceLE, Nat.reduceLeDiff, Nat.reduceEqDiff, eq_self, and_self, s26_26, p16.blk.cell]
    refine ⟨_, p16.blk, by simp, ?_⟩
    (try simp (config := { maxSteps := 4000000 }) only [go_sem, beq_self_eq_true, List.getElem_toArray, List.getElem_cons_zero, List.getElem_cons_succ, decide_true, decide_false, cond_true, cond_false, Nat.reduceBEq, reduceCtorEq, Nat.reduceAdd, Nat.reduceMul, Nat.reduceSub, reduceIte, Int.reduceToNat, Int.reduceEq, Int.reduceLT, Int.reduceLE, Nat.reduceLeDiff, Nat.reduceEqDiff, eq_self, and_self])
    intro u17 p17
    refine hK _ _ ?_; clear hK K
    repeat' (first | refine H_seq ?_ | refine H_block ?_ | refine H_skip ?_ | refine H_nil ?_ | refine H_exit ?_ | refine H_ret ?_ | refine B_normal ?_ | refine B_same ?_ | refine B_other rfl ?_ | refine B_ret ?_ | refine L_exit ?_ | refine L_ret ?_)
    refine H_region k26 s26_27 rfl fun K hK => ?_; simp (config := { maxSteps := 4000000 }) only [go_sem, beq_self_eq_true, List.getElem_toArray, List.getElem_cons_zero, List.getElem_cons_succ, decide_true, decide_false, cond_true, cond_false, Nat.reduceBEq, reduceCtorEq, Nat.reduceAdd, Nat.reduceMul, Nat.reduceSub, reduceIte, Int.reduceToNat, Int.reduceEq, Int.reduceLT, Int.reduceLE, Nat.reduceLeDiff, Nat.reduceEqDiff, eq_self, and_self, s26_27]
    refine hK _ _ ?_; clear hK K
    repeat' (first | refine H_seq ?_ | refine H_block ?_ | refine H_skip ?_ | refine H_nil ?_ | refine H_exit ?_ | refine H_ret ?_ | refine B_normal ?_ | refine B_same ?_ | refine B_other rfl ?_ | refine B_ret ?_ | refine L_exit ?_ | refine L_ret ?_)
    refine F_ret ?_
    (try simp (config := { maxSteps := 4000000 }) only [go_sem, beq_self_eq_true, List.getElem_toArray, List.getElem_cons_zero, List.getElem_cons_succ, decide_true, decide_false, cond_true, cond_false, Nat.reduceBEq, reduceCtorEq, Nat.reduceAdd, Nat.reduceMul, Nat.reduceSub, reduceIte, Int.reduceToNat, Int.reduceEq, Int.reduceLT, Int.reduceLE, Nat.reduceLeDiff, Nat.reduceEqDiff, eq_self, and_self])
    have hput := p16.trans p17
    have hputM : putM (ms.map MP.pc) size A bs = (0, insL LP A bs, max size (A + k)) := by
      unfold putM
      rw [if_neg h1, if_neg (by omega), if_neg (by omega), Int.toNat_natCast, hkl, hLP, if_neg h6]
    have hcan := putM_canon h.canon (A : Int) bs
    rw [hputM] at hcan ⊢
    obtain ⟨bx, ox, rfl, hn2, hxok⟩ : ∃ bx ox, a2 = some ⟨bx, ox, none⟩ ∧ n2 = Y2.length ∧ MP.ok u12 ⟨at0, Y2, bx, ox, c2⟩ := by
      obtain ⟨_, _, _, hq, hl2, hnc2, hcm2, h7⟩ := ho12
      cases hq
      rw [bvs_len, Nat.mul_one] at hl2
      rcases h7 with ⟨rfl, h0⟩ | ⟨bx, ox, cs, rfl, h8, h9, h10⟩
      · exact absurd h0 (by omega)
      · exact ⟨bx, ox, rfl, hl2.symm, by simp only; omega, hcm2, cs, h8, by simpa using h9, by simpa [hl2] using h10⟩
    subst hn2
    obtain ⟨hbx3, hbx11⟩ := hobb12 bx rfl
    have hpcs : (L.take i' ++ [(⟨at0, Y2, bx, ox, c2⟩ : MP)] ++ L.drop j').map MP.pc = insL LP A bs := by
      rw [← hcanN, ← hL, List.map_append, List.map_append, List.map_take, List.map_drop]; rfl
    have hmc : mcells (L.take i' ++ [(⟨at0, Y2, bx, ox, c2⟩ : MP)] ++ L.drop j') = (mcells L).take (i' * 2) ++ [.int .i64 at0, .slice (some ⟨bx, ox, none⟩) Y2.length c2] ++ (mcells L).drop (j' * 2) := by
      rw [mcells_append, mcells_append, mcells_take, mcells_drop]; rfl
    have hmem : ∀ x ∈ L.take i' ++ [(⟨at0, Y2, bx, ox, c2⟩ : MP)] ++ L.drop j', x ∈ L ∨ x = ⟨at0, Y2, bx, ox, c2⟩ := fun x hx => by
      rcases List.mem_append.1 hx with hx | hx
      · rcases List.mem_append.1 hx with hx | hx
        · exact .inl (List.mem_of_mem_take hx)
        · exact .inr (List.mem_singleton.1 hx)
      · exact .inl (List.mem_of_mem_drop hx)
    have hLlt : ∀ x ∈ L, x.b < w.heap.size := fun x hx => by
      obtain ⟨m, hm, e, _⟩ := hderL x hx
      rw [e]; exact (h.oks m hm).lt
    have f315 : Fr Nob w u15 := (fw2.trans (f3.trans f314)).trans2 hf15 (fun _ _ q => q) (fun b hb' q => by have := hbk b q; omega)
    rw [← hmc] at ho15
    have hbl15 : ∀ b, blk (.slice a15 n15 c15) = some b → w.heap.size ≤ b ∧ b ≠ bx := fun b hb' => by
      have hbxl := hxok.lt
      simp only at hbxl
      rcases hb15 with e | ⟨b2, e, hb2⟩
      · rw [hb'] at e
        have e1 := hbk b e.symm
        have e2 := hlv3 b e.symm
        exact ⟨by omega, by omega⟩
      · rw [hb'] at e; cases e; exact ⟨by omega, by omega⟩
    clear hb15
    have hset := h.set2 f315 ho15 (fun b hb' => ⟨(hbl15 b hb').1, fun x hx e => ?_⟩) (fun x hx => ?_) (fun x hx => ?_) (fun x hx y hy hge e => ?_) (by rw [hpcs]; exact hcan) (by rw [show ((max size (A + k) : Nat) : Int) = max (size : Int) ((A + k : Nat) : Int) by omega]; exact hput)
    · exact ⟨rfl, _, hset.1, hpcs, hset.2⟩
    · rcases hmem x hx with hx | rfl
      · have := hLlt x hx; have := (hbl15 b hb').1; omega
      · exact (hbl15 b hb').2 e.symm
    · rcases hmem x hx with hx | rfl
      · exact ((hokL x hx).fr f314 (fun q => q)).fr hf15 (fun q => by have := hbk _ q; have := hLlt x hx; omega)
      · exact (hxok.fr h14.fr (fun q => q)).fr hf15 (fun q => by have := hlv3 _ q; simp only at this; omega)
    · rcases hmem x hx with hx | rfl
      · exact .inl (hderL x hx)
      · exact .inr (by simp only; omega)
    · rcases hmem x hx with hx | rfl
      · have := hLlt x hx; omega
      · rcases hmem y hy with hy | rfl
        · have := hLlt y hy; simp only at e; omega
        · rfl
end Go.Proofs.Ytpdklpeojjkkaaa

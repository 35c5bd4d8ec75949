/- span: Cut, Punch. -/
import Derived.Test.YtlffbjchcknmfaaSpan5
namespace Go.Proofs.Ytlffbjchcknmfaa
open Go
set_option linter.unusedVariables false
set_option linter.unusedSimpArgs false
set_option maxRecDepth 100000
theorem Put.trans {w u x : World} {b : Nat} {cs ds : List Value} (h : Put w b cs u) (k : Put u b ds x) : Put w b ds x := ⟨k.blk, h.fr.trans k.fr, by rw [k.size, h.size]⟩
theorem Own.lit {w : World} {v : Value} {sz : Nat} {xs : List Value} (h : Own w v sz xs) : ∃ a n c, v = .slice a n c := by
  obtain ⟨a, n, c, hv, _⟩ := h
  exact ⟨a, n, c, hv⟩
/-- The blocks of bytes with holes, and what is new. -/
def Fnew (F : Nat → Prop) (w : World) (b : Nat) : Prop := F b ∨ w.heap.size ≤ b
theorem IsSpan.hdr {w : World} {F : Nat → Prop} {s size : Nat} {ms : List MP} (h : IsSpan w F s ms size) : ∃ a n c, Hd w s a n c size ms ∧ ∀ b, blk (.slice a n c) = some b → F b ∧ b ≠ s ∧ ∀ m ∈ ms, m.b ≠ b := by
  obtain ⟨lv, h1, h2, h3⟩ := h.hd
  obtain ⟨a, n, c, rfl, _⟩ := id h2
  exact ⟨a, n, c, ⟨h1, h2.row, h.canon⟩, h3⟩
theorem IsSpan.oks {w : World} {F : Nat → Prop} {s size : Nat} {ms : List MP} (h : IsSpan w F s ms size) : ∀ m ∈ ms, m.ok w := fun m hm => (h.pcs m hm).1
theorem MP.ok.lt {w : World} {m : MP} (h : m.ok w) : m.b < w.heap.size := by
  obtain ⟨_, _, cs, h, _⟩ := h; exact h.lt
/-- A new list of what is left of the pieces. -/
theorem IsSpan.set {w u u' : World} {F : Nat → Prop} {s size size' : Nat} {ms ms' : List MP} {v : Value} (h : IsSpan w F s ms size) (f : Fr Nob w u) (ho : Own u v 2 (mcells ms')) (hb : ∀ b, blk v = some b → w.heap.size ≤ b)
    (hd : ∀ x ∈ ms', ∃ m ∈ ms, x.b = m.b ∧ x.o + m.at_ = m.o + x.at_) (hok : ∀ x ∈ ms', x.ok w) (hc : Canon (ms'.map MP.pc) size') (hp : Put u s [v, .int .i64 size'] u') : IsSpan u' (Fnew F w) s ms' size' ∧ Fr F w u' := by
  have hs := h.lt
  refine ⟨⟨⟨v, hp.blk, ho.fr hp.fr (fun b hb' q => ?_), fun b hb' => ⟨.inr (hb b hb'), ?_, fun m hm => ?_⟩⟩, .inl h.own, fun m hm => ⟨((hok m hm).fr f (fun q => q)).fr hp.fr (fun q => ?_), ?_, ?_⟩, fun m hm m' hm' e => ?_, hc⟩, ?_⟩
  · have := hb b hb'; simp only [Onb] at q; omega
  · have := hb b hb'; omega
  · have := hb b hb'; have := (hok m hm).lt; omega
  · obtain ⟨m', hm', e, _⟩ := hd m hm
    simp only [Onb] at q
    exact (h.pcs m' hm').2.2 (by rw [← e]; exact q)
  · obtain ⟨m', hm', e, _⟩ := hd m hm
    rw [e]; exact .inl (h.pcs m' hm').2.1
  · obtain ⟨m', hm', e, _⟩ := hd m hm
    rw [e]; exact (h.pcs m' hm').2.2
  · obtain ⟨x, hx, e1, e2⟩ := hd m hm
    obtain ⟨y, hy, e3, e4⟩ := hd m' hm'
    have := h.al x hx y hy (by rw [← e1, ← e3]; exact e)
    omega
  · exact f.trans2 hp.fr (fun _ _ q => q.elim) (fun i hi q => by simp only [Onb] at q; rw [q]; exact h.own)
theorem IsSpan.grow {w u : World} {F : Nat → Prop} {s size : Nat} {ms : List MP} (h : IsSpan w F s ms size) (f : Fr Nob w u) : IsSpan u (Fnew F w) s ms size := (h.fr f (fun _ _ q => q)).mono (fun b _ q => .inl q)
theorem IsSpan.resize {w u : World} {F : Nat → Prop} {s size size' : Nat} {ms : List MP} {a : Option Addr} {n c : Nat} (h : IsSpan w F s ms size) (hh : Hd w s a n c size ms) (hbl : ∀ b, blk (.slice a n c) = some b → F b ∧ b ≠ s ∧ ∀ m ∈ ms, m.b ≠ b)
    (hc : Canon (ms.map MP.pc) size') (hp : Put w s [.slice a n c, .int .i64 size'] u) : IsSpan u (Fnew F w) s ms size' := by
  obtain ⟨lv, h1, h2, h3⟩ := h.hd
  have e := h1.r.inj hh.hs.r
  simp only [List.cons.injEq] at e
  obtain ⟨rfl, _⟩ := e
  exact ⟨⟨_, hp.blk, h2.fr hp.fr (fun b hb q => (hbl b hb).2.1 q), fun b hb => ⟨.inl (hbl b hb).1, (hbl b hb).2⟩⟩, .inl h.own, fun m hm => ⟨(h.oks m hm).fr hp.fr (fun q => (h.pcs m hm).2.2 q), .inl (h.pcs m hm).2.1, (h.pcs m hm).2.2⟩, h.al, hc⟩
theorem clearML_der {f t : Nat} {ms : List MP} : ∀ x ∈ ms.flatMap (clearMP f t), ∃ m ∈ ms, x.b = m.b ∧ x.o + m.at_ = m.o + x.at_ := fun x hx => by
  obtain ⟨m, hm, hx⟩ := List.mem_flatMap.1 hx
  exact ⟨m, hm, clearMP_mem hx⟩
theorem clearML_ok {f t : Nat} {ms : List MP} {w : World} (h : ∀ m ∈ ms, m.ok w) : ∀ x ∈ ms.flatMap (clearMP f t), x.ok w := fun x hx => by
  obtain ⟨m, hm, hx⟩ := List.mem_flatMap.1 hx
  exact clearMP_ok (h m hm) hx
/-- What a call that turns the bytes answers, and leaves. -/
def Left_ (F : Nat → Prop) (w : World) (s : Nat) (res : Int × List Pc × Nat) (r : Value) (u : World) : Prop :=
  r = .int .i64 res.1 ∧ ∃ ms', IsSpan u (Fnew F w) s ms' res.2.2 ∧ ms'.map MP.pc = res.2.1 ∧ Fr F w u
theorem Left_.same {F : Nat → Prop} {w u : World} {s size : Nat} {ms : List MP} (h : IsSpan w F s ms size) (f : Fr Nob w u) (e : Int) : Left_ F w s (e, ms.map MP.pc, size) (.int .i64 e) u :=
  ⟨rfl, ms, h.grow f, rfl, f.nob⟩
theorem cut_spec (s size : Nat) (F : Nat → Prop) (ms : List MP) (k : Int) (w : World) (h : IsSpan w F s ms size) :
    CallsE Try.prog 86 [ptrV s, .int .i64 k] w fun r u => Left_ F w s (cutM (ms.map MP.pc) size k) r u := by
  obtain ⟨a, n, c, hh, hbl⟩ := h.hdr
  have hz := h.canon.size
  unfold cutM
  refine enter Try.func86 rfl Try.results86 Try.ntmps86 rfl ?_
  repeat' (first | refine H_seq ?_ | refine H_block ?_ | refine H_skip ?_ | refine H_nil ?_ | refine H_exit ?_ | refine H_ret ?_ | refine B_normal ?_ | refine B_same ?_ | refine B_other rfl ?_ | refine B_ret ?_ | refine L_exit ?_ | refine L_ret ?_)
  refine H_region k86 s86_0 rfl fun K hK => ?_; simp (config := { maxSteps := 4000000 }) only [go_sem, beq_self_eq_true, List.getElem_toArray, List.getElem_cons_zero, List.getElem_cons_succ, decide_true, decide_false, cond_true, cond_false, Nat.reduceBEq, reduceCtorEq, Nat.reduceAdd, Nat.reduceMul, Nat.reduceSub, reduceIte, Int.reduceToNat, Int.reduceEq, Int.reduceLT, Int.reduceLE, Nat.reduceLeDiff, Nat.reduceEqDiff, eq_self, and_self, s86_0]
  refine hK _ _ ?_; clear hK K
  repeat' (first | refine H_seq ?_ | refine H_block ?_ | refine H_skip ?_ | refine H_nil ?_ | refine H_exit ?_ | refine H_ret ?_ | refine B_normal ?_ | refine B_same ?_ | refine B_other rfl ?_ | refine B_ret ?_ | refine L_exit ?_ | refine L_ret ?_)
  refine H_region k86 s86_1 rfl fun K hK => ?_; simp (config := { maxSteps := 4000000 }) only [go_sem, beq_self_eq_true, List.getElem_toArray, List.getElem_cons_zero, List.getElem_cons_succ, decide_true, decide_false, cond_true, cond_false, Nat.reduceBEq, reduceCtorEq, Nat.reduceAdd, Nat.reduceMul, Nat.reduceSub, reduceIte, Int.reduceToNat, Int.reduceEq, Int.reduceLT, Int.reduceLE, Nat.reduceLeDiff, Nat.reduceEqDiff, eq_self, and_self, s86_1, Try.underlying50]
  refine hK _ _ ?_; clear hK K
  repeat' (first | refine H_seq ?_ | refine H_block ?_ | refine H_skip ?_ | refine H_nil ?_ | refine H_exit ?_ | refine H_ret ?_ | refine B_normal ?_ | refine B_same ?_ | refine B_other rfl ?_ | refine B_ret ?_ | refine L_exit ?_ | refine L_ret ?_)
  refine H_condF rfl rfl ?_
  repeat' (first | refine H_seq ?_ | refine H_block ?_ | refine H_skip ?_ | refine H_nil ?_ | refine H_exit ?_ | refine H_ret ?_ | refine B_normal ?_ | refine B_same ?_ | refine B_other rfl ?_ | refine B_ret ?_ | refine L_exit ?_ | refine L_ret ?_)
  refine H_region k86 s86_3 rfl fun K hK => ?_; simp (config := { maxSteps := 4000000 }) only [go_sem, beq_self_eq_true, List.getElem_toArray, List.getElem_cons_zero, List.getElem_cons_succ, decide_true, decide_false, cond_true, cond_false, Nat.reduceBEq, reduceCtorEq, Nat.reduceAdd, Nat.reduceMul, Nat.reduceSub, reduceIte, Int.reduceToNat, Int.reduceEq, Int.reduceLT, Int.reduceLE, Nat.reduceLeDiff, Nat.reduceEqDiff, eq_self, and_self, s86_3]
  refine hK _ _ ?_; clear hK K
  repeat' (first | refine H_seq ?_ | refine H_block ?_ | refine H_skip ?_ | refine H_nil ?_ | refine H_exit ?_ | refine H_ret ?_ | refine B_normal ?_ | refine B_same ?_ | refine B_other rfl ?_ | refine B_ret ?_ | refine L_exit ?_ | refine L_ret ?_)
  by_cases h1 : k < 0
  · refine H_condT rfl (by simpa using h1) ?_
    repeat' (first | refine H_seq ?_ | refine H_block ?_ | refine H_skip ?_ | refine H_nil ?_ | refine H_exit ?_ | refine H_ret ?_ | refine B_normal ?_ | refine B_same ?_ | refine B_other rfl ?_ | refine B_ret ?_ | refine L_exit ?_ | refine L_ret ?_)
    refine H_region k86 s86_4 rfl fun K hK => ?_; simp (config := { maxSteps := 4000000 }) only [go_sem, beq_self_eq_true, List.getElem_toArray, List.getElem_cons_zero, List.getElem_cons_succ, decide_true, decide_false, cond_true, cond_false, Nat.reduceBEq, reduceCtorEq, Nat.reduceAdd, Nat.reduceMul, Nat.reduceSub, reduceIte, Int.reduceToNat, Int.reduceEq, Int.reduceLT, Int.reduceLE, Nat.reduceLeDiff, Nat.reduceEqDiff, eq_self, and_self, s86_4]
    refine hK _ _ ?_; clear hK K
    repeat' (first | refine H_seq ?_ | refine H_block ?_ | refine H_skip ?_ | refine H_nil ?_ | refine H_exit ?_ | refine H_ret ?_ | refine B_normal ?_ | refine B_same ?_ | refine B_other rfl ?_ | refine B_ret ?_ | refine L_exit ?_ | refine L_ret ?_)
    refine F_ret ?_
    (try simp (config := { maxSteps := 4000000 }) only [go_sem, beq_self_eq_true, List.getElem_toArray, List.getElem_cons_zero, List.getElem_cons_succ, decide_true, decide_false, cond_true, cond_false, Nat.reduceBEq, reduceCtorEq, Nat.reduceAdd, Nat.reduceMul, Nat.reduceSub, reduceIte, Int.reduceToNat, Int.reduceEq, Int.reduceLT, Int.reduceLE, Nat.reduceLeDiff, Nat.reduceEqDiff, eq_self, and_self])
    rw [if_pos h1]
    exact Left_.same h (Fr.refl _ _) 2
  refine H_condF rfl (by simpa using h1) ?_
  repeat' (first | refine H_seq ?_ | refine H_block ?_ | refine H_skip ?_ | refine H_nil ?_ | refine H_exit ?_ | refine H_ret ?_ | refine B_normal ?_ | refine B_same ?_ | refine B_other rfl ?_ | refine B_ret ?_ | refine L_exit ?_ | refine L_ret ?_)
  refine H_region k86 s86_5 rfl fun K hK => ?_; simp (config := { maxSteps := 4000000 }) only [go_sem, beq_self_eq_true, List.getElem_toArray, List.getElem_cons_zero, List.getElem_cons_succ, decide_true, decide_false, cond_true, cond_false, Nat.reduceBEq, reduceCtorEq, Nat.reduceAdd, Nat.reduceMul, Nat.reduceSub, reduceIte, Int.reduceToNat, Int.reduceEq, Int.reduceLT, Int.reduceLE, Nat.reduceLeDiff, Nat.reduceEqDiff, eq_self, and_self, s86_5]
  refine hK _ _ ?_; clear hK K
  repeat' (first | refine H_seq ?_ | refine H_block ?_ | refine H_skip ?_ | refine H_nil ?_ | refine H_exit ?_ | refine H_ret ?_ | refine B_normal ?_ | refine B_same ?_ | refine B_other rfl ?_ | refine B_ret ?_ | refine L_exit ?_ | refine L_ret ?_)
  rw [if_neg h1]
  by_cases h2 : 1073741824 < k
  · refine H_condT rfl (by simpa using h2) ?_
    repeat' (first | refine H_seq ?_ | refine H_block ?_ | refine H_skip ?_ | refine H_nil ?_ | refine H_exit ?_ | refine H_ret ?_ | refine B_normal ?_ | refine B_same ?_ | refine B_other rfl ?_ | refine B_ret ?_ | refine L_exit ?_ | refine L_ret ?_)
    refine H_region k86 s86_6 rfl fun K hK => ?_; simp (config := { maxSteps := 4000000 }) only [go_sem, beq_self_eq_true, List.getElem_toArray, List.getElem_cons_zero, List.getElem_cons_succ, decide_true, decide_false, cond_true, cond_false, Nat.reduceBEq, reduceCtorEq, Nat.reduceAdd, Nat.reduceMul, Nat.reduceSub, reduceIte, Int.reduceToNat, Int.reduceEq, Int.reduceLT, Int.reduceLE, Nat.reduceLeDiff, Nat.reduceEqDiff, eq_self, and_self, s86_6]
    refine hK _ _ ?_; clear hK K
    repeat' (first | refine H_seq ?_ | refine H_block ?_ | refine H_skip ?_ | refine H_nil ?_ | refine H_exit ?_ | refine H_ret ?_ | refine B_normal ?_ | refine B_same ?_ | refine B_other rfl ?_ | refine B_ret ?_ | refine L_exit ?_ | refine L_ret ?_)
    refine F_ret ?_
    (try simp (config := { maxSteps := 4000000 }) only [go_sem, beq_self_eq_true, List.getElem_toArray, List.getElem_cons_zero, List.getElem_cons_succ, decide_true, decide_false, cond_true, cond_false, Nat.reduceBEq, reduceCtorEq, Nat.reduceAdd, Nat.reduceMul, Nat.reduceSub, reduceIte, Int.reduceToNat, Int.reduceEq, Int.reduceLT, Int.reduceLE, Nat.reduceLeDiff, Nat.reduceEqDiff, eq_self, and_self])
    rw [if_pos h2]
    exact Left_.same h (Fr.refl _ _) 3
  refine H_condF rfl (by simpa using h2) ?_
  repeat' (first | refine H_seq ?_ | refine H_block ?_ | refine H_skip ?_ | refine H_nil ?_ | refine H_exit ?_ | refine H_ret ?_ | refine B_normal ?_ | refine B_same ?_ | refine B_other rfl ?_ | refine B_ret ?_ | refine L_exit ?_ | refine L_ret ?_)
  refine H_region k86 s86_7 rfl fun K hK => ?_; simp (config := { maxSteps := 4000000 }) only [go_sem, beq_self_eq_true, List.getElem_toArray, List.getElem_cons_zero, List.getElem_cons_succ, decide_true, decide_false, cond_true, cond_false, Nat.reduceBEq, reduceCtorEq, Nat.reduceAdd, Nat.reduceMul, Nat.reduceSub, reduceIte, Int.reduceToNat, Int.reduceEq, Int.reduceLT, Int.reduceLE, Nat.reduceLeDiff, Nat.reduceEqDiff, eq_self, and_self, s86_7, hh.hs.cell]
  refine hK _ _ ?_; clear hK K
  repeat' (first | refine H_seq ?_ | refine H_block ?_ | refine H_skip ?_ | refine H_nil ?_ | refine H_exit ?_ | refine H_ret ?_ | refine B_normal ?_ | refine B_same ?_ | refine B_other rfl ?_ | refine B_ret ?_ | refine L_exit ?_ | refine L_ret ?_)
  rw [if_neg h2]
  obtain ⟨k', rfl⟩ : ∃ k' : Nat, k = k' := ⟨k.toNat, by omega⟩
  by_cases h3 : (k' : Int) < size
  · refine H_condT rfl (by simpa using h3) ?_
    repeat' (first | refine H_seq ?_ | refine H_block ?_ | refine H_skip ?_ | refine H_nil ?_ | refine H_exit ?_ | refine H_ret ?_ | refine B_normal ?_ | refine B_same ?_ | refine B_other rfl ?_ | refine B_ret ?_ | refine L_exit ?_ | refine L_ret ?_)
    refine H_region k86 s86_8 rfl fun K hK => ?_; simp (config := { maxSteps := 4000000 }) only [go_sem, beq_self_eq_true, List.getElem_toArray, List.getElem_cons_zero, List.getElem_cons_succ, decide_true, decide_false, cond_true, cond_false, Nat.reduceBEq, reduceCtorEq, Nat.reduceAdd, Nat.reduceMul, Nat.reduceSub, reduceIte, Int.reduceToNat, Int.reduceEq, Int.reduceLT, Int.reduceLE, Nat.reduceLeDiff, Nat.reduceEqDiff, eq_self, and_self, s86_8, hh.hs.cell]
    refine callC tcall_92 (cleared_spec s a n c size ms k' size _ hh h.oks (by omega) hz) ?_
    rintro v u ⟨lv, rfl, ho, hb, f⟩
    simp (config := { maxSteps := 4000000 }) only [go_sem, beq_self_eq_true, List.getElem_toArray, List.getElem_cons_zero, List.getElem_cons_succ, decide_true, decide_false, cond_true, cond_false, Nat.reduceBEq, reduceCtorEq, Nat.reduceAdd, Nat.reduceMul, Nat.reduceSub, reduceIte, Int.reduceToNat, Int.reduceEq, Int.reduceLT, Int.reduceLE, Nat.reduceLeDiff, Nat.reduceEqDiff, eq_self, and_self, s86_8_1]
    obtain ⟨a2, n2, c2, rfl, _⟩ := id ho
    refine ⟨rfl, _, hh.hs.fr f (fun q => q), by simp [vcells_slice], by simp [vcells_slice, Value.oneCell'], ?_⟩
    (try simp (config := { maxSteps := 4000000 }) only [go_sem, beq_self_eq_true, List.getElem_toArray, List.getElem_cons_zero, List.getElem_cons_succ, decide_true, decide_false, cond_true, cond_false, Nat.reduceBEq, reduceCtorEq, Nat.reduceAdd, Nat.reduceMul, Nat.reduceSub, reduceIte, Int.reduceToNat, Int.reduceEq, Int.reduceLT, Int.reduceLE, Nat.reduceLeDiff, Nat.reduceEqDiff, eq_self, and_self])
    intro u2 hp2
    refine hK _ _ ?_; clear hK K
    repeat' (first | refine H_seq ?_ | refine H_block ?_ | refine H_skip ?_ | refine H_nil ?_ | refine H_exit ?_ | refine H_ret ?_ | refine B_normal ?_ | refine B_same ?_ | refine B_other rfl ?_ | refine B_ret ?_ | refine L_exit ?_ | refine L_ret ?_)
    refine H_region k86 s86_9 rfl fun K hK => ?_; simp (config := { maxSteps := 4000000 }) only [go_sem, beq_self_eq_true, List.getElem_toArray, List.getElem_cons_zero, List.getElem_cons_succ, decide_true, decide_false, cond_true, cond_false, Nat.reduceBEq, reduceCtorEq, Nat.reduceAdd, Nat.reduceMul, Nat.reduceSub, reduceIte, Int.reduceToNat, Int.reduceEq, Int.reduceLT, Int.reduceLE, Nat.reduceLeDiff, Nat.reduceEqDiff, eq_self, and_self, s86_9]
    refine ⟨_, hp2.blk, by simp, ?_⟩
    (try simp (config := { maxSteps := 4000000 }) only [go_sem, beq_self_eq_true, List.getElem_toArray, List.getElem_cons_zero, List.getElem_cons_succ, decide_true, decide_false, cond_true, cond_false, Nat.reduceBEq, reduceCtorEq, Nat.reduceAdd, Nat.reduceMul, Nat.reduceSub, reduceIte, Int.reduceToNat, Int.reduceEq, Int.reduceLT, Int.reduceLE, Nat.reduceLeDiff, Nat.reduceEqDiff, eq_self, and_self])
    intro u3 hp3
    refine hK _ _ ?_; clear hK K
    repeat' (first | refine H_seq ?_ | refine H_block ?_ | refine H_skip ?_ | refine H_nil ?_ | refine H_exit ?_ | refine H_ret ?_ | refine B_normal ?_ | refine B_same ?_ | refine B_other rfl ?_ | refine B_ret ?_ | refine L_exit ?_ | refine L_ret ?_)
    refine H_region k86 s86_10 rfl fun K hK => ?_; simp (config := { maxSteps := 4000000 }) only [go_sem, beq_self_eq_true, List.getElem_toArray, List.getElem_cons_zero, List.getElem_cons_succ, decide_true, decide_false, cond_true, cond_false, Nat.reduceBEq, reduceCtorEq, Nat.reduceAdd, Nat.reduceMul, Nat.reduceSub, reduceIte, Int.reduceToNat, Int.reduceEq, Int.reduceLT, Int.reduceLE, Nat.reduceLeDiff, Nat.reduceEqDiff, eq_self, and_self, s86_10]
    refine hK _ _ ?_; clear hK K
    repeat' (first | refine H_seq ?_ | refine H_block ?_ | refine H_skip ?_ | refine H_nil ?_ | refine H_exit ?_ | refine H_ret ?_ | refine B_normal ?_ | refine B_same ?_ | refine B_other rfl ?_ | refine B_ret ?_ | refine L_exit ?_ | refine L_ret ?_)
    refine F_ret ?_
    (try simp (config := { maxSteps := 4000000 }) only [go_sem, beq_self_eq_true, List.getElem_toArray, List.getElem_cons_zero, List.getElem_cons_succ, decide_true, decide_false, cond_true, cond_false, Nat.reduceBEq, reduceCtorEq, Nat.reduceAdd, Nat.reduceMul, Nat.reduceSub, reduceIte, Int.reduceToNat, Int.reduceEq, Int.reduceLT, Int.reduceLE, Nat.reduceLeDiff, Nat.reduceEqDiff, eq_self, and_self])
    have hlt : k' < size := by omega
    have hput := hp2.trans hp3
    have hcan : Canon ((ms.flatMap (clearMP k' size)).map MP.pc) k' := by
      rw [clearML_pc]
      exact ⟨clear_cut hlt h.canon.ord (by omega), by omega, Nat.le_trans (clear_held hlt _) h.canon.held⟩
    obtain ⟨g1, g2⟩ := h.set f ho hb clearML_der (clearML_ok h.oks) hcan hput
    rw [if_pos h3]
    refine ⟨rfl, _, g1, ?_, g2⟩
    rw [clearML_pc]
  · refine H_condF rfl (by simpa using h3) ?_
    repeat' (first | refine H_seq ?_ | refine H_block ?_ | refine H_skip ?_ | refine H_nil ?_ | refine H_exit ?_ | refine H_ret ?_ | refine B_normal ?_ | refine B_same ?_ | refine B_other rfl ?_ | refine B_ret ?_ | refine L_exit ?_ | refine L_ret ?_)
    refine H_region k86 s86_9 rfl fun K hK => ?_; simp (config := { maxSteps := 4000000 }) only [go_sem, beq_self_eq_true, List.getElem_toArray, List.getElem_cons_zero, List.getElem_cons_succ, decide_true, decide_false, cond_true, cond_false, Nat.reduceBEq, reduceCtorEq, Nat.reduceAdd, Nat.reduceMul, Nat.reduceSub, reduceIte, Int.reduceToNat, Int.reduceEq, Int.reduceLT, Int.reduceLE, Nat.reduceLeDiff, Nat.reduceEqDiff, eq_self, and_self, s86_9]
    refine ⟨_, hh.hs, by simp, ?_⟩
    (try simp (config := { maxSteps := 4000000 }) only [go_sem, beq_self_eq_true, List.getElem_toArray, List.getElem_cons_zero, List.getElem_cons_succ, decide_true, decide_false, cond_true, cond_false, Nat.reduceBEq, reduceCtorEq, Nat.reduceAdd, Nat.reduceMul, Nat.reduceSub, reduceIte, Int.reduceToNat, Int.reduceEq, Int.reduceLT, Int.reduceLE, Nat.reduceLeDiff, Nat.reduceEqDiff, eq_self, and_self])
    intro u3 hp3
    refine hK _ _ ?_; clear hK K
    repeat' (first | refine H_seq ?_ | refine H_block ?_ | refine H_skip ?_ | refine H_nil ?_ | refine H_exit ?_ | refine H_ret ?_ | refine B_normal ?_ | refine B_same ?_ | refine B_other rfl ?_ | refine B_ret ?_ | refine L_exit ?_ | refine L_ret ?_)
    refine H_region k86 s86_10 rfl fun K hK => ?_; simp (config := { maxSteps := 4000000 }) only [go_sem, beq_self_eq_true, List.getElem_toArray, List.getElem_cons_zero, List.getElem_cons_succ, decide_true, decide_false, cond_true, cond_false, Nat.reduceBEq, reduceCtorEq, Nat.reduceAdd, Nat.reduceMul, Nat.reduceSub, reduceIte, Int.reduceToNat, Int.reduceEq, Int.reduceLT, Int.reduceLE, Nat.reduceLeDiff, Nat.reduceEqDiff, eq_self, and_self, s86_10]
    refine hK _ _ ?_; clear hK K
    repeat' (first | refine H_seq ?_ | refine H_block ?_ | refine H_skip ?_ | refine H_nil ?_ | refine H_exit ?_ | refine H_ret ?_ | refine B_normal ?_ | refine B_same ?_ | refine B_other rfl ?_ | refine B_ret ?_ | refine L_exit ?_ | refine L_ret ?_)
    refine F_ret ?_
    (try simp (config := { maxSteps := 4000000 }) only [go_sem, beq_self_eq_true, List.getElem_toArray, List.getElem_cons_zero, List.getElem_cons_succ, decide_true, decide_false, cond_true, cond_false, Nat.reduceBEq, reduceCtorEq, Nat.reduceAdd, Nat.reduceMul, Nat.reduceSub, reduceIte, Int.reduceToNat, Int.reduceEq, Int.reduceLT, Int.reduceLE, Nat.reduceLeDiff, Nat.reduceEqDiff, eq_self, and_self])
    rw [if_neg h3]
    refine ⟨rfl, ms, h.resize hh hbl ⟨h.canon.ord.mono (Nat.le_refl _) (by simp; omega), by simp; omega, h.canon.held⟩ hp3, rfl, hp3.fr.mono (fun b _ q => by simp only [Onb] at q; rw [q]; exact h.own)⟩
theorem punch_spec (s size : Nat) (F : Nat → Prop) (ms : List MP) (x k : Int) (w : World) (h : IsSpan w F s ms size) :
    CallsE Try.prog 88 [ptrV s, .int .i64 x, .int .i64 k] w fun r u => Left_ F w s (punchM (ms.map MP.pc) size x k) r u := by
  obtain ⟨a, n, c, hh, hbl⟩ := h.hdr
  have hz := h.canon.size
  unfold punchM
  refine enter Try.func88 rfl Try.results88 Try.ntmps88 rfl ?_
  repeat' (first | refine H_seq ?_ | refine H_block ?_ | refine H_skip ?_ | refine H_nil ?_ | refine H_exit ?_ | refine H_ret ?_ | refine B_normal ?_ | refine B_same ?_ | refine B_other rfl ?_ | refine B_ret ?_ | refine L_exit ?_ | refine L_ret ?_)
  refine H_region k88 s88_0 rfl fun K hK => ?_; simp (config := { maxSteps := 4000000 }) only [go_sem, beq_self_eq_true, List.getElem_toArray, List.getElem_cons_zero, List.getElem_cons_succ, decide_true, decide_false, cond_true, cond_false, Nat.reduceBEq, reduceCtorEq, Nat.reduceAdd, Nat.reduceMul, Nat.reduceSub, reduceIte, Int.reduceToNat, Int.reduceEq, Int.reduceLT, Int.reduceLE, Nat.reduceLeDiff, Nat.reduceEqDiff, eq_self, and_self, s88_0]
  refine hK _ _ ?_; clear hK K
  repeat' (first | refine H_seq ?_ | refine H_block ?_ | refine H_skip ?_ | refine H_nil ?_ | refine H_exit ?_ | refine H_ret ?_ | refine B_normal ?_ | refine B_same ?_ | refine B_other rfl ?_ | refine B_ret ?_ | refine L_exit ?_ | refine L_ret ?_)
  refine H_region k88 s88_1 rfl fun K hK => ?_; simp (config := { maxSteps := 4000000 }) only [go_sem, beq_self_eq_true, List.getElem_toArray, List.getElem_cons_zero, List.getElem_cons_succ, decide_true, decide_false, cond_true, cond_false, Nat.reduceBEq, reduceCtorEq, Nat.reduceAdd, Nat.reduceMul, Nat.reduceSub, reduceIte, Int.reduceToNat, Int.reduceEq, Int.reduceLT, Int.reduceLE, Nat.reduceLeDiff, Nat.reduceEqDiff, eq_self, and_self, s88_1, Try.underlying50]
  refine hK _ _ ?_; clear hK K
  repeat' (first | refine H_seq ?_ | refine H_block ?_ | refine H_skip ?_ | refine H_nil ?_ | refine H_exit ?_ | refine H_ret ?_ | refine B_normal ?_ | refine B_same ?_ | refine B_other rfl ?_ | refine B_ret ?_ | refine L_exit ?_ | refine L_ret ?_)
  refine H_condF rfl rfl ?_
  repeat' (first | refine H_seq ?_ | refine H_block ?_ | refine H_skip ?_ | refine H_nil ?_ | refine H_exit ?_ | refine H_ret ?_ | refine B_normal ?_ | refine B_same ?_ | refine B_other rfl ?_ | refine B_ret ?_ | refine L_exit ?_ | refine L_ret ?_)
  refine H_region k88 s88_3 rfl fun K hK => ?_; simp (config := { maxSteps := 4000000 }) only [go_sem, beq_self_eq_true, List.getElem_toArray, List.getElem_cons_zero, List.getElem_cons_succ, decide_true, decide_false, cond_true, cond_false, Nat.reduceBEq, reduceCtorEq, Nat.reduceAdd, Nat.reduceMul, Nat.reduceSub, reduceIte, Int.reduceToNat, Int.reduceEq, Int.reduceLT, Int.reduceLE, Nat.reduceLeDiff, Nat.reduceEqDiff, eq_self, and_self, s88_3]
  suffices hc : ∀ d : Bool, d = decide (x < 0 ∨ k < 0) → K [(0, ptrV s), (1, .int .i64 x), (2, .int .i64 k), (6, .int .i64 0), (7, .bool false), (10, .bool d)] w by
    refine grd_split (fun h1 => ?_) (fun h1 => ?_)
    · (try simp (config := { maxSteps := 4000000 }) only [go_sem, beq_self_eq_true, List.getElem_toArray, List.getElem_cons_zero, List.getElem_cons_succ, decide_true, decide_false, cond_true, cond_false, Nat.reduceBEq, reduceCtorEq, Nat.reduceAdd, Nat.reduceMul, Nat.reduceSub, reduceIte, Int.reduceToNat, Int.reduceEq, Int.reduceLT, Int.reduceLE, Nat.reduceLeDiff, Nat.reduceEqDiff, eq_self, and_self, h1])
      exact hc _ (by simp at h1; simp [h1])
    · (try simp (config := { maxSteps := 4000000 }) only [go_sem, beq_self_eq_true, List.getElem_toArray, List.getElem_cons_zero, List.getElem_cons_succ, decide_true, decide_false, cond_true, cond_false, Nat.reduceBEq, reduceCtorEq, Nat.reduceAdd, Nat.reduceMul, Nat.reduceSub, reduceIte, Int.reduceToNat, Int.reduceEq, Int.reduceLT, Int.reduceLE, Nat.reduceLeDiff, Nat.reduceEqDiff, eq_self, and_self, h1])
      exact hc _ (by simp at h1; simp [Int.not_lt.2 h1])
  intro d hd
  refine hK _ _ ?_; clear hK K
  repeat' (first | refine H_seq ?_ | refine H_block ?_ | refine H_skip ?_ | refine H_nil ?_ | refine H_exit ?_ | refine H_ret ?_ | refine B_normal ?_ | refine B_same ?_ | refine B_other rfl ?_ | refine B_ret ?_ | refine L_exit ?_ | refine L_ret ?_)
  cases d with
  | true =>
    refine H_condT rfl rfl ?_
    repeat' (first | refine H_seq ?_ | refine H_block ?_ | refine H_skip ?_ | refine H_nil ?_ | refine H_exit ?_ | refine H_ret ?_ | refine B_normal ?_ | refine B_same ?_ | refine B_other rfl ?_ | refine B_ret ?_ | refine L_exit ?_ | refine L_ret ?_)
    refine H_region k88 s88_4 rfl fun K hK => ?_; simp (config := { maxSteps := 4000000 }) only [go_sem, beq_self_eq_true, List.getElem_toArray, List.getElem_cons_zero, List.getElem_cons_succ, decide_true, decide_false, cond_true, cond_false, Nat.reduceBEq, reduceCtorEq, Nat.reduceAdd, Nat.reduceMul, Nat.reduceSub, reduceIte, Int.reduceToNat, Int.reduceEq, Int.reduceLT, Int.reduceLE, Nat.reduceLeDiff, Nat.reduceEqDiff, eq_self, and_self, s88_4]
    refine hK _ _ ?_; clear hK K
    repeat' (first | refine H_seq ?_ | refine H_block ?_ | refine H_skip ?_ | refine H_nil ?_ | refine H_exit ?_ | refine H_ret ?_ | refine B_normal ?_ | refine B_same ?_ | refine B_other rfl ?_ | refine B_ret ?_ | refine L_exit ?_ | refine L_ret ?_)
    refine F_ret ?_
    (try simp (config := { maxSteps := 4000000 }) only [go_sem, beq_self_eq_true, List.getElem_toArray, List.getElem_cons_zero, List.getElem_cons_succ, decide_true, decide_false, cond_true, cond_false, Nat.reduceBEq, reduceCtorEq, Nat.reduceAdd, Nat.reduceMul, Nat.reduceSub, reduceIte, Int.reduceToNat, Int.reduceEq, Int.reduceLT, Int.reduceLE, Nat.reduceLeDiff, Nat.reduceEqDiff, eq_self, and_self])
    rw [if_pos (by simpa using hd.symm)]
    exact Left_.same h (Fr.refl _ _) 2
  | false =>
  have hd : ¬ (x < 0 ∨ k < 0) := by simpa using hd.symm
  rw [if_neg hd]
  refine H_condF rfl rfl ?_
  repeat' (first | refine H_seq ?_ | refine H_block ?_ | refine H_skip ?_ | refine H_nil ?_ | refine H_exit ?_ | refine H_ret ?_ | refine B_normal ?_ | refine B_same ?_ | refine B_other rfl ?_ | refine B_ret ?_ | refine L_exit ?_ | refine L_ret ?_)
  refine H_region k88 s88_5 rfl fun K hK => ?_; simp (config := { maxSteps := 4000000 }) only [go_sem, beq_self_eq_true, List.getElem_toArray, List.getElem_cons_zero, List.getElem_cons_succ, decide_true, decide_false, cond_true, cond_false, Nat.reduceBEq, reduceCtorEq, Nat.reduceAdd, Nat.reduceMul, Nat.reduceSub, reduceIte, Int.reduceToNat, Int.reduceEq, Int.reduceLT, Int.reduceLE, Nat.reduceLeDiff, Nat.reduceEqDiff, eq_self, and_self, s88_5, hh.hs.cell]
  suffices hc : ∀ d : Bool, d = decide (x < size ∧ 0 < k) → K [(0, ptrV s), (1, .int .i64 x), (2, .int .i64 k), (6, .int .i64 0), (7, .bool false), (10, .bool false), (26, .bool d)] w by
    refine grd_split (fun h1 => ?_) (fun h1 => ?_)
    · (try simp (config := { maxSteps := 4000000 }) only [go_sem, beq_self_eq_true, List.getElem_toArray, List.getElem_cons_zero, List.getElem_cons_succ, decide_true, decide_false, cond_true, cond_false, Nat.reduceBEq, reduceCtorEq, Nat.reduceAdd, Nat.reduceMul, Nat.reduceSub, reduceIte, Int.reduceToNat, Int.reduceEq, Int.reduceLT, Int.reduceLE, Nat.reduceLeDiff, Nat.reduceEqDiff, eq_self, and_self, h1])
      exact hc _ (by simp at h1; simp [h1])
    · (try simp (config := { maxSteps := 4000000 }) only [go_sem, beq_self_eq_true, List.getElem_toArray, List.getElem_cons_zero, List.getElem_cons_succ, decide_true, decide_false, cond_true, cond_false, Nat.reduceBEq, reduceCtorEq, Nat.reduceAdd, Nat.reduceMul, Nat.reduceSub, reduceIte, Int.reduceToNat, Int.reduceEq, Int.reduceLT, Int.reduceLE, Nat.reduceLeDiff, Nat.reduceEqDiff, eq_self, and_self, h1])
      exact hc _ (by simp at h1; simp [Int.not_lt.2 h1])
  intro d hd2
  refine hK _ _ ?_; clear hK K
  repeat' (first | refine H_seq ?_ | refine H_block ?_ | refine H_skip ?_ | refine H_nil ?_ | refine H_exit ?_ | refine H_ret ?_ | refine B_normal ?_ | refine B_same ?_ | refine B_other rfl ?_ | refine B_ret ?_ | refine L_exit ?_ | refine L_ret ?_)
  cases d with
  | false =>
    refine H_condF rfl rfl ?_
    repeat' (first | refine H_seq ?_ | refine H_block ?_ | refine H_skip ?_ | refine H_nil ?_ | refine H_exit ?_ | refine H_ret ?_ | refine B_normal ?_ | refine B_same ?_ | refine B_other rfl ?_ | refine B_ret ?_ | refine L_exit ?_ | refine L_ret ?_)
    refine H_region k88 s88_7 rfl fun K hK => ?_; simp (config := { maxSteps := 4000000 }) only [go_sem, beq_self_eq_true, List.getElem_toArray, List.getElem_cons_zero, List.getElem_cons_succ, decide_true, decide_false, cond_true, cond_false, Nat.reduceBEq, reduceCtorEq, Nat.reduceAdd, Nat.reduceMul, Nat.reduceSub, reduceIte, Int.reduceToNat, Int.reduceEq, Int.reduceLT, Int.reduceLE, Nat.reduceLeDiff, Nat.reduceEqDiff, eq_self, and_self, s88_7]
    refine hK _ _ ?_; clear hK K
    repeat' (first | refine H_seq ?_ | refine H_block ?_ | refine H_skip ?_ | refine H_nil ?_ | refine H_exit ?_ | refine H_ret ?_ | refine B_normal ?_ | refine B_same ?_ | refine B_other rfl ?_ | refine B_ret ?_ | refine L_exit ?_ | refine L_ret ?_)
    refine F_ret ?_
    (try simp (config := { maxSteps := 4000000 }) only [go_sem, beq_self_eq_true, List.getElem_toArray, List.getElem_cons_zero, List.getElem_cons_succ, decide_true, decide_false, cond_true, cond_false, Nat.reduceBEq, reduceCtorEq, Nat.reduceAdd, Nat.reduceMul, Nat.reduceSub, reduceIte, Int.reduceToNat, Int.reduceEq, Int.reduceLT, Int.reduceLE, Nat.reduceLeDiff, Nat.reduceEqDiff, eq_self, and_self])
    rw [if_neg (by simpa using hd2.symm)]
    exact Left_.same h (Fr.refl _ _) 0
  | true =>
  have hd2 : x < size ∧ 0 < k := by simpa using hd2.symm
  rw [if_pos hd2]
  obtain ⟨x', rfl⟩ : ∃ x' : Nat, x = x' := ⟨x.toNat, by omega⟩
  obtain ⟨t, ht⟩ : ∃ t : Nat, (x' : Int) + min k (size - x') = t := ⟨((x' : Int) + min k (size - x')).toNat, by omega⟩
  refine H_condT rfl rfl ?_
  repeat' (first | refine H_seq ?_ | refine H_block ?_ | refine H_skip ?_ | refine H_nil ?_ | refine H_exit ?_ | refine H_ret ?_ | refine B_normal ?_ | refine B_same ?_ | refine B_other rfl ?_ | refine B_ret ?_ | refine L_exit ?_ | refine L_ret ?_)
  refine H_region k88 s88_6 rfl fun K hK => ?_; simp (config := { maxSteps := 4000000 }) only [go_sem, beq_self_eq_true, List.getElem_toArray, List.getElem_cons_zero, List.getElem_cons_succ, decide_true, decide_false, cond_true, cond_false, Nat.reduceBEq, reduceCtorEq, Nat.reduceAdd, Nat.reduceMul, Nat.reduceSub, reduceIte, Int.reduceToNat, Int.reduceEq, Int.reduceLT, Int.reduceLE, Nat.reduceLeDiff, Nat.reduceEqDiff, eq_self, and_self, s88_6, hh.hs.cell]
  rw [wrapI (n := (size : Int) - x') (by omega), wrapI (by omega), ht]
  have hlt : x' < t := by omega
  refine callC tcall_92 (cleared_spec s a n c size ms x' t _ hh h.oks hlt (by omega)) ?_
  rintro v u ⟨lv, rfl, ho, hb, f⟩
  simp (config := { maxSteps := 4000000 }) only [go_sem, beq_self_eq_true, List.getElem_toArray, List.getElem_cons_zero, List.getElem_cons_succ, decide_true, decide_false, cond_true, cond_false, Nat.reduceBEq, reduceCtorEq, Nat.reduceAdd, Nat.reduceMul, Nat.reduceSub, reduceIte, Int.reduceToNat, Int.reduceEq, Int.reduceLT, Int.reduceLE, Nat.reduceLeDiff, Nat.reduceEqDiff, eq_self, and_self, s88_6_1]
  obtain ⟨a2, n2, c2, rfl, _⟩ := id ho
  refine ⟨rfl, _, hh.hs.fr f (fun q => q), by simp [vcells_slice], by simp [vcells_slice, Value.oneCell'], ?_⟩
  (try simp (config := { maxSteps := 4000000 }) only [go_sem, beq_self_eq_true, List.getElem_toArray, List.getElem_cons_zero, List.getElem_cons_succ, decide_true, decide_false, cond_true, cond_false, Nat.reduceBEq, reduceCtorEq, Nat.reduceAdd, Nat.reduceMul, Nat.reduceSub, reduceIte, Int.reduceToNat, Int.reduceEq, Int.reduceLT, Int.reduceLE, Nat.reduceLeDiff, Nat.reduceEqDiff, eq_self, and_self])
  intro u2 hp2
  refine hK _ _ ?_; clear hK K
  repeat' (first | refine H_seq ?_ | refine H_block ?_ | refine H_skip ?_ | refine H_nil ?_ | refine H_exit ?_ | refine H_ret ?_ | refine B_normal ?_ | refine B_same ?_ | refine B_other rfl ?_ | refine B_ret ?_ | refine L_exit ?_ | refine L_ret ?_)
  refine H_region k88 s88_7 rfl fun K hK => ?_; simp (config := { maxSteps := 4000000 }) only [go_sem, beq_self_eq_true, List.getElem_toArray, List.getElem_cons_zero, List.getElem_cons_succ, decide_true, decide_false, cond_true, cond_false, Nat.reduceBEq, reduceCtorEq, Nat.reduceAdd, Nat.reduceMul, Nat.reduceSub, reduceIte, Int.reduceToNat, Int.reduceEq, Int.reduceLT, Int.reduceLE, Nat.reduceLeDiff, Nat.reduceEqDiff, eq_self, and_self, s88_7]
  refine hK _ _ ?_; clear hK K
  repeat' (first | refine H_seq ?_ | refine H_block ?_ | refine H_skip ?_ | refine H_nil ?_ | refine H_exit ?_ | refine H_ret ?_ | refine B_normal ?_ | refine B_same ?_ | refine B_other rfl ?_ | refine B_ret ?_ | refine L_exit ?_ | refine L_ret ?_)
  refine F_ret ?_
  (try simp (config := { maxSteps := 4000000 }) only [go_sem, beq_self_eq_true, List.getElem_toArray, List.getElem_cons_zero, List.getElem_cons_succ, decide_true, decide_false, cond_true, cond_false, Nat.reduceBEq, reduceCtorEq, Nat.reduceAdd, Nat.reduceMul, Nat.reduceSub, reduceIte, Int.reduceToNat, Int.reduceEq, Int.reduceLT, Int.reduceLE, Nat.reduceLeDiff, Nat.reduceEqDiff, eq_self, and_self])
  have hcan : Canon ((ms.flatMap (clearMP x' t)).map MP.pc) size := by
    rw [clearML_pc]
    exact ⟨clear_ord hlt h.canon.ord, h.canon.size, Nat.le_trans (clear_held hlt _) h.canon.held⟩
  obtain ⟨g1, g2⟩ := h.set f ho hb clearML_der (clearML_ok h.oks) hcan hp2
  refine ⟨rfl, _, g1, ?_, g2⟩
  simp only [clearML_pc, ht, Int.toNat_natCast]
end Go.Proofs.Ytlffbjchcknmfaa

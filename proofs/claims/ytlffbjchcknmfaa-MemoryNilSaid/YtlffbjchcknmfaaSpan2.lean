/- span: end, held, sort.Search, behind. -/
import Derived.Test.YtlffbjchcknmfaaSpan1
import Derived.Test.YtlffbjchcknmfaaSrow
namespace Go.Proofs.Ytlffbjchcknmfaa
open Go
set_option linter.unusedVariables false
set_option linter.unusedSimpArgs false
set_option maxRecDepth 100000
theorem end_spec (at_ : Int) (a : Option Addr) (n c : Nat) (w : World) (h1 : 0 ≤ at_) (h2 : at_ ≤ 1073741824) (h3 : n ≤ 1073741824):
    CallsE Try.prog 91 [.agg #[.int .i64 at_, .slice a n c]] w fun v u => v = .int .i64 (at_ + n) ∧ Fr Nob w u := by
  refine enter Try.func91 rfl Try.results91 Try.ntmps91 rfl ?_
  repeat' (first | refine H_seq ?_ | refine H_block ?_ | refine H_skip ?_ | refine H_nil ?_ | refine H_exit ?_ | refine H_ret ?_ | refine B_normal ?_ | refine B_same ?_ | refine B_other rfl ?_ | refine B_ret ?_ | refine L_exit ?_ | refine L_ret ?_)
  refine H_region k91 s91_0 rfl fun K hK => ?_; simp (config := { maxSteps := 4000000 }) only [go_sem, beq_self_eq_true, List.getElem_toArray, List.getElem_cons_zero, List.getElem_cons_succ, decide_true, decide_false, cond_true, cond_false, Nat.reduceBEq, reduceCtorEq, Nat.reduceAdd, Nat.reduceMul, Nat.reduceSub, reduceIte, Int.reduceToNat, Int.reduceEq, Int.reduceLT, Int.reduceLE, Nat.reduceLeDiff, Nat.reduceEqDiff, eq_self, and_self, s91_0]
  intro b u hN
  refine hK _ _ ?_; clear hK K
  repeat' (first | refine H_seq ?_ | refine H_block ?_ | refine H_skip ?_ | refine H_nil ?_ | refine H_exit ?_ | refine H_ret ?_ | refine B_normal ?_ | refine B_same ?_ | refine B_other rfl ?_ | refine B_ret ?_ | refine L_exit ?_ | refine L_ret ?_)
  have c0 := hN.blk.cell
  refine H_region k91 s91_1 rfl fun K hK => ?_; simp (config := { maxSteps := 4000000 }) only [go_sem, beq_self_eq_true, List.getElem_toArray, List.getElem_cons_zero, List.getElem_cons_succ, decide_true, decide_false, cond_true, cond_false, Nat.reduceBEq, reduceCtorEq, Nat.reduceAdd, Nat.reduceMul, Nat.reduceSub, reduceIte, Int.reduceToNat, Int.reduceEq, Int.reduceLT, Int.reduceLE, Nat.reduceLeDiff, Nat.reduceEqDiff, eq_self, and_self, s91_1, c0]
  refine hK _ _ ?_; clear hK K
  repeat' (first | refine H_seq ?_ | refine H_block ?_ | refine H_skip ?_ | refine H_nil ?_ | refine H_exit ?_ | refine H_ret ?_ | refine B_normal ?_ | refine B_same ?_ | refine B_other rfl ?_ | refine B_ret ?_ | refine L_exit ?_ | refine L_ret ?_)
  refine F_ret ?_
  (try simp (config := { maxSteps := 4000000 }) only [go_sem, beq_self_eq_true, List.getElem_toArray, List.getElem_cons_zero, List.getElem_cons_succ, decide_true, decide_false, cond_true, cond_false, Nat.reduceBEq, reduceCtorEq, Nat.reduceAdd, Nat.reduceMul, Nat.reduceSub, reduceIte, Int.reduceToNat, Int.reduceEq, Int.reduceLT, Int.reduceLE, Nat.reduceLeDiff, Nat.reduceEqDiff, eq_self, and_self])
  rw [wrapI (by omega)]
  exact ⟨rfl, hN.fr⟩
/-- The least i that q holds of, by halves. -/
theorem search_spec (n : Nat) (q : Nat → Bool) (g : FuncId) (p1 p2 : Value) (w : World) (hn : n ≤ 1099511627776) (ht : tcall Try.prog g = true) (hq : ∀ i j, i ≤ j → j < n → q i = true → q j = true)
    (hg : ∀ i, i < n → ∀ w', Fr Nob w w' → CallsE Try.prog g [.int .i64 i, p1, p2] w' fun r u => r = .bool (q i) ∧ Fr Nob w' u) :
    CallsE Try.prog 128 [.int .i64 n, .func (.func g) #[] #[p1, p2]] w fun r u => ∃ i : Nat, r = .int .i64 i ∧ i ≤ n ∧ (∀ j, j < i → q j = false) ∧ (i < n → q i = true) ∧ Fr Nob w u := by
  refine enter Try.func128 rfl Try.results128 Try.ntmps128 rfl ?_
  repeat' (first | refine H_seq ?_ | refine H_block ?_ | refine H_skip ?_ | refine H_nil ?_ | refine H_exit ?_ | refine H_ret ?_ | refine B_normal ?_ | refine B_same ?_ | refine B_other rfl ?_ | refine B_ret ?_ | refine L_exit ?_ | refine L_ret ?_)
  refine H_region k128 s128_0 rfl fun K hK => ?_; simp (config := { maxSteps := 4000000 }) only [go_sem, beq_self_eq_true, List.getElem_toArray, List.getElem_cons_zero, List.getElem_cons_succ, decide_true, decide_false, cond_true, cond_false, Nat.reduceBEq, reduceCtorEq, Nat.reduceAdd, Nat.reduceMul, Nat.reduceSub, reduceIte, Int.reduceToNat, Int.reduceEq, Int.reduceLT, Int.reduceLE, Nat.reduceLeDiff, Nat.reduceEqDiff, eq_self, and_self, s128_0]
  refine hK _ _ ?_; clear hK K
  repeat' (first | refine H_seq ?_ | refine H_block ?_ | refine H_skip ?_ | refine H_nil ?_ | refine H_exit ?_ | refine H_ret ?_ | refine B_normal ?_ | refine B_same ?_ | refine B_other rfl ?_ | refine B_ret ?_ | refine L_exit ?_ | refine L_ret ?_)
  refine H_region k128 s128_1 rfl fun K hK => ?_; simp (config := { maxSteps := 4000000 }) only [go_sem, beq_self_eq_true, List.getElem_toArray, List.getElem_cons_zero, List.getElem_cons_succ, decide_true, decide_false, cond_true, cond_false, Nat.reduceBEq, reduceCtorEq, Nat.reduceAdd, Nat.reduceMul, Nat.reduceSub, reduceIte, Int.reduceToNat, Int.reduceEq, Int.reduceLT, Int.reduceLE, Nat.reduceLeDiff, Nat.reduceEqDiff, eq_self, and_self, s128_1]
  refine hK _ _ ?_; clear hK K
  repeat' (first | refine H_seq ?_ | refine H_block ?_ | refine H_skip ?_ | refine H_nil ?_ | refine H_exit ?_ | refine H_ret ?_ | refine B_normal ?_ | refine B_same ?_ | refine B_other rfl ?_ | refine B_ret ?_ | refine L_exit ?_ | refine L_ret ?_)
  refine H_loop (fun x : Nat × Nat => [(1, .func (.func g) #[] #[p1, p2]), (5, .int .i64 x.1), (6, .int .i64 x.2)])
    (fun x u => Fr Nob w u ∧ x.1 ≤ x.2 ∧ x.2 ≤ n ∧ (∀ j, j < x.1 → q j = false) ∧ (x.2 < n → q x.2 = true)) (fun x => x.2 - x.1) (0, n) ⟨rfl, rfl, rfl, trivial⟩ ⟨.refl _ _, Nat.zero_le _, Nat.le_refl _, fun j h => absurd h (by simp), fun h => absurd h (by simp)⟩ ?_
  rintro ⟨i, j⟩ u ⟨hf, hij, hjn, hlo, hhi⟩
  simp only at hij hjn hlo hhi
  repeat' (first | refine H_seq ?_ | refine H_block ?_ | refine H_skip ?_ | refine H_nil ?_ | refine H_exit ?_ | refine H_ret ?_ | refine B_normal ?_ | refine B_same ?_ | refine B_other rfl ?_ | refine B_ret ?_ | refine L_exit ?_ | refine L_ret ?_)
  refine H_region k128 s128_2 rfl fun K hK => ?_; simp (config := { maxSteps := 4000000 }) only [go_sem, beq_self_eq_true, List.getElem_toArray, List.getElem_cons_zero, List.getElem_cons_succ, decide_true, decide_false, cond_true, cond_false, Nat.reduceBEq, reduceCtorEq, Nat.reduceAdd, Nat.reduceMul, Nat.reduceSub, reduceIte, Int.reduceToNat, Int.reduceEq, Int.reduceLT, Int.reduceLE, Nat.reduceLeDiff, Nat.reduceEqDiff, eq_self, and_self, s128_2]
  refine hK _ _ ?_; clear hK K
  repeat' (first | refine H_seq ?_ | refine H_block ?_ | refine H_skip ?_ | refine H_nil ?_ | refine H_exit ?_ | refine H_ret ?_ | refine B_normal ?_ | refine B_same ?_ | refine B_other rfl ?_ | refine B_ret ?_ | refine L_exit ?_ | refine L_ret ?_)
  by_cases hlt : i < j
  · refine H_condT rfl (by simpa using hlt) ?_
    repeat' (first | refine H_seq ?_ | refine H_block ?_ | refine H_skip ?_ | refine H_nil ?_ | refine H_exit ?_ | refine H_ret ?_ | refine B_normal ?_ | refine B_same ?_ | refine B_other rfl ?_ | refine B_ret ?_ | refine L_exit ?_ | refine L_ret ?_)
    refine H_region k128 s128_3 rfl fun K hK => ?_; simp (config := { maxSteps := 4000000 }) only [go_sem, beq_self_eq_true, List.getElem_toArray, List.getElem_cons_zero, List.getElem_cons_succ, decide_true, decide_false, cond_true, cond_false, Nat.reduceBEq, reduceCtorEq, Nat.reduceAdd, Nat.reduceMul, Nat.reduceSub, reduceIte, Int.reduceToNat, Int.reduceEq, Int.reduceLT, Int.reduceLE, Nat.reduceLeDiff, Nat.reduceEqDiff, eq_self, and_self, s128_3, Try.underlying3, Try.underlying258]
    have e1 : IntKind.i64.wrap ((i : Int) + j) = (i : Int) + j := wrapI (by omega)
    have e2 : IntKind.u64.wrap ((i : Int) + j) = (i : Int) + j := by simp [IntKind.wrap, IntKind.signed, IntKind.bits]; omega
    have e3 : IntKind.i64.wrap (((i : Int) + j) / 2 ^ 1) = (((i + j) / 2 : Nat) : Int) := by rw [wrapI (by omega)]; omega
    refine ⟨by decide, ?_⟩
    rw [e1, e2, e3]
    generalize hh : (i + j) / 2 = h at *
    have hih : i ≤ h := by omega
    have hhj : h < j := by omega
    refine hK _ _ ?_; clear hK K
    repeat' (first | refine H_seq ?_ | refine H_block ?_ | refine H_skip ?_ | refine H_nil ?_ | refine H_exit ?_ | refine H_ret ?_ | refine B_normal ?_ | refine B_same ?_ | refine B_other rfl ?_ | refine B_ret ?_ | refine L_exit ?_ | refine L_ret ?_)
    refine H_region k128 s128_4 rfl fun K hK => ?_; simp (config := { maxSteps := 4000000 }) only [go_sem, beq_self_eq_true, List.getElem_toArray, List.getElem_cons_zero, List.getElem_cons_succ, decide_true, decide_false, cond_true, cond_false, Nat.reduceBEq, reduceCtorEq, Nat.reduceAdd, Nat.reduceMul, Nat.reduceSub, reduceIte, Int.reduceToNat, Int.reduceEq, Int.reduceLT, Int.reduceLE, Nat.reduceLeDiff, Nat.reduceEqDiff, eq_self, and_self, s128_4]
    refine callC ht (hg h (by omega) u hf) ?_
    rintro v u2 ⟨rfl, hf2⟩
    (try simp (config := { maxSteps := 4000000 }) only [go_sem, beq_self_eq_true, List.getElem_toArray, List.getElem_cons_zero, List.getElem_cons_succ, decide_true, decide_false, cond_true, cond_false, Nat.reduceBEq, reduceCtorEq, Nat.reduceAdd, Nat.reduceMul, Nat.reduceSub, reduceIte, Int.reduceToNat, Int.reduceEq, Int.reduceLT, Int.reduceLE, Nat.reduceLeDiff, Nat.reduceEqDiff, eq_self, and_self])
    refine hK _ _ ?_; clear hK K
    repeat' (first | refine H_seq ?_ | refine H_block ?_ | refine H_skip ?_ | refine H_nil ?_ | refine H_exit ?_ | refine H_ret ?_ | refine B_normal ?_ | refine B_same ?_ | refine B_other rfl ?_ | refine B_ret ?_ | refine L_exit ?_ | refine L_ret ?_)
    have hnext : ∀ x, x + 1 ≤ n → IntKind.i64.wrap ((x : Int) + 1) = ((x + 1 : Nat) : Int) := fun x hx => by rw [wrapI (by omega)]; omega
    cases hqh : q h with
    | true =>
      refine H_condF rfl (by simp) ?_
      repeat' (first | refine H_seq ?_ | refine H_block ?_ | refine H_skip ?_ | refine H_nil ?_ | refine H_exit ?_ | refine H_ret ?_ | refine B_normal ?_ | refine B_same ?_ | refine B_other rfl ?_ | refine B_ret ?_ | refine L_exit ?_ | refine L_ret ?_)
      refine H_region k128 s128_6 rfl fun K hK => ?_; simp (config := { maxSteps := 4000000 }) only [go_sem, beq_self_eq_true, List.getElem_toArray, List.getElem_cons_zero, List.getElem_cons_succ, decide_true, decide_false, cond_true, cond_false, Nat.reduceBEq, reduceCtorEq, Nat.reduceAdd, Nat.reduceMul, Nat.reduceSub, reduceIte, Int.reduceToNat, Int.reduceEq, Int.reduceLT, Int.reduceLE, Nat.reduceLeDiff, Nat.reduceEqDiff, eq_self, and_self, s128_6]
      refine hK _ _ ?_; clear hK K
      repeat' (first | refine H_seq ?_ | refine H_block ?_ | refine H_skip ?_ | refine H_nil ?_ | refine H_exit ?_ | refine H_ret ?_ | refine B_normal ?_ | refine B_same ?_ | refine B_other rfl ?_ | refine B_ret ?_ | refine L_exit ?_ | refine L_ret ?_)
      refine L_normal ⟨(i, h), ⟨rfl, rfl, rfl, trivial⟩, ⟨hf.trans hf2, hih, by simp only; omega, hlo, fun _ => hqh⟩, ?_⟩
      show h - i < j - i
      omega
    | false =>
      refine H_condT rfl (by simp) ?_
      repeat' (first | refine H_seq ?_ | refine H_block ?_ | refine H_skip ?_ | refine H_nil ?_ | refine H_exit ?_ | refine H_ret ?_ | refine B_normal ?_ | refine B_same ?_ | refine B_other rfl ?_ | refine B_ret ?_ | refine L_exit ?_ | refine L_ret ?_)
      refine H_region k128 s128_5 rfl fun K hK => ?_; simp (config := { maxSteps := 4000000 }) only [go_sem, beq_self_eq_true, List.getElem_toArray, List.getElem_cons_zero, List.getElem_cons_succ, decide_true, decide_false, cond_true, cond_false, Nat.reduceBEq, reduceCtorEq, Nat.reduceAdd, Nat.reduceMul, Nat.reduceSub, reduceIte, Int.reduceToNat, Int.reduceEq, Int.reduceLT, Int.reduceLE, Nat.reduceLeDiff, Nat.reduceEqDiff, eq_self, and_self, s128_5]
      refine hK _ _ ?_; clear hK K
      repeat' (first | refine H_seq ?_ | refine H_block ?_ | refine H_skip ?_ | refine H_nil ?_ | refine H_exit ?_ | refine H_ret ?_ | refine B_normal ?_ | refine B_same ?_ | refine B_other rfl ?_ | refine B_ret ?_ | refine L_exit ?_ | refine L_ret ?_)
      rw [hnext h (by omega)]
      refine L_normal ⟨(h + 1, j), ⟨rfl, rfl, rfl, trivial⟩, ⟨hf.trans hf2, hhj, hjn, fun k hk => ?_, hhi⟩, ?_⟩
      · cases hqk : q k with
        | false => rfl
        | true => rw [hq k h (by simp only at hk; omega) (by omega) hqk] at hqh; cases hqh
      · show j - (h + 1) < j - i
        omega
  · refine H_condF rfl (by simpa using hlt) ?_
    repeat' (first | refine H_seq ?_ | refine H_block ?_ | refine H_skip ?_ | refine H_nil ?_ | refine H_exit ?_ | refine H_ret ?_ | refine B_normal ?_ | refine B_same ?_ | refine B_other rfl ?_ | refine B_ret ?_ | refine L_exit ?_ | refine L_ret ?_)
    refine H_region k128 s128_7 rfl fun K hK => ?_; simp (config := { maxSteps := 4000000 }) only [go_sem, beq_self_eq_true, List.getElem_toArray, List.getElem_cons_zero, List.getElem_cons_succ, decide_true, decide_false, cond_true, cond_false, Nat.reduceBEq, reduceCtorEq, Nat.reduceAdd, Nat.reduceMul, Nat.reduceSub, reduceIte, Int.reduceToNat, Int.reduceEq, Int.reduceLT, Int.reduceLE, Nat.reduceLeDiff, Nat.reduceEqDiff, eq_self, and_self, s128_7]
    refine hK _ _ ?_; clear hK K
    repeat' (first | refine H_seq ?_ | refine H_block ?_ | refine H_skip ?_ | refine H_nil ?_ | refine H_exit ?_ | refine H_ret ?_ | refine B_normal ?_ | refine B_same ?_ | refine B_other rfl ?_ | refine B_ret ?_ | refine L_exit ?_ | refine L_ret ?_)
    refine F_ret ?_
    (try simp (config := { maxSteps := 4000000 }) only [go_sem, beq_self_eq_true, List.getElem_toArray, List.getElem_cons_zero, List.getElem_cons_succ, decide_true, decide_false, cond_true, cond_false, Nat.reduceBEq, reduceCtorEq, Nat.reduceAdd, Nat.reduceMul, Nat.reduceSub, reduceIte, Int.reduceToNat, Int.reduceEq, Int.reduceLT, Int.reduceLE, Nat.reduceLeDiff, Nat.reduceEqDiff, eq_self, and_self])
    exact ⟨i, rfl, by omega, hlo, fun h => by have : i = j := by omega
                                              subst this; exact hhi h, hf⟩
/-- Where a piece ends. -/
def MP.end_ (m : MP) : Nat := m.at_ + m.bs.length
/-- What the header of bytes with holes is in memory, as far as reading goes. -/
structure Hd (w : World) (s : Nat) (a : Option Addr) (n c : Nat) (size : Nat) (ms : List MP) : Prop where
  hs : W w s [.slice a n c, .int .i64 size]
  row : Row w (.slice a n c) 2 (mcells ms)
  canon : Canon (ms.map MP.pc) size
theorem Hd.fr {w u : World} {s : Nat} {a : Option Addr} {n c size : Nat} {ms : List MP} (h : Hd w s a n c size ms) (f : Fr Nob w u) : Hd u s a n c size ms :=
  ⟨h.hs.fr f (fun q => q), h.row.fr f (fun _ _ q => q), h.canon⟩
theorem Hd.len {w : World} {s : Nat} {a : Option Addr} {n c size : Nat} {ms : List MP} (h : Hd w s a n c size ms) : ms.length = n := (h.row.elem (f := MP.cells) (fun _ _ => rfl) (by decide)).1
theorem Hd.cells {w : World} {s : Nat} {a : Option Addr} {n c size : Nat} {ms : List MP} (h : Hd w s a n c size ms) (h0 : 0 < n) :
    ∃ b o, a = some ⟨b, o, none⟩ ∧ ∀ i m, ms[i]? = some m → w.cell? ⟨b, o + i * 2, none⟩ = some (.int .i64 m.at_) ∧ w.cell? ⟨b, o + i * 2 + 1, none⟩ = some (.slice (some ⟨m.b, m.o, none⟩) m.bs.length m.c) := by
  obtain ⟨b, o, ha, _, hc⟩ := (h.row.elem (f := MP.cells) (fun _ _ => rfl) (by decide)).2 h0
  exact ⟨b, o, ha, fun i m hm => ⟨hc i m hm 0 (by decide), hc i m hm 1 (by decide)⟩⟩
theorem canon_end {ms : List MP} {size : Nat} (h : Canon (ms.map MP.pc) size) {m : MP} (hm : m ∈ ms) : 0 < m.bs.length ∧ m.at_ + m.bs.length ≤ size := by
  have := h.ord.lo m.pc (List.mem_map.2 ⟨m, hm, rfl⟩)
  exact ⟨this.2.1, this.2.2⟩
theorem behind1_spec (b1 b2 s : Nat) (a : Option Addr) (n c size : Nat) (ms : List MP) (at_ : Int) (i : Nat) (m : MP) (w : World) (h1 : W w b1 [ptrV s]) (h2 : W w b2 [.int .i64 at_]) (hh : Hd w s a n c size ms) (hm : ms[i]? = some m) :
    CallsE Try.prog 129 [.int .i64 i, ptrV b1, ptrV b2] w fun r u => r = .bool (decide (at_ < m.end_)) ∧ Fr Nob w u := by
  have hi : i < n := by rw [← hh.len]; exact (List.getElem?_eq_some_iff.1 hm).1
  obtain ⟨b, o, rfl, hc⟩ := hh.cells (by omega)
  obtain ⟨c0, c1⟩ := hc i m hm
  have he := canon_end hh.canon (List.mem_of_getElem? hm)
  have hz := hh.canon.size
  refine enter Try.func129 rfl Try.results129 Try.ntmps129 rfl ?_
  repeat' (first | refine H_seq ?_ | refine H_block ?_ | refine H_skip ?_ | refine H_nil ?_ | refine H_exit ?_ | refine H_ret ?_ | refine B_normal ?_ | refine B_same ?_ | refine B_other rfl ?_ | refine B_ret ?_ | refine L_exit ?_ | refine L_ret ?_)
  refine H_region k129 s129_0 rfl fun K hK => ?_; simp (config := { maxSteps := 4000000 }) only [go_sem, beq_self_eq_true, List.getElem_toArray, List.getElem_cons_zero, List.getElem_cons_succ, decide_true, decide_false, cond_true, cond_false, Nat.reduceBEq, reduceCtorEq, Nat.reduceAdd, Nat.reduceMul, Nat.reduceSub, reduceIte, Int.reduceToNat, Int.reduceEq, Int.reduceLT, Int.reduceLE, Nat.reduceLeDiff, Nat.reduceEqDiff, eq_self, and_self, s129_0]
  refine hK _ _ ?_; clear hK K
  repeat' (first | refine H_seq ?_ | refine H_block ?_ | refine H_skip ?_ | refine H_nil ?_ | refine H_exit ?_ | refine H_ret ?_ | refine B_normal ?_ | refine B_same ?_ | refine B_other rfl ?_ | refine B_ret ?_ | refine L_exit ?_ | refine L_ret ?_)
  refine H_drawn k129 s129_1 p129_1 (Nob) rfl mixed (by as_aux_lemma => kernel_rfl) fun K hK => ?_; simp (config := { maxSteps := 4000000 }) only [go_sem, beq_self_eq_true, List.getElem_toArray, List.getElem_cons_zero, List.getElem_cons_succ, decide_true, decide_false, cond_true, cond_false, Nat.reduceBEq, reduceCtorEq, Nat.reduceAdd, Nat.reduceMul, Nat.reduceSub, reduceIte, Int.reduceToNat, Int.reduceEq, Int.reduceLT, Int.reduceLE, Nat.reduceLeDiff, Nat.reduceEqDiff, eq_self, and_self, s129_1, p129_1, h1.cell, h2.cell, hh.hs.cell, c0, c1]
  refine ⟨fun q => q, fun q => q, ⟨by omega, by omega⟩, fun q => q, fun q => q, callC tcall_91 (end_spec _ _ _ _ _ (by omega) (by omega) (by omega)) ?_⟩
  rintro v u ⟨rfl, f⟩
  refine ⟨f, ?_⟩
  simp (config := { maxSteps := 4000000 }) only [go_sem, beq_self_eq_true, List.getElem_toArray, List.getElem_cons_zero, List.getElem_cons_succ, decide_true, decide_false, cond_true, cond_false, Nat.reduceBEq, reduceCtorEq, Nat.reduceAdd, Nat.reduceMul, Nat.reduceSub, reduceIte, Int.reduceToNat, Int.reduceEq, Int.reduceLT, Int.reduceLE, Nat.reduceLeDiff, Nat.reduceEqDiff, eq_self, and_self, s129_1, p129_1_1]
  refine hK _ _ ?_; clear hK K
  repeat' (first | refine H_seq ?_ | refine H_block ?_ | refine H_skip ?_ | refine H_nil ?_ | refine H_exit ?_ | refine H_ret ?_ | refine B_normal ?_ | refine B_same ?_ | refine B_other rfl ?_ | refine B_ret ?_ | refine L_exit ?_ | refine L_ret ?_)
  refine F_ret ?_
  (try simp (config := { maxSteps := 4000000 }) only [go_sem, beq_self_eq_true, List.getElem_toArray, List.getElem_cons_zero, List.getElem_cons_succ, decide_true, decide_false, cond_true, cond_false, Nat.reduceBEq, reduceCtorEq, Nat.reduceAdd, Nat.reduceMul, Nat.reduceSub, reduceIte, Int.reduceToNat, Int.reduceEq, Int.reduceLT, Int.reduceLE, Nat.reduceLeDiff, Nat.reduceEqDiff, eq_self, and_self])
  have : ((m.end_ : Nat) : Int) = m.at_ + m.bs.length := by simp [MP.end_]
  rw [this]
  exact ⟨rfl, f⟩
/-- The first piece that ends behind a place. -/
def behindL (ms : List MP) (at_ : Int) (i : Nat) : Prop := i ≤ ms.length ∧ (∀ j m, j < i → ms[j]? = some m → (m.end_ : Int) ≤ at_) ∧ ∀ j m, i ≤ j → ms[j]? = some m → at_ < m.end_
theorem ord_get {size : Nat} : ∀ {lo : Nat} {ps : List Pc}, Ord lo ps size → ∀ (i j : Nat) (p q : Pc), i < j → ps[i]? = some p → ps[j]? = some q → p.1 + p.2.length + 1 ≤ q.1
  | lo, [], _, i, j, p, q, _, h, _ => by simp at h
  | lo, x :: r, ⟨_, _, _, h4⟩, 0, j + 1, p, q, _, h, k => by
    simp only [List.getElem?_cons_zero, Option.some.injEq, List.getElem?_cons_succ] at h k
    subst h
    exact (h4.lo q (List.mem_of_getElem? k)).1
  | lo, x :: r, ⟨_, _, _, h4⟩, i + 1, j + 1, p, q, hij, h, k => by
    simp only [List.getElem?_cons_succ] at h k
    exact ord_get h4 i j p q (by omega) h k
theorem behind_spec (s : Nat) (a : Option Addr) (n c size : Nat) (ms : List MP) (at_ : Int) (w : World) (hh : Hd w s a n c size ms) :
    CallsE Try.prog 90 [ptrV s, .int .i64 at_] w fun r u => ∃ i : Nat, r = .int .i64 i ∧ behindL ms at_ i ∧ Fr Nob w u := by
  refine enter Try.func90 rfl Try.results90 Try.ntmps90 rfl ?_
  repeat' (first | refine H_seq ?_ | refine H_block ?_ | refine H_skip ?_ | refine H_nil ?_ | refine H_exit ?_ | refine H_ret ?_ | refine B_normal ?_ | refine B_same ?_ | refine B_other rfl ?_ | refine B_ret ?_ | refine L_exit ?_ | refine L_ret ?_)
  refine H_region k90 s90_0 rfl fun K hK => ?_; simp (config := { maxSteps := 4000000 }) only [go_sem, beq_self_eq_true, List.getElem_toArray, List.getElem_cons_zero, List.getElem_cons_succ, decide_true, decide_false, cond_true, cond_false, Nat.reduceBEq, reduceCtorEq, Nat.reduceAdd, Nat.reduceMul, Nat.reduceSub, reduceIte, Int.reduceToNat, Int.reduceEq, Int.reduceLT, Int.reduceLE, Nat.reduceLeDiff, Nat.reduceEqDiff, eq_self, and_self, s90_0]
  intro b1 w1 h1
  (try simp (config := { maxSteps := 4000000 }) only [go_sem, beq_self_eq_true, List.getElem_toArray, List.getElem_cons_zero, List.getElem_cons_succ, decide_true, decide_false, cond_true, cond_false, Nat.reduceBEq, reduceCtorEq, Nat.reduceAdd, Nat.reduceMul, Nat.reduceSub, reduceIte, Int.reduceToNat, Int.reduceEq, Int.reduceLT, Int.reduceLE, Nat.reduceLeDiff, Nat.reduceEqDiff, eq_self, and_self])
  intro b2 w2 h2
  refine hK _ _ ?_; clear hK K
  repeat' (first | refine H_seq ?_ | refine H_block ?_ | refine H_skip ?_ | refine H_nil ?_ | refine H_exit ?_ | refine H_ret ?_ | refine B_normal ?_ | refine B_same ?_ | refine B_other rfl ?_ | refine B_ret ?_ | refine L_exit ?_ | refine L_ret ?_)
  have f2 := h1.fr.trans h2.fr
  have hh2 := hh.fr f2
  have h12 := h2.keepW h1.blk
  have hn := hh.len
  have hheld : n ≤ 4194304 := by
    have h1 := hh.canon.held
    have : ∀ l : List MP, (∀ m ∈ l, 0 < m.bs.length) → l.length ≤ heldL (l.map MP.pc) := by
      intro l
      induction l with
      | nil => intro _; exact Nat.zero_le _
      | cons x r ih =>
        intro h
        have := ih (fun m hm => h m (by simp [hm]))
        have := h x (by simp)
        rw [List.map_cons, held_cons]
        simp only [List.length_cons, MP.pc]
        omega
    have := this ms (fun m hm => (canon_end hh.canon hm).1)
    omega
  refine H_region k90 s90_1 rfl fun K hK => ?_; simp (config := { maxSteps := 4000000 }) only [go_sem, beq_self_eq_true, List.getElem_toArray, List.getElem_cons_zero, List.getElem_cons_succ, decide_true, decide_false, cond_true, cond_false, Nat.reduceBEq, reduceCtorEq, Nat.reduceAdd, Nat.reduceMul, Nat.reduceSub, reduceIte, Int.reduceToNat, Int.reduceEq, Int.reduceLT, Int.reduceLE, Nat.reduceLeDiff, Nat.reduceEqDiff, eq_self, and_self, s90_1, h12.cell, hh2.hs.cell, h2.blk.cell]
  refine callC tcall_128 (search_spec n (fun i => match ms[i]? with | some m => decide (at_ < m.end_) | none => false) 129 (ptrV b1) (ptrV b2) _ (by omega) tcall_129 (fun i j hij hj hi => ?_) (fun i hi w' f' => ?_)) ?_
  · obtain ⟨x, hx⟩ : ∃ x, ms[i]? = some x := ⟨ms[i]'(by omega), List.getElem?_eq_getElem _⟩
    obtain ⟨y, hy⟩ : ∃ y, ms[j]? = some y := ⟨ms[j]'(by omega), List.getElem?_eq_getElem _⟩
    simp only [hx, hy, decide_eq_true_eq] at hi ⊢
    rcases Nat.eq_or_lt_of_le hij with rfl | hlt
    · rw [hx] at hy; cases hy; exact hi
    · have := ord_get hh.canon.ord i j x.pc y.pc hlt (by rw [List.getElem?_map, hx]; rfl) (by rw [List.getElem?_map, hy]; rfl)
      simp only [MP.pc] at this
      simp only [MP.end_] at *
      omega
  · obtain ⟨x, hx⟩ : ∃ x, ms[i]? = some x := ⟨ms[i]'(by omega), List.getElem?_eq_getElem _⟩
    simp only [hx]
    exact behind1_spec b1 b2 s a n c size ms at_ i x w' (h12.fr f' (fun q => q)) (h2.blk.fr f' (fun q => q)) (hh2.fr f') hx
  rintro v u ⟨i, rfl, hi, hlo, hhi, f⟩
  (try simp (config := { maxSteps := 4000000 }) only [go_sem, beq_self_eq_true, List.getElem_toArray, List.getElem_cons_zero, List.getElem_cons_succ, decide_true, decide_false, cond_true, cond_false, Nat.reduceBEq, reduceCtorEq, Nat.reduceAdd, Nat.reduceMul, Nat.reduceSub, reduceIte, Int.reduceToNat, Int.reduceEq, Int.reduceLT, Int.reduceLE, Nat.reduceLeDiff, Nat.reduceEqDiff, eq_self, and_self])
  refine hK _ _ ?_; clear hK K
  repeat' (first | refine H_seq ?_ | refine H_block ?_ | refine H_skip ?_ | refine H_nil ?_ | refine H_exit ?_ | refine H_ret ?_ | refine B_normal ?_ | refine B_same ?_ | refine B_other rfl ?_ | refine B_ret ?_ | refine L_exit ?_ | refine L_ret ?_)
  refine F_ret ?_
  (try simp (config := { maxSteps := 4000000 }) only [go_sem, beq_self_eq_true, List.getElem_toArray, List.getElem_cons_zero, List.getElem_cons_succ, decide_true, decide_false, cond_true, cond_false, Nat.reduceBEq, reduceCtorEq, Nat.reduceAdd, Nat.reduceMul, Nat.reduceSub, reduceIte, Int.reduceToNat, Int.reduceEq, Int.reduceLT, Int.reduceLE, Nat.reduceLeDiff, Nat.reduceEqDiff, eq_self, and_self])
  refine ⟨i, rfl, ⟨by omega, fun j m hj hm => ?_, fun j m hj hm => ?_⟩, f2.trans f⟩
  · have := hlo j hj
    simp only [hm, decide_eq_false_iff_not] at this
    omega
  · have hjn : j < n := by rw [← hn]; exact (List.getElem?_eq_some_iff.1 hm).1
    obtain ⟨x, hx⟩ : ∃ x, ms[i]? = some x := ⟨ms[i]'(by omega), List.getElem?_eq_getElem _⟩
    have := hhi (by omega)
    simp only [hx, decide_eq_true_eq] at this
    rcases Nat.eq_or_lt_of_le hj with rfl | hlt
    · rw [hx] at hm; cases hm; exact this
    · have := ord_get hh.canon.ord i j x.pc m.pc hlt (by rw [List.getElem?_map, hx]; rfl) (by rw [List.getElem?_map, hm]; rfl)
      simp only [MP.pc] at this
      simp only [MP.end_] at *
      omega
end Go.Proofs.Ytlffbjchcknmfaa

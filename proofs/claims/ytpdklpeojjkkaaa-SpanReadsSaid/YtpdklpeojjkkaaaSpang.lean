/- mantlelaw01: SpanReads. -/
import Derived.Test.YtpdklpeojjkkaaaSpand
import Derived.Test.YtpdklpeojjkkaaaPc7
import Derived.Test.YtpdklpeojjkkaaaE9
import Derived.Test.YtpdklpeojjkkaaaSpani
namespace Go.Proofs.Ytpdklpeojjkkaaa
open Go
set_option linter.unusedVariables false
set_option linter.unusedSimpArgs false
set_option maxRecDepth 100000
set_option maxHeartbeats 4000000
theorem paint_zero {col : Nat → Nat} {w u : World} {i b : Nat} (hs : w.heap.size ≤ u.heap.size) (h : u.heap.size ≤ b) : paint col w u i b = 0 := by
  unfold paint; rw [if_neg (by omega), if_neg (by omega)]
/-- What is nobody's stays. -/
theorem Row.nobody {w u : World} {col : Nat → Nat} {i : Nat} {v : Value} {xs : List Value} {sz : Nat} (h : Row w v sz xs) (f : Fr (fun b => col b = i) w u) (hi : i ≠ 0) (hz : ∀ b, blk v = some b → col b = 0) : Row u v sz xs :=
  h.fr f (fun b hb q => hi (q.symm.trans (hz b hb)))
theorem spanReads_spec (a : Option Addr) (k c : Nat) (bs : List UInt8) (a' : Option Addr) (n c' : Nat) (l : List MV) (d1 p1 q1 : Int) (x1 : Option Addr) (k1 c1 : Nat) (b1 : List UInt8) (d2 p2 q2 : Int) (x2 : Option Addr) (k2 c2 : Nat) (b2 : List UInt8) (w : World)
    (hb : Row w (.slice a k c) 1 (bvs bs)) (hl : Mvs w a' n c' l) (hp1 : -9223372036854775808 ≤ p1 ∧ p1 ≤ 9223372036854775807) (hb1 : Row w (.slice x1 k1 c1) 1 (bvs b1)) (hp2 : -9223372036854775808 ≤ p2 ∧ p2 ≤ 9223372036854775807) (hb2 : Row w (.slice x2 k2 c2) 1 (bvs b2)) :
    CallsE Try.prog 8 [.slice a k c, .slice a' n c', .agg #[.int .i64 d1, .int .i64 p1, .int .i64 q1, .slice x1 k1 c1], .agg #[.int .i64 d2, .int .i64 p2, .int .i64 q2, .slice x2 k2 c2]] w fun r u => r = .bool true ∧ Fr Nob w u := by
  have hl1 : b1.length = k1 := by have := hb1.len; rw [bvs_len] at this; omega
  have hl2 : b2.length = k2 := by have := hb2.len; rw [bvs_len] at this; omega
  refine enter Try.func8 rfl Try.results8 Try.ntmps8 rfl ?_
  repeat' (first | refine H_seq ?_ | refine H_block ?_ | refine H_skip ?_ | refine H_nil ?_ | refine H_exit ?_ | refine H_ret ?_ | refine B_normal ?_ | refine B_same ?_ | refine B_other rfl ?_ | refine B_ret ?_ | refine L_exit ?_ | refine L_ret ?_)
  refine H_region k8 s8_0 rfl fun K hK => ?_; simp (config := { maxSteps := 4000000 }) only [go_sem, beq_self_eq_true, List.getElem_toArray, List.getElem_cons_zero, List.getElem_cons_succ, decide_true, decide_false, cond_true, cond_false, Nat.reduceBEq, reduceCtorEq, Nat.reduceAdd, Nat.reduceMul, Nat.reduceSub, reduceIte, Int.reduceToNat, Int.reduceEq, Int.reduceLT, Int.reduceLE, Nat.reduceLeDiff, Nat.reduceEqDiff, eq_self, and_self, s8_0]
  intro m1 v1 hm1 m2 v2 hm2
  have f0 : Fr Nob w v2 := hm1.fr.trans hm2.fr
  have hn1 := hm1.num
  have hn2 := hm2.num
  have hs1 := hm1.size
  have hW1 : W v2 m1 [.int .i64 d1, .int .i64 p1, .int .i64 q1, .slice x1 k1 c1] := hm2.keepW hm1.blk
  have hW2 : W v2 m2 [.int .i64 d2, .int .i64 p2, .int .i64 q2, .slice x2 k2 c2] := hm2.blk
  replace hb := hb.fr f0 (fun _ _ q => q)
  replace hb1 := hb1.fr f0 (fun _ _ q => q)
  replace hb2 := hb2.fr f0 (fun _ _ q => q)
  replace hl := hl.fr f0
  clear hm1 hm2
  refine hK _ _ ?_; clear hK K
  repeat' (first | refine H_seq ?_ | refine H_block ?_ | refine H_skip ?_ | refine H_nil ?_ | refine H_exit ?_ | refine H_ret ?_ | refine B_normal ?_ | refine B_same ?_ | refine B_other rfl ?_ | refine B_ret ?_ | refine L_exit ?_ | refine L_ret ?_)
  refine H_region k8 s8_1 rfl fun K hK => ?_; simp (config := { maxSteps := 4000000 }) only [go_sem, beq_self_eq_true, List.getElem_toArray, List.getElem_cons_zero, List.getElem_cons_succ, decide_true, decide_false, cond_true, cond_false, Nat.reduceBEq, reduceCtorEq, Nat.reduceAdd, Nat.reduceMul, Nat.reduceSub, reduceIte, Int.reduceToNat, Int.reduceEq, Int.reduceLT, Int.reduceLE, Nat.reduceLeDiff, Nat.reduceEqDiff, eq_self, and_self, s8_1, hW1.cell, hW2.cell]
  refine callC tcall_31 (sgreat_spec a k c bs a' n c' l v2 hb hl) ?_
  rintro r3 w3 ⟨d, rfl, hd, rfl⟩
  simp (config := { maxSteps := 4000000 }) only [go_sem, beq_self_eq_true, List.getElem_toArray, List.getElem_cons_zero, List.getElem_cons_succ, decide_true, decide_false, cond_true, cond_false, Nat.reduceBEq, reduceCtorEq, Nat.reduceAdd, Nat.reduceMul, Nat.reduceSub, reduceIte, Int.reduceToNat, Int.reduceEq, Int.reduceLT, Int.reduceLE, Nat.reduceLeDiff, Nat.reduceEqDiff, eq_self, and_self, s8_1_1, hW1.cell, hW2.cell]
  suffices hc : ∀ e : Bool, (e = false → bs.length ≤ 131072 ∧ n ≤ 300 ∧ k1 ≤ 1000 ∧ k2 ≤ 1000) → K [(0, .slice a k c), (1, .slice a' n c'), (2, .agg #[.int .i64 d1, .int .i64 p1, .int .i64 q1, .slice x1 k1 c1]), (3, .agg #[.int .i64 d2, .int .i64 p2, .int .i64 q2, .slice x2 k2 c2]), (6, ptrV m1), (7, ptrV m2), (8, .bool false), (36, .bool e)] w3 by
    refine grd_split (fun h1 => ?_) (fun h1 => ?_)
    · subst h1
      (try simp (config := { maxSteps := 4000000 }) only [go_sem, beq_self_eq_true, List.getElem_toArray, List.getElem_cons_zero, List.getElem_cons_succ, decide_true, decide_false, cond_true, cond_false, Nat.reduceBEq, reduceCtorEq, Nat.reduceAdd, Nat.reduceMul, Nat.reduceSub, reduceIte, Int.reduceToNat, Int.reduceEq, Int.reduceLT, Int.reduceLE, Nat.reduceLeDiff, Nat.reduceEqDiff, eq_self, and_self])
      exact hc _ (fun h => by cases h)
    · have hd' := hd h1
      subst h1
      (try simp (config := { maxSteps := 4000000 }) only [go_sem, beq_self_eq_true, List.getElem_toArray, List.getElem_cons_zero, List.getElem_cons_succ, decide_true, decide_false, cond_true, cond_false, Nat.reduceBEq, reduceCtorEq, Nat.reduceAdd, Nat.reduceMul, Nat.reduceSub, reduceIte, Int.reduceToNat, Int.reduceEq, Int.reduceLT, Int.reduceLE, Nat.reduceLeDiff, Nat.reduceEqDiff, eq_self, and_self, hW1.cell])
      refine grd_split (fun h2 => ?_) (fun h2 => ?_)
      · (try simp (config := { maxSteps := 4000000 }) only [go_sem, beq_self_eq_true, List.getElem_toArray, List.getElem_cons_zero, List.getElem_cons_succ, decide_true, decide_false, cond_true, cond_false, Nat.reduceBEq, reduceCtorEq, Nat.reduceAdd, Nat.reduceMul, Nat.reduceSub, reduceIte, Int.reduceToNat, Int.reduceEq, Int.reduceLT, Int.reduceLE, Nat.reduceLeDiff, Nat.reduceEqDiff, eq_self, and_self, h2])
        exact hc _ (fun h => by cases h)
      · (try simp (config := { maxSteps := 4000000 }) only [go_sem, beq_self_eq_true, List.getElem_toArray, List.getElem_cons_zero, List.getElem_cons_succ, decide_true, decide_false, cond_true, cond_false, Nat.reduceBEq, reduceCtorEq, Nat.reduceAdd, Nat.reduceMul, Nat.reduceSub, reduceIte, Int.reduceToNat, Int.reduceEq, Int.reduceLT, Int.reduceLE, Nat.reduceLeDiff, Nat.reduceEqDiff, eq_self, and_self, h2, hW2.cell])
        exact hc _ (fun h => by simp at h h2; exact ⟨hd'.1, hd'.2, by omega, by omega⟩)
  intro e he
  refine hK _ _ ?_; clear hK K
  repeat' (first | refine H_seq ?_ | refine H_block ?_ | refine H_skip ?_ | refine H_nil ?_ | refine H_exit ?_ | refine H_ret ?_ | refine B_normal ?_ | refine B_same ?_ | refine B_other rfl ?_ | refine B_ret ?_ | refine L_exit ?_ | refine L_ret ?_)
  cases e with
  | true =>
    refine H_condT rfl rfl ?_
    repeat' (first | refine H_seq ?_ | refine H_block ?_ | refine H_skip ?_ | refine H_nil ?_ | refine H_exit ?_ | refine H_ret ?_ | refine B_normal ?_ | refine B_same ?_ | refine B_other rfl ?_ | refine B_ret ?_ | refine L_exit ?_ | refine L_ret ?_)
    refine H_region k8 s8_2 rfl fun K hK => ?_; simp (config := { maxSteps := 4000000 }) only [go_sem, beq_self_eq_true, List.getElem_toArray, List.getElem_cons_zero, List.getElem_cons_succ, decide_true, decide_false, cond_true, cond_false, Nat.reduceBEq, reduceCtorEq, Nat.reduceAdd, Nat.reduceMul, Nat.reduceSub, reduceIte, Int.reduceToNat, Int.reduceEq, Int.reduceLT, Int.reduceLE, Nat.reduceLeDiff, Nat.reduceEqDiff, eq_self, and_self, s8_2]
    refine callC tcall_30 (swakes_spec _) ?_
    rintro v2 w2 ⟨rfl, f2⟩
    (try simp (config := { maxSteps := 4000000 }) only [go_sem, beq_self_eq_true, List.getElem_toArray, List.getElem_cons_zero, List.getElem_cons_succ, decide_true, decide_false, cond_true, cond_false, Nat.reduceBEq, reduceCtorEq, Nat.reduceAdd, Nat.reduceMul, Nat.reduceSub, reduceIte, Int.reduceToNat, Int.reduceEq, Int.reduceLT, Int.reduceLE, Nat.reduceLeDiff, Nat.reduceEqDiff, eq_self, and_self])
    refine hK _ _ ?_; clear hK K
    repeat' (first | refine H_seq ?_ | refine H_block ?_ | refine H_skip ?_ | refine H_nil ?_ | refine H_exit ?_ | refine H_ret ?_ | refine B_normal ?_ | refine B_same ?_ | refine B_other rfl ?_ | refine B_ret ?_ | refine L_exit ?_ | refine L_ret ?_)
    refine F_ret ?_
    (try simp (config := { maxSteps := 4000000 }) only [go_sem, beq_self_eq_true, List.getElem_toArray, List.getElem_cons_zero, List.getElem_cons_succ, decide_true, decide_false, cond_true, cond_false, Nat.reduceBEq, reduceCtorEq, Nat.reduceAdd, Nat.reduceMul, Nat.reduceSub, reduceIte, Int.reduceToNat, Int.reduceEq, Int.reduceLT, Int.reduceLE, Nat.reduceLeDiff, Nat.reduceEqDiff, eq_self, and_self])
    exact f0.trans f2
  | false =>
  obtain ⟨hk, hn3, hk1, hk2⟩ := he rfl
  clear he hd
  refine H_condF rfl rfl ?_
  repeat' (first | refine H_seq ?_ | refine H_block ?_ | refine H_skip ?_ | refine H_nil ?_ | refine H_exit ?_ | refine H_ret ?_ | refine B_normal ?_ | refine B_same ?_ | refine B_other rfl ?_ | refine B_ret ?_ | refine L_exit ?_ | refine L_ret ?_)
  refine H_region k8 s8_3 rfl fun K hK => ?_; simp (config := { maxSteps := 4000000 }) only [go_sem, beq_self_eq_true, List.getElem_toArray, List.getElem_cons_zero, List.getElem_cons_succ, decide_true, decide_false, cond_true, cond_false, Nat.reduceBEq, reduceCtorEq, Nat.reduceAdd, Nat.reduceMul, Nat.reduceSub, reduceIte, Int.reduceToNat, Int.reduceEq, Int.reduceLT, Int.reduceLE, Nat.reduceLeDiff, Nat.reduceEqDiff, eq_self, and_self, s8_3]
  refine callC tcall_32 (smade_spec a k c bs a' n c' l _ hb hk hl) ?_
  rintro v4 w4 ⟨s, ms, size, rfl, hs, hes, f4⟩
  (try simp (config := { maxSteps := 4000000 }) only [go_sem, beq_self_eq_true, List.getElem_toArray, List.getElem_cons_zero, List.getElem_cons_succ, decide_true, decide_false, cond_true, cond_false, Nat.reduceBEq, reduceCtorEq, Nat.reduceAdd, Nat.reduceMul, Nat.reduceSub, reduceIte, Int.reduceToNat, Int.reduceEq, Int.reduceLT, Int.reduceLE, Nat.reduceLeDiff, Nat.reduceEqDiff, eq_self, and_self])
  refine hK _ _ ?_; clear hK K
  repeat' (first | refine H_seq ?_ | refine H_block ?_ | refine H_skip ?_ | refine H_nil ?_ | refine H_exit ?_ | refine H_ret ?_ | refine B_normal ?_ | refine B_same ?_ | refine B_other rfl ?_ | refine B_ret ?_ | refine L_exit ?_ | refine L_ret ?_)
  refine H_region k8 s8_4 rfl fun K hK => ?_; simp (config := { maxSteps := 4000000 }) only [go_sem, beq_self_eq_true, List.getElem_toArray, List.getElem_cons_zero, List.getElem_cons_succ, decide_true, decide_false, cond_true, cond_false, Nat.reduceBEq, reduceCtorEq, Nat.reduceAdd, Nat.reduceMul, Nat.reduceSub, reduceIte, Int.reduceToNat, Int.reduceEq, Int.reduceLT, Int.reduceLE, Nat.reduceLeDiff, Nat.reduceEqDiff, eq_self, and_self, s8_4]
  refine callC tcall_32 (smade_spec a k c bs a' n c' l _ (hb.fr f4 (fun _ _ q => q)) hk (hl.fr f4)) ?_
  rintro v5 w5 ⟨t, mt, size', rfl, ht, het, f5⟩
  (try simp (config := { maxSteps := 4000000 }) only [go_sem, beq_self_eq_true, List.getElem_toArray, List.getElem_cons_zero, List.getElem_cons_succ, decide_true, decide_false, cond_true, cond_false, Nat.reduceBEq, reduceCtorEq, Nat.reduceAdd, Nat.reduceMul, Nat.reduceSub, reduceIte, Int.reduceToNat, Int.reduceEq, Int.reduceLT, Int.reduceLE, Nat.reduceLeDiff, Nat.reduceEqDiff, eq_self, and_self])
  refine hK _ _ ?_; clear hK K
  repeat' (first | refine H_seq ?_ | refine H_block ?_ | refine H_skip ?_ | refine H_nil ?_ | refine H_exit ?_ | refine H_ret ?_ | refine B_normal ?_ | refine B_same ?_ | refine B_other rfl ?_ | refine B_ret ?_ | refine L_exit ?_ | refine L_ret ?_)
  -- s is 1, t is 2
  obtain ⟨hpt, rfl⟩ : mt.map MP.pc = ms.map MP.pc ∧ size = size' := by rw [← hes] at het; exact ⟨(Prod.mk.inj het).1, (Prod.mk.inj het).2.symm⟩
  have hcan := hs.canon
  generalize hps : ms.map MP.pc = ps at hcan hpt
  have hz := hcan.size
  have F4 : Fr Nob w3 w4 := f4
  obtain ⟨_, c4⟩ := Fr.paint (i := 1) (Fr.refl Nob w3) (col := fun _ => 0) (fun _ _ => rfl) (by decide) f4.nob
  have hs4 : IsSpan w4 (fun b => paint (fun _ => 0) w3 w4 1 b = 1) s ms size := hs.born
  generalize paint (fun _ => 0) w3 w4 1 = col4 at c4 hs4
  obtain ⟨F5, c5⟩ := Fr.paint (i := 2) F4 c4 (by decide) f5.nob
  have hs5 := hs4.paint (f5.nob (G := fun b => col4 b = 2)) (by decide)
  have ht5 : IsSpan w5 (fun b => paint col4 w4 w5 2 b = 2) t mt size := ht.born
  have z5 : ∀ b, w5.heap.size ≤ b → paint col4 w4 w5 2 b = 0 := fun b hb => paint_zero f5.size hb
  generalize paint col4 w4 w5 2 = col5 at c5 hs5 ht5 z5
  clear hs ht hs4 f4 f5 F4 c4 hes het
  obtain ⟨as_, ns_, cs_, hhs, _⟩ := hs5.hdr
  refine H_region k8 s8_5 rfl fun K hK => ?_; simp (config := { maxSteps := 4000000 }) only [go_sem, beq_self_eq_true, List.getElem_toArray, List.getElem_cons_zero, List.getElem_cons_succ, decide_true, decide_false, cond_true, cond_false, Nat.reduceBEq, reduceCtorEq, Nat.reduceAdd, Nat.reduceMul, Nat.reduceSub, reduceIte, Int.reduceToNat, Int.reduceEq, Int.reduceLT, Int.reduceLE, Nat.reduceLeDiff, Nat.reduceEqDiff, eq_self, and_self, s8_5]
  refine callC tcall_28 (getb_spec s as_ ns_ cs_ size ms 0 2000 w5 hhs hs5.oks) ?_
  rintro v6 w6 ⟨how, hbw, f6⟩
  rw [hps] at how
  obtain ⟨aw, nw, cw, rfl⟩ := how.lit
  (try simp (config := { maxSteps := 4000000 }) only [go_sem, beq_self_eq_true, List.getElem_toArray, List.getElem_cons_zero, List.getElem_cons_succ, decide_true, decide_false, cond_true, cond_false, Nat.reduceBEq, reduceCtorEq, Nat.reduceAdd, Nat.reduceMul, Nat.reduceSub, reduceIte, Int.reduceToNat, Int.reduceEq, Int.reduceLT, Int.reduceLE, Nat.reduceLeDiff, Nat.reduceEqDiff, eq_self, and_self])
  refine hK _ _ ?_; clear hK K
  repeat' (first | refine H_seq ?_ | refine H_block ?_ | refine H_skip ?_ | refine H_nil ?_ | refine H_exit ?_ | refine H_ret ?_ | refine B_normal ?_ | refine B_same ?_ | refine B_other rfl ?_ | refine B_ret ?_ | refine L_exit ?_ | refine L_ret ?_)
  have hhs6 := hhs.fr f6
  refine H_region k8 s8_6 rfl fun K hK => ?_; simp (config := { maxSteps := 4000000 }) only [go_sem, beq_self_eq_true, List.getElem_toArray, List.getElem_cons_zero, List.getElem_cons_succ, decide_true, decide_false, cond_true, cond_false, Nat.reduceBEq, reduceCtorEq, Nat.reduceAdd, Nat.reduceMul, Nat.reduceSub, reduceIte, Int.reduceToNat, Int.reduceEq, Int.reduceLT, Int.reduceLE, Nat.reduceLeDiff, Nat.reduceEqDiff, eq_self, and_self, s8_6]
  refine callC tcall_24 (size_spec s _ _ _ hhs6.hs) ?_
  rintro v7 w7 ⟨rfl, rfl⟩
  (try simp (config := { maxSteps := 4000000 }) only [go_sem, beq_self_eq_true, List.getElem_toArray, List.getElem_cons_zero, List.getElem_cons_succ, decide_true, decide_false, cond_true, cond_false, Nat.reduceBEq, reduceCtorEq, Nat.reduceAdd, Nat.reduceMul, Nat.reduceSub, reduceIte, Int.reduceToNat, Int.reduceEq, Int.reduceLT, Int.reduceLE, Nat.reduceLeDiff, Nat.reduceEqDiff, eq_self, and_self])
  refine hK _ _ ?_; clear hK K
  repeat' (first | refine H_seq ?_ | refine H_block ?_ | refine H_skip ?_ | refine H_nil ?_ | refine H_exit ?_ | refine H_ret ?_ | refine B_normal ?_ | refine B_same ?_ | refine B_other rfl ?_ | refine B_ret ?_ | refine L_exit ?_ | refine L_ret ?_)
  have F7 := F5.trans f6
  have hs7 := hs5.fr f6 (fun _ _ q => q)
  have ht7 := ht5.fr f6 (fun _ _ q => q)
  have hW17 := hW1.fr F7 (fun q => q)
  have hb17 := hb1.fr F7 (fun _ _ q => q)
  refine H_region k8 s8_7 rfl fun K hK => ?_; simp (config := { maxSteps := 4000000 }) only [go_sem, beq_self_eq_true, List.getElem_toArray, List.getElem_cons_zero, List.getElem_cons_succ, decide_true, decide_false, cond_true, cond_false, Nat.reduceBEq, reduceCtorEq, Nat.reduceAdd, Nat.reduceMul, Nat.reduceSub, reduceIte, Int.reduceToNat, Int.reduceEq, Int.reduceLT, Int.reduceLE, Nat.reduceLeDiff, Nat.reduceEqDiff, eq_self, and_self, s8_7, hW17.cell]
  refine callC tcall_26 (sput_spec s size _ ms p1 x1 k1 c1 b1 w7 hs7 hb17 (by simp only [maxLen]; omega)) ?_
  intro v8 w8 hL
  obtain ⟨rfl, ms8, hs8, hms8, G8⟩ := hL.paint
  rw [hps] at hs8 hms8 ⊢
  obtain ⟨F8, c8⟩ := Fr.paint F7 c5 (by decide) G8
  have ht8 := ht7.paint G8 (by decide)
  have z8 : ∀ b, w8.heap.size ≤ b → paint col5 w7 w8 1 b = 0 := fun b hb => paint_zero G8.size hb
  have how8 : Row w8 (.slice aw nw cw) 1 (bvs (getM ps size 0 2000)) := how.row.nobody G8 (by decide) (fun b hb => z5 b (hbw b hb))
  have zw8 : ∀ b, blk (.slice aw nw cw) = some b → paint col5 w7 w8 1 b = 0 := fun b hb => by rw [paint_old (how.blk_lt hb)]; exact z5 b (hbw b hb)
  generalize paint col5 w7 w8 1 = col8 at c8 hs8 ht8 z8 zw8
  have hcan8 : Canon (putM ps size p1 b1).2.1 (putM ps size p1 b1).2.2 := putM_canon hcan p1 b1
  clear hs5 ht5 hs7 ht7 hL
  (try simp (config := { maxSteps := 4000000 }) only [go_sem, beq_self_eq_true, List.getElem_toArray, List.getElem_cons_zero, List.getElem_cons_succ, decide_true, decide_false, cond_true, cond_false, Nat.reduceBEq, reduceCtorEq, Nat.reduceAdd, Nat.reduceMul, Nat.reduceSub, reduceIte, Int.reduceToNat, Int.reduceEq, Int.reduceLT, Int.reduceLE, Nat.reduceLeDiff, Nat.reduceEqDiff, eq_self, and_self])
  refine hK _ _ ?_; clear hK K
  repeat' (first | refine H_seq ?_ | refine H_block ?_ | refine H_skip ?_ | refine H_nil ?_ | refine H_exit ?_ | refine H_ret ?_ | refine B_normal ?_ | refine B_same ?_ | refine B_other rfl ?_ | refine B_ret ?_ | refine L_exit ?_ | refine L_ret ?_)
  obtain ⟨as8, ns8, cs8, hhs8, _⟩ := hs8.hdr
  refine H_region k8 s8_8 rfl fun K hK => ?_; simp (config := { maxSteps := 4000000 }) only [go_sem, beq_self_eq_true, List.getElem_toArray, List.getElem_cons_zero, List.getElem_cons_succ, decide_true, decide_false, cond_true, cond_false, Nat.reduceBEq, reduceCtorEq, Nat.reduceAdd, Nat.reduceMul, Nat.reduceSub, reduceIte, Int.reduceToNat, Int.reduceEq, Int.reduceLT, Int.reduceLE, Nat.reduceLeDiff, Nat.reduceEqDiff, eq_self, and_self, s8_8]
  refine callC tcall_28 (getb_spec s as8 ns8 cs8 _ ms8 0 2000 w8 hhs8 hs8.oks) ?_
  rintro v9 w9 ⟨hon, hbn, f9⟩
  rw [hms8] at hon
  obtain ⟨an, nn, cn, rfl⟩ := hon.lit
  (try simp (config := { maxSteps := 4000000 }) only [go_sem, beq_self_eq_true, List.getElem_toArray, List.getElem_cons_zero, List.getElem_cons_succ, decide_true, decide_false, cond_true, cond_false, Nat.reduceBEq, reduceCtorEq, Nat.reduceAdd, Nat.reduceMul, Nat.reduceSub, reduceIte, Int.reduceToNat, Int.reduceEq, Int.reduceLT, Int.reduceLE, Nat.reduceLeDiff, Nat.reduceEqDiff, eq_self, and_self])
  refine hK _ _ ?_; clear hK K
  repeat' (first | refine H_seq ?_ | refine H_block ?_ | refine H_skip ?_ | refine H_nil ?_ | refine H_exit ?_ | refine H_ret ?_ | refine B_normal ?_ | refine B_same ?_ | refine B_other rfl ?_ | refine B_ret ?_ | refine L_exit ?_ | refine L_ret ?_)
  have F9 := F8.trans f9
  have hW19 := hW1.fr F9 (fun q => q)
  have hW29 := hW2.fr F9 (fun q => q)
  refine H_region k8 s8_9 rfl fun K hK => ?_; simp (config := { maxSteps := 4000000 }) only [go_sem, beq_self_eq_true, List.getElem_toArray, List.getElem_cons_zero, List.getElem_cons_succ, decide_true, decide_false, cond_true, cond_false, Nat.reduceBEq, reduceCtorEq, Nat.reduceAdd, Nat.reduceMul, Nat.reduceSub, reduceIte, Int.reduceToNat, Int.reduceEq, Int.reduceLT, Int.reduceLE, Nat.reduceLeDiff, Nat.reduceEqDiff, eq_self, and_self, s8_9, hW19.cell]
  generalize hE1 : (putM ps size p1 b1).1 = E1
  suffices hc : ∀ d : Bool, d = decide (E1 = 0 ∧ 0 < k1) → K [(0, .slice a k c), (1, .slice a' n c'), (2, .agg #[.int .i64 d1, .int .i64 p1, .int .i64 q1, .slice x1 k1 c1]), (3, .agg #[.int .i64 d2, .int .i64 p2, .int .i64 q2, .slice x2 k2 c2]), (6, ptrV m1), (7, ptrV m2), (8, .bool false), (9, ptrV s), (10, ptrV t), (11, .slice aw nw cw), (12, .int .i64 size), (13, .int .i64 E1), (14, .slice an nn cn), (36, .bool false), (63, .bool d)] w9 by
    refine grd_split (fun h1 => ?_) (fun h1 => ?_)
    · (try simp (config := { maxSteps := 4000000 }) only [go_sem, beq_self_eq_true, List.getElem_toArray, List.getElem_cons_zero, List.getElem_cons_succ, decide_true, decide_false, cond_true, cond_false, Nat.reduceBEq, reduceCtorEq, Nat.reduceAdd, Nat.reduceMul, Nat.reduceSub, reduceIte, Int.reduceToNat, Int.reduceEq, Int.reduceLT, Int.reduceLE, Nat.reduceLeDiff, Nat.reduceEqDiff, eq_self, and_self, h1, hW19.cell])
      exact hc _ (by simp at h1; simp [h1])
    · (try simp (config := { maxSteps := 4000000 }) only [go_sem, beq_self_eq_true, List.getElem_toArray, List.getElem_cons_zero, List.getElem_cons_succ, decide_true, decide_false, cond_true, cond_false, Nat.reduceBEq, reduceCtorEq, Nat.reduceAdd, Nat.reduceMul, Nat.reduceSub, reduceIte, Int.reduceToNat, Int.reduceEq, Int.reduceLT, Int.reduceLE, Nat.reduceLeDiff, Nat.reduceEqDiff, eq_self, and_self, h1])
      exact hc _ (by simp at h1; simp [h1])
  intro d hd
  refine hK _ _ ?_; clear hK K
  repeat' (first | refine H_seq ?_ | refine H_block ?_ | refine H_skip ?_ | refine H_nil ?_ | refine H_exit ?_ | refine H_ret ?_ | refine B_normal ?_ | refine B_same ?_ | refine B_other rfl ?_ | refine B_ret ?_ | refine L_exit ?_ | refine L_ret ?_)
  have how9 : Row w9 (.slice aw nw cw) 1 (bvs (getM ps size 0 2000)) := how8.fr f9 (fun _ _ q => q)
  refine H_cut (fun E u => hasE E [(6, ptrV m1), (7, ptrV m2), (8, .bool false), (9, ptrV s), (10, ptrV t), (13, .int .i64 E1)] ∧ Fr Nob w9 u) ?_ ?_
  · cases d with
    | true =>
      obtain ⟨he1, hk0⟩ : E1 = 0 ∧ 0 < k1 := by simpa using hd.symm
      subst he1
      have hok := putM_ok hE1
      have hback := getM_back hcan hE1 (by omega) (by omega)
      have hsize := putM_size hE1 (by omega)
      refine H_condT rfl rfl ?_
      repeat' (first | refine H_seq ?_ | refine H_block ?_ | refine H_skip ?_ | refine H_nil ?_ | refine H_exit ?_ | refine H_ret ?_ | refine B_normal ?_ | refine B_same ?_ | refine B_other rfl ?_ | refine B_ret ?_ | refine L_exit ?_ | refine L_ret ?_)
      have hb19 := hb1.fr F9 (fun _ _ q => q)
      have hhs9 := hhs8.fr f9
      refine H_drawn k8 s8_10 p8_10 (Nob) rfl mixed (by as_aux_lemma => kernel_rfl) fun K hK => ?_; simp (config := { maxSteps := 4000000 }) only [go_sem, beq_self_eq_true, List.getElem_toArray, List.getElem_cons_zero, List.getElem_cons_succ, decide_true, decide_false, cond_true, cond_false, Nat.reduceBEq, reduceCtorEq, Nat.reduceAdd, Nat.reduceMul, Nat.reduceSub, reduceIte, Int.reduceToNat, Int.reduceEq, Int.reduceLT, Int.reduceLE, Nat.reduceLeDiff, Nat.reduceEqDiff, eq_self, and_self, s8_10, p8_10, hW19.cell, Try.underlying9]
      have hval : (((putM ps size p1 b1).2.2 : Nat) : Int) = max (size : Int) (p1 + k1) := by rw [hsize]; omega
      have hwr : IntKind.i64.wrap (p1 + (k1 : Int)) = p1 + k1 := wrapI (by omega)
      suffices hfin : ∀ u, Fr Nob w9 u → K [(0, .slice a k c), (1, .slice a' n c'), (2, .agg #[.int .i64 d1, .int .i64 p1, .int .i64 q1, .slice x1 k1 c1]), (3, .agg #[.int .i64 d2, .int .i64 p2, .int .i64 q2, .slice x2 k2 c2]), (6, ptrV m1), (7, ptrV m2), (8, .bool false), (9, ptrV s), (10, ptrV t), (11, .slice aw nw cw), (12, .int .i64 size), (13, .int .i64 0), (14, .slice an nn cn), (36, .bool false), (63, .bool true), (88, .bool false)] u by
        have hj4 : ∀ (ar : Option Addr) (nr cr : Nat) (u : World), Fr Nob w9 u → planVC Try.prog s8_10 Nob w9 p8_10_j4 [(74, .string ⟨b1.toArray⟩), (71, .string ⟨b1.toArray⟩), (70, .slice ar nr cr), (73, .slice x1 k1 c1), (72, .pointer (some ⟨m1, 3, none⟩)), (69, .int .i64 k1), (68, .slice x1 k1 c1), (67, .pointer (some ⟨m1, 3, none⟩)), (66, .int .i64 p1), (65, .pointer (some ⟨m1, 1, none⟩)), (64, ptrV s),
            (0, .slice a k c), (1, .slice a' n c'), (2, .agg #[.int .i64 d1, .int .i64 p1, .int .i64 q1, .slice x1 k1 c1]), (3, .agg #[.int .i64 d2, .int .i64 p2, .int .i64 q2, .slice x2 k2 c2]), (6, ptrV m1), (7, ptrV m2), (8, .bool false), (9, ptrV s), (10, ptrV t), (11, .slice aw nw cw), (12, .int .i64 size), (13, .int .i64 0), (14, .slice an nn cn), (36, .bool false), (63, .bool true)] u (fun E' w' => K (keepE k8 E') w') := by
          intro ar nr cr u fu
          have hhsu := hhs9.fr fu
          have hW1u := hW19.fr fu (fun q => q)
          simp (config := { maxSteps := 4000000 }) only [go_sem, beq_self_eq_true, List.getElem_toArray, List.getElem_cons_zero, List.getElem_cons_succ, decide_true, decide_false, cond_true, cond_false, Nat.reduceBEq, reduceCtorEq, Nat.reduceAdd, Nat.reduceMul, Nat.reduceSub, reduceIte, Int.reduceToNat, Int.reduceEq, Int.reduceLT, Int.reduceLE, Nat.reduceLeDiff, Nat.reduceEqDiff, eq_self, and_self, s8_10, p8_10_j4, p8_10_j3, hW19.cell, hW1u.cell]
          repeat' (first
            | (refine ⟨?_, ?_⟩)
            | (refine callC tcall_24 (size_spec s _ _ _ hhsu.hs) ?_; rintro v' u' ⟨rfl, rfl⟩)
            | (simp (config := { maxSteps := 4000000 }) only [go_sem, beq_self_eq_true, List.getElem_toArray, List.getElem_cons_zero, List.getElem_cons_succ, decide_true, decide_false, cond_true, cond_false, Nat.reduceBEq, reduceCtorEq, Nat.reduceAdd, Nat.reduceMul, Nat.reduceSub, reduceIte, Int.reduceToNat, Int.reduceEq, Int.reduceLT, Int.reduceLE, Nat.reduceLeDiff, Nat.reduceEqDiff, eq_self, and_self, s8_10, p8_10_1, p8_10_2, p8_10_j1, p8_10_j2, hW19.cell, hW1u.cell, hval, hwr])
            | (exact hfin _ fu))
        refine ⟨fun q => q, fun q => q, fun q => q, ?_, ?_⟩
        · refine callC tcall_28 (getb_spec s as8 ns8 cs8 _ ms8 p1 k1 _ hhs9 (fun m hm => (hs8.oks m hm).fr f9 (fun q => q))) ?_
          rintro v10 w10 ⟨ho10, _, f10⟩
          rw [hms8, ← hl1, hback] at ho10
          obtain ⟨ar, nr, cr, rfl⟩ := ho10.lit
          have hb10 := hb19.fr f10 (fun _ _ q => q)
          refine ⟨f10, ?_⟩
          simp (config := { maxSteps := 4000000 }) only [go_sem, beq_self_eq_true, List.getElem_toArray, List.getElem_cons_zero, List.getElem_cons_succ, decide_true, decide_false, cond_true, cond_false, Nat.reduceBEq, reduceCtorEq, Nat.reduceAdd, Nat.reduceMul, Nat.reduceSub, reduceIte, Int.reduceToNat, Int.reduceEq, Int.reduceLT, Int.reduceLE, Nat.reduceLeDiff, Nat.reduceEqDiff, eq_self, and_self, s8_10, p8_10_3, Try.underlying9]
          refine ⟨⟨b1, ho10.row, Fr.refl _ _, b1, hb10, Fr.refl _ _, ?_⟩, ⟨b1, hb10, Fr.refl _ _, ?_⟩⟩
          · exact plan_join (by repeat' (first | exact trivial | refine ⟨rfl, ?_⟩)) (by repeat' (first | exact trivial | refine ⟨rfl, ?_⟩)) (hj4 ar nr cr _ f10)
          · simp (config := { maxSteps := 4000000 }) only [go_sem, beq_self_eq_true, List.getElem_toArray, List.getElem_cons_zero, List.getElem_cons_succ, decide_true, decide_false, cond_true, cond_false, Nat.reduceBEq, reduceCtorEq, Nat.reduceAdd, Nat.reduceMul, Nat.reduceSub, reduceIte, Int.reduceToNat, Int.reduceEq, Int.reduceLT, Int.reduceLE, Nat.reduceLeDiff, Nat.reduceEqDiff, eq_self, and_self, s8_10, p8_10_j5, Try.underlying9]
            refine ⟨b1, ho10.row, Fr.refl _ _, ?_⟩
            exact plan_join (by repeat' (first | exact trivial | refine ⟨rfl, ?_⟩)) (by repeat' (first | exact trivial | refine ⟨rfl, ?_⟩)) (hj4 ar nr cr _ f10)
        · refine ⟨b1, hb19, Fr.refl _ _, ?_⟩
          refine callC tcall_28 (getb_spec s as8 ns8 cs8 _ ms8 p1 k1 _ hhs9 (fun m hm => (hs8.oks m hm).fr f9 (fun q => q))) ?_
          rintro v10 w10 ⟨ho10, _, f10⟩
          rw [hms8, ← hl1, hback] at ho10
          obtain ⟨ar, nr, cr, rfl⟩ := ho10.lit
          refine ⟨f10, ?_⟩
          simp (config := { maxSteps := 4000000 }) only [go_sem, beq_self_eq_true, List.getElem_toArray, List.getElem_cons_zero, List.getElem_cons_succ, decide_true, decide_false, cond_true, cond_false, Nat.reduceBEq, reduceCtorEq, Nat.reduceAdd, Nat.reduceMul, Nat.reduceSub, reduceIte, Int.reduceToNat, Int.reduceEq, Int.reduceLT, Int.reduceLE, Nat.reduceLeDiff, Nat.reduceEqDiff, eq_self, and_self, s8_10, p8_10_j5, Try.underlying9]
          refine ⟨b1, ho10.row, Fr.refl _ _, ?_⟩
          exact plan_join (by repeat' (first | exact trivial | refine ⟨rfl, ?_⟩)) (by repeat' (first | exact trivial | refine ⟨rfl, ?_⟩)) (hj4 ar nr cr _ f10)
      intro u fu
      refine hK _ _ ?_; clear hK K
      repeat' (first | refine H_seq ?_ | refine H_block ?_ | refine H_skip ?_ | refine H_nil ?_ | refine H_exit ?_ | refine H_ret ?_ | refine B_normal ?_ | refine B_same ?_ | refine B_other rfl ?_ | refine B_ret ?_ | refine L_exit ?_ | refine L_ret ?_)
      refine H_condF rfl rfl ?_
      repeat' (first | refine H_seq ?_ | refine H_block ?_ | refine H_skip ?_ | refine H_nil ?_ | refine H_exit ?_ | refine H_ret ?_ | refine B_normal ?_ | refine B_same ?_ | refine B_other rfl ?_ | refine B_ret ?_ | refine L_exit ?_ | refine L_ret ?_)
      refine H_region k8 s8_12 rfl fun K hK => ?_; simp (config := { maxSteps := 4000000 }) only [go_sem, beq_self_eq_true, List.getElem_toArray, List.getElem_cons_zero, List.getElem_cons_succ, decide_true, decide_false, cond_true, cond_false, Nat.reduceBEq, reduceCtorEq, Nat.reduceAdd, Nat.reduceMul, Nat.reduceSub, reduceIte, Int.reduceToNat, Int.reduceEq, Int.reduceLT, Int.reduceLE, Nat.reduceLeDiff, Nat.reduceEqDiff, eq_self, and_self, s8_12]
      refine hK _ _ ?_; clear hK K
      repeat' (first | refine H_seq ?_ | refine H_block ?_ | refine H_skip ?_ | refine H_nil ?_ | refine H_exit ?_ | refine H_ret ?_ | refine B_normal ?_ | refine B_same ?_ | refine B_other rfl ?_ | refine B_ret ?_ | refine L_exit ?_ | refine L_ret ?_)
      have hwu := how9.fr fu (fun _ _ q => q)
      have hnu := (hon.row).fr fu (fun _ _ q => q)
      have hW1u := hW19.fr fu (fun q => q)
      have hnw : nw = min 2000 size := by have := hwu.len; rw [bvs_len, getM0_len] at this; omega
      have hnn : nn = min 2000 (putM ps size p1 b1).2.2 := by have := hnu.len; rw [bvs_len, getM0_len] at this; omega
      refine H_loop (fun i : Nat => [(6, ptrV m1), (7, ptrV m2), (8, .bool false), (9, ptrV s), (10, ptrV t), (11, .slice aw nw cw), (13, .int .i64 0), (14, .slice an nn cn), (15, .int .i64 i)]) (fun i u' => u' = u ∧ i ≤ nn) (fun i => nn - i)
        0 ⟨rfl, rfl, rfl, rfl, rfl, rfl, rfl, rfl, rfl, trivial⟩ ⟨rfl, Nat.zero_le _⟩ ?_
      rintro i u ⟨rfl, hi⟩
      repeat' (first | refine H_seq ?_ | refine H_block ?_ | refine H_skip ?_ | refine H_nil ?_ | refine H_exit ?_ | refine H_ret ?_ | refine B_normal ?_ | refine B_same ?_ | refine B_other rfl ?_ | refine B_ret ?_ | refine L_exit ?_ | refine L_ret ?_)
      refine H_region k8 s8_13 rfl fun K hK => ?_; simp (config := { maxSteps := 4000000 }) only [go_sem, beq_self_eq_true, List.getElem_toArray, List.getElem_cons_zero, List.getElem_cons_succ, decide_true, decide_false, cond_true, cond_false, Nat.reduceBEq, reduceCtorEq, Nat.reduceAdd, Nat.reduceMul, Nat.reduceSub, reduceIte, Int.reduceToNat, Int.reduceEq, Int.reduceLT, Int.reduceLE, Nat.reduceLeDiff, Nat.reduceEqDiff, eq_self, and_self, s8_13]
      refine hK _ _ ?_; clear hK K
      repeat' (first | refine H_seq ?_ | refine H_block ?_ | refine H_skip ?_ | refine H_nil ?_ | refine H_exit ?_ | refine H_ret ?_ | refine B_normal ?_ | refine B_same ?_ | refine B_other rfl ?_ | refine B_ret ?_ | refine L_exit ?_ | refine L_ret ?_)
      by_cases hin : i < nn
      · refine H_condT rfl (by simpa using hin) ?_
        repeat' (first | refine H_seq ?_ | refine H_block ?_ | refine H_skip ?_ | refine H_nil ?_ | refine H_exit ?_ | refine H_ret ?_ | refine B_normal ?_ | refine B_same ?_ | refine B_other rfl ?_ | refine B_ret ?_ | refine L_exit ?_ | refine L_ret ?_)
        obtain ⟨bn, on, rfl, _, hcn⟩ := (Row.elem1 (g := bv) hnu).2 (by omega)
        have hni := hcn i _ (getM0_get (ps := (putM ps size p1 b1).2.1) (size := (putM ps size p1 b1).2.2) (i := i) (by omega))
        replace hni : u.cell? ⟨bn, on + i * 1, none⟩ = some (.int .u8 ((absL (putM ps size p1 b1).2.1 i).getD 0).toNat) := by rw [Nat.mul_one]; exact hni
        rw [putM_abs hcan hE1 i] at hni
        refine H_region k8 s8_15 rfl fun K hK => ?_; simp (config := { maxSteps := 4000000 }) only [go_sem, beq_self_eq_true, List.getElem_toArray, List.getElem_cons_zero, List.getElem_cons_succ, decide_true, decide_false, cond_true, cond_false, Nat.reduceBEq, reduceCtorEq, Nat.reduceAdd, Nat.reduceMul, Nat.reduceSub, reduceIte, Int.reduceToNat, Int.reduceEq, Int.reduceLT, Int.reduceLE, Nat.reduceLeDiff, Nat.reduceEqDiff, eq_self, and_self, s8_15]
        refine hK _ _ ?_; clear hK K
        repeat' (first | refine H_seq ?_ | refine H_block ?_ | refine H_skip ?_ | refine H_nil ?_ | refine H_exit ?_ | refine H_ret ?_ | refine B_normal ?_ | refine B_same ?_ | refine B_other rfl ?_ | refine B_ret ?_ | refine L_exit ?_ | refine L_ret ?_)
        refine H_region k8 s8_16 rfl fun K hK => ?_; simp (config := { maxSteps := 4000000 }) only [go_sem, beq_self_eq_true, List.getElem_toArray, List.getElem_cons_zero, List.getElem_cons_succ, decide_true, decide_false, cond_true, cond_false, Nat.reduceBEq, reduceCtorEq, Nat.reduceAdd, Nat.reduceMul, Nat.reduceSub, reduceIte, Int.reduceToNat, Int.reduceEq, Int.reduceLT, Int.reduceLE, Nat.reduceLeDiff, Nat.reduceEqDiff, eq_self, and_self, s8_16]
        refine hK _ _ ?_; clear hK K
        repeat' (first | refine H_seq ?_ | refine H_block ?_ | refine H_skip ?_ | refine H_nil ?_ | refine H_exit ?_ | refine H_ret ?_ | refine B_normal ?_ | refine B_same ?_ | refine B_other rfl ?_ | refine B_ret ?_ | refine L_exit ?_ | refine L_ret ?_)
        refine H_cut (fun E u' => hasE E [(6, ptrV m1), (7, ptrV m2), (8, .bool false), (9, ptrV s), (10, ptrV t), (11, .slice aw nw cw), (13, .int .i64 0), (14, .slice (some ⟨bn, on, none⟩) nn cn), (15, .int .i64 i), (16, .int .u8 ((absL ps i).getD 0).toNat)] ∧ u' = u) ?_ ?_
        · by_cases hiw : i < nw
          · refine H_condT rfl (by simpa using hiw) ?_
            repeat' (first | refine H_seq ?_ | refine H_block ?_ | refine H_skip ?_ | refine H_nil ?_ | refine H_exit ?_ | refine H_ret ?_ | refine B_normal ?_ | refine B_same ?_ | refine B_other rfl ?_ | refine B_ret ?_ | refine L_exit ?_ | refine L_ret ?_)
            obtain ⟨bw, ow, rfl, _, hcw⟩ := (Row.elem1 (g := bv) hwu).2 (by omega)
            have hwi := hcw i _ (getM0_get (ps := ps) (size := size) (i := i) (by omega))
            replace hwi : u.cell? ⟨bw, ow + i * 1, none⟩ = some (.int .u8 ((absL ps i).getD 0).toNat) := by rw [Nat.mul_one]; exact hwi
            refine H_region k8 s8_17 rfl fun K hK => ?_; simp (config := { maxSteps := 4000000 }) only [go_sem, beq_self_eq_true, List.getElem_toArray, List.getElem_cons_zero, List.getElem_cons_succ, decide_true, decide_false, cond_true, cond_false, Nat.reduceBEq, reduceCtorEq, Nat.reduceAdd, Nat.reduceMul, Nat.reduceSub, reduceIte, Int.reduceToNat, Int.reduceEq, Int.reduceLT, Int.reduceLE, Nat.reduceLeDiff, Nat.reduceEqDiff, eq_self, and_self, s8_17, hwi]
            refine ⟨⟨by omega, by omega⟩, ?_⟩
            refine hK _ _ ?_; clear hK K
            repeat' (first | refine H_seq ?_ | refine H_block ?_ | refine H_skip ?_ | refine H_nil ?_ | refine H_exit ?_ | refine H_ret ?_ | refine B_normal ?_ | refine B_same ?_ | refine B_other rfl ?_ | refine B_ret ?_ | refine L_exit ?_ | refine L_ret ?_)
            exact thenE_normal ⟨(by repeat' (first | exact trivial | refine ⟨rfl, ?_⟩)), rfl⟩
          · refine H_condF rfl (by simpa using hiw) ?_
            repeat' (first | refine H_seq ?_ | refine H_block ?_ | refine H_skip ?_ | refine H_nil ?_ | refine H_exit ?_ | refine H_ret ?_ | refine B_normal ?_ | refine B_same ?_ | refine B_other rfl ?_ | refine B_ret ?_ | refine L_exit ?_ | refine L_ret ?_)
            rw [abs_size hcan.ord (show size ≤ i by omega)]
            exact thenE_normal ⟨(by repeat' (first | exact trivial | refine ⟨rfl, ?_⟩)), rfl⟩
        · rintro E u' ⟨hE, rfl⟩
          refine H_weak _ hE ?_
          repeat' (first | refine H_seq ?_ | refine H_block ?_ | refine H_skip ?_ | refine H_nil ?_ | refine H_exit ?_ | refine H_ret ?_ | refine B_normal ?_ | refine B_same ?_ | refine B_other rfl ?_ | refine B_ret ?_ | refine L_exit ?_ | refine L_ret ?_)
          refine H_region k8 s8_18 rfl fun K hK => ?_; simp (config := { maxSteps := 4000000 }) only [go_sem, beq_self_eq_true, List.getElem_toArray, List.getElem_cons_zero, List.getElem_cons_succ, decide_true, decide_false, cond_true, cond_false, Nat.reduceBEq, reduceCtorEq, Nat.reduceAdd, Nat.reduceMul, Nat.reduceSub, reduceIte, Int.reduceToNat, Int.reduceEq, Int.reduceLT, Int.reduceLE, Nat.reduceLeDiff, Nat.reduceEqDiff, eq_self, and_self, s8_18, hW1u.cell, hni]
          suffices hq : K [(6, ptrV m1), (7, ptrV m2), (8, .bool false), (9, ptrV s), (10, ptrV t), (11, .slice aw nw cw), (13, .int .i64 0), (14, .slice (some ⟨bn, on, none⟩) nn cn), (15, .int .i64 i), (16, .int .u8 ((absL ps i).getD 0).toNat), (124, .bool false)] u' by
            refine grd_split (fun g1 => ?_) (fun g1 => ?_)
            · simp only [decide_eq_true_eq] at g1
              rw [if_neg (by omega)] at hni
              (try simp (config := { maxSteps := 4000000 }) only [go_sem, beq_self_eq_true, List.getElem_toArray, List.getElem_cons_zero, List.getElem_cons_succ, decide_true, decide_false, cond_true, cond_false, Nat.reduceBEq, reduceCtorEq, Nat.reduceAdd, Nat.reduceMul, Nat.reduceSub, reduceIte, Int.reduceToNat, Int.reduceEq, Int.reduceLT, Int.reduceLE, Nat.reduceLeDiff, Nat.reduceEqDiff, eq_self, and_self, g1, hni])
              exact ⟨⟨by omega, by omega⟩, hq⟩
            · simp only [decide_eq_false_iff_not] at g1
              (try simp (config := { maxSteps := 4000000 }) only [go_sem, beq_self_eq_true, List.getElem_toArray, List.getElem_cons_zero, List.getElem_cons_succ, decide_true, decide_false, cond_true, cond_false, Nat.reduceBEq, reduceCtorEq, Nat.reduceAdd, Nat.reduceMul, Nat.reduceSub, reduceIte, Int.reduceToNat, Int.reduceEq, Int.reduceLT, Int.reduceLE, Nat.reduceLeDiff, Nat.reduceEqDiff, eq_self, and_self, g1, hW1u.cell, hwr])
              refine grd_split (fun g2 => ?_) (fun g2 => ?_)
              · simp only [decide_eq_true_eq] at g2
                rw [if_neg (by omega)] at hni
                (try simp (config := { maxSteps := 4000000 }) only [go_sem, beq_self_eq_true, List.getElem_toArray, List.getElem_cons_zero, List.getElem_cons_succ, decide_true, decide_false, cond_true, cond_false, Nat.reduceBEq, reduceCtorEq, Nat.reduceAdd, Nat.reduceMul, Nat.reduceSub, reduceIte, Int.reduceToNat, Int.reduceEq, Int.reduceLT, Int.reduceLE, Nat.reduceLeDiff, Nat.reduceEqDiff, eq_self, and_self, g2, hni])
                exact ⟨⟨by omega, by omega⟩, hq⟩
              · (try simp (config := { maxSteps := 4000000 }) only [go_sem, beq_self_eq_true, List.getElem_toArray, List.getElem_cons_zero, List.getElem_cons_succ, decide_true, decide_false, cond_true, cond_false, Nat.reduceBEq, reduceCtorEq, Nat.reduceAdd, Nat.reduceMul, Nat.reduceSub, reduceIte, Int.reduceToNat, Int.reduceEq, Int.reduceLT, Int.reduceLE, Nat.reduceLeDiff, Nat.reduceEqDiff, eq_self, and_self, g2])
                exact hq
          refine hK _ _ ?_; clear hK K
          repeat' (first | refine H_seq ?_ | refine H_block ?_ | refine H_skip ?_ | refine H_nil ?_ | refine H_exit ?_ | refine H_ret ?_ | refine B_normal ?_ | refine B_same ?_ | refine B_other rfl ?_ | refine B_ret ?_ | refine L_exit ?_ | refine L_ret ?_)
          refine H_condF rfl rfl ?_
          repeat' (first | refine H_seq ?_ | refine H_block ?_ | refine H_skip ?_ | refine H_nil ?_ | refine H_exit ?_ | refine H_ret ?_ | refine B_normal ?_ | refine B_same ?_ | refine B_other rfl ?_ | refine B_ret ?_ | refine L_exit ?_ | refine L_ret ?_)
          refine H_region k8 s8_14 rfl fun K hK => ?_; simp (config := { maxSteps := 4000000 }) only [go_sem, beq_self_eq_true, List.getElem_toArray, List.getElem_cons_zero, List.getElem_cons_succ, decide_true, decide_false, cond_true, cond_false, Nat.reduceBEq, reduceCtorEq, Nat.reduceAdd, Nat.reduceMul, Nat.reduceSub, reduceIte, Int.reduceToNat, Int.reduceEq, Int.reduceLT, Int.reduceLE, Nat.reduceLeDiff, Nat.reduceEqDiff, eq_self, and_self, s8_14]
          refine hK _ _ ?_; clear hK K
          repeat' (first | refine H_seq ?_ | refine H_block ?_ | refine H_skip ?_ | refine H_nil ?_ | refine H_exit ?_ | refine H_ret ?_ | refine B_normal ?_ | refine B_same ?_ | refine B_other rfl ?_ | refine B_ret ?_ | refine L_exit ?_ | refine L_ret ?_)
          rw [wrapI (n := (i : Int) + 1) (by omega), show ((i : Int) + 1) = ((i + 1 : Nat) : Int) by omega]
          exact L_normal ⟨i + 1, ⟨rfl, rfl, rfl, rfl, rfl, rfl, rfl, rfl, rfl, trivial⟩, ⟨rfl, hin⟩, by omega⟩
      · refine H_condF rfl (by simpa using hin) ?_
        repeat' (first | refine H_seq ?_ | refine H_block ?_ | refine H_skip ?_ | refine H_nil ?_ | refine H_exit ?_ | refine H_ret ?_ | refine B_normal ?_ | refine B_same ?_ | refine B_other rfl ?_ | refine B_ret ?_ | refine L_exit ?_ | refine L_ret ?_)
        exact thenE_normal ⟨(by repeat' (first | exact trivial | refine ⟨rfl, ?_⟩)), fu⟩
    | false =>
      refine H_condF rfl rfl ?_
      repeat' (first | refine H_seq ?_ | refine H_block ?_ | refine H_skip ?_ | refine H_nil ?_ | refine H_exit ?_ | refine H_ret ?_ | refine B_normal ?_ | refine B_same ?_ | refine B_other rfl ?_ | refine B_ret ?_ | refine L_exit ?_ | refine L_ret ?_)
      refine H_region k8 s8_20 rfl fun K hK => ?_; simp (config := { maxSteps := 4000000 }) only [go_sem, beq_self_eq_true, List.getElem_toArray, List.getElem_cons_zero, List.getElem_cons_succ, decide_true, decide_false, cond_true, cond_false, Nat.reduceBEq, reduceCtorEq, Nat.reduceAdd, Nat.reduceMul, Nat.reduceSub, reduceIte, Int.reduceToNat, Int.reduceEq, Int.reduceLT, Int.reduceLE, Nat.reduceLeDiff, Nat.reduceEqDiff, eq_self, and_self, s8_20, Try.underlying9]
      have hnone := putM_none (ps := ps) (size := size) (a := p1) (bs := b1) (by
        simp only [eq_comm (a := false), decide_eq_false_iff_not] at hd
        by_cases h : E1 = 0
        · exact .inr (by rw [hl1]; omega)
        · exact .inl (by rw [hE1]; exact h))
      rw [hnone] at hon
      have hhs9 := hhs8.fr f9
      rw [hnone] at hhs9
      refine ⟨_, hon.row, _, how9, ?_⟩
      refine grd_split (fun g1 => absurd g1 (by simp)) (fun g1 => ?_)
      (try simp (config := { maxSteps := 4000000 }) only [go_sem, beq_self_eq_true, List.getElem_toArray, List.getElem_cons_zero, List.getElem_cons_succ, decide_true, decide_false, cond_true, cond_false, Nat.reduceBEq, reduceCtorEq, Nat.reduceAdd, Nat.reduceMul, Nat.reduceSub, reduceIte, Int.reduceToNat, Int.reduceEq, Int.reduceLT, Int.reduceLE, Nat.reduceLeDiff, Nat.reduceEqDiff, eq_self, and_self, g1])
      refine callC tcall_24 (size_spec s _ _ _ hhs9.hs) ?_
      rintro v10 w10 ⟨rfl, rfl⟩
      simp (config := { maxSteps := 4000000 }) only [go_sem, beq_self_eq_true, List.getElem_toArray, List.getElem_cons_zero, List.getElem_cons_succ, decide_true, decide_false, cond_true, cond_false, Nat.reduceBEq, reduceCtorEq, Nat.reduceAdd, Nat.reduceMul, Nat.reduceSub, reduceIte, Int.reduceToNat, Int.reduceEq, Int.reduceLT, Int.reduceLE, Nat.reduceLeDiff, Nat.reduceEqDiff, eq_self, and_self, s8_20_1]
      refine hK _ _ ?_; clear hK K
      repeat' (first | refine H_seq ?_ | refine H_block ?_ | refine H_skip ?_ | refine H_nil ?_ | refine H_exit ?_ | refine H_ret ?_ | refine B_normal ?_ | refine B_same ?_ | refine B_other rfl ?_ | refine B_ret ?_ | refine L_exit ?_ | refine L_ret ?_)
      refine H_condF rfl rfl ?_
      repeat' (first | refine H_seq ?_ | refine H_block ?_ | refine H_skip ?_ | refine H_nil ?_ | refine H_exit ?_ | refine H_ret ?_ | refine B_normal ?_ | refine B_same ?_ | refine B_other rfl ?_ | refine B_ret ?_ | refine L_exit ?_ | refine L_ret ?_)
      exact thenE_normal ⟨(by repeat' (first | exact trivial | refine ⟨rfl, ?_⟩)), Fr.refl _ _⟩
  · rintro E u ⟨hE, f⟩
    refine H_weak _ hE ?_
    repeat' (first | refine H_seq ?_ | refine H_block ?_ | refine H_skip ?_ | refine H_nil ?_ | refine H_exit ?_ | refine H_ret ?_ | refine B_normal ?_ | refine B_same ?_ | refine B_other rfl ?_ | refine B_ret ?_ | refine L_exit ?_ | refine L_ret ?_)
    have FU := F9.trans f
    have hW1U := hW1.fr FU (fun q => q)
    have hW2U := hW2.fr FU (fun q => q)
    refine H_region k8 s8_22 rfl fun K hK => ?_; simp (config := { maxSteps := 4000000 }) only [go_sem, beq_self_eq_true, List.getElem_toArray, List.getElem_cons_zero, List.getElem_cons_succ, decide_true, decide_false, cond_true, cond_false, Nat.reduceBEq, reduceCtorEq, Nat.reduceAdd, Nat.reduceMul, Nat.reduceSub, reduceIte, Int.reduceToNat, Int.reduceEq, Int.reduceLT, Int.reduceLE, Nat.reduceLeDiff, Nat.reduceEqDiff, eq_self, and_self, s8_22, hW2U.cell]
    have fU : Fr Nob w8 u := f9.trans f
    have hsU := hs8.fr fU (fun _ _ q => q)
    have htU := ht8.fr fU (fun _ _ q => q)
    have hb1U := hb1.fr FU (fun _ _ q => q)
    have hb2U := hb2.fr FU (fun _ _ q => q)
    refine callC tcall_26 (sput_spec s _ _ ms8 p2 x2 k2 c2 b2 u hsU hb2U (by simp only [maxLen]; omega)) ?_
    intro v10 w10 hL
    obtain ⟨rfl, ms10, hs10, hms10, G10⟩ := hL.paint
    rw [hms8] at hs10 hms10 ⊢
    obtain ⟨F10, c10⟩ := Fr.paint FU c8 (by decide) G10
    have ht10 := htU.paint G10 (by decide)
    generalize paint col8 u w10 1 = col10 at c10 hs10 ht10
    clear hL
    (try simp (config := { maxSteps := 4000000 }) only [go_sem, beq_self_eq_true, List.getElem_toArray, List.getElem_cons_zero, List.getElem_cons_succ, decide_true, decide_false, cond_true, cond_false, Nat.reduceBEq, reduceCtorEq, Nat.reduceAdd, Nat.reduceMul, Nat.reduceSub, reduceIte, Int.reduceToNat, Int.reduceEq, Int.reduceLT, Int.reduceLE, Nat.reduceLeDiff, Nat.reduceEqDiff, eq_self, and_self])
    refine hK _ _ ?_; clear hK K
    repeat' (first | refine H_seq ?_ | refine H_block ?_ | refine H_skip ?_ | refine H_nil ?_ | refine H_exit ?_ | refine H_ret ?_ | refine B_normal ?_ | refine B_same ?_ | refine B_other rfl ?_ | refine B_ret ?_ | refine L_exit ?_ | refine L_ret ?_)
    have hW2a := hW2.fr F10 (fun q => q)
    have hb2a := hb2.fr F10 (fun _ _ q => q)
    refine H_region k8 s8_23 rfl fun K hK => ?_; simp (config := { maxSteps := 4000000 }) only [go_sem, beq_self_eq_true, List.getElem_toArray, List.getElem_cons_zero, List.getElem_cons_succ, decide_true, decide_false, cond_true, cond_false, Nat.reduceBEq, reduceCtorEq, Nat.reduceAdd, Nat.reduceMul, Nat.reduceSub, reduceIte, Int.reduceToNat, Int.reduceEq, Int.reduceLT, Int.reduceLE, Nat.reduceLeDiff, Nat.reduceEqDiff, eq_self, and_self, s8_23, hW2a.cell]
    refine callC tcall_26 (sput_spec t _ _ mt p2 x2 k2 c2 b2 w10 ht10 hb2a (by simp only [maxLen]; omega)) ?_
    intro v11 w11 hL
    obtain ⟨rfl, mt11, ht11, hmt11, G11⟩ := hL.paint
    rw [hpt] at ht11 hmt11 ⊢
    obtain ⟨F11, c11⟩ := Fr.paint F10 c10 (by decide) G11
    have hs11 := hs10.paint G11 (by decide)
    generalize paint col10 w10 w11 2 = col11 at c11 hs11 ht11
    clear hL
    (try simp (config := { maxSteps := 4000000 }) only [go_sem, beq_self_eq_true, List.getElem_toArray, List.getElem_cons_zero, List.getElem_cons_succ, decide_true, decide_false, cond_true, cond_false, Nat.reduceBEq, reduceCtorEq, Nat.reduceAdd, Nat.reduceMul, Nat.reduceSub, reduceIte, Int.reduceToNat, Int.reduceEq, Int.reduceLT, Int.reduceLE, Nat.reduceLeDiff, Nat.reduceEqDiff, eq_self, and_self])
    refine hK _ _ ?_; clear hK K
    repeat' (first | refine H_seq ?_ | refine H_block ?_ | refine H_skip ?_ | refine H_nil ?_ | refine H_exit ?_ | refine H_ret ?_ | refine B_normal ?_ | refine B_same ?_ | refine B_other rfl ?_ | refine B_ret ?_ | refine L_exit ?_ | refine L_ret ?_)
    have hW1a := hW1.fr F11 (fun q => q)
    have hb1a := hb1.fr F11 (fun _ _ q => q)
    refine H_region k8 s8_24 rfl fun K hK => ?_; simp (config := { maxSteps := 4000000 }) only [go_sem, beq_self_eq_true, List.getElem_toArray, List.getElem_cons_zero, List.getElem_cons_succ, decide_true, decide_false, cond_true, cond_false, Nat.reduceBEq, reduceCtorEq, Nat.reduceAdd, Nat.reduceMul, Nat.reduceSub, reduceIte, Int.reduceToNat, Int.reduceEq, Int.reduceLT, Int.reduceLE, Nat.reduceLeDiff, Nat.reduceEqDiff, eq_self, and_self, s8_24, hW1a.cell]
    refine callC tcall_26 (sput_spec t _ _ mt11 p1 x1 k1 c1 b1 w11 ht11 hb1a (by simp only [maxLen]; omega)) ?_
    intro v12 w12 hL
    obtain ⟨rfl, mt12, ht12, hmt12, G12⟩ := hL.paint
    rw [hmt11] at ht12 hmt12 ⊢
    obtain ⟨F12, c12⟩ := Fr.paint F11 c11 (by decide) G12
    have hs12 := hs11.paint G12 (by decide)
    generalize paint col11 w11 w12 2 = col12 at c12 hs12 ht12
    clear hL hs10 ht10 hs11 ht11 hsU htU
    (try simp (config := { maxSteps := 4000000 }) only [go_sem, beq_self_eq_true, List.getElem_toArray, List.getElem_cons_zero, List.getElem_cons_succ, decide_true, decide_false, cond_true, cond_false, Nat.reduceBEq, reduceCtorEq, Nat.reduceAdd, Nat.reduceMul, Nat.reduceSub, reduceIte, Int.reduceToNat, Int.reduceEq, Int.reduceLT, Int.reduceLE, Nat.reduceLeDiff, Nat.reduceEqDiff, eq_self, and_self])
    refine hK _ _ ?_; clear hK K
    repeat' (first | refine H_seq ?_ | refine H_block ?_ | refine H_skip ?_ | refine H_nil ?_ | refine H_exit ?_ | refine H_ret ?_ | refine B_normal ?_ | refine B_same ?_ | refine B_other rfl ?_ | refine B_ret ?_ | refine L_exit ?_ | refine L_ret ?_)
    refine H_region k8 s8_25 rfl fun K hK => ?_; simp (config := { maxSteps := 4000000 }) only [go_sem, beq_self_eq_true, List.getElem_toArray, List.getElem_cons_zero, List.getElem_cons_succ, decide_true, decide_false, cond_true, cond_false, Nat.reduceBEq, reduceCtorEq, Nat.reduceAdd, Nat.reduceMul, Nat.reduceSub, reduceIte, Int.reduceToNat, Int.reduceEq, Int.reduceLT, Int.reduceLE, Nat.reduceLeDiff, Nat.reduceEqDiff, eq_self, and_self, s8_25]
    generalize hE2 : (putM (putM ps size p1 b1).2.1 (putM ps size p1 b1).2.2 p2 b2).1 = E2
    generalize hE3 : (putM ps size p2 b2).1 = E3
    generalize hE4 : (putM (putM ps size p2 b2).2.1 (putM ps size p2 b2).2.2 p1 b1).1 = E4
    suffices hq : ∀ d : Bool, (d = false → E1 = 0 ∧ E2 = 0 ∧ E3 = 0 ∧ E4 = 0) → K [(6, ptrV m1), (7, ptrV m2), (8, .bool false), (9, ptrV s), (10, ptrV t), (13, .int .i64 E1), (17, .int .i64 E2), (18, .int .i64 E3), (19, .int .i64 E4), (167, .bool d)] w12 by
      refine grd_split (fun g1 => ?_) (fun g1 => ?_)
      · (try simp (config := { maxSteps := 4000000 }) only [go_sem, beq_self_eq_true, List.getElem_toArray, List.getElem_cons_zero, List.getElem_cons_succ, decide_true, decide_false, cond_true, cond_false, Nat.reduceBEq, reduceCtorEq, Nat.reduceAdd, Nat.reduceMul, Nat.reduceSub, reduceIte, Int.reduceToNat, Int.reduceEq, Int.reduceLT, Int.reduceLE, Nat.reduceLeDiff, Nat.reduceEqDiff, eq_self, and_self, g1])
        exact hq _ (fun h => by cases h)
      · (try simp (config := { maxSteps := 4000000 }) only [go_sem, beq_self_eq_true, List.getElem_toArray, List.getElem_cons_zero, List.getElem_cons_succ, decide_true, decide_false, cond_true, cond_false, Nat.reduceBEq, reduceCtorEq, Nat.reduceAdd, Nat.reduceMul, Nat.reduceSub, reduceIte, Int.reduceToNat, Int.reduceEq, Int.reduceLT, Int.reduceLE, Nat.reduceLeDiff, Nat.reduceEqDiff, eq_self, and_self, g1])
        refine grd_split (fun g2 => ?_) (fun g2 => ?_)
        · (try simp (config := { maxSteps := 4000000 }) only [go_sem, beq_self_eq_true, List.getElem_toArray, List.getElem_cons_zero, List.getElem_cons_succ, decide_true, decide_false, cond_true, cond_false, Nat.reduceBEq, reduceCtorEq, Nat.reduceAdd, Nat.reduceMul, Nat.reduceSub, reduceIte, Int.reduceToNat, Int.reduceEq, Int.reduceLT, Int.reduceLE, Nat.reduceLeDiff, Nat.reduceEqDiff, eq_self, and_self, g2])
          exact hq _ (fun h => by cases h)
        · (try simp (config := { maxSteps := 4000000 }) only [go_sem, beq_self_eq_true, List.getElem_toArray, List.getElem_cons_zero, List.getElem_cons_succ, decide_true, decide_false, cond_true, cond_false, Nat.reduceBEq, reduceCtorEq, Nat.reduceAdd, Nat.reduceMul, Nat.reduceSub, reduceIte, Int.reduceToNat, Int.reduceEq, Int.reduceLT, Int.reduceLE, Nat.reduceLeDiff, Nat.reduceEqDiff, eq_self, and_self, g2])
          refine grd_split (fun g3 => ?_) (fun g3 => ?_)
          · (try simp (config := { maxSteps := 4000000 }) only [go_sem, beq_self_eq_true, List.getElem_toArray, List.getElem_cons_zero, List.getElem_cons_succ, decide_true, decide_false, cond_true, cond_false, Nat.reduceBEq, reduceCtorEq, Nat.reduceAdd, Nat.reduceMul, Nat.reduceSub, reduceIte, Int.reduceToNat, Int.reduceEq, Int.reduceLT, Int.reduceLE, Nat.reduceLeDiff, Nat.reduceEqDiff, eq_self, and_self, g3])
            exact hq _ (fun h => by cases h)
          · (try simp (config := { maxSteps := 4000000 }) only [go_sem, beq_self_eq_true, List.getElem_toArray, List.getElem_cons_zero, List.getElem_cons_succ, decide_true, decide_false, cond_true, cond_false, Nat.reduceBEq, reduceCtorEq, Nat.reduceAdd, Nat.reduceMul, Nat.reduceSub, reduceIte, Int.reduceToNat, Int.reduceEq, Int.reduceLT, Int.reduceLE, Nat.reduceLeDiff, Nat.reduceEqDiff, eq_self, and_self, g3])
            refine hq _ (fun h => ?_)
            simp at g1 g2 g3 h
            exact ⟨g1, g2, g3, h⟩
    intro d hd4
    refine hK _ _ ?_; clear hK K
    repeat' (first | refine H_seq ?_ | refine H_block ?_ | refine H_skip ?_ | refine H_nil ?_ | refine H_exit ?_ | refine H_ret ?_ | refine B_normal ?_ | refine B_same ?_ | refine B_other rfl ?_ | refine B_ret ?_ | refine L_exit ?_ | refine L_ret ?_)
    cases d with
    | true =>
      refine H_condT rfl rfl ?_
      repeat' (first | refine H_seq ?_ | refine H_block ?_ | refine H_skip ?_ | refine H_nil ?_ | refine H_exit ?_ | refine H_ret ?_ | refine B_normal ?_ | refine B_same ?_ | refine B_other rfl ?_ | refine B_ret ?_ | refine L_exit ?_ | refine L_ret ?_)
      refine H_region k8 s8_26 rfl fun K hK => ?_; simp (config := { maxSteps := 4000000 }) only [go_sem, beq_self_eq_true, List.getElem_toArray, List.getElem_cons_zero, List.getElem_cons_succ, decide_true, decide_false, cond_true, cond_false, Nat.reduceBEq, reduceCtorEq, Nat.reduceAdd, Nat.reduceMul, Nat.reduceSub, reduceIte, Int.reduceToNat, Int.reduceEq, Int.reduceLT, Int.reduceLE, Nat.reduceLeDiff, Nat.reduceEqDiff, eq_self, and_self, s8_26]
      refine callC tcall_30 (swakes_spec _) ?_
      rintro v13 w13 ⟨rfl, f13⟩
      (try simp (config := { maxSteps := 4000000 }) only [go_sem, beq_self_eq_true, List.getElem_toArray, List.getElem_cons_zero, List.getElem_cons_succ, decide_true, decide_false, cond_true, cond_false, Nat.reduceBEq, reduceCtorEq, Nat.reduceAdd, Nat.reduceMul, Nat.reduceSub, reduceIte, Int.reduceToNat, Int.reduceEq, Int.reduceLT, Int.reduceLE, Nat.reduceLeDiff, Nat.reduceEqDiff, eq_self, and_self])
      refine hK _ _ ?_; clear hK K
      repeat' (first | refine H_seq ?_ | refine H_block ?_ | refine H_skip ?_ | refine H_nil ?_ | refine H_exit ?_ | refine H_ret ?_ | refine B_normal ?_ | refine B_same ?_ | refine B_other rfl ?_ | refine B_ret ?_ | refine L_exit ?_ | refine L_ret ?_)
      refine F_ret ?_
      (try simp (config := { maxSteps := 4000000 }) only [go_sem, beq_self_eq_true, List.getElem_toArray, List.getElem_cons_zero, List.getElem_cons_succ, decide_true, decide_false, cond_true, cond_false, Nat.reduceBEq, reduceCtorEq, Nat.reduceAdd, Nat.reduceMul, Nat.reduceSub, reduceIte, Int.reduceToNat, Int.reduceEq, Int.reduceLT, Int.reduceLE, Nat.reduceLeDiff, Nat.reduceEqDiff, eq_self, and_self])
      exact f0.trans (F12.trans f13)
    | false =>
    obtain ⟨rfl, rfl, rfl, rfl⟩ := hd4 rfl
    refine H_condF rfl rfl ?_
    repeat' (first | refine H_seq ?_ | refine H_block ?_ | refine H_skip ?_ | refine H_nil ?_ | refine H_exit ?_ | refine H_ret ?_ | refine B_normal ?_ | refine B_same ?_ | refine B_other rfl ?_ | refine B_ret ?_ | refine L_exit ?_ | refine L_ret ?_)
    have hW1b := hW1.fr F12 (fun q => q)
    have hW2b := hW2.fr F12 (fun q => q)
    have hok1 := putM_ok hE1
    have hok2 := putM_ok hE3
    have hwr1 : IntKind.i64.wrap (p1 + (k1 : Int)) = p1 + k1 := wrapI (by omega)
    have hwr2 : IntKind.i64.wrap (p2 + (k2 : Int)) = p2 + k2 := wrapI (by omega)
    refine H_region k8 s8_27 rfl fun K hK => ?_; simp (config := { maxSteps := 4000000 }) only [go_sem, beq_self_eq_true, List.getElem_toArray, List.getElem_cons_zero, List.getElem_cons_succ, decide_true, decide_false, cond_true, cond_false, Nat.reduceBEq, reduceCtorEq, Nat.reduceAdd, Nat.reduceMul, Nat.reduceSub, reduceIte, Int.reduceToNat, Int.reduceEq, Int.reduceLT, Int.reduceLE, Nat.reduceLeDiff, Nat.reduceEqDiff, eq_self, and_self, s8_27, hW1b.cell, hW2b.cell, hwr1, hwr2]
    suffices hq : ∀ d : Bool, (d = true → p1 + k1 ≤ p2 ∨ p2 + k2 ≤ p1 ∨ k1 = 0 ∨ k2 = 0) → K [(6, ptrV m1), (7, ptrV m2), (8, .bool false), (9, ptrV s), (10, ptrV t), (13, .int .i64 0), (17, .int .i64 0), (18, .int .i64 0), (19, .int .i64 0), (20, .bool d), (167, .bool false)] w12 by
      refine grd_split (fun g1 => ?_) (fun g1 => ?_)
      · (try simp (config := { maxSteps := 4000000 }) only [go_sem, beq_self_eq_true, List.getElem_toArray, List.getElem_cons_zero, List.getElem_cons_succ, decide_true, decide_false, cond_true, cond_false, Nat.reduceBEq, reduceCtorEq, Nat.reduceAdd, Nat.reduceMul, Nat.reduceSub, reduceIte, Int.reduceToNat, Int.reduceEq, Int.reduceLT, Int.reduceLE, Nat.reduceLeDiff, Nat.reduceEqDiff, eq_self, and_self, g1])
        exact hq _ (fun _ => .inl (by simpa using g1))
      · (try simp (config := { maxSteps := 4000000 }) only [go_sem, beq_self_eq_true, List.getElem_toArray, List.getElem_cons_zero, List.getElem_cons_succ, decide_true, decide_false, cond_true, cond_false, Nat.reduceBEq, reduceCtorEq, Nat.reduceAdd, Nat.reduceMul, Nat.reduceSub, reduceIte, Int.reduceToNat, Int.reduceEq, Int.reduceLT, Int.reduceLE, Nat.reduceLeDiff, Nat.reduceEqDiff, eq_self, and_self, g1, hW1b.cell, hW2b.cell, hwr1, hwr2])
        refine grd_split (fun g2 => ?_) (fun g2 => ?_)
        · (try simp (config := { maxSteps := 4000000 }) only [go_sem, beq_self_eq_true, List.getElem_toArray, List.getElem_cons_zero, List.getElem_cons_succ, decide_true, decide_false, cond_true, cond_false, Nat.reduceBEq, reduceCtorEq, Nat.reduceAdd, Nat.reduceMul, Nat.reduceSub, reduceIte, Int.reduceToNat, Int.reduceEq, Int.reduceLT, Int.reduceLE, Nat.reduceLeDiff, Nat.reduceEqDiff, eq_self, and_self, g2])
          exact hq _ (fun _ => .inr (.inl (by simpa using g2)))
        · (try simp (config := { maxSteps := 4000000 }) only [go_sem, beq_self_eq_true, List.getElem_toArray, List.getElem_cons_zero, List.getElem_cons_succ, decide_true, decide_false, cond_true, cond_false, Nat.reduceBEq, reduceCtorEq, Nat.reduceAdd, Nat.reduceMul, Nat.reduceSub, reduceIte, Int.reduceToNat, Int.reduceEq, Int.reduceLT, Int.reduceLE, Nat.reduceLeDiff, Nat.reduceEqDiff, eq_self, and_self, g2, hW1b.cell, hW2b.cell])
          refine grd_split (fun g3 => ?_) (fun g3 => ?_)
          · (try simp (config := { maxSteps := 4000000 }) only [go_sem, beq_self_eq_true, List.getElem_toArray, List.getElem_cons_zero, List.getElem_cons_succ, decide_true, decide_false, cond_true, cond_false, Nat.reduceBEq, reduceCtorEq, Nat.reduceAdd, Nat.reduceMul, Nat.reduceSub, reduceIte, Int.reduceToNat, Int.reduceEq, Int.reduceLT, Int.reduceLE, Nat.reduceLeDiff, Nat.reduceEqDiff, eq_self, and_self, g3])
            exact hq _ (fun _ => .inr (.inr (.inl (by simp at g3; omega))))
          · (try simp (config := { maxSteps := 4000000 }) only [go_sem, beq_self_eq_true, List.getElem_toArray, List.getElem_cons_zero, List.getElem_cons_succ, decide_true, decide_false, cond_true, cond_false, Nat.reduceBEq, reduceCtorEq, Nat.reduceAdd, Nat.reduceMul, Nat.reduceSub, reduceIte, Int.reduceToNat, Int.reduceEq, Int.reduceLT, Int.reduceLE, Nat.reduceLeDiff, Nat.reduceEqDiff, eq_self, and_self, g3, hW1b.cell, hW2b.cell])
            exact hq _ (fun h => .inr (.inr (.inr (by simp at h; omega))))
    intro d20 hd20
    have hsame : d20 = true → ms10.map MP.pc = mt12.map MP.pc ∧ (putM (putM ps size p1 b1).2.1 (putM ps size p1 b1).2.2 p2 b2).2.2 = (putM (putM ps size p2 b2).2.1 (putM ps size p2 b2).2.2 p1 b1).2.2 := by
      intro h
      have := put_comm hcan hE1 hE2 hE3 hE4 (by rw [hl1, hl2]; exact hd20 h)
      rw [hms10, hmt12, this]
      exact ⟨rfl, rfl⟩
    refine hK _ _ ?_; clear hK K
    repeat' (first | refine H_seq ?_ | refine H_block ?_ | refine H_skip ?_ | refine H_nil ?_ | refine H_exit ?_ | refine H_ret ?_ | refine B_normal ?_ | refine B_same ?_ | refine B_other rfl ?_ | refine B_ret ?_ | refine L_exit ?_ | refine L_ret ?_)
    generalize (putM (putM ps size p1 b1).2.1 (putM ps size p1 b1).2.2 p2 b2).2.2 = zA at hs12 hsame
    generalize (putM (putM ps size p2 b2).2.1 (putM ps size p2 b2).2.2 p1 b1).2.2 = zB at ht12 hsame
    obtain ⟨aA, nA, cA, hhA, _⟩ := hs12.hdr
    obtain ⟨aB, nB, cB, hhB, _⟩ := ht12.hdr
    have hoA := hs12.oks
    have hoB := ht12.oks
    clear hs12 ht12 hd20 hE1 hE2 hE3 hE4 hms10 hmt12 hhs8 hs8 ht8 how8 how9 hon hW19 hW29 hW17 hb17 hb1U hb2U hb2a hb1a hW1a hW2a G8 G10 G11 G12
    refine H_drawnT k8 s8_28 qt8_28 fl8_28 nd8_28 p8_28 (Nob) rfl mixed (by as_aux_lemma => kernel_rfl) (by as_aux_lemma => kernel_rfl) (by repeat' (first | exact trivial | refine ⟨rfl, ?_⟩)) ndlast8_28 hlast8_28 rfl fun K hK => ?_; simp (config := { maxSteps := 4000000 }) only [go_sem, beq_self_eq_true, List.getElem_toArray, List.getElem_cons_zero, List.getElem_cons_succ, decide_true, decide_false, cond_true, cond_false, Nat.reduceBEq, reduceCtorEq, Nat.reduceAdd, Nat.reduceMul, Nat.reduceSub, reduceIte, Int.reduceToNat, Int.reduceEq, Int.reduceLT, Int.reduceLE, Nat.reduceLeDiff, Nat.reduceEqDiff, eq_self, and_self, gs8_28_0, gs8_28_1, gs8_28_2, gs8_28_3, gs8_28_4, gs8_28_5, gs8_28_6, gs8_28_7, gs8_28_8, gs8_28_9, gs8_28_10, gs8_28_11, gs8_28_12, gs8_28_13, gs8_28_14, gs8_28_15, gs8_28_16, gs8_28_17, gs8_28_18, gs8_28_19, gs8_28_20, gs8_28_21, gs8_28_22, gs8_28_23, gs8_28_24, gs8_28_25, gs8_28_26, gs8_28_27, gs8_28_28, gs8_28_29, gs8_28_30, gs8_28_31, gs8_28_32, gs8_28_33, gs8_28_34, gs8_28_35, gs8_28_36, gs8_28_37, gs8_28_38, gs8_28_39, gs8_28_40, gs8_28_41, gs8_28_42, gs8_28_43, gs8_28_44, gs8_28_45, gs8_28_46, gs8_28_47, p8_28, hW1b.cell, hW2b.cell]
    have hcell1 : ∀ u, Fr Nob w12 u → ∀ o, u.cell? ⟨m1, o, none⟩ = [.int .i64 d1, .int .i64 p1, .int .i64 q1, .slice x1 k1 c1][o]? := fun u fu => (hW1b.fr fu (fun q => q)).cell
    have hcell2 : ∀ u, Fr Nob w12 u → ∀ o, u.cell? ⟨m2, o, none⟩ = [.int .i64 d2, .int .i64 p2, .int .i64 q2, .slice x2 k2 c2][o]? := fun u fu => (hW2b.fr fu (fun q => q)).cell
    have gS : ∀ (x q : Int) (u : World), Fr Nob w12 u → CallsE Try.prog 28 [ptrV s, .int .i64 x, .int .i64 q] u (fun r u' => ∃ a n c, r = .slice a n c ∧ Row u' (.slice a n c) 1 (bvs (getM (ms10.map MP.pc) zA x q)) ∧ Fr Nob u u') := fun x q u fu =>
      (getb_spec s aA nA cA zA ms10 x q u (hhA.fr fu) (fun m hm => (hoA m hm).fr fu (fun q => q))).mono (fun r u' h => by obtain ⟨h1, _, h3⟩ := h; obtain ⟨a, n, c, rfl⟩ := h1.lit; exact ⟨a, n, c, rfl, h1.row, h3⟩)
    have gT : ∀ (x q : Int) (u : World), Fr Nob w12 u → CallsE Try.prog 28 [ptrV t, .int .i64 x, .int .i64 q] u (fun r u' => ∃ a n c, r = .slice a n c ∧ Row u' (.slice a n c) 1 (bvs (getM (mt12.map MP.pc) zB x q)) ∧ Fr Nob u u') := fun x q u fu =>
      (getb_spec t aB nB cB zB mt12 x q u (hhB.fr fu) (fun m hm => (hoB m hm).fr fu (fun q => q))).mono (fun r u' h => by obtain ⟨h1, _, h3⟩ := h; obtain ⟨a, n, c, rfl⟩ := h1.lit; exact ⟨a, n, c, rfl, h1.row, h3⟩)
    have hget : d20 = true → ∀ x q, getM (ms10.map MP.pc) zA x q = getM (mt12.map MP.pc) zB x q := fun h x q => by rw [(hsame h).1, (hsame h).2]
    suffices hfin : ∀ (d : Bool) (u : World), Fr Nob w12 u → (d20 = true → d = true) → K [(6, ptrV m1), (7, ptrV m2), (8, .bool false), (9, ptrV s), (10, ptrV t), (13, .int .i64 0), (17, .int .i64 0), (18, .int .i64 0), (19, .int .i64 0), (20, .bool d20), (21, .bool d), (167, .bool false)] u by
      have hj5 := reads_hj5 m1 m2 s t k1 c1 k2 c2 zA zB d1 p1 q1 d2 p2 q2 x1 x2 (ms10.map MP.pc) (mt12.map MP.pc) d20 w12 K hcell1 hcell2 gS gT hget hfin
      have hj10 := reads_hj10 m1 m2 s t k1 c1 k2 c2 zA zB d1 p1 q1 d2 p2 q2 x1 x2 (ms10.map MP.pc) (mt12.map MP.pc) d20 w12 K hcell1 hcell2 gS gT hget hfin hj5
      have fu : Fr Nob w12 w12 := Fr.refl _ _
      refine callC tcall_24 (size_spec s _ _ _ hhA.hs) ?_
      rintro v20 w12 ⟨rfl, rfl⟩
      simp (config := { maxSteps := 4000000 }) only [go_sem, beq_self_eq_true, List.getElem_toArray, List.getElem_cons_zero, List.getElem_cons_succ, decide_true, decide_false, cond_true, cond_false, Nat.reduceBEq, reduceCtorEq, Nat.reduceAdd, Nat.reduceMul, Nat.reduceSub, reduceIte, Int.reduceToNat, Int.reduceEq, Int.reduceLT, Int.reduceLE, Nat.reduceLeDiff, Nat.reduceEqDiff, eq_self, and_self, gs8_28_0, gs8_28_1, gs8_28_2, gs8_28_3, gs8_28_4, gs8_28_5, gs8_28_6, gs8_28_7, gs8_28_8, gs8_28_9, gs8_28_10, gs8_28_11, gs8_28_12, gs8_28_13, gs8_28_14, gs8_28_15, gs8_28_16, gs8_28_17, gs8_28_18, gs8_28_19, gs8_28_20, gs8_28_21, gs8_28_22, gs8_28_23, gs8_28_24, gs8_28_25, gs8_28_26, gs8_28_27, gs8_28_28, gs8_28_29, gs8_28_30, gs8_28_31, gs8_28_32, gs8_28_33, gs8_28_34, gs8_28_35, gs8_28_36, gs8_28_37, gs8_28_38, gs8_28_39, gs8_28_40, gs8_28_41, gs8_28_42, gs8_28_43, gs8_28_44, gs8_28_45, gs8_28_46, gs8_28_47, p8_28_10]
      refine callC tcall_24 (size_spec t _ _ _ hhB.hs) ?_
      rintro v21 w12 ⟨rfl, rfl⟩
      simp (config := { maxSteps := 4000000 }) only [go_sem, beq_self_eq_true, List.getElem_toArray, List.getElem_cons_zero, List.getElem_cons_succ, decide_true, decide_false, cond_true, cond_false, Nat.reduceBEq, reduceCtorEq, Nat.reduceAdd, Nat.reduceMul, Nat.reduceSub, reduceIte, Int.reduceToNat, Int.reduceEq, Int.reduceLT, Int.reduceLE, Nat.reduceLeDiff, Nat.reduceEqDiff, eq_self, and_self, gs8_28_0, gs8_28_1, gs8_28_2, gs8_28_3, gs8_28_4, gs8_28_5, gs8_28_6, gs8_28_7, gs8_28_8, gs8_28_9, gs8_28_10, gs8_28_11, gs8_28_12, gs8_28_13, gs8_28_14, gs8_28_15, gs8_28_16, gs8_28_17, gs8_28_18, gs8_28_19, gs8_28_20, gs8_28_21, gs8_28_22, gs8_28_23, gs8_28_24, gs8_28_25, gs8_28_26, gs8_28_27, gs8_28_28, gs8_28_29, gs8_28_30, gs8_28_31, gs8_28_32, gs8_28_33, gs8_28_34, gs8_28_35, gs8_28_36, gs8_28_37, gs8_28_38, gs8_28_39, gs8_28_40, gs8_28_41, gs8_28_42, gs8_28_43, gs8_28_44, gs8_28_45, gs8_28_46, gs8_28_47, p8_28_9]
      refine tk_split (fun g => ?_) (fun g => ?_)
      · simp (config := { maxSteps := 4000000 }) only [go_sem, beq_self_eq_true, List.getElem_toArray, List.getElem_cons_zero, List.getElem_cons_succ, decide_true, decide_false, cond_true, cond_false, Nat.reduceBEq, reduceCtorEq, Nat.reduceAdd, Nat.reduceMul, Nat.reduceSub, reduceIte, Int.reduceToNat, Int.reduceEq, Int.reduceLT, Int.reduceLE, Nat.reduceLeDiff, Nat.reduceEqDiff, eq_self, and_self, gs8_28_0, gs8_28_1, gs8_28_2, gs8_28_3, gs8_28_4, gs8_28_5, gs8_28_6, gs8_28_7, gs8_28_8, gs8_28_9, gs8_28_10, gs8_28_11, gs8_28_12, gs8_28_13, gs8_28_14, gs8_28_15, gs8_28_16, gs8_28_17, gs8_28_18, gs8_28_19, gs8_28_20, gs8_28_21, gs8_28_22, gs8_28_23, gs8_28_24, gs8_28_25, gs8_28_26, gs8_28_27, gs8_28_28, gs8_28_29, gs8_28_30, gs8_28_31, gs8_28_32, gs8_28_33, gs8_28_34, gs8_28_35, gs8_28_36, gs8_28_37, gs8_28_38, gs8_28_39, gs8_28_40, gs8_28_41, gs8_28_42, gs8_28_43, gs8_28_44, gs8_28_45, gs8_28_46, gs8_28_47, g]
        refine callC tcall_25 (sheld_spec s aA nA cA _ ms10 _ hhA) ?_
        rintro v22 w22 ⟨rfl, f22⟩
        simp (config := { maxSteps := 4000000 }) only [go_sem, beq_self_eq_true, List.getElem_toArray, List.getElem_cons_zero, List.getElem_cons_succ, decide_true, decide_false, cond_true, cond_false, Nat.reduceBEq, reduceCtorEq, Nat.reduceAdd, Nat.reduceMul, Nat.reduceSub, reduceIte, Int.reduceToNat, Int.reduceEq, Int.reduceLT, Int.reduceLE, Nat.reduceLeDiff, Nat.reduceEqDiff, eq_self, and_self, gs8_28_0, gs8_28_1, gs8_28_2, gs8_28_3, gs8_28_4, gs8_28_5, gs8_28_6, gs8_28_7, gs8_28_8, gs8_28_9, gs8_28_10, gs8_28_11, gs8_28_12, gs8_28_13, gs8_28_14, gs8_28_15, gs8_28_16, gs8_28_17, gs8_28_18, gs8_28_19, gs8_28_20, gs8_28_21, gs8_28_22, gs8_28_23, gs8_28_24, gs8_28_25, gs8_28_26, gs8_28_27, gs8_28_28, gs8_28_29, gs8_28_30, gs8_28_31, gs8_28_32, gs8_28_33, gs8_28_34, gs8_28_35, gs8_28_36, gs8_28_37, gs8_28_38, gs8_28_39, gs8_28_40, gs8_28_41, gs8_28_42, gs8_28_43, gs8_28_44, gs8_28_45, gs8_28_46, gs8_28_47, p8_28_8]
        refine callC tcall_25 (sheld_spec t aB nB cB _ mt12 _ (hhB.fr f22)) ?_
        rintro v23 w23 ⟨rfl, f23⟩
        have fu23 := f22.trans f23
        simp (config := { maxSteps := 4000000 }) only [go_sem, beq_self_eq_true, List.getElem_toArray, List.getElem_cons_zero, List.getElem_cons_succ, decide_true, decide_false, cond_true, cond_false, Nat.reduceBEq, reduceCtorEq, Nat.reduceAdd, Nat.reduceMul, Nat.reduceSub, reduceIte, Int.reduceToNat, Int.reduceEq, Int.reduceLT, Int.reduceLE, Nat.reduceLeDiff, Nat.reduceEqDiff, eq_self, and_self, gs8_28_0, gs8_28_1, gs8_28_2, gs8_28_3, gs8_28_4, gs8_28_5, gs8_28_6, gs8_28_7, gs8_28_8, gs8_28_9, gs8_28_10, gs8_28_11, gs8_28_12, gs8_28_13, gs8_28_14, gs8_28_15, gs8_28_16, gs8_28_17, gs8_28_18, gs8_28_19, gs8_28_20, gs8_28_21, gs8_28_22, gs8_28_23, gs8_28_24, gs8_28_25, gs8_28_26, gs8_28_27, gs8_28_28, gs8_28_29, gs8_28_30, gs8_28_31, gs8_28_32, gs8_28_33, gs8_28_34, gs8_28_35, gs8_28_36, gs8_28_37, gs8_28_38, gs8_28_39, gs8_28_40, gs8_28_41, gs8_28_42, gs8_28_43, gs8_28_44, gs8_28_45, gs8_28_46, gs8_28_47, p8_28_7]
        refine tk_split (fun g2 => ?_) (fun g2 => ?_)
        · simp (config := { maxSteps := 4000000 }) only [go_sem, beq_self_eq_true, List.getElem_toArray, List.getElem_cons_zero, List.getElem_cons_succ, decide_true, decide_false, cond_true, cond_false, Nat.reduceBEq, reduceCtorEq, Nat.reduceAdd, Nat.reduceMul, Nat.reduceSub, reduceIte, Int.reduceToNat, Int.reduceEq, Int.reduceLT, Int.reduceLE, Nat.reduceLeDiff, Nat.reduceEqDiff, eq_self, and_self, gs8_28_0, gs8_28_1, gs8_28_2, gs8_28_3, gs8_28_4, gs8_28_5, gs8_28_6, gs8_28_7, gs8_28_8, gs8_28_9, gs8_28_10, gs8_28_11, gs8_28_12, gs8_28_13, gs8_28_14, gs8_28_15, gs8_28_16, gs8_28_17, gs8_28_18, gs8_28_19, gs8_28_20, gs8_28_21, gs8_28_22, gs8_28_23, gs8_28_24, gs8_28_25, gs8_28_26, gs8_28_27, gs8_28_28, gs8_28_29, gs8_28_30, gs8_28_31, gs8_28_32, gs8_28_33, gs8_28_34, gs8_28_35, gs8_28_36, gs8_28_37, gs8_28_38, gs8_28_39, gs8_28_40, gs8_28_41, gs8_28_42, gs8_28_43, gs8_28_44, gs8_28_45, gs8_28_46, gs8_28_47, g2]
          repeat' (first
            | with_reducible refine And.intro ?_ ?_
            | (with_reducible refine callC tcall_28 (gS _ _ _ (by assumption)) ?_; rintro _ u ⟨a, n, c, rfl, hr, hf⟩; have fu := Fr.trans (show Fr Nob w12 _ by assumption) hf)
            | (with_reducible refine callC tcall_28 (gT _ _ _ (by assumption)) ?_; rintro _ u ⟨a, n, c, rfl, hr, hf⟩; have fu := Fr.trans (show Fr Nob w12 _ by assumption) hf)
            | with_reducible refine convRow (by assumption) ?_
            | with_reducible refine convRow (Row.fr (G := Nob) (by assumption) (by assumption) (fun _ _ q => q)) ?_
            | simp (config := { maxSteps := 4000000 }) only [go_sem, beq_self_eq_true, List.getElem_toArray, List.getElem_cons_zero, List.getElem_cons_succ, decide_true, decide_false, cond_true, cond_false, Nat.reduceBEq, reduceCtorEq, Nat.reduceAdd, Nat.reduceMul, Nat.reduceSub, reduceIte, Int.reduceToNat, Int.reduceEq, Int.reduceLT, Int.reduceLE, Nat.reduceLeDiff, Nat.reduceEqDiff, eq_self, and_self, gs8_28_0, gs8_28_1, gs8_28_2, gs8_28_3, gs8_28_4, gs8_28_5, gs8_28_6, gs8_28_7, gs8_28_8, gs8_28_9, gs8_28_10, gs8_28_11, gs8_28_12, gs8_28_13, gs8_28_14, gs8_28_15, gs8_28_16, gs8_28_17, gs8_28_18, gs8_28_19, gs8_28_20, gs8_28_21, gs8_28_22, gs8_28_23, gs8_28_24, gs8_28_25, gs8_28_26, gs8_28_27, gs8_28_28, gs8_28_29, gs8_28_30, gs8_28_31, gs8_28_32, gs8_28_33, gs8_28_34, gs8_28_35, gs8_28_36, gs8_28_37, gs8_28_38, gs8_28_39, gs8_28_40, gs8_28_41, gs8_28_42, gs8_28_43, gs8_28_44, gs8_28_45, gs8_28_46, gs8_28_47, p8_28_6, hcell1 _ (by assumption), hcell2 _ (by assumption), Try.underlying9]
            | simp (config := { maxSteps := 4000000 }) only [go_sem, beq_self_eq_true, List.getElem_toArray, List.getElem_cons_zero, List.getElem_cons_succ, decide_true, decide_false, cond_true, cond_false, Nat.reduceBEq, reduceCtorEq, Nat.reduceAdd, Nat.reduceMul, Nat.reduceSub, reduceIte, Int.reduceToNat, Int.reduceEq, Int.reduceLT, Int.reduceLE, Nat.reduceLeDiff, Nat.reduceEqDiff, eq_self, and_self, gs8_28_0, gs8_28_1, gs8_28_2, gs8_28_3, gs8_28_4, gs8_28_5, gs8_28_6, gs8_28_7, gs8_28_8, gs8_28_9, gs8_28_10, gs8_28_11, gs8_28_12, gs8_28_13, gs8_28_14, gs8_28_15, gs8_28_16, gs8_28_17, gs8_28_18, gs8_28_19, gs8_28_20, gs8_28_21, gs8_28_22, gs8_28_23, gs8_28_24, gs8_28_25, gs8_28_26, gs8_28_27, gs8_28_28, gs8_28_29, gs8_28_30, gs8_28_31, gs8_28_32, gs8_28_33, gs8_28_34, gs8_28_35, gs8_28_36, gs8_28_37, gs8_28_38, gs8_28_39, gs8_28_40, gs8_28_41, gs8_28_42, gs8_28_43, gs8_28_44, gs8_28_45, gs8_28_46, gs8_28_47, p8_28_5, hcell1 _ (by assumption), hcell2 _ (by assumption), Try.underlying9]
            | simp (config := { maxSteps := 4000000 }) only [go_sem, beq_self_eq_true, List.getElem_toArray, List.getElem_cons_zero, List.getElem_cons_succ, decide_true, decide_false, cond_true, cond_false, Nat.reduceBEq, reduceCtorEq, Nat.reduceAdd, Nat.reduceMul, Nat.reduceSub, reduceIte, Int.reduceToNat, Int.reduceEq, Int.reduceLT, Int.reduceLE, Nat.reduceLeDiff, Nat.reduceEqDiff, eq_self, and_self, gs8_28_0, gs8_28_1, gs8_28_2, gs8_28_3, gs8_28_4, gs8_28_5, gs8_28_6, gs8_28_7, gs8_28_8, gs8_28_9, gs8_28_10, gs8_28_11, gs8_28_12, gs8_28_13, gs8_28_14, gs8_28_15, gs8_28_16, gs8_28_17, gs8_28_18, gs8_28_19, gs8_28_20, gs8_28_21, gs8_28_22, gs8_28_23, gs8_28_24, gs8_28_25, gs8_28_26, gs8_28_27, gs8_28_28, gs8_28_29, gs8_28_30, gs8_28_31, gs8_28_32, gs8_28_33, gs8_28_34, gs8_28_35, gs8_28_36, gs8_28_37, gs8_28_38, gs8_28_39, gs8_28_40, gs8_28_41, gs8_28_42, gs8_28_43, gs8_28_44, gs8_28_45, gs8_28_46, gs8_28_47, p8_28_j11, hcell1 _ (by assumption), hcell2 _ (by assumption), Try.underlying9]
            | (exact plan_joinP (A := [_, _, _]) (B := [_, _, _]) (by repeat' (first | exact trivial | refine ⟨rfl, ?_⟩)) (by repeat' (first | exact trivial | refine ⟨rfl, ?_⟩)) (hj10 _ _ _ _ _ _ _ _ _ _ _ _ _ _ _ _ _ _ _ _ (by assumption) (fun _ => rfl) (fun _ => ⟨_, _, rfl, rfl, fun h => hget h _ _⟩))))
        · have hd0 : d20 = true → False := fun h => by rw [(hsame h).1] at g2; simp at g2
          simp (config := { maxSteps := 4000000 }) only [go_sem, beq_self_eq_true, List.getElem_toArray, List.getElem_cons_zero, List.getElem_cons_succ, decide_true, decide_false, cond_true, cond_false, Nat.reduceBEq, reduceCtorEq, Nat.reduceAdd, Nat.reduceMul, Nat.reduceSub, reduceIte, Int.reduceToNat, Int.reduceEq, Int.reduceLT, Int.reduceLE, Nat.reduceLeDiff, Nat.reduceEqDiff, eq_self, and_self, gs8_28_0, gs8_28_1, gs8_28_2, gs8_28_3, gs8_28_4, gs8_28_5, gs8_28_6, gs8_28_7, gs8_28_8, gs8_28_9, gs8_28_10, gs8_28_11, gs8_28_12, gs8_28_13, gs8_28_14, gs8_28_15, gs8_28_16, gs8_28_17, gs8_28_18, gs8_28_19, gs8_28_20, gs8_28_21, gs8_28_22, gs8_28_23, gs8_28_24, gs8_28_25, gs8_28_26, gs8_28_27, gs8_28_28, gs8_28_29, gs8_28_30, gs8_28_31, gs8_28_32, gs8_28_33, gs8_28_34, gs8_28_35, gs8_28_36, gs8_28_37, gs8_28_38, gs8_28_39, gs8_28_40, gs8_28_41, gs8_28_42, gs8_28_43, gs8_28_44, gs8_28_45, gs8_28_46, gs8_28_47, g2]
          (try simp (config := { maxSteps := 4000000 }) only [go_sem, beq_self_eq_true, List.getElem_toArray, List.getElem_cons_zero, List.getElem_cons_succ, decide_true, decide_false, cond_true, cond_false, Nat.reduceBEq, reduceCtorEq, Nat.reduceAdd, Nat.reduceMul, Nat.reduceSub, reduceIte, Int.reduceToNat, Int.reduceEq, Int.reduceLT, Int.reduceLE, Nat.reduceLeDiff, Nat.reduceEqDiff, eq_self, and_self, gs8_28_0, gs8_28_1, gs8_28_2, gs8_28_3, gs8_28_4, gs8_28_5, gs8_28_6, gs8_28_7, gs8_28_8, gs8_28_9, gs8_28_10, gs8_28_11, gs8_28_12, gs8_28_13, gs8_28_14, gs8_28_15, gs8_28_16, gs8_28_17, gs8_28_18, gs8_28_19, gs8_28_20, gs8_28_21, gs8_28_22, gs8_28_23, gs8_28_24, gs8_28_25, gs8_28_26, gs8_28_27, gs8_28_28, gs8_28_29, gs8_28_30, gs8_28_31, gs8_28_32, gs8_28_33, gs8_28_34, gs8_28_35, gs8_28_36, gs8_28_37, gs8_28_38, gs8_28_39, gs8_28_40, gs8_28_41, gs8_28_42, gs8_28_43, gs8_28_44, gs8_28_45, gs8_28_46, gs8_28_47, p8_28_6, p8_28_5, p8_28_j11])
          repeat' (first | with_reducible refine And.intro ?_ ?_ | exact plan_joinP (A := [_, _, _]) (B := [_, _, _]) (by repeat' (first | exact trivial | refine ⟨rfl, ?_⟩)) (by repeat' (first | exact trivial | refine ⟨rfl, ?_⟩)) (hj10 _ _ _ _ _ _ _ _ _ _ _ _ _ _ _ _ _ _ _ _ (by assumption) (fun h => (hd0 h).elim) (fun h => (by cases h))))
      · have hd0 : d20 = true → False := fun h => by rw [(hsame h).2] at g; simp at g
        simp (config := { maxSteps := 4000000 }) only [go_sem, beq_self_eq_true, List.getElem_toArray, List.getElem_cons_zero, List.getElem_cons_succ, decide_true, decide_false, cond_true, cond_false, Nat.reduceBEq, reduceCtorEq, Nat.reduceAdd, Nat.reduceMul, Nat.reduceSub, reduceIte, Int.reduceToNat, Int.reduceEq, Int.reduceLT, Int.reduceLE, Nat.reduceLeDiff, Nat.reduceEqDiff, eq_self, and_self, gs8_28_0, gs8_28_1, gs8_28_2, gs8_28_3, gs8_28_4, gs8_28_5, gs8_28_6, gs8_28_7, gs8_28_8, gs8_28_9, gs8_28_10, gs8_28_11, gs8_28_12, gs8_28_13, gs8_28_14, gs8_28_15, gs8_28_16, gs8_28_17, gs8_28_18, gs8_28_19, gs8_28_20, gs8_28_21, gs8_28_22, gs8_28_23, gs8_28_24, gs8_28_25, gs8_28_26, gs8_28_27, gs8_28_28, gs8_28_29, gs8_28_30, gs8_28_31, gs8_28_32, gs8_28_33, gs8_28_34, gs8_28_35, gs8_28_36, gs8_28_37, gs8_28_38, gs8_28_39, gs8_28_40, gs8_28_41, gs8_28_42, gs8_28_43, gs8_28_44, gs8_28_45, gs8_28_46, gs8_28_47, g]
        (try simp (config := { maxSteps := 4000000 }) only [go_sem, beq_self_eq_true, List.getElem_toArray, List.getElem_cons_zero, List.getElem_cons_succ, decide_true, decide_false, cond_true, cond_false, Nat.reduceBEq, reduceCtorEq, Nat.reduceAdd, Nat.reduceMul, Nat.reduceSub, reduceIte, Int.reduceToNat, Int.reduceEq, Int.reduceLT, Int.reduceLE, Nat.reduceLeDiff, Nat.reduceEqDiff, eq_self, and_self, gs8_28_0, gs8_28_1, gs8_28_2, gs8_28_3, gs8_28_4, gs8_28_5, gs8_28_6, gs8_28_7, gs8_28_8, gs8_28_9, gs8_28_10, gs8_28_11, gs8_28_12, gs8_28_13, gs8_28_14, gs8_28_15, gs8_28_16, gs8_28_17, gs8_28_18, gs8_28_19, gs8_28_20, gs8_28_21, gs8_28_22, gs8_28_23, gs8_28_24, gs8_28_25, gs8_28_26, gs8_28_27, gs8_28_28, gs8_28_29, gs8_28_30, gs8_28_31, gs8_28_32, gs8_28_33, gs8_28_34, gs8_28_35, gs8_28_36, gs8_28_37, gs8_28_38, gs8_28_39, gs8_28_40, gs8_28_41, gs8_28_42, gs8_28_43, gs8_28_44, gs8_28_45, gs8_28_46, gs8_28_47, p8_28_8, p8_28_7, p8_28_6, p8_28_5, p8_28_j11])
        repeat' (first | with_reducible refine And.intro ?_ ?_ | exact plan_joinP (A := [_, _, _]) (B := [_, _, _]) (by repeat' (first | exact trivial | refine ⟨rfl, ?_⟩)) (by repeat' (first | exact trivial | refine ⟨rfl, ?_⟩)) (hj10 _ _ _ _ _ _ _ _ _ _ _ _ _ _ _ _ _ _ _ _ (by assumption) (fun h => (hd0 h).elim) (fun h => (by cases h))))
    intro d u fu hd
    refine hK _ _ ?_; clear hK K
    repeat' (first | refine H_seq ?_ | refine H_block ?_ | refine H_skip ?_ | refine H_nil ?_ | refine H_exit ?_ | refine H_ret ?_ | refine B_normal ?_ | refine B_same ?_ | refine B_other rfl ?_ | refine B_ret ?_ | refine L_exit ?_ | refine L_ret ?_)
    have hfw : Fr Nob w u := f0.trans (F12.trans fu)
    clear hcell1 hcell2 gS gT hget
    cases d20 with
    | false =>
      refine H_region k8 s8_29 rfl fun K hK => ?_; simp (config := { maxSteps := 4000000 }) only [go_sem, beq_self_eq_true, List.getElem_toArray, List.getElem_cons_zero, List.getElem_cons_succ, decide_true, decide_false, cond_true, cond_false, Nat.reduceBEq, reduceCtorEq, Nat.reduceAdd, Nat.reduceMul, Nat.reduceSub, reduceIte, Int.reduceToNat, Int.reduceEq, Int.reduceLT, Int.reduceLE, Nat.reduceLeDiff, Nat.reduceEqDiff, eq_self, and_self, s8_29]
      refine callC tcall_30 (swakes_spec _) ?_
      rintro v30 w30 ⟨rfl, f30⟩
      simp (config := { maxSteps := 4000000 }) only [go_sem, beq_self_eq_true, List.getElem_toArray, List.getElem_cons_zero, List.getElem_cons_succ, decide_true, decide_false, cond_true, cond_false, Nat.reduceBEq, reduceCtorEq, Nat.reduceAdd, Nat.reduceMul, Nat.reduceSub, reduceIte, Int.reduceToNat, Int.reduceEq, Int.reduceLT, Int.reduceLE, Nat.reduceLeDiff, Nat.reduceEqDiff, eq_self, and_self, s8_29_1]
      (try simp (config := { maxSteps := 4000000 }) only [go_sem, beq_self_eq_true, List.getElem_toArray, List.getElem_cons_zero, List.getElem_cons_succ, decide_true, decide_false, cond_true, cond_false, Nat.reduceBEq, reduceCtorEq, Nat.reduceAdd, Nat.reduceMul, Nat.reduceSub, reduceIte, Int.reduceToNat, Int.reduceEq, Int.reduceLT, Int.reduceLE, Nat.reduceLeDiff, Nat.reduceEqDiff, eq_self, and_self])
      refine hK _ _ ?_; clear hK K
      repeat' (first | refine H_seq ?_ | refine H_block ?_ | refine H_skip ?_ | refine H_nil ?_ | refine H_exit ?_ | refine H_ret ?_ | refine B_normal ?_ | refine B_same ?_ | refine B_other rfl ?_ | refine B_ret ?_ | refine L_exit ?_ | refine L_ret ?_)
      refine F_ret ?_
      (try simp (config := { maxSteps := 4000000 }) only [go_sem, beq_self_eq_true, List.getElem_toArray, List.getElem_cons_zero, List.getElem_cons_succ, decide_true, decide_false, cond_true, cond_false, Nat.reduceBEq, reduceCtorEq, Nat.reduceAdd, Nat.reduceMul, Nat.reduceSub, reduceIte, Int.reduceToNat, Int.reduceEq, Int.reduceLT, Int.reduceLE, Nat.reduceLeDiff, Nat.reduceEqDiff, eq_self, and_self])
      exact hfw.trans f30
    | true =>
      obtain rfl : d = true := hd rfl
      refine H_region k8 s8_29 rfl fun K hK => ?_; simp (config := { maxSteps := 4000000 }) only [go_sem, beq_self_eq_true, List.getElem_toArray, List.getElem_cons_zero, List.getElem_cons_succ, decide_true, decide_false, cond_true, cond_false, Nat.reduceBEq, reduceCtorEq, Nat.reduceAdd, Nat.reduceMul, Nat.reduceSub, reduceIte, Int.reduceToNat, Int.reduceEq, Int.reduceLT, Int.reduceLE, Nat.reduceLeDiff, Nat.reduceEqDiff, eq_self, and_self, s8_29]
      refine callC tcall_30 (swakes_spec _) ?_
      rintro v30 w30 ⟨rfl, f30⟩
      simp (config := { maxSteps := 4000000 }) only [go_sem, beq_self_eq_true, List.getElem_toArray, List.getElem_cons_zero, List.getElem_cons_succ, decide_true, decide_false, cond_true, cond_false, Nat.reduceBEq, reduceCtorEq, Nat.reduceAdd, Nat.reduceMul, Nat.reduceSub, reduceIte, Int.reduceToNat, Int.reduceEq, Int.reduceLT, Int.reduceLE, Nat.reduceLeDiff, Nat.reduceEqDiff, eq_self, and_self, s8_29_1]
      (try simp (config := { maxSteps := 4000000 }) only [go_sem, beq_self_eq_true, List.getElem_toArray, List.getElem_cons_zero, List.getElem_cons_succ, decide_true, decide_false, cond_true, cond_false, Nat.reduceBEq, reduceCtorEq, Nat.reduceAdd, Nat.reduceMul, Nat.reduceSub, reduceIte, Int.reduceToNat, Int.reduceEq, Int.reduceLT, Int.reduceLE, Nat.reduceLeDiff, Nat.reduceEqDiff, eq_self, and_self])
      refine hK _ _ ?_; clear hK K
      repeat' (first | refine H_seq ?_ | refine H_block ?_ | refine H_skip ?_ | refine H_nil ?_ | refine H_exit ?_ | refine H_ret ?_ | refine B_normal ?_ | refine B_same ?_ | refine B_other rfl ?_ | refine B_ret ?_ | refine L_exit ?_ | refine L_ret ?_)
      refine F_ret ?_
      (try simp (config := { maxSteps := 4000000 }) only [go_sem, beq_self_eq_true, List.getElem_toArray, List.getElem_cons_zero, List.getElem_cons_succ, decide_true, decide_false, cond_true, cond_false, Nat.reduceBEq, reduceCtorEq, Nat.reduceAdd, Nat.reduceMul, Nat.reduceSub, reduceIte, Int.reduceToNat, Int.reduceEq, Int.reduceLT, Int.reduceLE, Nat.reduceLeDiff, Nat.reduceEqDiff, eq_self, and_self])
      exact hfw.trans f30
end Go.Proofs.Ytpdklpeojjkkaaa

/- memory: New, with all that is held; mantlelaw04: wakes, MemoryNil. -/
import Derived.Test.YtlffbjchcknmfaaMem5
namespace Go.Proofs.Ytlffbjchcknmfaa
open Go
set_option linter.unusedVariables false
set_option linter.unusedSimpArgs false
set_option maxRecDepth 100000
set_option maxHeartbeats 1000000
/-- What memory makes: a span and one handle over it. -/
abbrev MH (h fb f s : Nat) (can : Int) : World → (Nat → Prop) → MSt → Prop := HI (MemI [f] s) [memH h fb f can]
theorem mnewI_spec (a : Option Addr) (n cap : Nat) (bs : List UInt8) (can : Int) (w : World) (hv : Row w (.slice a n cap) 1 (bvs bs)) (hl : bs.length ≤ 4194304) (h0 : 0 ≤ can) (h15 : can ≤ 15) :
    CallsE Try.prog 25 [.slice a n cap, .int .u8 can] w fun r u => ∃ h fb f s, r = .tuple #[ptrV h, .int .i64 0] ∧
      MH h fb f s can u (fun b => w.heap.size ≤ b ∧ b < u.heap.size) (wholeL bs, bs.length) ∧ Fr Nob w u := by
  have hn : bs.length = n := by have := hv.len; rw [bvs_len] at this; omega
  refine enter Try.func25 rfl Try.results25 Try.ntmps25 rfl ?_
  repeat' (first | refine H_seq ?_ | refine H_block ?_ | refine H_skip ?_ | refine H_nil ?_ | refine H_exit ?_ | refine H_ret ?_ | refine B_normal ?_ | refine B_same ?_ | refine B_other rfl ?_ | refine B_ret ?_ | refine L_exit ?_ | refine L_ret ?_)
  refine H_region k25 s25_0 rfl fun K hK => ?_; simp (config := { maxSteps := 4000000 }) only [go_sem, beq_self_eq_true, List.getElem_toArray, List.getElem_cons_zero, List.getElem_cons_succ, decide_true, decide_false, cond_true, cond_false, Nat.reduceBEq, reduceCtorEq, Nat.reduceAdd, Nat.reduceMul, Nat.reduceSub, reduceIte, Int.reduceToNat, Int.reduceEq, Int.reduceLT, Int.reduceLE, Nat.reduceLeDiff, Nat.reduceEqDiff, eq_self, and_self, s25_0]
  refine hK _ _ ?_; clear hK K
  repeat' (first | refine H_seq ?_ | refine H_block ?_ | refine H_skip ?_ | refine H_nil ?_ | refine H_exit ?_ | refine H_ret ?_ | refine B_normal ?_ | refine B_same ?_ | refine B_other rfl ?_ | refine B_ret ?_ | refine L_exit ?_ | refine L_ret ?_)
  refine H_region k25 s25_1 rfl fun K hK => ?_; simp (config := { maxSteps := 4000000 }) only [go_sem, beq_self_eq_true, List.getElem_toArray, List.getElem_cons_zero, List.getElem_cons_succ, decide_true, decide_false, cond_true, cond_false, Nat.reduceBEq, reduceCtorEq, Nat.reduceAdd, Nat.reduceMul, Nat.reduceSub, reduceIte, Int.reduceToNat, Int.reduceEq, Int.reduceLT, Int.reduceLE, Nat.reduceLeDiff, Nat.reduceEqDiff, eq_self, and_self, s25_1]
  refine hK _ _ ?_; clear hK K
  repeat' (first | refine H_seq ?_ | refine H_block ?_ | refine H_skip ?_ | refine H_nil ?_ | refine H_exit ?_ | refine H_ret ?_ | refine B_normal ?_ | refine B_same ?_ | refine B_other rfl ?_ | refine B_ret ?_ | refine L_exit ?_ | refine L_ret ?_)
  refine H_condF rfl (by simp; omega) ?_
  repeat' (first | refine H_seq ?_ | refine H_block ?_ | refine H_skip ?_ | refine H_nil ?_ | refine H_exit ?_ | refine H_ret ?_ | refine B_normal ?_ | refine B_same ?_ | refine B_other rfl ?_ | refine B_ret ?_ | refine L_exit ?_ | refine L_ret ?_)
  refine H_region k25 s25_3 rfl fun K hK => ?_; simp (config := { maxSteps := 4000000 }) only [go_sem, beq_self_eq_true, List.getElem_toArray, List.getElem_cons_zero, List.getElem_cons_succ, decide_true, decide_false, cond_true, cond_false, Nat.reduceBEq, reduceCtorEq, Nat.reduceAdd, Nat.reduceMul, Nat.reduceSub, reduceIte, Int.reduceToNat, Int.reduceEq, Int.reduceLT, Int.reduceLE, Nat.reduceLeDiff, Nat.reduceEqDiff, eq_self, and_self, s25_3]
  refine hK _ _ ?_; clear hK K
  repeat' (first | refine H_seq ?_ | refine H_block ?_ | refine H_skip ?_ | refine H_nil ?_ | refine H_exit ?_ | refine H_ret ?_ | refine B_normal ?_ | refine B_same ?_ | refine B_other rfl ?_ | refine B_ret ?_ | refine L_exit ?_ | refine L_ret ?_)
  refine H_condF rfl (by simp; omega) ?_
  repeat' (first | refine H_seq ?_ | refine H_block ?_ | refine H_skip ?_ | refine H_nil ?_ | refine H_exit ?_ | refine H_ret ?_ | refine B_normal ?_ | refine B_same ?_ | refine B_other rfl ?_ | refine B_ret ?_ | refine L_exit ?_ | refine L_ret ?_)
  refine H_region k25 s25_5 rfl fun K hK => ?_; simp (config := { maxSteps := 4000000 }) only [go_sem, beq_self_eq_true, List.getElem_toArray, List.getElem_cons_zero, List.getElem_cons_succ, decide_true, decide_false, cond_true, cond_false, Nat.reduceBEq, reduceCtorEq, Nat.reduceAdd, Nat.reduceMul, Nat.reduceSub, reduceIte, Int.reduceToNat, Int.reduceEq, Int.reduceLT, Int.reduceLE, Nat.reduceLeDiff, Nat.reduceEqDiff, eq_self, and_self, s25_5]
  refine callC tcall_74 (snew_spec a n cap bs _ hv (by omega)) ?_
  rintro v u ⟨s, ms, rfl, hs, hms, hfr⟩
  simp (config := { maxSteps := 4000000 }) only [go_sem, beq_self_eq_true, List.getElem_toArray, List.getElem_cons_zero, List.getElem_cons_succ, decide_true, decide_false, cond_true, cond_false, Nat.reduceBEq, reduceCtorEq, Nat.reduceAdd, Nat.reduceMul, Nat.reduceSub, reduceIte, Int.reduceToNat, Int.reduceEq, Int.reduceLT, Int.reduceLE, Nat.reduceLeDiff, Nat.reduceEqDiff, eq_self, and_self, s25_5_1]
  refine callC tcall_34 (mof_spec s can _ h0 h15) ?_
  rintro v u2 ⟨h, fb, f, rfl, hh, hfr2⟩
  (try simp (config := { maxSteps := 4000000 }) only [go_sem, beq_self_eq_true, List.getElem_toArray, List.getElem_cons_zero, List.getElem_cons_succ, decide_true, decide_false, cond_true, cond_false, Nat.reduceBEq, reduceCtorEq, Nat.reduceAdd, Nat.reduceMul, Nat.reduceSub, reduceIte, Int.reduceToNat, Int.reduceEq, Int.reduceLT, Int.reduceLE, Nat.reduceLeDiff, Nat.reduceEqDiff, eq_self, and_self])
  refine hK _ _ ?_; clear hK K
  repeat' (first | refine H_seq ?_ | refine H_block ?_ | refine H_skip ?_ | refine H_nil ?_ | refine H_exit ?_ | refine H_ret ?_ | refine B_normal ?_ | refine B_same ?_ | refine B_other rfl ?_ | refine B_ret ?_ | refine L_exit ?_ | refine L_ret ?_)
  refine F_ret ?_
  (try simp (config := { maxSteps := 4000000 }) only [go_sem, beq_self_eq_true, List.getElem_toArray, List.getElem_cons_zero, List.getElem_cons_succ, decide_true, decide_false, cond_true, cond_false, Nat.reduceBEq, reduceCtorEq, Nat.reduceAdd, Nat.reduceMul, Nat.reduceSub, reduceIte, Int.reduceToNat, Int.reduceEq, Int.reduceLT, Int.reduceLE, Nat.reduceLeDiff, Nat.reduceEqDiff, eq_self, and_self])
  rw [List.take_of_length_le hl] at hs hms
  have hsz := hfr.size
  have hsz2 := hfr2.size
  obtain ⟨h1, h2, h3, h4, h5⟩ := hh
  have l1 := h1.1.lt
  have l2 := h1.2.1.lt
  have l3 := h2.lt
  simp only [Fromb] at h3 h4 h5
  have hs' : IsSpan u (fun b => w.heap.size ≤ b ∧ b < u.heap.size) s ms bs.length := hs.mono (fun b hb q => ⟨q, hb⟩)
  refine ⟨h, fb, f, s, rfl, ⟨fun b => (w.heap.size ≤ b ∧ b < u.heap.size) ∨ b = f, ⟨fun b => w.heap.size ≤ b ∧ b < u.heap.size, ms, hs'.fr hfr2 (fun _ _ q => q), hms, fun b hb => .inl hb, fun q hq => ?_⟩, fun b hb => ?_, fun q hq => ?_⟩, hfr.trans hfr2⟩
  · simp only [List.mem_singleton] at hq
    subst hq
    exact ⟨h2, .inr rfl, fun k => by omega⟩
  · rcases hb with hb | rfl
    · omega
    · omega
  · simp only [List.mem_singleton] at hq
    subst hq
    have n1 : h ≠ f := fun e => by
      subst e
      have := h1.1.r.inj h2.r
      simp [handleCells] at this
    have n2 : fb ≠ f := fun e => by
      subst e
      have := h1.2.1.r.inj h2.r
      simp [memV] at this
    exact ⟨h1, by simp only [memH]; omega, by simp only [memH]; omega, by simp only [memH]; omega, by simp only [memH]; omega⟩
/-- 'Do' of a handle that memory makes. -/
theorem mdo_spec (h fb f s : Nat) (can : Int) (w : World) (F : Nat → Prop) (st : MSt) (o : OpV) (hH : MH h fb f s can w F st) (ho : o.ok w) (hw : o.k = 2 → bits .and .u8 can 1 = 0) (t : Td) (st' : MSt)
    (he : doG memM (decide (bits .and .u8 can 1 ≠ 0)) (decide (bits .and .u8 can 2 ≠ 0)) (decide (bits .and .u8 can 4 ≠ 0)) (decide (bits .and .u8 can 8 ≠ 0)) st o = (t, st')) :
    CallsE Try.prog 33 [ptrV h, o.val] w fun r u => ∃ d, r = t.val d ∧ Own u d 1 (bvs t.d) ∧ Steps (MH h fb f s can) w F u d st' := by
  have hm : ∀ bit, (maskO can bit (memO f)).isSome = decide (bits .and .u8 can bit ≠ 0) := fun bit => by
    unfold maskO memO
    split <;> simp_all
  have := do_gen (L := [memH h fb f can]) (mem_obj [f] s) (memH h fb f can) (List.mem_cons_self ..) (mem_parts [f] s h fb f can (List.mem_cons_self ..)) (by decide) w F st o hH ho (fun k => by simp only [memH, maskO]; rw [if_pos (hw k)])
  simp only [memH, hm] at this
  rw [he] at this
  exact this
theorem Fr.far {F : Nat → Prop} {w u v : World} (h : Fr Nob w u) (k : Fr F u v) (hF : ∀ b, F b → w.heap.size ≤ b) : Fr Nob w v :=
  h.trans2 k (fun _ _ q => q) (fun b hb q => absurd (hF b q) (by omega))
theorem m4wakes_spec (w : World) : CallsE Try.prog 24 [] w fun r u => r = .bool true ∧ Fr Nob w u := by
  refine enter Try.func24 rfl Try.results24 Try.ntmps24 rfl ?_
  repeat' (first | refine H_seq ?_ | refine H_block ?_ | refine H_skip ?_ | refine H_nil ?_ | refine H_exit ?_ | refine H_ret ?_ | refine B_normal ?_ | refine B_same ?_ | refine B_other rfl ?_ | refine B_ret ?_ | refine L_exit ?_ | refine L_ret ?_)
  refine H_region k24 s24_0 rfl fun K hK => ?_; simp (config := { maxSteps := 4000000 }) only [go_sem, beq_self_eq_true, List.getElem_toArray, List.getElem_cons_zero, List.getElem_cons_succ, decide_true, decide_false, cond_true, cond_false, Nat.reduceBEq, reduceCtorEq, Nat.reduceAdd, Nat.reduceMul, Nat.reduceSub, reduceIte, Int.reduceToNat, Int.reduceEq, Int.reduceLT, Int.reduceLE, Nat.reduceLeDiff, Nat.reduceEqDiff, eq_self, and_self, s24_0]
  refine hK _ _ ?_; clear hK K
  repeat' (first | refine H_seq ?_ | refine H_block ?_ | refine H_skip ?_ | refine H_nil ?_ | refine H_exit ?_ | refine H_ret ?_ | refine B_normal ?_ | refine B_same ?_ | refine B_other rfl ?_ | refine B_ret ?_ | refine L_exit ?_ | refine L_ret ?_)
  refine H_region k24 s24_1 rfl fun K hK => ?_; simp (config := { maxSteps := 4000000 }) only [go_sem, beq_self_eq_true, List.getElem_toArray, List.getElem_cons_zero, List.getElem_cons_succ, decide_true, decide_false, cond_true, cond_false, Nat.reduceBEq, reduceCtorEq, Nat.reduceAdd, Nat.reduceMul, Nat.reduceSub, reduceIte, Int.reduceToNat, Int.reduceEq, Int.reduceLT, Int.reduceLE, Nat.reduceLeDiff, Nat.reduceEqDiff, eq_self, and_self, s24_1]
  intro b1 w1 h1
  refine ⟨_, h1.blk, ?_⟩
  intro w2 f2 hs2 hr2
  have f12 : Fr Nob w w2 := h1.fr.trans2 f2 (fun _ _ q => q) (fun i hi q => by have := h1.num; simp only [Onb] at q; omega)
  refine callC tcall_25 (mnewI_spec (some ⟨b1, 0, none⟩) 3 3 [97, 98, 99] 0 w2 ⟨_, _, _, rfl, rfl, Nat.le_refl _, .inr ⟨b1, 0, _, rfl, hr2, by simp, rfl⟩⟩ (by decide) (by decide) (by decide)) ?_
  rintro v3 w3 ⟨h, fb, f, s, rfl, hH, f3⟩
  (try simp (config := { maxSteps := 4000000 }) only [go_sem, beq_self_eq_true, List.getElem_toArray, List.getElem_cons_zero, List.getElem_cons_succ, decide_true, decide_false, cond_true, cond_false, Nat.reduceBEq, reduceCtorEq, Nat.reduceAdd, Nat.reduceMul, Nat.reduceSub, reduceIte, Int.reduceToNat, Int.reduceEq, Int.reduceLT, Int.reduceLE, Nat.reduceLeDiff, Nat.reduceEqDiff, eq_self, and_self])
  refine hK _ _ ?_; clear hK K
  repeat' (first | refine H_seq ?_ | refine H_block ?_ | refine H_skip ?_ | refine H_nil ?_ | refine H_exit ?_ | refine H_ret ?_ | refine B_normal ?_ | refine B_same ?_ | refine B_other rfl ?_ | refine B_ret ?_ | refine L_exit ?_ | refine L_ret ?_)
  refine H_region k24 s24_2 rfl fun K hK => ?_; simp (config := { maxSteps := 4000000 }) only [go_sem, beq_self_eq_true, List.getElem_toArray, List.getElem_cons_zero, List.getElem_cons_succ, decide_true, decide_false, cond_true, cond_false, Nat.reduceBEq, reduceCtorEq, Nat.reduceAdd, Nat.reduceMul, Nat.reduceSub, reduceIte, Int.reduceToNat, Int.reduceEq, Int.reduceLT, Int.reduceLE, Nat.reduceLeDiff, Nat.reduceEqDiff, eq_self, and_self, s24_2]
  intro b4 w4 h4
  refine ⟨_, h4.blk, ?_⟩
  intro w5 f5 hs5 hr5
  have f45 : Fr Nob w3 w5 := h4.fr.trans2 f5 (fun _ _ q => q) (fun i hi q => by have := h4.num; simp only [Onb] at q; omega)
  refine callC tcall_25 (mnewI_spec (some ⟨b4, 0, none⟩) 3 3 [97, 98, 99] 15 w5 ⟨_, _, _, rfl, rfl, Nat.le_refl _, .inr ⟨b4, 0, _, rfl, hr5, by simp, rfl⟩⟩ (by decide) (by decide) (by decide)) ?_
  rintro v6 w6 ⟨g, gb, gf, gs, rfl, hG, f6⟩
  (try simp (config := { maxSteps := 4000000 }) only [go_sem, beq_self_eq_true, List.getElem_toArray, List.getElem_cons_zero, List.getElem_cons_succ, decide_true, decide_false, cond_true, cond_false, Nat.reduceBEq, reduceCtorEq, Nat.reduceAdd, Nat.reduceMul, Nat.reduceSub, reduceIte, Int.reduceToNat, Int.reduceEq, Int.reduceLT, Int.reduceLE, Nat.reduceLeDiff, Nat.reduceEqDiff, eq_self, and_self])
  refine hK _ _ ?_; clear hK K
  repeat' (first | refine H_seq ?_ | refine H_block ?_ | refine H_skip ?_ | refine H_nil ?_ | refine H_exit ?_ | refine H_ret ?_ | refine B_normal ?_ | refine B_same ?_ | refine B_other rfl ?_ | refine B_ret ?_ | refine L_exit ?_ | refine L_ret ?_)
  refine H_region k24 s24_3 rfl fun K hK => ?_; simp (config := { maxSteps := 4000000 }) only [go_sem, beq_self_eq_true, List.getElem_toArray, List.getElem_cons_zero, List.getElem_cons_succ, decide_true, decide_false, cond_true, cond_false, Nat.reduceBEq, reduceCtorEq, Nat.reduceAdd, Nat.reduceMul, Nat.reduceSub, reduceIte, Int.reduceToNat, Int.reduceEq, Int.reduceLT, Int.reduceLE, Nat.reduceLeDiff, Nat.reduceEqDiff, eq_self, and_self, s24_3, Try.underlying29]
  refine hK _ _ ?_; clear hK K
  repeat' (first | refine H_seq ?_ | refine H_block ?_ | refine H_skip ?_ | refine H_nil ?_ | refine H_exit ?_ | refine H_ret ?_ | refine B_normal ?_ | refine B_same ?_ | refine B_other rfl ?_ | refine B_ret ?_ | refine L_exit ?_ | refine L_ret ?_)
  refine H_condF rfl rfl ?_
  repeat' (first | refine H_seq ?_ | refine H_block ?_ | refine H_skip ?_ | refine H_nil ?_ | refine H_exit ?_ | refine H_ret ?_ | refine B_normal ?_ | refine B_same ?_ | refine B_other rfl ?_ | refine B_ret ?_ | refine L_exit ?_ | refine L_ret ?_)
  have hO := HI.obj (L := [memH h fb f 0]) (mem_obj [f] s)
  have hOg := HI.obj (L := [memH g gb gf 15]) (mem_obj [gf] gs)
  have z1 := f12.size
  have z3 := f3.size
  have z5 := f45.size
  have z6 := f6.size
  -- h's and g's blocks
  have hH6 : MH h fb f s 0 w6 (fun b => w2.heap.size ≤ b ∧ b < w3.heap.size) ([(0, [97, 98, 99])], 3) := hO.fr hH (f45.trans f6) (fun _ _ q => q)
  replace hG : MH g gb gf gs 15 w6 (fun b => w5.heap.size ≤ b ∧ b < w6.heap.size) ([(0, [97, 98, 99])], 3) := hG
  clear hH
  refine H_region k24 s24_5 rfl fun K hK => ?_; simp (config := { maxSteps := 4000000 }) only [go_sem, beq_self_eq_true, List.getElem_toArray, List.getElem_cons_zero, List.getElem_cons_succ, decide_true, decide_false, cond_true, cond_false, Nat.reduceBEq, reduceCtorEq, Nat.reduceAdd, Nat.reduceMul, Nat.reduceSub, reduceIte, Int.reduceToNat, Int.reduceEq, Int.reduceLT, Int.reduceLE, Nat.reduceLeDiff, Nat.reduceEqDiff, eq_self, and_self, s24_5]
  refine callC tcall_33 (mdo_spec h fb f s 0 w6 _ _ ⟨1, 1, 9, none, 0, 0, []⟩ hH6 ⟨(Own.nil _ _).row, by decide, by decide, by decide, by decide, by decide, by decide, by decide⟩ (by decide) ⟨0, 0, 0, [98, 99]⟩ ([(0, [97, 98, 99])], 3) (by kernel_rfl)) ?_
  rintro v7 w7 ⟨d, rfl, hd, Fh, h7, f7, k7, q7⟩
  replace k7 : ∀ b, Fh b → b < w7.heap.size ∧ ((w2.heap.size ≤ b ∧ b < w3.heap.size) ∨ w6.heap.size ≤ b) := k7
  obtain ⟨ad, nd, cd, rfl⟩ := hd.lit
  have hd5 : ∀ {b : Nat}, blk (.slice ad nd cd) = some b → b < w7.heap.size := fun hb => hd.blk_lt hb
  have z7 := f7.size
  have F7 : Fr Nob w w7 := ((f12.trans f3).trans (f45.trans f6)).far f7 (fun b q => by omega)
  have hG7 := hOg.fr hG f7 (fun b q k => by omega)
  clear hG hH6
  simp (config := { maxSteps := 4000000 }) only [go_sem, beq_self_eq_true, List.getElem_toArray, List.getElem_cons_zero, List.getElem_cons_succ, decide_true, decide_false, cond_true, cond_false, Nat.reduceBEq, reduceCtorEq, Nat.reduceAdd, Nat.reduceMul, Nat.reduceSub, reduceIte, Int.reduceToNat, Int.reduceEq, Int.reduceLT, Int.reduceLE, Nat.reduceLeDiff, Nat.reduceEqDiff, eq_self, and_self, s24_5_1, Td.val]
  intro b8 w8 h8
  refine ⟨_, h8.blk, ?_⟩
  (try simp (config := { maxSteps := 4000000 }) only [go_sem, beq_self_eq_true, List.getElem_toArray, List.getElem_cons_zero, List.getElem_cons_succ, decide_true, decide_false, cond_true, cond_false, Nat.reduceBEq, reduceCtorEq, Nat.reduceAdd, Nat.reduceMul, Nat.reduceSub, reduceIte, Int.reduceToNat, Int.reduceEq, Int.reduceLT, Int.reduceLE, Nat.reduceLeDiff, Nat.reduceEqDiff, eq_self, and_self])
  intro w9 h9
  refine hK _ _ ?_; clear hK K
  repeat' (first | refine H_seq ?_ | refine H_block ?_ | refine H_skip ?_ | refine H_nil ?_ | refine H_exit ?_ | refine H_ret ?_ | refine B_normal ?_ | refine B_same ?_ | refine B_other rfl ?_ | refine B_ret ?_ | refine L_exit ?_ | refine L_ret ?_)
  have n8 := h8.num
  have z8 := h8.size
  have z9 := h9.size
  have f79 : Fr Nob w7 w9 := h8.fr.put h9 (.inl (by omega))
  have ta := h9.blk
  have hd9 := hd.fr f79 (fun _ _ q => q)
  refine H_region k24 s24_6 rfl fun K hK => ?_; simp (config := { maxSteps := 4000000 }) only [go_sem, beq_self_eq_true, List.getElem_toArray, List.getElem_cons_zero, List.getElem_cons_succ, decide_true, decide_false, cond_true, cond_false, Nat.reduceBEq, reduceCtorEq, Nat.reduceAdd, Nat.reduceMul, Nat.reduceSub, reduceIte, Int.reduceToNat, Int.reduceEq, Int.reduceLT, Int.reduceLE, Nat.reduceLeDiff, Nat.reduceEqDiff, eq_self, and_self, s24_6]
  intro b10 w10 h10
  refine ⟨_, h10.blk, ?_⟩
  intro w11 f11 hs11 hr11
  have n10 := h10.num
  have f911 : Fr Nob w9 w11 := h10.fr.trans2 f11 (fun _ _ q => q) (fun i hi q => by simp only [Onb] at q; omega)
  have h11 := hO.fr h7 (f79.trans f911) (fun _ _ q => q)
  refine callC tcall_33 (mdo_spec h fb f s 0 w11 _ _ ⟨2, 0, 0, some ⟨b10, 0, none⟩, 1, 1, [120]⟩ h11 ⟨⟨_, _, _, rfl, rfl, Nat.le_refl _, .inr ⟨b10, 0, _, rfl, hr11, by simp, rfl⟩⟩, Nat.le_refl _, (by decide : (1 : Nat) ≤ maxLen), (by decide : (1 : Nat) ≤ 70368744177664), (by decide : (-9223372036854775808 : Int) ≤ 0), (by decide : (0 : Int) ≤ 9223372036854775807), (by decide : (-9223372036854775808 : Int) ≤ 0), (by decide : (0 : Int) ≤ 9223372036854775807)⟩ (fun _ => by decide) ⟨5, 0, 0, []⟩ ([(0, [97, 98, 99])], 3) (by kernel_rfl)) ?_
  rintro v12 w12 ⟨d12, rfl, hd12, Fi, h12, f12', k12, q12⟩
  obtain ⟨a12, n12, c12, rfl⟩ := hd12.lit
  have z12 := f12'.size
  have s911 := f911.size
  have F12 : Fr Nob w w12 := ((F7.trans f79).trans f911).far f12' (fun b q => by have := (k7 b q).2; have := F7.size; have := f12.size; have := f3.size; omega)
  have g12 := hOg.fr hG7 ((f79.trans f911).nob.trans f12') (fun b q k => by have := (k7 b k).2; omega)
  have ta12 := (ta.fr f911 (fun q => q)).fr f12' (fun q => by have := (k7 _ q).1; omega)
  have hd12a := (hd9.fr f911 (fun _ _ q => q)).fr f12' (fun b hb q => (q7 b hb).2 q)
  clear hG7 h7 h11 ta hd9 hd
  simp (config := { maxSteps := 4000000 }) only [go_sem, beq_self_eq_true, List.getElem_toArray, List.getElem_cons_zero, List.getElem_cons_succ, decide_true, decide_false, cond_true, cond_false, Nat.reduceBEq, reduceCtorEq, Nat.reduceAdd, Nat.reduceMul, Nat.reduceSub, reduceIte, Int.reduceToNat, Int.reduceEq, Int.reduceLT, Int.reduceLE, Nat.reduceLeDiff, Nat.reduceEqDiff, eq_self, and_self, s24_6_1, Td.val]
  intro b13 w13 h13
  refine ⟨_, h13.blk, ?_⟩
  (try simp (config := { maxSteps := 4000000 }) only [go_sem, beq_self_eq_true, List.getElem_toArray, List.getElem_cons_zero, List.getElem_cons_succ, decide_true, decide_false, cond_true, cond_false, Nat.reduceBEq, reduceCtorEq, Nat.reduceAdd, Nat.reduceMul, Nat.reduceSub, reduceIte, Int.reduceToNat, Int.reduceEq, Int.reduceLT, Int.reduceLE, Nat.reduceLeDiff, Nat.reduceEqDiff, eq_self, and_self])
  intro w14 h14
  refine hK _ _ ?_; clear hK K
  repeat' (first | refine H_seq ?_ | refine H_block ?_ | refine H_skip ?_ | refine H_nil ?_ | refine H_exit ?_ | refine H_ret ?_ | refine B_normal ?_ | refine B_same ?_ | refine B_other rfl ?_ | refine B_ret ?_ | refine L_exit ?_ | refine L_ret ?_)
  have n13 := h13.num
  have z13 := h13.size
  have z14 := h14.size
  have f1214 : Fr Nob w12 w14 := h13.fr.put h14 (.inl (by omega))
  have tb := h14.blk
  have g14 := hOg.fr g12 f1214 (fun _ _ q => q)
  have h14' := hO.fr h12 f1214 (fun _ _ q => q)
  refine H_region k24 s24_7 rfl fun K hK => ?_; simp (config := { maxSteps := 4000000 }) only [go_sem, beq_self_eq_true, List.getElem_toArray, List.getElem_cons_zero, List.getElem_cons_succ, decide_true, decide_false, cond_true, cond_false, Nat.reduceBEq, reduceCtorEq, Nat.reduceAdd, Nat.reduceMul, Nat.reduceSub, reduceIte, Int.reduceToNat, Int.reduceEq, Int.reduceLT, Int.reduceLE, Nat.reduceLeDiff, Nat.reduceEqDiff, eq_self, and_self, s24_7]
  refine callC tcall_33 (mdo_spec g gb gf gs 15 w14 _ _ ⟨3, 5, 0, none, 0, 0, []⟩ g14 ⟨(Own.nil _ _).row, by decide, by decide, by decide, by decide, by decide, by decide, by decide⟩ (by decide) ⟨0, 0, 0, []⟩ ([(0, [97, 98, 99])], 5) (by kernel_rfl)) ?_
  rintro v15 w15 ⟨d15, rfl, hd15, Fg, g15, f15, k15, q15⟩
  replace k15 : ∀ b, Fg b → b < w15.heap.size ∧ ((w5.heap.size ≤ b ∧ b < w6.heap.size) ∨ w14.heap.size ≤ b) := k15
  obtain ⟨a15, n15, c15, rfl⟩ := hd15.lit
  have z15 := f15.size
  have hgf : ∀ b, w5.heap.size ≤ b ∧ b < w6.heap.size → w.heap.size ≤ b := fun b q => by have := f12.size; have := f3.size; have := f45.size; omega
  have F15 : Fr Nob w w15 := (F12.trans f1214).far f15 hgf
  have z911 := f911.size
  have z1214 := f1214.size
  have z79 := f79.size
  -- the blocks of h lie apart from those of g
  have k12' : ∀ b, Fi b → b < w12.heap.size ∧ ((w2.heap.size ≤ b ∧ b < w3.heap.size) ∨ w6.heap.size ≤ b) := fun b q => ⟨(k12 b q).1, by
    rcases (k12 b q).2 with k | k
    · exact (k7 b k).2
    · omega⟩
  have h15 := hO.fr h14' f15 (fun b q k => by have := (k12' b q).2; omega)
  have ta15 := (ta12.fr f1214 (fun q => q)).fr f15 (fun q => by omega)
  have tb15 := tb.fr f15 (fun q => by omega)
  have hd15a := (hd12a.fr f1214 (fun _ _ q => q)).fr f15 (fun b hb q => by have := (q7 b hb).1; omega)
  clear h14' g14 ta12 tb hd12a h12 g12
  simp (config := { maxSteps := 4000000 }) only [go_sem, beq_self_eq_true, List.getElem_toArray, List.getElem_cons_zero, List.getElem_cons_succ, decide_true, decide_false, cond_true, cond_false, Nat.reduceBEq, reduceCtorEq, Nat.reduceAdd, Nat.reduceMul, Nat.reduceSub, reduceIte, Int.reduceToNat, Int.reduceEq, Int.reduceLT, Int.reduceLE, Nat.reduceLeDiff, Nat.reduceEqDiff, eq_self, and_self, s24_7_1, Td.val]
  intro b16 w16 h16
  refine ⟨_, h16.blk, ?_⟩
  (try simp (config := { maxSteps := 4000000 }) only [go_sem, beq_self_eq_true, List.getElem_toArray, List.getElem_cons_zero, List.getElem_cons_succ, decide_true, decide_false, cond_true, cond_false, Nat.reduceBEq, reduceCtorEq, Nat.reduceAdd, Nat.reduceMul, Nat.reduceSub, reduceIte, Int.reduceToNat, Int.reduceEq, Int.reduceLT, Int.reduceLE, Nat.reduceLeDiff, Nat.reduceEqDiff, eq_self, and_self])
  intro w17 h17
  refine hK _ _ ?_; clear hK K
  repeat' (first | refine H_seq ?_ | refine H_block ?_ | refine H_skip ?_ | refine H_nil ?_ | refine H_exit ?_ | refine H_ret ?_ | refine B_normal ?_ | refine B_same ?_ | refine B_other rfl ?_ | refine B_ret ?_ | refine L_exit ?_ | refine L_ret ?_)
  have n16 := h16.num
  have z16 := h16.size
  have z17 := h17.size
  have f1517 : Fr Nob w15 w17 := h16.fr.put h17 (.inl (by omega))
  have tc := h17.blk
  have g17 := hOg.fr g15 f1517 (fun _ _ q => q)
  have h17' := hO.fr h15 f1517 (fun _ _ q => q)
  refine H_region k24 s24_8 rfl fun K hK => ?_; simp (config := { maxSteps := 4000000 }) only [go_sem, beq_self_eq_true, List.getElem_toArray, List.getElem_cons_zero, List.getElem_cons_succ, decide_true, decide_false, cond_true, cond_false, Nat.reduceBEq, reduceCtorEq, Nat.reduceAdd, Nat.reduceMul, Nat.reduceSub, reduceIte, Int.reduceToNat, Int.reduceEq, Int.reduceLT, Int.reduceLE, Nat.reduceLeDiff, Nat.reduceEqDiff, eq_self, and_self, s24_8]
  refine callC tcall_31 (mall_spec g gb gf gs 15 w17 Fg ([(0, [97, 98, 99])], 5) g17 (by decide)) ?_
  rintro v18 w18 ⟨x, rfl, hx, Fj, g18, f18, k18, q18⟩
  rw [show allM ([(0, [97, 98, 99])], 5) = (0, [97, 98, 99, 0, 0]) by kernel_rfl] at hx ⊢
  obtain ⟨a18, n18, c18, rfl⟩ := hx.lit
  (try simp (config := { maxSteps := 4000000 }) only [go_sem, beq_self_eq_true, List.getElem_toArray, List.getElem_cons_zero, List.getElem_cons_succ, decide_true, decide_false, cond_true, cond_false, Nat.reduceBEq, reduceCtorEq, Nat.reduceAdd, Nat.reduceMul, Nat.reduceSub, reduceIte, Int.reduceToNat, Int.reduceEq, Int.reduceLT, Int.reduceLE, Nat.reduceLeDiff, Nat.reduceEqDiff, eq_self, and_self])
  refine hK _ _ ?_; clear hK K
  repeat' (first | refine H_seq ?_ | refine H_block ?_ | refine H_skip ?_ | refine H_nil ?_ | refine H_exit ?_ | refine H_ret ?_ | refine B_normal ?_ | refine B_same ?_ | refine B_other rfl ?_ | refine B_ret ?_ | refine L_exit ?_ | refine L_ret ?_)
  have z18 := f18.size
  have F18 : Fr Nob w w18 := (F15.trans f1517).far f18 (fun b q => by have := (k15 b q).2; have := f12.size; have := f3.size; omega)
  have h18 := hO.fr h17' f18 (fun b q k => by have := (k12' b q).2; have := (k12' b q).1; have := (k15 b k).2; omega)
  have ta18 := (ta15.fr f1517 (fun q => q)).fr f18 (fun q => by have := (k15 _ q).2; omega)
  have tb18 := (tb15.fr f1517 (fun q => q)).fr f18 (fun q => by have := (k15 _ q).2; omega)
  have tc18 := tc.fr f18 (fun q => by have := (k15 _ q).1; omega)
  have hd18 := (hd15a.fr f1517 (fun _ _ q => q)).fr f18 (fun b hb q => by have := (q7 b hb).1; have := hd5 hb; have := (k15 b q).2; omega)
  obtain ⟨Fi1, _, _, hL1⟩ := h18
  have hh := (hL1 _ (List.mem_singleton.2 rfl)).1
  obtain ⟨Fi2, _, _, hL2⟩ := g18
  have hg := (hL2 _ (List.mem_singleton.2 rfl)).1
  clear h15 g15 h17' g17
  refine H_region k24 s24_9 rfl fun K hK => ?_; simp (config := { maxSteps := 4000000 }) only [go_sem, beq_self_eq_true, List.getElem_toArray, List.getElem_cons_zero, List.getElem_cons_succ, decide_true, decide_false, cond_true, cond_false, Nat.reduceBEq, reduceCtorEq, Nat.reduceAdd, Nat.reduceMul, Nat.reduceSub, reduceIte, Int.reduceToNat, Int.reduceEq, Int.reduceLT, Int.reduceLE, Nat.reduceLeDiff, Nat.reduceEqDiff, eq_self, and_self, s24_9, ta18.cell, tb18.cell, tc18.cell, Try.underlying9]
  refine ⟨[98, 99], hd18.row, ?_⟩
  (try simp (config := { maxSteps := 4000000 }) only [go_sem, beq_self_eq_true, List.getElem_toArray, List.getElem_cons_zero, List.getElem_cons_succ, decide_true, decide_false, cond_true, cond_false, Nat.reduceBEq, reduceCtorEq, Nat.reduceAdd, Nat.reduceMul, Nat.reduceSub, reduceIte, Int.reduceToNat, Int.reduceEq, Int.reduceLT, Int.reduceLE, Nat.reduceLeDiff, Nat.reduceEqDiff, eq_self, and_self, tb18.cell, tc18.cell, Try.underlying9])
  refine ⟨[97, 98, 99, 0, 0], hx.row, ?_⟩
  (try simp (config := { maxSteps := 4000000 }) only [go_sem, beq_self_eq_true, List.getElem_toArray, List.getElem_cons_zero, List.getElem_cons_succ, decide_true, decide_false, cond_true, cond_false, Nat.reduceBEq, reduceCtorEq, Nat.reduceAdd, Nat.reduceMul, Nat.reduceSub, reduceIte, Int.reduceToNat, Int.reduceEq, Int.reduceLT, Int.reduceLE, Nat.reduceLeDiff, Nat.reduceEqDiff, eq_self, and_self, Try.underlying9])
  refine callC tcall_43 (hcan_spec h fb _ _ _ _ _ w18 hh) ?_
  rintro v19 w19 ⟨rfl, rfl⟩
  rw [show canN (memH h fb f 0).ow.isSome (memH h fb f 0).oc.isSome (memH h fb f 0).oh.isSome (memH h fb f 0).os.isSome = 0 by kernel_rfl]
  simp (config := { maxSteps := 4000000 }) only [go_sem, beq_self_eq_true, List.getElem_toArray, List.getElem_cons_zero, List.getElem_cons_succ, decide_true, decide_false, cond_true, cond_false, Nat.reduceBEq, reduceCtorEq, Nat.reduceAdd, Nat.reduceMul, Nat.reduceSub, reduceIte, Int.reduceToNat, Int.reduceEq, Int.reduceLT, Int.reduceLE, Nat.reduceLeDiff, Nat.reduceEqDiff, eq_self, and_self, s24_9_1]
  refine callC tcall_43 (hcan_spec g gb _ _ _ _ _ w19 hg) ?_
  rintro v20 w20 ⟨rfl, rfl⟩
  rw [show canN (memH g gb gf 15).ow.isSome (memH g gb gf 15).oc.isSome (memH g gb gf 15).oh.isSome (memH g gb gf 15).os.isSome = 15 by kernel_rfl]
  simp (config := { maxSteps := 4000000 }) only [go_sem, beq_self_eq_true, List.getElem_toArray, List.getElem_cons_zero, List.getElem_cons_succ, decide_true, decide_false, cond_true, cond_false, Nat.reduceBEq, reduceCtorEq, Nat.reduceAdd, Nat.reduceMul, Nat.reduceSub, reduceIte, Int.reduceToNat, Int.reduceEq, Int.reduceLT, Int.reduceLE, Nat.reduceLeDiff, Nat.reduceEqDiff, eq_self, and_self, s24_9_2]
  refine hK _ _ ?_; clear hK K
  repeat' (first | refine H_seq ?_ | refine H_block ?_ | refine H_skip ?_ | refine H_nil ?_ | refine H_exit ?_ | refine H_ret ?_ | refine B_normal ?_ | refine B_same ?_ | refine B_other rfl ?_ | refine B_ret ?_ | refine L_exit ?_ | refine L_ret ?_)
  refine F_ret ?_
  (try simp (config := { maxSteps := 4000000 }) only [go_sem, beq_self_eq_true, List.getElem_toArray, List.getElem_cons_zero, List.getElem_cons_succ, decide_true, decide_false, cond_true, cond_false, Nat.reduceBEq, reduceCtorEq, Nat.reduceAdd, Nat.reduceMul, Nat.reduceSub, reduceIte, Int.reduceToNat, Int.reduceEq, Int.reduceLT, Int.reduceLE, Nat.reduceLeDiff, Nat.reduceEqDiff, eq_self, and_self])
  exact F18
theorem mof_nil (can : Int) (w : World) : CallsE Try.prog 34 [.pointer none, .int .u8 can] w fun r u => r = .tuple #[.pointer none, .int .i64 1] ∧ u = w := by
  refine enter Try.func34 rfl Try.results34 Try.ntmps34 rfl ?_
  repeat' (first | refine H_seq ?_ | refine H_block ?_ | refine H_skip ?_ | refine H_nil ?_ | refine H_exit ?_ | refine H_ret ?_ | refine B_normal ?_ | refine B_same ?_ | refine B_other rfl ?_ | refine B_ret ?_ | refine L_exit ?_ | refine L_ret ?_)
  refine H_region k34 s34_0 rfl fun K hK => ?_; simp (config := { maxSteps := 4000000 }) only [go_sem, beq_self_eq_true, List.getElem_toArray, List.getElem_cons_zero, List.getElem_cons_succ, decide_true, decide_false, cond_true, cond_false, Nat.reduceBEq, reduceCtorEq, Nat.reduceAdd, Nat.reduceMul, Nat.reduceSub, reduceIte, Int.reduceToNat, Int.reduceEq, Int.reduceLT, Int.reduceLE, Nat.reduceLeDiff, Nat.reduceEqDiff, eq_self, and_self, s34_0]
  refine hK _ _ ?_; clear hK K
  repeat' (first | refine H_seq ?_ | refine H_block ?_ | refine H_skip ?_ | refine H_nil ?_ | refine H_exit ?_ | refine H_ret ?_ | refine B_normal ?_ | refine B_same ?_ | refine B_other rfl ?_ | refine B_ret ?_ | refine L_exit ?_ | refine L_ret ?_)
  refine H_region k34 s34_1 rfl fun K hK => ?_; simp (config := { maxSteps := 4000000 }) only [go_sem, beq_self_eq_true, List.getElem_toArray, List.getElem_cons_zero, List.getElem_cons_succ, decide_true, decide_false, cond_true, cond_false, Nat.reduceBEq, reduceCtorEq, Nat.reduceAdd, Nat.reduceMul, Nat.reduceSub, reduceIte, Int.reduceToNat, Int.reduceEq, Int.reduceLT, Int.reduceLE, Nat.reduceLeDiff, Nat.reduceEqDiff, eq_self, and_self, s34_1, Try.underlying50]
  refine hK _ _ ?_; clear hK K
  repeat' (first | refine H_seq ?_ | refine H_block ?_ | refine H_skip ?_ | refine H_nil ?_ | refine H_exit ?_ | refine H_ret ?_ | refine B_normal ?_ | refine B_same ?_ | refine B_other rfl ?_ | refine B_ret ?_ | refine L_exit ?_ | refine L_ret ?_)
  refine H_condT rfl rfl ?_
  repeat' (first | refine H_seq ?_ | refine H_block ?_ | refine H_skip ?_ | refine H_nil ?_ | refine H_exit ?_ | refine H_ret ?_ | refine B_normal ?_ | refine B_same ?_ | refine B_other rfl ?_ | refine B_ret ?_ | refine L_exit ?_ | refine L_ret ?_)
  refine H_region k34 s34_2 rfl fun K hK => ?_; simp (config := { maxSteps := 4000000 }) only [go_sem, beq_self_eq_true, List.getElem_toArray, List.getElem_cons_zero, List.getElem_cons_succ, decide_true, decide_false, cond_true, cond_false, Nat.reduceBEq, reduceCtorEq, Nat.reduceAdd, Nat.reduceMul, Nat.reduceSub, reduceIte, Int.reduceToNat, Int.reduceEq, Int.reduceLT, Int.reduceLE, Nat.reduceLeDiff, Nat.reduceEqDiff, eq_self, and_self, s34_2]
  refine hK _ _ ?_; clear hK K
  repeat' (first | refine H_seq ?_ | refine H_block ?_ | refine H_skip ?_ | refine H_nil ?_ | refine H_exit ?_ | refine H_ret ?_ | refine B_normal ?_ | refine B_same ?_ | refine B_other rfl ?_ | refine B_ret ?_ | refine L_exit ?_ | refine L_ret ?_)
  refine F_ret ?_
  (try simp (config := { maxSteps := 4000000 }) only [go_sem, beq_self_eq_true, List.getElem_toArray, List.getElem_cons_zero, List.getElem_cons_succ, decide_true, decide_false, cond_true, cond_false, Nat.reduceBEq, reduceCtorEq, Nat.reduceAdd, Nat.reduceMul, Nat.reduceSub, reduceIte, Int.reduceToNat, Int.reduceEq, Int.reduceLT, Int.reduceLE, Nat.reduceLeDiff, Nat.reduceEqDiff, eq_self, and_self])
theorem mall_nil (w : World) : CallsE Try.prog 31 [.pointer none] w fun r u => r = .tuple #[.slice none 0 0, .int .i64 1] ∧ u = w := by
  refine enter Try.func31 rfl Try.results31 Try.ntmps31 rfl ?_
  repeat' (first | refine H_seq ?_ | refine H_block ?_ | refine H_skip ?_ | refine H_nil ?_ | refine H_exit ?_ | refine H_ret ?_ | refine B_normal ?_ | refine B_same ?_ | refine B_other rfl ?_ | refine B_ret ?_ | refine L_exit ?_ | refine L_ret ?_)
  refine H_region k31 s31_0 rfl fun K hK => ?_; simp (config := { maxSteps := 4000000 }) only [go_sem, beq_self_eq_true, List.getElem_toArray, List.getElem_cons_zero, List.getElem_cons_succ, decide_true, decide_false, cond_true, cond_false, Nat.reduceBEq, reduceCtorEq, Nat.reduceAdd, Nat.reduceMul, Nat.reduceSub, reduceIte, Int.reduceToNat, Int.reduceEq, Int.reduceLT, Int.reduceLE, Nat.reduceLeDiff, Nat.reduceEqDiff, eq_self, and_self, s31_0]
  refine hK _ _ ?_; clear hK K
  repeat' (first | refine H_seq ?_ | refine H_block ?_ | refine H_skip ?_ | refine H_nil ?_ | refine H_exit ?_ | refine H_ret ?_ | refine B_normal ?_ | refine B_same ?_ | refine B_other rfl ?_ | refine B_ret ?_ | refine L_exit ?_ | refine L_ret ?_)
  refine H_region k31 s31_1 rfl fun K hK => ?_; simp (config := { maxSteps := 4000000 }) only [go_sem, beq_self_eq_true, List.getElem_toArray, List.getElem_cons_zero, List.getElem_cons_succ, decide_true, decide_false, cond_true, cond_false, Nat.reduceBEq, reduceCtorEq, Nat.reduceAdd, Nat.reduceMul, Nat.reduceSub, reduceIte, Int.reduceToNat, Int.reduceEq, Int.reduceLT, Int.reduceLE, Nat.reduceLeDiff, Nat.reduceEqDiff, eq_self, and_self, s31_1, Try.underlying29]
  refine hK _ _ ?_; clear hK K
  repeat' (first | refine H_seq ?_ | refine H_block ?_ | refine H_skip ?_ | refine H_nil ?_ | refine H_exit ?_ | refine H_ret ?_ | refine B_normal ?_ | refine B_same ?_ | refine B_other rfl ?_ | refine B_ret ?_ | refine L_exit ?_ | refine L_ret ?_)
  refine H_condT rfl rfl ?_
  repeat' (first | refine H_seq ?_ | refine H_block ?_ | refine H_skip ?_ | refine H_nil ?_ | refine H_exit ?_ | refine H_ret ?_ | refine B_normal ?_ | refine B_same ?_ | refine B_other rfl ?_ | refine B_ret ?_ | refine L_exit ?_ | refine L_ret ?_)
  refine H_region k31 s31_2 rfl fun K hK => ?_; simp (config := { maxSteps := 4000000 }) only [go_sem, beq_self_eq_true, List.getElem_toArray, List.getElem_cons_zero, List.getElem_cons_succ, decide_true, decide_false, cond_true, cond_false, Nat.reduceBEq, reduceCtorEq, Nat.reduceAdd, Nat.reduceMul, Nat.reduceSub, reduceIte, Int.reduceToNat, Int.reduceEq, Int.reduceLT, Int.reduceLE, Nat.reduceLeDiff, Nat.reduceEqDiff, eq_self, and_self, s31_2]
  refine hK _ _ ?_; clear hK K
  repeat' (first | refine H_seq ?_ | refine H_block ?_ | refine H_skip ?_ | refine H_nil ?_ | refine H_exit ?_ | refine H_ret ?_ | refine B_normal ?_ | refine B_same ?_ | refine B_other rfl ?_ | refine B_ret ?_ | refine L_exit ?_ | refine L_ret ?_)
  refine F_ret ?_
  (try simp (config := { maxSteps := 4000000 }) only [go_sem, beq_self_eq_true, List.getElem_toArray, List.getElem_cons_zero, List.getElem_cons_succ, decide_true, decide_false, cond_true, cond_false, Nat.reduceBEq, reduceCtorEq, Nat.reduceAdd, Nat.reduceMul, Nat.reduceSub, reduceIte, Int.reduceToNat, Int.reduceEq, Int.reduceLT, Int.reduceLE, Nat.reduceLeDiff, Nat.reduceEqDiff, eq_self, and_self])
theorem memoryNil_spec (can : Int) (w : World) : CallsE Try.prog 5 [.int .u8 can] w fun r u => r = .bool true ∧ Fr Nob w u := by
  refine enter Try.func5 rfl Try.results5 Try.ntmps5 rfl ?_
  repeat' (first | refine H_seq ?_ | refine H_block ?_ | refine H_skip ?_ | refine H_nil ?_ | refine H_exit ?_ | refine H_ret ?_ | refine B_normal ?_ | refine B_same ?_ | refine B_other rfl ?_ | refine B_ret ?_ | refine L_exit ?_ | refine L_ret ?_)
  refine H_region k5 s5_0 rfl fun K hK => ?_; simp (config := { maxSteps := 4000000 }) only [go_sem, beq_self_eq_true, List.getElem_toArray, List.getElem_cons_zero, List.getElem_cons_succ, decide_true, decide_false, cond_true, cond_false, Nat.reduceBEq, reduceCtorEq, Nat.reduceAdd, Nat.reduceMul, Nat.reduceSub, reduceIte, Int.reduceToNat, Int.reduceEq, Int.reduceLT, Int.reduceLE, Nat.reduceLeDiff, Nat.reduceEqDiff, eq_self, and_self, s5_0]
  refine hK _ _ ?_; clear hK K
  repeat' (first | refine H_seq ?_ | refine H_block ?_ | refine H_skip ?_ | refine H_nil ?_ | refine H_exit ?_ | refine H_ret ?_ | refine B_normal ?_ | refine B_same ?_ | refine B_other rfl ?_ | refine B_ret ?_ | refine L_exit ?_ | refine L_ret ?_)
  refine H_region k5 s5_1 rfl fun K hK => ?_; simp (config := { maxSteps := 4000000 }) only [go_sem, beq_self_eq_true, List.getElem_toArray, List.getElem_cons_zero, List.getElem_cons_succ, decide_true, decide_false, cond_true, cond_false, Nat.reduceBEq, reduceCtorEq, Nat.reduceAdd, Nat.reduceMul, Nat.reduceSub, reduceIte, Int.reduceToNat, Int.reduceEq, Int.reduceLT, Int.reduceLE, Nat.reduceLeDiff, Nat.reduceEqDiff, eq_self, and_self, s5_1]
  refine hK _ _ ?_; clear hK K
  repeat' (first | refine H_seq ?_ | refine H_block ?_ | refine H_skip ?_ | refine H_nil ?_ | refine H_exit ?_ | refine H_ret ?_ | refine B_normal ?_ | refine B_same ?_ | refine B_other rfl ?_ | refine B_ret ?_ | refine L_exit ?_ | refine L_ret ?_)
  refine H_region k5 s5_2 rfl fun K hK => ?_; simp (config := { maxSteps := 4000000 }) only [go_sem, beq_self_eq_true, List.getElem_toArray, List.getElem_cons_zero, List.getElem_cons_succ, decide_true, decide_false, cond_true, cond_false, Nat.reduceBEq, reduceCtorEq, Nat.reduceAdd, Nat.reduceMul, Nat.reduceSub, reduceIte, Int.reduceToNat, Int.reduceEq, Int.reduceLT, Int.reduceLE, Nat.reduceLeDiff, Nat.reduceEqDiff, eq_self, and_self, s5_2]
  refine hK _ _ ?_; clear hK K
  repeat' (first | refine H_seq ?_ | refine H_block ?_ | refine H_skip ?_ | refine H_nil ?_ | refine H_exit ?_ | refine H_ret ?_ | refine B_normal ?_ | refine B_same ?_ | refine B_other rfl ?_ | refine B_ret ?_ | refine L_exit ?_ | refine L_ret ?_)
  refine H_region k5 s5_3 rfl fun K hK => ?_; simp (config := { maxSteps := 4000000 }) only [go_sem, beq_self_eq_true, List.getElem_toArray, List.getElem_cons_zero, List.getElem_cons_succ, decide_true, decide_false, cond_true, cond_false, Nat.reduceBEq, reduceCtorEq, Nat.reduceAdd, Nat.reduceMul, Nat.reduceSub, reduceIte, Int.reduceToNat, Int.reduceEq, Int.reduceLT, Int.reduceLE, Nat.reduceLeDiff, Nat.reduceEqDiff, eq_self, and_self, s5_3]
  refine callC tcall_34 (mof_nil can w) ?_
  rintro v w ⟨rfl, rfl⟩
  (try simp (config := { maxSteps := 4000000 }) only [go_sem, beq_self_eq_true, List.getElem_toArray, List.getElem_cons_zero, List.getElem_cons_succ, decide_true, decide_false, cond_true, cond_false, Nat.reduceBEq, reduceCtorEq, Nat.reduceAdd, Nat.reduceMul, Nat.reduceSub, reduceIte, Int.reduceToNat, Int.reduceEq, Int.reduceLT, Int.reduceLE, Nat.reduceLeDiff, Nat.reduceEqDiff, eq_self, and_self])
  refine hK _ _ ?_; clear hK K
  repeat' (first | refine H_seq ?_ | refine H_block ?_ | refine H_skip ?_ | refine H_nil ?_ | refine H_exit ?_ | refine H_ret ?_ | refine B_normal ?_ | refine B_same ?_ | refine B_other rfl ?_ | refine B_ret ?_ | refine L_exit ?_ | refine L_ret ?_)
  refine H_region k5 s5_4 rfl fun K hK => ?_; simp (config := { maxSteps := 4000000 }) only [go_sem, beq_self_eq_true, List.getElem_toArray, List.getElem_cons_zero, List.getElem_cons_succ, decide_true, decide_false, cond_true, cond_false, Nat.reduceBEq, reduceCtorEq, Nat.reduceAdd, Nat.reduceMul, Nat.reduceSub, reduceIte, Int.reduceToNat, Int.reduceEq, Int.reduceLT, Int.reduceLE, Nat.reduceLeDiff, Nat.reduceEqDiff, eq_self, and_self, s5_4]
  refine callC tcall_31 (mall_nil w) ?_
  rintro v w ⟨rfl, rfl⟩
  (try simp (config := { maxSteps := 4000000 }) only [go_sem, beq_self_eq_true, List.getElem_toArray, List.getElem_cons_zero, List.getElem_cons_succ, decide_true, decide_false, cond_true, cond_false, Nat.reduceBEq, reduceCtorEq, Nat.reduceAdd, Nat.reduceMul, Nat.reduceSub, reduceIte, Int.reduceToNat, Int.reduceEq, Int.reduceLT, Int.reduceLE, Nat.reduceLeDiff, Nat.reduceEqDiff, eq_self, and_self])
  refine hK _ _ ?_; clear hK K
  repeat' (first | refine H_seq ?_ | refine H_block ?_ | refine H_skip ?_ | refine H_nil ?_ | refine H_exit ?_ | refine H_ret ?_ | refine B_normal ?_ | refine B_same ?_ | refine B_other rfl ?_ | refine B_ret ?_ | refine L_exit ?_ | refine L_ret ?_)
  have z0 : ((0 : Nat) : Int) = 0 := rfl
  refine H_region k5 s5_5 rfl fun K hK => ?_; simp (config := { maxSteps := 4000000 }) only [go_sem, beq_self_eq_true, List.getElem_toArray, List.getElem_cons_zero, List.getElem_cons_succ, decide_true, decide_false, cond_true, cond_false, Nat.reduceBEq, reduceCtorEq, Nat.reduceAdd, Nat.reduceMul, Nat.reduceSub, reduceIte, Int.reduceToNat, Int.reduceEq, Int.reduceLT, Int.reduceLE, Nat.reduceLeDiff, Nat.reduceEqDiff, eq_self, and_self, s5_5, Try.underlying29, z0]
  refine callC tcall_24 (m4wakes_spec w) ?_
  rintro v u ⟨rfl, f⟩
  (try simp (config := { maxSteps := 4000000 }) only [go_sem, beq_self_eq_true, List.getElem_toArray, List.getElem_cons_zero, List.getElem_cons_succ, decide_true, decide_false, cond_true, cond_false, Nat.reduceBEq, reduceCtorEq, Nat.reduceAdd, Nat.reduceMul, Nat.reduceSub, reduceIte, Int.reduceToNat, Int.reduceEq, Int.reduceLT, Int.reduceLE, Nat.reduceLeDiff, Nat.reduceEqDiff, eq_self, and_self])
  refine hK _ _ ?_; clear hK K
  repeat' (first | refine H_seq ?_ | refine H_block ?_ | refine H_skip ?_ | refine H_nil ?_ | refine H_exit ?_ | refine H_ret ?_ | refine B_normal ?_ | refine B_same ?_ | refine B_other rfl ?_ | refine B_ret ?_ | refine L_exit ?_ | refine L_ret ?_)
  refine F_ret ?_
  (try simp (config := { maxSteps := 4000000 }) only [go_sem, beq_self_eq_true, List.getElem_toArray, List.getElem_cons_zero, List.getElem_cons_succ, decide_true, decide_false, cond_true, cond_false, Nat.reduceBEq, reduceCtorEq, Nat.reduceAdd, Nat.reduceMul, Nat.reduceSub, reduceIte, Int.reduceToNat, Int.reduceEq, Int.reduceLT, Int.reduceLE, Nat.reduceLeDiff, Nat.reduceEqDiff, eq_self, and_self])
  exact f
end Go.Proofs.Ytlffbjchcknmfaa

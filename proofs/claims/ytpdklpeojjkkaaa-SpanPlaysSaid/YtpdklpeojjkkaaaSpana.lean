/- mantlelaw01: SpanBounds. -/
import Derived.Test.YtpdklpeojjkkaaaSpan9
import Derived.Test.YtpdklpeojjkkaaaPc5
namespace Go.Proofs.Ytpdklpeojjkkaaa
open Go
set_option linter.unusedVariables false
set_option linter.unusedSimpArgs false
set_option maxRecDepth 100000
set_option maxHeartbeats 2000000
theorem New.row1 {w u : World} {b : Nat} {x : UInt8} {v : Value} (h : New w b [v] u) (hv : v = .int .u8 x.toNat) : Row u (.slice (some ⟨b, 0, none⟩) 1 1) 1 (bvs [x]) :=
  ⟨_, _, _, rfl, rfl, Nat.le_refl _, .inr ⟨b, 0, _, rfl, h.blk.r, by simp, by rw [hv]; rfl⟩⟩
/-- Bytes that a walk has turned, seen from a world ahead. -/
theorem Left_.from {w0 w u : World} {s : Nat} {res : Int × List Pc × Nat} {r : Value} (f : Fr Nob w0 w) (hs : w0.heap.size ≤ w.heap.size) (h : Left_ (Fromb w0.heap.size) w s res r u) :
    r = .int .i64 res.1 ∧ ∃ ms', IsSpan u (Fromb w0.heap.size) s ms' res.2.2 ∧ ms'.map MP.pc = res.2.1 ∧ Fr Nob w0 u := by
  obtain ⟨hr, ms', h1, h2, h3⟩ := h
  exact ⟨hr, ms', h1.mono (fun b _ q => by rcases q with q | q <;> simp only [Fromb] at * <;> omega), h2, f.trans2 h3 (fun _ _ q => q) (fun b hb q => by simp only [Fromb] at q; omega)⟩
theorem wholeL_ne {X : List UInt8} (h : 0 < X.length) : wholeL X = [(0, X)] := by
  cases X with
  | nil => simp at h
  | cons x r => rfl
theorem spanBounds_spec (w : World) : CallsE Try.prog 6 [] w fun r u => r = .bool true ∧ Fr Nob w u := by
  refine enter Try.func6 rfl Try.results6 Try.ntmps6 rfl ?_
  repeat' (first | refine H_seq ?_ | refine H_block ?_ | refine H_skip ?_ | refine H_nil ?_ | refine H_exit ?_ | refine H_ret ?_ | refine B_normal ?_ | refine B_same ?_ | refine B_other rfl ?_ | refine B_ret ?_ | refine L_exit ?_ | refine L_ret ?_)
  refine H_region k6 s6_0 rfl fun K hK => ?_; simp (config := { maxSteps := 4000000 }) only [go_sem, beq_self_eq_true, List.getElem_toArray, List.getElem_cons_zero, List.getElem_cons_succ, decide_true, decide_false, cond_true, cond_false, Nat.reduceBEq, reduceCtorEq, Nat.reduceAdd, Nat.reduceMul, Nat.reduceSub, reduceIte, Int.reduceToNat, Int.reduceEq, Int.reduceLT, Int.reduceLE, Nat.reduceLeDiff, Nat.reduceEqDiff, eq_self, and_self, s6_0]
  refine hK _ _ ?_; clear hK K
  repeat' (first | refine H_seq ?_ | refine H_block ?_ | refine H_skip ?_ | refine H_nil ?_ | refine H_exit ?_ | refine H_ret ?_ | refine B_normal ?_ | refine B_same ?_ | refine B_other rfl ?_ | refine B_ret ?_ | refine L_exit ?_ | refine L_ret ?_)
  refine H_region k6 s6_1 rfl fun K hK => ?_; simp (config := { maxSteps := 4000000 }) only [go_sem, beq_self_eq_true, List.getElem_toArray, List.getElem_cons_zero, List.getElem_cons_succ, decide_true, decide_false, cond_true, cond_false, Nat.reduceBEq, reduceCtorEq, Nat.reduceAdd, Nat.reduceMul, Nat.reduceSub, reduceIte, Int.reduceEq, Int.reduceLT, Int.reduceLE, Nat.reduceLeDiff, Nat.reduceEqDiff, eq_self, and_self, s6_1]
  refine ⟨by decide, ?_⟩
  intro b1 w1 h1
  generalize hN : (4194305 : Int).toNat = N at h1
  have hN' : N = 4194305 := by rw [← hN]; rfl
  rw [reps_zero] at h1
  generalize hB : List.replicate N (0 : UInt8) = B at h1
  have hBl : B.length = N := by rw [← hB, List.length_replicate]
  clear hB hN
  refine callC tcall_23 (snew_spec (some ⟨b1, 0, none⟩) N N B w1 ⟨_, _, _, rfl, by rw [bvs_len]; omega, Nat.le_refl _, .inr ⟨b1, 0, _, rfl, h1.blk.r, by rw [bvs_len]; omega, by rw [List.drop_zero, List.take_of_length_le (by rw [bvs_len]; omega)]⟩⟩ (by omega)) ?_
  rintro v3 w3 ⟨s, ms, rfl, hspan, hms, f3⟩
  generalize hX : B.take 4194304 = X at hspan hms
  have hXl : X.length = 4194304 := by rw [← hX, List.length_take]; omega
  clear hX
  rw [wholeL_ne (by omega)] at hms
  rw [hXl] at hspan
  have hsz3 : w1.heap.size ≤ w3.heap.size := f3.size
  (try simp (config := { maxSteps := 4000000 }) only [go_sem, beq_self_eq_true, List.getElem_toArray, List.getElem_cons_zero, List.getElem_cons_succ, decide_true, decide_false, cond_true, cond_false, Nat.reduceBEq, reduceCtorEq, Nat.reduceAdd, Nat.reduceMul, Nat.reduceSub, reduceIte, Int.reduceToNat, Int.reduceEq, Int.reduceLT, Int.reduceLE, Nat.reduceLeDiff, Nat.reduceEqDiff, eq_self, and_self])
  refine hK _ _ ?_; clear hK K
  repeat' (first | refine H_seq ?_ | refine H_block ?_ | refine H_skip ?_ | refine H_nil ?_ | refine H_exit ?_ | refine H_ret ?_ | refine B_normal ?_ | refine B_same ?_ | refine B_other rfl ?_ | refine B_ret ?_ | refine L_exit ?_ | refine L_ret ?_)
  obtain ⟨a, n, c, hh, _⟩ := hspan.hdr
  refine H_region k6 s6_2 rfl fun K hK => ?_; simp (config := { maxSteps := 4000000 }) only [go_sem, beq_self_eq_true, List.getElem_toArray, List.getElem_cons_zero, List.getElem_cons_succ, decide_true, decide_false, cond_true, cond_false, Nat.reduceBEq, reduceCtorEq, Nat.reduceAdd, Nat.reduceMul, Nat.reduceSub, reduceIte, Int.reduceToNat, Int.reduceEq, Int.reduceLT, Int.reduceLE, Nat.reduceLeDiff, Nat.reduceEqDiff, eq_self, and_self, s6_2]
  refine callC tcall_24 (size_spec s _ _ _ hh.hs) ?_
  rintro v4 w4 ⟨rfl, rfl⟩
  rw [show ((4194304 : Nat) : Int) = 4194304 from rfl]
  simp (config := { maxSteps := 4000000 }) only [go_sem, beq_self_eq_true, List.getElem_toArray, List.getElem_cons_zero, List.getElem_cons_succ, decide_true, decide_false, cond_true, cond_false, Nat.reduceBEq, reduceCtorEq, Nat.reduceAdd, Nat.reduceMul, Nat.reduceSub, reduceIte, Int.reduceToNat, Int.reduceEq, Int.reduceLT, Int.reduceLE, Nat.reduceLeDiff, Nat.reduceEqDiff, eq_self, and_self, s6_2_1]
  refine callC tcall_25 (sheld_spec s a n c _ ms _ hh) ?_
  rintro v5 w5 ⟨rfl, f5⟩
  rw [hms, show ((heldL [((0 : Nat), X)] : Nat) : Int) = 4194304 by simp only [heldL, List.map_cons, List.map_nil, List.sum_cons, List.sum_nil, hXl, Nat.add_zero]; rfl]
  simp (config := { maxSteps := 4000000 }) only [go_sem, beq_self_eq_true, List.getElem_toArray, List.getElem_cons_zero, List.getElem_cons_succ, decide_true, decide_false, cond_true, cond_false, Nat.reduceBEq, reduceCtorEq, Nat.reduceAdd, Nat.reduceMul, Nat.reduceSub, reduceIte, Int.reduceToNat, Int.reduceEq, Int.reduceLT, Int.reduceLE, Nat.reduceLeDiff, Nat.reduceEqDiff, eq_self, and_self, s6_2_2]
  intro b6 w6 h6
  have F6 : Fr Nob w1 w6 := f3.trans (f5.trans h6.fr)
  have hs6 := hspan.fr (f5.trans h6.fr) (fun _ _ q => q)
  refine callC tcall_26 (sput_spec s _ _ ms 4194304 (some ⟨b6, 0, none⟩) 1 1 [1] w6 hs6 (h6.row1 rfl) (by decide)) ?_
  intro v7 w7 hL
  obtain ⟨rfl, ms7, hs7, hms7, F7⟩ := hL.from F6 F6.size
  rw [hms, bnd_full hXl rfl] at hs7 hms7 ⊢
  simp only at hs7 hms7
  clear hL hs6 h6
  simp (config := { maxSteps := 4000000 }) only [go_sem, beq_self_eq_true, List.getElem_toArray, List.getElem_cons_zero, List.getElem_cons_succ, decide_true, decide_false, cond_true, cond_false, Nat.reduceBEq, reduceCtorEq, Nat.reduceAdd, Nat.reduceMul, Nat.reduceSub, reduceIte, Int.reduceToNat, Int.reduceEq, Int.reduceLT, Int.reduceLE, Nat.reduceLeDiff, Nat.reduceEqDiff, eq_self, and_self, s6_2_3]
  intro b8 w8 h8
  have F8 : Fr Nob w1 w8 := F7.trans h8.fr
  refine callC tcall_26 (sput_spec s _ _ ms7 5 (some ⟨b8, 0, none⟩) 1 1 [1] w8 (hs7.fr h8.fr (fun _ _ q => q)) (h8.row1 rfl) (by decide)) ?_
  intro v9 w9 hL
  obtain ⟨rfl, ms9, hs9, hms9, F9⟩ := hL.from F8 F8.size
  obtain ⟨X', hXl', hput⟩ := bnd_within (X := X) (bs := [1]) hXl rfl
  rw [hms7, hput] at hs9 hms9 ⊢
  simp only at hs9 hms9
  clear hL h8 hput
  simp (config := { maxSteps := 4000000 }) only [go_sem, beq_self_eq_true, List.getElem_toArray, List.getElem_cons_zero, List.getElem_cons_succ, decide_true, decide_false, cond_true, cond_false, Nat.reduceBEq, reduceCtorEq, Nat.reduceAdd, Nat.reduceMul, Nat.reduceSub, reduceIte, Int.reduceToNat, Int.reduceEq, Int.reduceLT, Int.reduceLE, Nat.reduceLeDiff, Nat.reduceEqDiff, eq_self, and_self, s6_2_4]
  refine hK _ _ ?_; clear hK K
  repeat' (first | refine H_seq ?_ | refine H_block ?_ | refine H_skip ?_ | refine H_nil ?_ | refine H_exit ?_ | refine H_ret ?_ | refine B_normal ?_ | refine B_same ?_ | refine B_other rfl ?_ | refine B_ret ?_ | refine L_exit ?_ | refine L_ret ?_)
  refine H_condF rfl rfl ?_
  repeat' (first | refine H_seq ?_ | refine H_block ?_ | refine H_skip ?_ | refine H_nil ?_ | refine H_exit ?_ | refine H_ret ?_ | refine B_normal ?_ | refine B_same ?_ | refine B_other rfl ?_ | refine B_ret ?_ | refine L_exit ?_ | refine L_ret ?_)
  refine H_region k6 s6_4 rfl fun K hK => ?_; simp (config := { maxSteps := 4000000 }) only [go_sem, beq_self_eq_true, List.getElem_toArray, List.getElem_cons_zero, List.getElem_cons_succ, decide_true, decide_false, cond_true, cond_false, Nat.reduceBEq, reduceCtorEq, Nat.reduceAdd, Nat.reduceMul, Nat.reduceSub, reduceIte, Int.reduceToNat, Int.reduceEq, Int.reduceLT, Int.reduceLE, Nat.reduceLeDiff, Nat.reduceEqDiff, eq_self, and_self, s6_4]
  refine callC tcall_27 (punch_spec s _ _ ms9 7 1 w9 hs9) ?_
  intro v10 w10 hL
  obtain ⟨rfl, ms10, hs10, hms10, F10⟩ := hL.from F9 F9.size
  rw [hms9, bnd_punch hXl'] at hs10 hms10 ⊢
  simp only at hs10 hms10
  clear hL
  obtain ⟨Y, hY, hYl⟩ : ∃ Y, X'.take 7 = Y ∧ Y.length = 7 := ⟨_, rfl, by rw [List.length_take]; omega⟩
  obtain ⟨Z, hZ, hZl⟩ : ∃ Z, X'.drop 8 = Z ∧ Z.length = 4194296 := ⟨_, rfl, by rw [List.length_drop]; omega⟩
  rw [hY, hZ] at hms10
  clear hY hZ
  simp (config := { maxSteps := 4000000 }) only [go_sem, beq_self_eq_true, List.getElem_toArray, List.getElem_cons_zero, List.getElem_cons_succ, decide_true, decide_false, cond_true, cond_false, Nat.reduceBEq, reduceCtorEq, Nat.reduceAdd, Nat.reduceMul, Nat.reduceSub, reduceIte, Int.reduceToNat, Int.reduceEq, Int.reduceLT, Int.reduceLE, Nat.reduceLeDiff, Nat.reduceEqDiff, eq_self, and_self, s6_4_1]
  intro b11 w11 h11
  have F11 : Fr Nob w1 w11 := F10.trans h11.fr
  refine callC tcall_26 (sput_spec s _ _ ms10 1073741823 (some ⟨b11, 0, none⟩) 1 1 [9] w11 (hs10.fr h11.fr (fun _ _ q => q)) (h11.row1 rfl) (by decide)) ?_
  intro v12 w12 hL
  obtain ⟨rfl, ms12, hs12, hms12, F12⟩ := hL.from F11 F11.size
  rw [hms10, bnd_last hYl hZl rfl] at hs12 hms12 ⊢
  simp only at hs12 hms12
  clear hL h11
  simp (config := { maxSteps := 4000000 }) only [go_sem, beq_self_eq_true, List.getElem_toArray, List.getElem_cons_zero, List.getElem_cons_succ, decide_true, decide_false, cond_true, cond_false, Nat.reduceBEq, reduceCtorEq, Nat.reduceAdd, Nat.reduceMul, Nat.reduceSub, reduceIte, Int.reduceToNat, Int.reduceEq, Int.reduceLT, Int.reduceLE, Nat.reduceLeDiff, Nat.reduceEqDiff, eq_self, and_self, s6_4_2]
  obtain ⟨a12, n12, c12, hh12, _⟩ := hs12.hdr
  refine callC tcall_24 (size_spec s _ _ _ hh12.hs) ?_
  rintro v13 w13 ⟨rfl, rfl⟩
  rw [show ((1073741824 : Nat) : Int) = 1073741824 from rfl]
  simp (config := { maxSteps := 4000000 }) only [go_sem, beq_self_eq_true, List.getElem_toArray, List.getElem_cons_zero, List.getElem_cons_succ, decide_true, decide_false, cond_true, cond_false, Nat.reduceBEq, reduceCtorEq, Nat.reduceAdd, Nat.reduceMul, Nat.reduceSub, reduceIte, Int.reduceToNat, Int.reduceEq, Int.reduceLT, Int.reduceLE, Nat.reduceLeDiff, Nat.reduceEqDiff, eq_self, and_self, s6_4_3]
  intro b14 w14 h14
  have F14 : Fr Nob w1 w14 := F12.trans h14.fr
  refine callC tcall_26 (sput_spec s _ _ ms12 1073741824 (some ⟨b14, 0, none⟩) 1 1 [1] w14 (hs12.fr h14.fr (fun _ _ q => q)) (h14.row1 rfl) (by decide)) ?_
  intro v15 w15 hL
  obtain ⟨rfl, ms15, hs15, hms15, F15⟩ := hL.from F14 F14.size
  rw [hms12, bnd_behind _ rfl] at hs15 hms15 ⊢
  simp only at hs15 hms15
  clear hL h14
  simp (config := { maxSteps := 4000000 }) only [go_sem, beq_self_eq_true, List.getElem_toArray, List.getElem_cons_zero, List.getElem_cons_succ, decide_true, decide_false, cond_true, cond_false, Nat.reduceBEq, reduceCtorEq, Nat.reduceAdd, Nat.reduceMul, Nat.reduceSub, reduceIte, Int.reduceToNat, Int.reduceEq, Int.reduceLT, Int.reduceLE, Nat.reduceLeDiff, Nat.reduceEqDiff, eq_self, and_self, s6_4_4]
  intro b16 w16 h16
  have F16 : Fr Nob w1 w16 := F15.trans h16.fr
  refine callC tcall_26 (sput_spec s _ _ ms15 7 (some ⟨b16, 0, none⟩) 1 1 [1] w16 (hs15.fr h16.fr (fun _ _ q => q)) (h16.row1 rfl) (by decide)) ?_
  intro v17 w17 hL
  obtain ⟨rfl, ms17, hs17, hms17, F17⟩ := hL.from F16 F16.size
  rw [hms15, bnd_hole hYl hZl rfl rfl] at hs17 hms17 ⊢
  simp only at hs17 hms17
  clear hL h16
  simp (config := { maxSteps := 4000000 }) only [go_sem, beq_self_eq_true, List.getElem_toArray, List.getElem_cons_zero, List.getElem_cons_succ, decide_true, decide_false, cond_true, cond_false, Nat.reduceBEq, reduceCtorEq, Nat.reduceAdd, Nat.reduceMul, Nat.reduceSub, reduceIte, Int.reduceToNat, Int.reduceEq, Int.reduceLT, Int.reduceLE, Nat.reduceLeDiff, Nat.reduceEqDiff, eq_self, and_self, s6_4_5]
  refine hK _ _ ?_; clear hK K
  repeat' (first | refine H_seq ?_ | refine H_block ?_ | refine H_skip ?_ | refine H_nil ?_ | refine H_exit ?_ | refine H_ret ?_ | refine B_normal ?_ | refine B_same ?_ | refine B_other rfl ?_ | refine B_ret ?_ | refine L_exit ?_ | refine L_ret ?_)
  refine H_condF rfl rfl ?_
  repeat' (first | refine H_seq ?_ | refine H_block ?_ | refine H_skip ?_ | refine H_nil ?_ | refine H_exit ?_ | refine H_ret ?_ | refine B_normal ?_ | refine B_same ?_ | refine B_other rfl ?_ | refine B_ret ?_ | refine L_exit ?_ | refine L_ret ?_)
  obtain ⟨a17, n17, c17, hh17, _⟩ := hs17.hdr
  refine H_region k6 s6_6 rfl fun K hK => ?_; simp (config := { maxSteps := 4000000 }) only [go_sem, beq_self_eq_true, List.getElem_toArray, List.getElem_cons_zero, List.getElem_cons_succ, decide_true, decide_false, cond_true, cond_false, Nat.reduceBEq, reduceCtorEq, Nat.reduceAdd, Nat.reduceMul, Nat.reduceSub, reduceIte, Int.reduceToNat, Int.reduceEq, Int.reduceLT, Int.reduceLE, Nat.reduceLeDiff, Nat.reduceEqDiff, eq_self, and_self, s6_6]
  refine callC tcall_28 (getb_spec s a17 n17 c17 _ ms17 1073741822 9 _ hh17 hs17.oks) ?_
  rintro v18 w18 ⟨ho18, _, f18⟩
  rw [hms17, bnd_get hYl hZl] at ho18
  obtain ⟨a18, n18, c18, rfl⟩ := ho18.lit
  obtain rfl : n18 = 2 := by have := ho18.row.len; simpa [bvs] using this.symm
  obtain ⟨b18, o18, rfl, _, hc18⟩ := ho18.row.cells (by decide)
  have k0 : w18.cell? ⟨b18, o18, none⟩ = some (.int .u8 0) := hc18 0 (by decide)
  have k1 : w18.cell? ⟨b18, o18 + 1, none⟩ = some (.int .u8 9) := hc18 1 (by decide)
  (try simp (config := { maxSteps := 4000000 }) only [go_sem, beq_self_eq_true, List.getElem_toArray, List.getElem_cons_zero, List.getElem_cons_succ, decide_true, decide_false, cond_true, cond_false, Nat.reduceBEq, reduceCtorEq, Nat.reduceAdd, Nat.reduceMul, Nat.reduceSub, reduceIte, Int.reduceToNat, Int.reduceEq, Int.reduceLT, Int.reduceLE, Nat.reduceLeDiff, Nat.reduceEqDiff, eq_self, and_self])
  refine hK _ _ ?_; clear hK K
  repeat' (first | refine H_seq ?_ | refine H_block ?_ | refine H_skip ?_ | refine H_nil ?_ | refine H_exit ?_ | refine H_ret ?_ | refine B_normal ?_ | refine B_same ?_ | refine B_other rfl ?_ | refine B_ret ?_ | refine L_exit ?_ | refine L_ret ?_)
  have hh18 := hh17.fr f18
  refine H_region k6 s6_7 rfl fun K hK => ?_; simp (config := { maxSteps := 4000000 }) only [go_sem, beq_self_eq_true, List.getElem_toArray, List.getElem_cons_zero, List.getElem_cons_succ, decide_true, decide_false, cond_true, cond_false, Nat.reduceBEq, reduceCtorEq, Nat.reduceAdd, Nat.reduceMul, Nat.reduceSub, reduceIte, Int.reduceToNat, Int.reduceEq, Int.reduceLT, Int.reduceLE, Nat.reduceLeDiff, Nat.reduceEqDiff, eq_self, and_self, s6_7, k0, k1]
  refine grd_split (fun hg => ?_) (fun hg => absurd hg (by decide))
  (try simp (config := { maxSteps := 4000000 }) only [go_sem, beq_self_eq_true, List.getElem_toArray, List.getElem_cons_zero, List.getElem_cons_succ, decide_true, decide_false, cond_true, cond_false, Nat.reduceBEq, reduceCtorEq, Nat.reduceAdd, Nat.reduceMul, Nat.reduceSub, reduceIte, Int.reduceToNat, Int.reduceEq, Int.reduceLT, Int.reduceLE, Nat.reduceLeDiff, Nat.reduceEqDiff, eq_self, and_self, hg, k0, k1])
  refine ⟨by decide, by decide, ?_⟩
  refine callC tcall_25 (sheld_spec s a17 n17 c17 _ ms17 _ hh18) ?_
  rintro v19 w19 ⟨rfl, f19⟩
  rw [hms17, show ((heldL [((0 : Nat), Y), (8, Z), (1073741823, [9])] : Nat) : Int) = 4194304 by simp only [heldL, List.map_cons, List.map_nil, List.sum_cons, List.sum_nil, hYl, hZl, Nat.add_zero, List.length_cons, List.length_nil]; rfl]
  simp (config := { maxSteps := 4000000 }) only [go_sem, beq_self_eq_true, List.getElem_toArray, List.getElem_cons_zero, List.getElem_cons_succ, decide_true, decide_false, cond_true, cond_false, Nat.reduceBEq, reduceCtorEq, Nat.reduceAdd, Nat.reduceMul, Nat.reduceSub, reduceIte, Int.reduceToNat, Int.reduceEq, Int.reduceLT, Int.reduceLE, Nat.reduceLeDiff, Nat.reduceEqDiff, eq_self, and_self, s6_7_1]
  have hs19 := hs17.fr (f18.trans f19) (fun _ _ q => q)
  refine callC tcall_28 (getb_spec s a17 n17 c17 _ ms17 0 65537 _ (hh18.fr f19) hs19.oks) ?_
  rintro v20 w20 ⟨ho20, _, f20⟩
  obtain ⟨a20, n20, c20, rfl⟩ := ho20.lit
  obtain rfl : n20 = 65536 := by
    have h1 := ho20.row.len
    rw [bvs_len, getM_len (by decide)] at h1
    omega
  simp (config := { maxSteps := 4000000 }) only [go_sem, beq_self_eq_true, List.getElem_toArray, List.getElem_cons_zero, List.getElem_cons_succ, decide_true, decide_false, cond_true, cond_false, Nat.reduceBEq, reduceCtorEq, Nat.reduceAdd, Nat.reduceMul, Nat.reduceSub, reduceIte, Int.reduceToNat, Int.reduceEq, Int.reduceLT, Int.reduceLE, Nat.reduceLeDiff, Nat.reduceEqDiff, eq_self, and_self, s6_7_2]
  rw [show ((65536 : Nat) : Int) = 65536 from rfl]
  refine grd_split (fun hg => ?_) (fun hg => absurd hg (by decide))
  (try simp (config := { maxSteps := 4000000 }) only [go_sem, beq_self_eq_true, List.getElem_toArray, List.getElem_cons_zero, List.getElem_cons_succ, decide_true, decide_false, cond_true, cond_false, Nat.reduceBEq, reduceCtorEq, Nat.reduceAdd, Nat.reduceMul, Nat.reduceSub, reduceIte, Int.reduceToNat, Int.reduceEq, Int.reduceLT, Int.reduceLE, Nat.reduceLeDiff, Nat.reduceEqDiff, eq_self, and_self, hg])
  have hs20 := hs19.fr f20 (fun _ _ q => q)
  have F20 : Fr Nob w1 w20 := F17.trans (f18.trans (f19.trans f20))
  refine callC tcall_29 (cut_spec s _ _ ms17 1073741825 w20 hs20) ?_
  intro v21 w21 hL
  obtain ⟨rfl, ms21, hs21, hms21, F21⟩ := hL.from F20 F20.size
  rw [show ∀ ps : List Pc, (cutM ps 1073741824 1073741825).1 = 3 from fun ps => by unfold cutM; rw [if_neg (by decide), if_pos (by decide)]]
  clear hL
  simp (config := { maxSteps := 4000000 }) only [go_sem, beq_self_eq_true, List.getElem_toArray, List.getElem_cons_zero, List.getElem_cons_succ, decide_true, decide_false, cond_true, cond_false, Nat.reduceBEq, reduceCtorEq, Nat.reduceAdd, Nat.reduceMul, Nat.reduceSub, reduceIte, Int.reduceToNat, Int.reduceEq, Int.reduceLT, Int.reduceLE, Nat.reduceLeDiff, Nat.reduceEqDiff, eq_self, and_self, s6_7_3]
  refine callC tcall_30 (swakes_spec _) ?_
  rintro v22 w22 ⟨rfl, f22⟩
  simp (config := { maxSteps := 4000000 }) only [go_sem, beq_self_eq_true, List.getElem_toArray, List.getElem_cons_zero, List.getElem_cons_succ, decide_true, decide_false, cond_true, cond_false, Nat.reduceBEq, reduceCtorEq, Nat.reduceAdd, Nat.reduceMul, Nat.reduceSub, reduceIte, Int.reduceToNat, Int.reduceEq, Int.reduceLT, Int.reduceLE, Nat.reduceLeDiff, Nat.reduceEqDiff, eq_self, and_self, s6_7_4]
  refine hK _ _ ?_; clear hK K
  repeat' (first | refine H_seq ?_ | refine H_block ?_ | refine H_skip ?_ | refine H_nil ?_ | refine H_exit ?_ | refine H_ret ?_ | refine B_normal ?_ | refine B_same ?_ | refine B_other rfl ?_ | refine B_ret ?_ | refine L_exit ?_ | refine L_ret ?_)
  refine F_ret ?_
  (try simp (config := { maxSteps := 4000000 }) only [go_sem, beq_self_eq_true, List.getElem_toArray, List.getElem_cons_zero, List.getElem_cons_succ, decide_true, decide_false, cond_true, cond_false, Nat.reduceBEq, reduceCtorEq, Nat.reduceAdd, Nat.reduceMul, Nat.reduceSub, reduceIte, Int.reduceToNat, Int.reduceEq, Int.reduceLT, Int.reduceLE, Nat.reduceLeDiff, Nat.reduceEqDiff, eq_self, and_self])
  exact h1.fr.trans (F21.trans f22)
end Go.Proofs.Ytpdklpeojjkkaaa

/- mantlelaw01: moved: first the copy of the bytes. -/
import Derived.Test.YtpdklpeojjkkaaaRefg
import Derived.Test.YtpdklpeojjkkaaaE9
namespace Go.Proofs.Ytpdklpeojjkkaaa
open Go
set_option linter.unusedVariables false
set_option linter.unusedSimpArgs false
set_option maxRecDepth 100000
set_option maxHeartbeats 4000000
theorem LeftR.paint {w u : World} {col : Nat → Nat} {i s : Nat} {res : Int × List Pc × Nat} {r : Value} (h : LeftR (fun b => col b = i) w s res r u) :
    r = .int .i64 res.1 ∧ ∃ ms', IsRef u (fun b => paint col w u i b = i) s ms' res.2.2 ∧ ms'.map MP.pc = res.2.1 ∧ Fr (fun b => col b = i) w u := by
  obtain ⟨hr, ms', h1, h2, h3⟩ := h
  refine ⟨hr, ms', h1.mono (fun b hb q => ?_), h2, h3⟩
  by_cases hw : b < w.heap.size
  · rw [paint_old hw]
    rcases q with q | q
    · exact q
    · omega
  · exact paint_new (by omega) hb
theorem IsRef.paint {w u : World} {col : Nat → Nat} {i j s size : Nat} {ms : List MP} (h : IsRef w (fun b => col b = j) s ms size) (f : Fr (fun b => col b = i) w u) (hij : i ≠ j) : IsRef u (fun b => Go.Proofs.Ytpdklpeojjkkaaa.paint col w u i b = j) s ms size := by
  have h' : IsRef w (fun b => col b = j ∧ b < w.heap.size) s ms size := h.mono (fun b hb q => ⟨q, hb⟩)
  refine (h'.fr f (fun b q e => hij (e.symm.trans q.1))).mono (fun b _ q => ?_)
  rw [paint_old q.2]; exact q.1
theorem IsRef.born {w u : World} {col : Nat → Nat} {i s size : Nat} {ms : List MP} (h : IsRef u (Fromb w.heap.size) s ms size) : IsRef u (fun b => Go.Proofs.Ytpdklpeojjkkaaa.paint col w u i b = i) s ms size :=
  h.mono (fun b hb q => paint_new q hb)
theorem paint_zero {col : Nat → Nat} {w u : World} {i b : Nat} (hs : w.heap.size ≤ u.heap.size) (h : u.heap.size ≤ b) : Go.Proofs.Ytpdklpeojjkkaaa.paint col w u i b = 0 := by
  unfold Go.Proofs.Ytpdklpeojjkkaaa.paint; rw [if_neg (by omega), if_neg (by omega)]
/-- What is there when a move is done on both. -/
structure Both (col : Nat → Nat) (i j : Nat) (s r : Nat) (ps : List Pc) (size : Nat) (w : World) : Prop where
  sp : ∃ ms, IsSpan w (fun b => col b = i) s ms size ∧ ms.map MP.pc = ps
  rf : ∃ mr, IsRef w (fun b => col b = j) r mr size ∧ mr.map MP.pc = ps
  z : ∀ b, w.heap.size ≤ b → col b = 0
theorem smoved_spec (col : Nat → Nat) (i j s r size : Nat) (ps : List Pc) (m : MV) (w : World) (hi : i ≠ 0) (hj : j ≠ 0) (hij : i ≠ j) (hB : Both col i j s r ps size w) (hm : m.ok w) (hk : m.k ≤ 1048576) (hmf : ∀ u, Fr (fun b => col b = i ∨ col b = j) w u → Row u (.slice m.a m.k m.c) 1 (bvs m.bs)) :
    CallsE Try.prog 37 [ptrV s, ptrV r, .agg #[.int .i64 m.do_, .int .i64 m.at_, .int .i64 m.n, .slice m.a m.k m.c]] w fun x u => x = .bool true ∧ ∃ col', (∀ b, b < w.heap.size → col' b = col b) ∧ Fr (fun b => col b = i ∨ col b = j) w u ∧
      Both col' i j s r (mvStep (ps, size) m).1 (mvStep (ps, size) m).2 u := by
  obtain ⟨mr0, mc0⟩ := hm
  have hml : m.bs.length = m.k := by have := mr0.len; rw [bvs_len] at this; omega
  refine enter Try.func37 rfl Try.results37 Try.ntmps37 rfl ?_
  repeat' (first | refine H_seq ?_ | refine H_block ?_ | refine H_skip ?_ | refine H_nil ?_ | refine H_exit ?_ | refine H_ret ?_ | refine B_normal ?_ | refine B_same ?_ | refine B_other rfl ?_ | refine B_ret ?_ | refine L_exit ?_ | refine L_ret ?_)
  refine H_region k37 s37_0 rfl fun K hK => ?_; simp (config := { maxSteps := 4000000 }) only [go_sem, beq_self_eq_true, List.getElem_toArray, List.getElem_cons_zero, List.getElem_cons_succ, decide_true, decide_false, cond_true, cond_false, Nat.reduceBEq, reduceCtorEq, Nat.reduceAdd, Nat.reduceMul, Nat.reduceSub, reduceIte, Int.reduceToNat, Int.reduceEq, Int.reduceLT, Int.reduceLE, Nat.reduceLeDiff, Nat.reduceEqDiff, eq_self, and_self, s37_0]
  intro b5 w1 h1
  have hn5 := h1.num
  have hs5 := h1.size
  refine hK _ _ ?_; clear hK K
  repeat' (first | refine H_seq ?_ | refine H_block ?_ | refine H_skip ?_ | refine H_nil ?_ | refine H_exit ?_ | refine H_ret ?_ | refine B_normal ?_ | refine B_same ?_ | refine B_other rfl ?_ | refine B_ret ?_ | refine L_exit ?_ | refine L_ret ?_)
  refine H_region k37 s37_1 rfl fun K hK => ?_; simp (config := { maxSteps := 4000000 }) only [go_sem, beq_self_eq_true, List.getElem_toArray, List.getElem_cons_zero, List.getElem_cons_succ, decide_true, decide_false, cond_true, cond_false, Nat.reduceBEq, reduceCtorEq, Nat.reduceAdd, Nat.reduceMul, Nat.reduceSub, reduceIte, Int.reduceToNat, Int.reduceEq, Int.reduceLT, Int.reduceLE, Nat.reduceLeDiff, Nat.reduceEqDiff, eq_self, and_self, s37_1, h1.blk.cell]
  refine hK _ _ ?_; clear hK K
  repeat' (first | refine H_seq ?_ | refine H_block ?_ | refine H_skip ?_ | refine H_nil ?_ | refine H_exit ?_ | refine H_ret ?_ | refine B_normal ?_ | refine B_same ?_ | refine B_other rfl ?_ | refine B_ret ?_ | refine L_exit ?_ | refine L_ret ?_)
  refine H_region k37 s37_2 rfl fun K hK => ?_; simp (config := { maxSteps := 4000000 }) only [go_sem, beq_self_eq_true, List.getElem_toArray, List.getElem_cons_zero, List.getElem_cons_succ, decide_true, decide_false, cond_true, cond_false, Nat.reduceBEq, reduceCtorEq, Nat.reduceAdd, Nat.reduceMul, Nat.reduceSub, reduceIte, Int.reduceToNat, Int.reduceEq, Int.reduceLT, Int.reduceLE, Nat.reduceLeDiff, Nat.reduceEqDiff, eq_self, and_self, s37_2]
  refine hK _ _ ?_; clear hK K
  repeat' (first | refine H_seq ?_ | refine H_block ?_ | refine H_skip ?_ | refine H_nil ?_ | refine H_exit ?_ | refine H_ret ?_ | refine B_normal ?_ | refine B_same ?_ | refine B_other rfl ?_ | refine B_ret ?_ | refine L_exit ?_ | refine L_ret ?_)
  by_cases h0 : m.do_ = 0
  · refine H_condT rfl (by simpa using h0) ?_
    repeat' (first | refine H_seq ?_ | refine H_block ?_ | refine H_skip ?_ | refine H_nil ?_ | refine H_exit ?_ | refine H_ret ?_ | refine B_normal ?_ | refine B_same ?_ | refine B_other rfl ?_ | refine B_ret ?_ | refine L_exit ?_ | refine L_ret ?_)
    refine H_drawnT k37 s37_3 qt37_3 fl37_3 nd37_3 p37_3 (Fromb w1.heap.size) rfl mixed (by as_aux_lemma => kernel_rfl) (by as_aux_lemma => kernel_rfl) (by repeat' (first | exact trivial | refine ⟨rfl, ?_⟩)) ndlast37_3 hlast37_3 rfl fun K hK => ?_; simp (config := { maxSteps := 4000000 }) only [go_sem, beq_self_eq_true, List.getElem_toArray, List.getElem_cons_zero, List.getElem_cons_succ, decide_true, decide_false, cond_true, cond_false, Nat.reduceBEq, reduceCtorEq, Nat.reduceAdd, Nat.reduceMul, Nat.reduceSub, reduceIte, Int.reduceToNat, Int.reduceEq, Int.reduceLT, Int.reduceLE, Nat.reduceLeDiff, Nat.reduceEqDiff, eq_self, and_self, gs37_3_0, gs37_3_1, gs37_3_2, gs37_3_3, gs37_3_4, gs37_3_5, gs37_3_6, gs37_3_7, gs37_3_8, gs37_3_9, gs37_3_10, p37_3, h1.blk.cell]
    have hmr1 := mr0.fr h1.fr (fun _ _ q => q)
    have hG : ∀ {u u' : World} {v : Value} {xs : List Value}, Own u v 1 xs → (∀ b, blk v = some b → w1.heap.size ≤ b) → Fr (fun b => blk v = some b) u u' → Fr (Fromb w1.heap.size) u u' := fun _ hb f => f.mono (fun b _ q => hb b q)
    suffices hfin : ∀ (a : Option Addr) (c : Nat) (u : World), Own u (.slice a (m.k + 1) c) 1 (bvs (m.bs ++ [165])) → (∀ b, blk (.slice a m.k c) = some b → w1.heap.size ≤ b) → Fr Nob w1 u →
        K [(0, ptrV s), (1, ptrV r), (2, .agg #[.int .i64 m.do_, .int .i64 m.at_, .int .i64 m.n, .slice m.a m.k m.c]), (5, ptrV b5), (6, .bool false), (7, .slice a m.k c), (20, .int .i64 m.do_), (21, .bool (decide (m.do_ = 0)))] u by
      have hj1 : ∀ (v26 y23 : Value) (b27 : Nat) (u : World), Own u v26 1 (bvs m.bs) → (∀ b, blk v26 = some b → w1.heap.size ≤ b) → Fr Nob w1 u → W u b27 [.int .u8 165] →
          planVC Try.prog s37_3 (Fromb w1.heap.size) w1 p37_3_j1 [(27, .slice (some ⟨b27, 0, none⟩) 1 1), (26, v26), (23, y23), (31, .int .i64 m.k), (30, .slice m.a m.k m.c), (29, .pointer (some ⟨b5, 3, none⟩)), (25, .slice m.a m.k m.c), (24, .pointer (some ⟨b5, 3, none⟩)), (0, ptrV s), (1, ptrV r), (2, .agg #[.int .i64 m.do_, .int .i64 m.at_, .int .i64 m.n, .slice m.a m.k m.c]), (5, ptrV b5), (6, .bool false), (20, .int .i64 m.do_), (21, .bool (decide (m.do_ = 0)))] u (fun E' w' => K (keepE k37 E') w') := by
        intro v26 y23 b27 u ho hbo fu h27
        obtain ⟨a26, n26, c26, rfl⟩ := ho.lit
        have hn26 : n26 = m.k := by have := ho.row.len; rw [bvs_len] at this; omega
        subst hn26
        simp (config := { maxSteps := 4000000 }) only [go_sem, beq_self_eq_true, List.getElem_toArray, List.getElem_cons_zero, List.getElem_cons_succ, decide_true, decide_false, cond_true, cond_false, Nat.reduceBEq, reduceCtorEq, Nat.reduceAdd, Nat.reduceMul, Nat.reduceSub, reduceIte, Int.reduceToNat, Int.reduceEq, Int.reduceLT, Int.reduceLE, Nat.reduceLeDiff, Nat.reduceEqDiff, eq_self, and_self, gs37_3_0, gs37_3_1, gs37_3_2, gs37_3_3, gs37_3_4, gs37_3_5, gs37_3_6, gs37_3_7, gs37_3_8, gs37_3_9, gs37_3_10, p37_3_j1]
        refine appendQ (ys := bvs [165]) tsl_40 rfl rfl (by decide) ho (Fr.refl _ _) (⟨_, _, _, rfl, rfl, Nat.le_refl _, .inr ⟨b27, 0, _, rfl, h27.r, by simp, rfl⟩⟩) (bvs_one _) (by rw [bvs_len]; simp only [bvs_len, List.length_cons, List.length_nil]; omega) ?_
        intro v u' ho' f' hb'
        rw [← bvs_app] at ho'
        obtain ⟨a', n', c', rfl⟩ := ho'.lit
        obtain rfl : n' = m.k + 1 := by have := ho'.row.len; rw [bvs_len, List.length_append] at this; simp at this; omega
        have hcap : m.k + 1 ≤ c' := by obtain ⟨_, _, _, e, _, h, _⟩ := ho'; cases e; exact h
        refine ⟨hG ho hbo f', ?_⟩
        (try simp (config := { maxSteps := 4000000 }) only [go_sem, beq_self_eq_true, List.getElem_toArray, List.getElem_cons_zero, List.getElem_cons_succ, decide_true, decide_false, cond_true, cond_false, Nat.reduceBEq, reduceCtorEq, Nat.reduceAdd, Nat.reduceMul, Nat.reduceSub, reduceIte, Int.reduceToNat, Int.reduceEq, Int.reduceLT, Int.reduceLE, Nat.reduceLeDiff, Nat.reduceEqDiff, eq_self, and_self, gs37_3_0, gs37_3_1, gs37_3_2, gs37_3_3, gs37_3_4, gs37_3_5, gs37_3_6, gs37_3_7, gs37_3_8, gs37_3_9, gs37_3_10])
        have hnew' : ∀ b, blk (.slice a' (m.k + 1) c') = some b → w1.heap.size ≤ b := fun b hb => by
          rcases hb' b hb with e | e
          · exact hbo b e
          · have := fu.size; omega
        refine ⟨⟨by omega, by omega⟩, hfin a' c' u' ho' (fun b hb => hnew' b (by cases a' <;> exact hb)) (fu.trans2 f' (fun _ _ q => q) (fun b hb q => by have := hbo b q; omega))⟩
      have hj2 : ∀ (b23 b27 : Nat) (u : World), Own u (.slice (some ⟨b23, 0, none⟩) 0 0) 1 [] → w1.heap.size ≤ b23 → b23 ≠ b27 → Fr Nob w1 u → W u b27 [.int .u8 165] →
          planVC Try.prog s37_3 (Fromb w1.heap.size) w1 p37_3_j2 [(27, .slice (some ⟨b27, 0, none⟩) 1 1), (23, .slice (some ⟨b23, 0, none⟩) 0 0), (31, .int .i64 m.k), (30, .slice m.a m.k m.c), (29, .pointer (some ⟨b5, 3, none⟩)), (25, .slice m.a m.k m.c), (24, .pointer (some ⟨b5, 3, none⟩)), (0, ptrV s), (1, ptrV r), (2, .agg #[.int .i64 m.do_, .int .i64 m.at_, .int .i64 m.n, .slice m.a m.k m.c]), (5, ptrV b5), (6, .bool false), (20, .int .i64 m.do_), (21, .bool (decide (m.do_ = 0)))] u (fun E' w' => K (keepE k37 E') w') := by
        intro b23 b27 u ho hb23 hne fu h27
        simp (config := { maxSteps := 4000000 }) only [go_sem, beq_self_eq_true, List.getElem_toArray, List.getElem_cons_zero, List.getElem_cons_succ, decide_true, decide_false, cond_true, cond_false, Nat.reduceBEq, reduceCtorEq, Nat.reduceAdd, Nat.reduceMul, Nat.reduceSub, reduceIte, Int.reduceToNat, Int.reduceEq, Int.reduceLT, Int.reduceLE, Nat.reduceLeDiff, Nat.reduceEqDiff, eq_self, and_self, gs37_3_0, gs37_3_1, gs37_3_2, gs37_3_3, gs37_3_4, gs37_3_5, gs37_3_6, gs37_3_7, gs37_3_8, gs37_3_9, gs37_3_10, p37_3_j2]
        refine appendQ (ys := bvs m.bs) tsl_40 rfl rfl (by decide) ho (Fr.refl _ _) (hmr1.fr fu (fun _ _ q => q)) (bvs_one _) (by rw [bvs_len]; simp only [List.length_nil]; omega) ?_
        intro v u' ho' f' hb'
        rw [List.nil_append] at ho'
        have hbo : ∀ b, blk (.slice (some ⟨b23, 0, none⟩) 0 0) = some b → w1.heap.size ≤ b := fun b e => by simp only [blk, Option.some.injEq] at e; omega
        refine ⟨hG ho hbo f', ?_⟩
        refine plan_joinP (A := [_, _, _]) (B := [_, _, _]) (by repeat' (first | exact trivial | refine ⟨rfl, ?_⟩)) (by repeat' (first | exact trivial | refine ⟨rfl, ?_⟩)) (hj1 v _ b27 u' ho' (fun b hb => ?_) (fu.trans2 f' (fun _ _ q => q) (fun b hb q => by have := hbo b q; omega)) (h27.fr f' (fun q => by simp only [blk, Option.some.injEq] at q; exact hne q)))
        rcases hb' b hb with e | e
        · exact hbo b e
        · have := fu.size; omega
      have hnF : ∀ {u u' : World} {b : Nat} {cs : List Value}, New u b cs u' → Fr (Fromb w1.heap.size) u u' := fun h => h.fr.nob
      refine ⟨fun q => by simp only [Fromb] at q; omega, fun q => by simp only [Fromb] at q; omega, fun b u hN => ⟨hnF hN, ?_, ?_⟩, fun b u hN => ⟨hnF hN, fun b' u' hN' => ⟨hnF hN', ?_⟩⟩⟩
      · have hb := hN.num
        have ho : Own u (.slice (some ⟨b, 0, none⟩) 0 0) 1 [] := Own.of_new (n := 0) hN rfl (Nat.zero_le _)
        have hbo : ∀ x, blk (.slice (some ⟨b, 0, none⟩) 0 0) = some x → w1.heap.size ≤ x := fun x e => by simp only [blk, Option.some.injEq] at e; omega
        refine appendQ (ys := bvs m.bs) tsl_40 rfl rfl (by decide) ho (Fr.refl _ _) (hmr1.fr hN.fr (fun _ _ q => q)) (bvs_one _) (by rw [bvs_len]; simp only [List.length_nil]; omega) ?_
        intro v u' ho' f' hb'
        rw [List.nil_append] at ho'
        refine ⟨hG ho hbo f', fun b1 u1 hN1 => ⟨hnF hN1, ?_⟩⟩
        refine hj1 v _ b1 u1 (ho'.fr hN1.fr (fun _ _ q => q)) (fun x hx => ?_) ((hN.fr.trans2 f' (fun _ _ q => q) (fun b hb q => by have := hbo b q; omega)).trans hN1.fr) hN1.blk
        rcases hb' x hx with e | e
        · exact hbo x e
        · have := hN.fr.size; omega
      · intro b1 u1 hN1
        have := hN.num
        have := hN1.num
        have := hN.size
        exact ⟨hnF hN1, hj2 b b1 u1 ((Own.of_new (n := 0) hN rfl (Nat.zero_le _)).fr hN1.fr (fun _ _ q => q)) (by omega) (by omega) (hN.fr.trans hN1.fr) hN1.blk⟩
      · have := hN.num
        have := hN'.num
        have := hN.size
        exact plan_joinP (A := [_, _]) (B := [_, _]) (by repeat' (first | exact trivial | refine ⟨rfl, ?_⟩)) (by repeat' (first | exact trivial | refine ⟨rfl, ?_⟩)) (hj2 b' b u' (Own.of_new (n := 0) hN' rfl (Nat.zero_le _)) (by omega) (by omega) (hN.fr.trans hN'.fr) (hN'.keepW hN.blk))
    intro a c u ho hbo fu
    obtain ⟨⟨ms, hsp, hmp⟩, ⟨mr, hrf, hrp⟩, hz⟩ := hB
    have fwu : Fr Nob w u := h1.fr.trans fu
    have hcap : m.k + 1 ≤ c := by obtain ⟨_, _, _, e, _, h, _⟩ := ho; cases e; exact h
    have hWb := h1.blk.fr fu (fun q => q)
    have hmru := mr0.fr fwu (fun _ _ q => q)
    -- the copy's block: new, nobody's
    obtain ⟨bm, om, rfl⟩ : ∃ bm om, a = some ⟨bm, om, none⟩ := by
      obtain ⟨b, o, e, _⟩ := Own.piece ho (by simp)
      exact ⟨b, o, e⟩
    have hbm := hbo bm rfl
    have hbmu : bm < u.heap.size := ho.blk_lt rfl
    have hmine : Row u (.slice (some ⟨bm, om, none⟩) m.k c) 1 (bvs m.bs) := by
      have := ho.row.pre m.k (by omega)
      rw [Nat.mul_one, bvs_take, ← hml, List.take_left] at this
      rw [← hml]; exact this
    refine hK _ _ ?_; clear hK K
    repeat' (first | refine H_seq ?_ | refine H_block ?_ | refine H_skip ?_ | refine H_nil ?_ | refine H_exit ?_ | refine H_ret ?_ | refine B_normal ?_ | refine B_same ?_ | refine B_other rfl ?_ | refine B_ret ?_ | refine L_exit ?_ | refine L_ret ?_)
    refine H_drawn k37 s37_4 p37_4 (Fromb u.heap.size) rfl mixed (by as_aux_lemma => kernel_rfl) fun K hK => ?_; simp (config := { maxSteps := 4000000 }) only [go_sem, beq_self_eq_true, List.getElem_toArray, List.getElem_cons_zero, List.getElem_cons_succ, decide_true, decide_false, cond_true, cond_false, Nat.reduceBEq, reduceCtorEq, Nat.reduceAdd, Nat.reduceMul, Nat.reduceSub, reduceIte, Int.reduceToNat, Int.reduceEq, Int.reduceLT, Int.reduceLE, Nat.reduceLeDiff, Nat.reduceEqDiff, eq_self, and_self, s37_4, p37_4, hWb.cell]
    refine ⟨fun q => by simp only [Fromb] at q; omega, fun q => by simp only [Fromb] at q; omega, fun b2 u2 hN => ⟨hN.fr.nob, ?_⟩⟩
    have hb2 := hN.num
    refine appendQ (ys := bvs m.bs) tsl_40 rfl rfl (by decide) (Own.of_new (n := 0) hN rfl (Nat.zero_le _)) (Fr.refl _ _) (hmru.fr hN.fr (fun _ _ q => q)) (bvs_one _) (by rw [bvs_len]; simp only [List.length_nil]; omega) ?_
    intro v3 u3 ho3 f3 hv3
    rw [List.nil_append] at ho3
    obtain ⟨a3, n3, c3, rfl⟩ := ho3.lit
    have hn3 : n3 = m.k := by have := ho3.row.len; rw [bvs_len] at this; omega
    have fuu3 : Fr Nob u u3 := hN.fr.trans2 f3 (fun _ _ q => q) (fun b hb q => by simp only [blk, Option.some.injEq] at q; omega)
    have FU3 : Fr Nob w u3 := fwu.trans fuu3
    refine ⟨f3.mono (fun b _ q => by simp only [blk, Option.some.injEq] at q; simp only [Fromb]; omega), ?_⟩
    -- the document's answer
    refine callC tcall_48 (rput_spec r size _ mr m.at_ a3 n3 c3 m.bs u3 (hrf.fr FU3 (fun _ _ q => q)) ho3.row (by simp only [maxLen]; omega)) ?_
    intro v4 u4 hL4
    obtain ⟨rfl, mr4, hr4, hrm4, G4⟩ := hL4.paint
    rw [hrp] at hr4 hrm4 ⊢
    have hs4 := (hsp.fr FU3 (fun _ _ q => q)).paint G4 (fun e => hij e.symm)
    have hwu3 := FU3.size
    have hzu3 : ∀ b, w.heap.size ≤ b → b < u3.heap.size → col b = 0 := fun b hb _ => hz b hb
    have old4 : ∀ b, b < u3.heap.size → paint col u3 u4 j b = col b := fun b hb => paint_old hb
    have z4 : ∀ b, u4.heap.size ≤ b → paint col u3 u4 j b = 0 := fun b hb => paint_zero G4.size hb
    have T4 : Fr (fun b => col b = i ∨ col b = j) w u4 := FU3.trans2 G4 (fun _ _ q => q.elim) (fun b _ q => .inr q)
    have hcbm : col bm = 0 := hz bm (by omega)
    have hbmu3 : bm < u3.heap.size := by have := fuu3.size; omega
    have hmine4 := (hmine.fr fuu3 (fun _ _ q => q)).fr G4 (fun b hb q => by simp only [blk, Option.some.injEq] at hb; subst hb; omega)
    have ho4 := (ho.fr fuu3 (fun _ _ q => q)).fr G4 (fun b hb q => by simp only [blk, Option.some.injEq] at hb; subst hb; omega)
    have hcb5 : col b5 = 0 := hz b5 (by omega)
    have hWb4 := (hWb.fr fuu3 (fun q => q)).fr G4 (fun q => by omega)
    have hcm : ∀ b, blk (.slice m.a m.k m.c) = some b → True := fun _ _ => trivial
    generalize hcol4 : paint col u3 u4 j = col4 at hr4 hs4 old4 z4
    have hcbm4 : col4 bm = 0 := by rw [old4 bm hbmu3]; exact hcbm
    have hcb54 : col4 b5 = 0 := by rw [old4 b5 (by omega)]; exact hcb5
    refine hK _ _ ?_; clear hK K
    repeat' (first | refine H_seq ?_ | refine H_block ?_ | refine H_skip ?_ | refine H_nil ?_ | refine H_exit ?_ | refine H_ret ?_ | refine B_normal ?_ | refine B_same ?_ | refine B_other rfl ?_ | refine B_ret ?_ | refine L_exit ?_ | refine L_ret ?_)
    refine H_region k37 s37_5 rfl fun K hK => ?_; simp (config := { maxSteps := 4000000 }) only [go_sem, beq_self_eq_true, List.getElem_toArray, List.getElem_cons_zero, List.getElem_cons_succ, decide_true, decide_false, cond_true, cond_false, Nat.reduceBEq, reduceCtorEq, Nat.reduceAdd, Nat.reduceMul, Nat.reduceSub, reduceIte, Int.reduceToNat, Int.reduceEq, Int.reduceLT, Int.reduceLE, Nat.reduceLeDiff, Nat.reduceEqDiff, eq_self, and_self, s37_5, hWb4.cell]
    refine callC tcall_26 (sput_spec s size _ ms m.at_ _ m.k c m.bs u4 hs4 hmine4 (by simp only [maxLen]; omega)) ?_
    intro v5 u5 hL5
    obtain ⟨rfl, ms5, hs5', hsm5, G5⟩ := hL5.paint
    rw [hmp] at hs5' hsm5 ⊢
    have hr5 := hr4.paint G5 hij
    have hu34 := G4.size
    have old5 : ∀ b, b < u4.heap.size → paint col4 u4 u5 i b = col4 b := fun b hb => paint_old hb
    have z5 : ∀ b, u5.heap.size ≤ b → paint col4 u4 u5 i b = 0 := fun b hb => paint_zero G5.size hb
    have T5 : Fr (fun b => col b = i ∨ col b = j) w u5 := T4.trans2 G5 (fun _ _ q => q) (fun b hb q => .inl (by rw [← old4 b (by omega)]; exact q))
    have hmine5 := hmine4.fr G5 (fun b hb q => by simp only [blk, Option.some.injEq] at hb; subst hb; omega)
    have ho5 := ho4.fr G5 (fun b hb q => by simp only [blk, Option.some.injEq] at hb; subst hb; omega)
    have hWb5 := hWb4.fr G5 (fun q => by omega)
    have hold5 : ∀ b, b < w.heap.size → paint col4 u4 u5 i b = col b := fun b hb => by rw [old5 b (by omega), old4 b (by omega)]
    have hcbm5 : paint col4 u4 u5 i bm = 0 := by rw [old5 bm (by omega)]; exact hcbm4
    generalize hcol5 : paint col4 u4 u5 i = col5 at hr5 hs5' z5 hold5 hcbm5
    refine hK _ _ ?_; clear hK K
    repeat' (first | refine H_seq ?_ | refine H_block ?_ | refine H_skip ?_ | refine H_nil ?_ | refine H_exit ?_ | refine H_ret ?_ | refine B_normal ?_ | refine B_same ?_ | refine B_other rfl ?_ | refine B_ret ?_ | refine L_exit ?_ | refine L_ret ?_)
    have hmr5 := hmf u5 T5
    refine H_drawnT k37 s37_6 qt37_6 fl37_6 nd37_6 p37_6 (Nob) rfl mixed (by as_aux_lemma => kernel_rfl) (by as_aux_lemma => kernel_rfl) (by repeat' (first | exact trivial | refine ⟨rfl, ?_⟩)) ndlast37_6 hlast37_6 rfl fun K hK => ?_; simp (config := { maxSteps := 4000000 }) only [go_sem, beq_self_eq_true, List.getElem_toArray, List.getElem_cons_zero, List.getElem_cons_succ, decide_true, decide_false, cond_true, cond_false, Nat.reduceBEq, reduceCtorEq, Nat.reduceAdd, Nat.reduceMul, Nat.reduceSub, reduceIte, Int.reduceToNat, Int.reduceEq, Int.reduceLT, Int.reduceLE, Nat.reduceLeDiff, Nat.reduceEqDiff, eq_self, and_self, gs37_6_0, gs37_6_1, gs37_6_2, gs37_6_3, gs37_6_4, gs37_6_5, gs37_6_6, gs37_6_7, gs37_6_8, gs37_6_9, gs37_6_10, gs37_6_11, gs37_6_12, gs37_6_13, gs37_6_14, gs37_6_15, gs37_6_16, gs37_6_17, gs37_6_18, p37_6, hWb5.cell]
    refine ⟨fun q => q, ?_⟩
    refine callC tcall_49 (r01same_spec _ _ _ _ _ _ m.bs m.bs u5 hmine5 hmr5) ?_
    rintro v6 u6 ⟨rfl, rfl⟩
    have hcell : u6.cell? ⟨bm, om + m.k * 1, none⟩ = some (.int .u8 165) := by
      obtain ⟨b', o', e, _, hc⟩ := ho5.row.cells (by omega)
      cases e
      rw [hc _ (by omega), Nat.mul_one, bvs_app, List.getElem?_append_right (by rw [bvs_len]; omega), bvs_len, hml, Nat.sub_self]
      rfl
    have hwr : IntKind.i64.wrap ((m.k : Int) + 1) = ((m.k + 1 : Nat) : Int) := by rw [wrapI (by omega)]; omega
    simp (config := { maxSteps := 4000000 }) only [go_sem, beq_self_eq_true, List.getElem_toArray, List.getElem_cons_zero, List.getElem_cons_succ, decide_true, decide_false, cond_true, cond_false, Nat.reduceBEq, reduceCtorEq, Nat.reduceAdd, Nat.reduceMul, Nat.reduceSub, reduceIte, Int.reduceToNat, Int.reduceEq, Int.reduceLT, Int.reduceLE, Nat.reduceLeDiff, Nat.reduceEqDiff, eq_self, and_self, gs37_6_0, gs37_6_1, gs37_6_2, gs37_6_3, gs37_6_4, gs37_6_5, gs37_6_6, gs37_6_7, gs37_6_8, gs37_6_9, gs37_6_10, gs37_6_11, gs37_6_12, gs37_6_13, gs37_6_14, gs37_6_15, gs37_6_16, gs37_6_17, gs37_6_18, p37_6_1, p37_6_j1, hWb5.cell, hcell, hwr]
    refine ⟨⟨by omega, by omega⟩, ⟨by omega, by omega⟩, ?_⟩
    obtain ⟨csm, hWm, hlm⟩ : ∃ cs, W u6 bm cs ∧ om + m.k ≤ cs.length := by
      obtain ⟨a', n', c', e, _, hnc, _, hq⟩ := ho5
      cases e
      rcases hq with ⟨e, _⟩ | ⟨b', o', cs, e, hw, hcs, _⟩
      · cases e
      · cases e; exact ⟨cs, hw, by omega⟩
    refine hK _ _ ?_; clear hK K
    repeat' (first | refine H_seq ?_ | refine H_block ?_ | refine H_skip ?_ | refine H_nil ?_ | refine H_exit ?_ | refine H_ret ?_ | refine B_normal ?_ | refine B_same ?_ | refine B_other rfl ?_ | refine B_ret ?_ | refine L_exit ?_ | refine L_ret ?_)
    refine H_region k37 s37_7 rfl fun K hK => ?_; simp (config := { maxSteps := 4000000 }) only [go_sem, beq_self_eq_true, List.getElem_toArray, List.getElem_cons_zero, List.getElem_cons_succ, decide_true, decide_false, cond_true, cond_false, Nat.reduceBEq, reduceCtorEq, Nat.reduceAdd, Nat.reduceMul, Nat.reduceSub, reduceIte, Int.reduceToNat, Int.reduceEq, Int.reduceLT, Int.reduceLE, Nat.reduceLeDiff, Nat.reduceEqDiff, eq_self, and_self, s37_7]
    refine hK _ _ ?_; clear hK K
    repeat' (first | refine H_seq ?_ | refine H_block ?_ | refine H_skip ?_ | refine H_nil ?_ | refine H_exit ?_ | refine H_ret ?_ | refine B_normal ?_ | refine B_same ?_ | refine B_other rfl ?_ | refine B_ret ?_ | refine L_exit ?_ | refine L_ret ?_)
    refine H_loop (fun q : Nat => [(0, ptrV s), (1, ptrV r), (6, .bool false), (7, .slice (some ⟨bm, om, none⟩) m.k c), (8, .int .i64 (putM ps size m.at_ m.bs).1), (9, .int .i64 (putM ps size m.at_ m.bs).1), (10, .bool true), (11, .int .i64 q)])
      (fun q u => q ≤ m.k ∧ Fr (fun b => b = bm) u6 u ∧ ∃ cs, W u bm cs ∧ om + m.k ≤ cs.length) (fun q => m.k - q) 0 ⟨rfl, rfl, rfl, rfl, rfl, rfl, rfl, rfl, trivial⟩ ⟨Nat.zero_le _, Fr.refl _ _, csm, hWm, hlm⟩ ?_
    clear hWm hlm
    rintro q u7 ⟨hq, f7, cs, hWm, hlm⟩
    repeat' (first | refine H_seq ?_ | refine H_block ?_ | refine H_skip ?_ | refine H_nil ?_ | refine H_exit ?_ | refine H_ret ?_ | refine B_normal ?_ | refine B_same ?_ | refine B_other rfl ?_ | refine B_ret ?_ | refine L_exit ?_ | refine L_ret ?_)
    refine H_region k37 s37_8 rfl fun K hK => ?_; simp (config := { maxSteps := 4000000 }) only [go_sem, beq_self_eq_true, List.getElem_toArray, List.getElem_cons_zero, List.getElem_cons_succ, decide_true, decide_false, cond_true, cond_false, Nat.reduceBEq, reduceCtorEq, Nat.reduceAdd, Nat.reduceMul, Nat.reduceSub, reduceIte, Int.reduceToNat, Int.reduceEq, Int.reduceLT, Int.reduceLE, Nat.reduceLeDiff, Nat.reduceEqDiff, eq_self, and_self, s37_8]
    refine hK _ _ ?_; clear hK K
    repeat' (first | refine H_seq ?_ | refine H_block ?_ | refine H_skip ?_ | refine H_nil ?_ | refine H_exit ?_ | refine H_ret ?_ | refine B_normal ?_ | refine B_same ?_ | refine B_other rfl ?_ | refine B_ret ?_ | refine L_exit ?_ | refine L_ret ?_)
    by_cases hqk : q < m.k
    · refine H_condT rfl (by simpa using hqk) ?_
      repeat' (first | refine H_seq ?_ | refine H_block ?_ | refine H_skip ?_ | refine H_nil ?_ | refine H_exit ?_ | refine H_ret ?_ | refine B_normal ?_ | refine B_same ?_ | refine B_other rfl ?_ | refine B_ret ?_ | refine L_exit ?_ | refine L_ret ?_)
      refine H_region k37 s37_10 rfl fun K hK => ?_; simp (config := { maxSteps := 4000000 }) only [go_sem, beq_self_eq_true, List.getElem_toArray, List.getElem_cons_zero, List.getElem_cons_succ, decide_true, decide_false, cond_true, cond_false, Nat.reduceBEq, reduceCtorEq, Nat.reduceAdd, Nat.reduceMul, Nat.reduceSub, reduceIte, Int.reduceToNat, Int.reduceEq, Int.reduceLT, Int.reduceLE, Nat.reduceLeDiff, Nat.reduceEqDiff, eq_self, and_self, s37_10]
      refine ⟨⟨by omega, by omega⟩, _, hWm, by omega, ?_⟩
      (try simp (config := { maxSteps := 4000000 }) only [go_sem, beq_self_eq_true, List.getElem_toArray, List.getElem_cons_zero, List.getElem_cons_succ, decide_true, decide_false, cond_true, cond_false, Nat.reduceBEq, reduceCtorEq, Nat.reduceAdd, Nat.reduceMul, Nat.reduceSub, reduceIte, Int.reduceToNat, Int.reduceEq, Int.reduceLT, Int.reduceLE, Nat.reduceLeDiff, Nat.reduceEqDiff, eq_self, and_self])
      intro u8 hp8
      refine hK _ _ ?_; clear hK K
      repeat' (first | refine H_seq ?_ | refine H_block ?_ | refine H_skip ?_ | refine H_nil ?_ | refine H_exit ?_ | refine H_ret ?_ | refine B_normal ?_ | refine B_same ?_ | refine B_other rfl ?_ | refine B_ret ?_ | refine L_exit ?_ | refine L_ret ?_)
      refine H_region k37 s37_9 rfl fun K hK => ?_; simp (config := { maxSteps := 4000000 }) only [go_sem, beq_self_eq_true, List.getElem_toArray, List.getElem_cons_zero, List.getElem_cons_succ, decide_true, decide_false, cond_true, cond_false, Nat.reduceBEq, reduceCtorEq, Nat.reduceAdd, Nat.reduceMul, Nat.reduceSub, reduceIte, Int.reduceToNat, Int.reduceEq, Int.reduceLT, Int.reduceLE, Nat.reduceLeDiff, Nat.reduceEqDiff, eq_self, and_self, s37_9]
      refine hK _ _ ?_; clear hK K
      repeat' (first | refine H_seq ?_ | refine H_block ?_ | refine H_skip ?_ | refine H_nil ?_ | refine H_exit ?_ | refine H_ret ?_ | refine B_normal ?_ | refine B_same ?_ | refine B_other rfl ?_ | refine B_ret ?_ | refine L_exit ?_ | refine L_ret ?_)
      rw [wrapI (n := (q : Int) + 1) (by omega), show ((q : Int) + 1) = ((q + 1 : Nat) : Int) by omega]
      exact L_normal ⟨q + 1, ⟨rfl, rfl, rfl, rfl, rfl, rfl, rfl, rfl, trivial⟩, ⟨hqk, f7.trans2 hp8.fr (fun _ _ q => q) (fun _ _ q => q), _, hp8.blk, by rw [splice_length (by simp only [List.length_cons, List.length_nil]; omega)]; exact hlm⟩, by omega⟩
    · refine H_condF rfl (by simpa using hqk) ?_
      repeat' (first | refine H_seq ?_ | refine H_block ?_ | refine H_skip ?_ | refine H_nil ?_ | refine H_exit ?_ | refine H_ret ?_ | refine B_normal ?_ | refine B_same ?_ | refine B_other rfl ?_ | refine B_ret ?_ | refine L_exit ?_ | refine L_ret ?_)
      refine H_region k37 s37_11 rfl fun K hK => ?_; simp (config := { maxSteps := 4000000 }) only [go_sem, beq_self_eq_true, List.getElem_toArray, List.getElem_cons_zero, List.getElem_cons_succ, decide_true, decide_false, cond_true, cond_false, Nat.reduceBEq, reduceCtorEq, Nat.reduceAdd, Nat.reduceMul, Nat.reduceSub, reduceIte, Int.reduceToNat, Int.reduceEq, Int.reduceLT, Int.reduceLE, Nat.reduceLeDiff, Nat.reduceEqDiff, eq_self, and_self, s37_11]
      refine hK _ _ ?_; clear hK K
      repeat' (first | refine H_seq ?_ | refine H_block ?_ | refine H_skip ?_ | refine H_nil ?_ | refine H_exit ?_ | refine H_ret ?_ | refine B_normal ?_ | refine B_same ?_ | refine B_other rfl ?_ | refine B_ret ?_ | refine L_exit ?_ | refine L_ret ?_)
      refine F_ret ?_
      (try simp (config := { maxSteps := 4000000 }) only [go_sem, beq_self_eq_true, List.getElem_toArray, List.getElem_cons_zero, List.getElem_cons_succ, decide_true, decide_false, cond_true, cond_false, Nat.reduceBEq, reduceCtorEq, Nat.reduceAdd, Nat.reduceMul, Nat.reduceSub, reduceIte, Int.reduceToNat, Int.reduceEq, Int.reduceLT, Int.reduceLE, Nat.reduceLeDiff, Nat.reduceEqDiff, eq_self, and_self])
      have e0 : mvStep (ps, size) m = (putM ps size m.at_ m.bs).2 := by unfold mvStep; rw [if_pos h0]
      rw [e0]
      refine ⟨col5, hold5, T5.trans2 f7 (fun _ _ q => q) (fun b hb q => by have q' : b = bm := q; omega), ⟨ms5, hs5'.fr f7 (fun b hb q => ?_), hsm5⟩, ⟨mr4, hr5.fr f7 (fun b hb q => ?_), hrm4⟩, fun b hb => z5 b (Nat.le_trans f7.size hb)⟩
      · have q' : b = bm := q
        subst q'; have hb' : col5 b = i := hb; omega
      · have q' : b = bm := q
        subst q'; have hb' : col5 b = j := hb; omega
  refine H_condF rfl (by simpa using h0) ?_
  repeat' (first | refine H_seq ?_ | refine H_block ?_ | refine H_skip ?_ | refine H_nil ?_ | refine H_exit ?_ | refine H_ret ?_ | refine B_normal ?_ | refine B_same ?_ | refine B_other rfl ?_ | refine B_ret ?_ | refine L_exit ?_ | refine L_ret ?_)
  obtain ⟨⟨ms, hsp, hmp⟩, ⟨mr, hrf, hrp⟩, hz⟩ := hB
  have f1 := h1.fr
  have hsp1 := hsp.fr f1 (fun _ _ q => q)
  have hrf1 := hrf.fr f1 (fun _ _ q => q)
  have hc5 : col b5 = 0 := hz b5 (by omega)
  have z1 : ∀ b, w1.heap.size ≤ b → col b = 0 := fun b hb => hz b (by omega)
  have same : ∀ u, Fr Nob w1 u → ∃ col', (∀ b, b < w.heap.size → col' b = col b) ∧ Fr (fun b => col b = i ∨ col b = j) w u ∧ Both col' i j s r ps size u := fun u f =>
    ⟨col, fun _ _ => rfl, (f1.trans f).nob, ⟨ms, hsp1.fr f (fun _ _ q => q), hmp⟩, ⟨mr, hrf1.fr f (fun _ _ q => q), hrp⟩, fun b hb => z1 b (Nat.le_trans f.size hb)⟩
  -- a call that turns both
  have both : ∀ (u2 u3 : World) (res : List Pc × Nat) (ms2 mr3 : List MP), Fr (fun b => col b = i) w1 u2 → IsSpan u2 (fun b => paint col w1 u2 i b = i) s ms2 res.2 → ms2.map MP.pc = res.1 →
      Fr (fun b => paint col w1 u2 i b = j) u2 u3 → IsRef u3 (fun b => paint (paint col w1 u2 i) u2 u3 j b = j) r mr3 res.2 → mr3.map MP.pc = res.1 →
      ∃ col', (∀ b, b < w.heap.size → col' b = col b) ∧ Fr (fun b => col b = i ∨ col b = j) w u3 ∧ Both col' i j s r res.1 res.2 u3 := by
    intro u2 u3 res ms2 mr3 g2 hs2 hm2 g3 hr3 hm3
    have hsz2 := g2.size
    refine ⟨paint (paint col w1 u2 i) u2 u3 j, fun b hb => by rw [paint_old (by omega), paint_old (by omega)], ?_, ⟨ms2, hs2.paint g3 (fun e => hij e.symm), hm2⟩, ⟨mr3, hr3, hm3⟩, fun b hb => paint_zero g3.size hb⟩
    refine (f1.trans2 g2 (H := fun b => col b = i ∨ col b = j) (fun _ _ q => q.elim) (fun b _ q => .inl q)).trans2 g3 (fun _ _ q => q) (fun b hb q => .inr ?_)
    rw [paint_old (by omega)] at q
    exact q
  refine H_region k37 s37_12 rfl fun K hK => ?_; simp (config := { maxSteps := 4000000 }) only [go_sem, beq_self_eq_true, List.getElem_toArray, List.getElem_cons_zero, List.getElem_cons_succ, decide_true, decide_false, cond_true, cond_false, Nat.reduceBEq, reduceCtorEq, Nat.reduceAdd, Nat.reduceMul, Nat.reduceSub, reduceIte, Int.reduceToNat, Int.reduceEq, Int.reduceLT, Int.reduceLE, Nat.reduceLeDiff, Nat.reduceEqDiff, eq_self, and_self, s37_12]
  refine hK _ _ ?_; clear hK K
  repeat' (first | refine H_seq ?_ | refine H_block ?_ | refine H_skip ?_ | refine H_nil ?_ | refine H_exit ?_ | refine H_ret ?_ | refine B_normal ?_ | refine B_same ?_ | refine B_other rfl ?_ | refine B_ret ?_ | refine L_exit ?_ | refine L_ret ?_)
  by_cases h2 : m.do_ = 1
  · refine H_condT rfl (by simpa using h2) ?_
    repeat' (first | refine H_seq ?_ | refine H_block ?_ | refine H_skip ?_ | refine H_nil ?_ | refine H_exit ?_ | refine H_ret ?_ | refine B_normal ?_ | refine B_same ?_ | refine B_other rfl ?_ | refine B_ret ?_ | refine L_exit ?_ | refine L_ret ?_)
    refine H_drawn k37 s37_13 p37_13 (fun b => col b = i) rfl mixed (by as_aux_lemma => kernel_rfl) fun K hK => ?_; simp (config := { maxSteps := 4000000 }) only [go_sem, beq_self_eq_true, List.getElem_toArray, List.getElem_cons_zero, List.getElem_cons_succ, decide_true, decide_false, cond_true, cond_false, Nat.reduceBEq, reduceCtorEq, Nat.reduceAdd, Nat.reduceMul, Nat.reduceSub, reduceIte, Int.reduceToNat, Int.reduceEq, Int.reduceLT, Int.reduceLE, Nat.reduceLeDiff, Nat.reduceEqDiff, eq_self, and_self, s37_13, p37_13, h1.blk.cell]
    refine ⟨fun q => by omega, fun q => by omega, ?_⟩
    refine callC tcall_29 (cut_spec s size _ ms m.at_ w1 hsp1) ?_
    intro v2 u2 hL2
    obtain ⟨rfl, ms2, hs2, hsm2, g2⟩ := hL2.paint
    rw [hmp] at hs2 hsm2 ⊢
    refine ⟨g2, ?_⟩
    simp (config := { maxSteps := 4000000 }) only [go_sem, beq_self_eq_true, List.getElem_toArray, List.getElem_cons_zero, List.getElem_cons_succ, decide_true, decide_false, cond_true, cond_false, Nat.reduceBEq, reduceCtorEq, Nat.reduceAdd, Nat.reduceMul, Nat.reduceSub, reduceIte, Int.reduceToNat, Int.reduceEq, Int.reduceLT, Int.reduceLE, Nat.reduceLeDiff, Nat.reduceEqDiff, eq_self, and_self, s37_13, p37_13_2]
    refine callC tcall_50 (rcut_spec r size _ mr m.at_ u2 (hrf1.paint g2 hij)) ?_
    intro v3 u3 hL3
    obtain ⟨rfl, mr3, hr3, hrm3, g3⟩ := hL3.paint
    rw [hrp] at hr3 hrm3 ⊢
    simp (config := { maxSteps := 4000000 }) only [go_sem, beq_self_eq_true, List.getElem_toArray, List.getElem_cons_zero, List.getElem_cons_succ, decide_true, decide_false, cond_true, cond_false, Nat.reduceBEq, reduceCtorEq, Nat.reduceAdd, Nat.reduceMul, Nat.reduceSub, reduceIte, Int.reduceToNat, Int.reduceEq, Int.reduceLT, Int.reduceLE, Nat.reduceLeDiff, Nat.reduceEqDiff, eq_self, and_self, s37_13, p37_13_1]
    refine hK _ _ ?_; clear hK K
    repeat' (first | refine H_seq ?_ | refine H_block ?_ | refine H_skip ?_ | refine H_nil ?_ | refine H_exit ?_ | refine H_ret ?_ | refine B_normal ?_ | refine B_same ?_ | refine B_other rfl ?_ | refine B_ret ?_ | refine L_exit ?_ | refine L_ret ?_)
    refine F_ret ?_
    (try simp (config := { maxSteps := 4000000 }) only [go_sem, beq_self_eq_true, List.getElem_toArray, List.getElem_cons_zero, List.getElem_cons_succ, decide_true, decide_false, cond_true, cond_false, Nat.reduceBEq, reduceCtorEq, Nat.reduceAdd, Nat.reduceMul, Nat.reduceSub, reduceIte, Int.reduceToNat, Int.reduceEq, Int.reduceLT, Int.reduceLE, Nat.reduceLeDiff, Nat.reduceEqDiff, eq_self, and_self])
    have e0 : mvStep (ps, size) m = (cutM ps size m.at_).2 := by unfold mvStep; rw [if_neg h0, if_pos h2]
    rw [e0]
    exact both u2 u3 _ ms2 mr3 g2 hs2 hsm2 g3 hr3 hrm3
  refine H_condF rfl (by simpa using h2) ?_
  repeat' (first | refine H_seq ?_ | refine H_block ?_ | refine H_skip ?_ | refine H_nil ?_ | refine H_exit ?_ | refine H_ret ?_ | refine B_normal ?_ | refine B_same ?_ | refine B_other rfl ?_ | refine B_ret ?_ | refine L_exit ?_ | refine L_ret ?_)
  refine H_region k37 s37_14 rfl fun K hK => ?_; simp (config := { maxSteps := 4000000 }) only [go_sem, beq_self_eq_true, List.getElem_toArray, List.getElem_cons_zero, List.getElem_cons_succ, decide_true, decide_false, cond_true, cond_false, Nat.reduceBEq, reduceCtorEq, Nat.reduceAdd, Nat.reduceMul, Nat.reduceSub, reduceIte, Int.reduceToNat, Int.reduceEq, Int.reduceLT, Int.reduceLE, Nat.reduceLeDiff, Nat.reduceEqDiff, eq_self, and_self, s37_14]
  refine hK _ _ ?_; clear hK K
  repeat' (first | refine H_seq ?_ | refine H_block ?_ | refine H_skip ?_ | refine H_nil ?_ | refine H_exit ?_ | refine H_ret ?_ | refine B_normal ?_ | refine B_same ?_ | refine B_other rfl ?_ | refine B_ret ?_ | refine L_exit ?_ | refine L_ret ?_)
  by_cases h3 : m.do_ = 2
  · refine H_condT rfl (by simpa using h3) ?_
    repeat' (first | refine H_seq ?_ | refine H_block ?_ | refine H_skip ?_ | refine H_nil ?_ | refine H_exit ?_ | refine H_ret ?_ | refine B_normal ?_ | refine B_same ?_ | refine B_other rfl ?_ | refine B_ret ?_ | refine L_exit ?_ | refine L_ret ?_)
    refine H_drawn k37 s37_15 p37_15 (fun b => col b = i) rfl mixed (by as_aux_lemma => kernel_rfl) fun K hK => ?_; simp (config := { maxSteps := 4000000 }) only [go_sem, beq_self_eq_true, List.getElem_toArray, List.getElem_cons_zero, List.getElem_cons_succ, decide_true, decide_false, cond_true, cond_false, Nat.reduceBEq, reduceCtorEq, Nat.reduceAdd, Nat.reduceMul, Nat.reduceSub, reduceIte, Int.reduceToNat, Int.reduceEq, Int.reduceLT, Int.reduceLE, Nat.reduceLeDiff, Nat.reduceEqDiff, eq_self, and_self, s37_15, p37_15, h1.blk.cell]
    refine ⟨fun q => by omega, fun q => by omega, fun q => by omega, fun q => by omega, ?_⟩
    refine callC tcall_27 (punch_spec s size _ ms m.at_ m.n w1 hsp1) ?_
    intro v2 u2 hL2
    obtain ⟨rfl, ms2, hs2, hsm2, g2⟩ := hL2.paint
    rw [hmp] at hs2 hsm2 ⊢
    refine ⟨g2, ?_⟩
    simp (config := { maxSteps := 4000000 }) only [go_sem, beq_self_eq_true, List.getElem_toArray, List.getElem_cons_zero, List.getElem_cons_succ, decide_true, decide_false, cond_true, cond_false, Nat.reduceBEq, reduceCtorEq, Nat.reduceAdd, Nat.reduceMul, Nat.reduceSub, reduceIte, Int.reduceToNat, Int.reduceEq, Int.reduceLT, Int.reduceLE, Nat.reduceLeDiff, Nat.reduceEqDiff, eq_self, and_self, s37_15, p37_15_2]
    refine callC tcall_51 (rpunch_spec r size _ mr m.at_ m.n u2 (hrf1.paint g2 hij)) ?_
    intro v3 u3 hL3
    obtain ⟨rfl, mr3, hr3, hrm3, g3⟩ := hL3.paint
    rw [hrp] at hr3 hrm3 ⊢
    simp (config := { maxSteps := 4000000 }) only [go_sem, beq_self_eq_true, List.getElem_toArray, List.getElem_cons_zero, List.getElem_cons_succ, decide_true, decide_false, cond_true, cond_false, Nat.reduceBEq, reduceCtorEq, Nat.reduceAdd, Nat.reduceMul, Nat.reduceSub, reduceIte, Int.reduceToNat, Int.reduceEq, Int.reduceLT, Int.reduceLE, Nat.reduceLeDiff, Nat.reduceEqDiff, eq_self, and_self, s37_15, p37_15_1]
    refine hK _ _ ?_; clear hK K
    repeat' (first | refine H_seq ?_ | refine H_block ?_ | refine H_skip ?_ | refine H_nil ?_ | refine H_exit ?_ | refine H_ret ?_ | refine B_normal ?_ | refine B_same ?_ | refine B_other rfl ?_ | refine B_ret ?_ | refine L_exit ?_ | refine L_ret ?_)
    refine F_ret ?_
    (try simp (config := { maxSteps := 4000000 }) only [go_sem, beq_self_eq_true, List.getElem_toArray, List.getElem_cons_zero, List.getElem_cons_succ, decide_true, decide_false, cond_true, cond_false, Nat.reduceBEq, reduceCtorEq, Nat.reduceAdd, Nat.reduceMul, Nat.reduceSub, reduceIte, Int.reduceToNat, Int.reduceEq, Int.reduceLT, Int.reduceLE, Nat.reduceLeDiff, Nat.reduceEqDiff, eq_self, and_self])
    have e0 : mvStep (ps, size) m = (punchM ps size m.at_ m.n).2 := by unfold mvStep; rw [if_neg h0, if_neg h2, if_pos h3]
    rw [e0]
    exact both u2 u3 _ ms2 mr3 g2 hs2 hsm2 g3 hr3 hrm3
  have e0 : mvStep (ps, size) m = (ps, size) := by unfold mvStep; rw [if_neg h0, if_neg h2, if_neg h3]
  rw [e0]
  obtain ⟨as_, ns_, cs_, hhs, _⟩ := hsp1.hdr
  obtain ⟨ar_, nr_, cr_, hhr, _⟩ := hrf1.hd
  refine H_condF rfl (by simpa using h3) ?_
  repeat' (first | refine H_seq ?_ | refine H_block ?_ | refine H_skip ?_ | refine H_nil ?_ | refine H_exit ?_ | refine H_ret ?_ | refine B_normal ?_ | refine B_same ?_ | refine B_other rfl ?_ | refine B_ret ?_ | refine L_exit ?_ | refine L_ret ?_)
  refine H_region k37 s37_16 rfl fun K hK => ?_; simp (config := { maxSteps := 4000000 }) only [go_sem, beq_self_eq_true, List.getElem_toArray, List.getElem_cons_zero, List.getElem_cons_succ, decide_true, decide_false, cond_true, cond_false, Nat.reduceBEq, reduceCtorEq, Nat.reduceAdd, Nat.reduceMul, Nat.reduceSub, reduceIte, Int.reduceToNat, Int.reduceEq, Int.reduceLT, Int.reduceLE, Nat.reduceLeDiff, Nat.reduceEqDiff, eq_self, and_self, s37_16]
  refine hK _ _ ?_; clear hK K
  repeat' (first | refine H_seq ?_ | refine H_block ?_ | refine H_skip ?_ | refine H_nil ?_ | refine H_exit ?_ | refine H_ret ?_ | refine B_normal ?_ | refine B_same ?_ | refine B_other rfl ?_ | refine B_ret ?_ | refine L_exit ?_ | refine L_ret ?_)
  by_cases h4 : m.do_ = 3
  · refine H_condT rfl (by simpa using h4) ?_
    repeat' (first | refine H_seq ?_ | refine H_block ?_ | refine H_skip ?_ | refine H_nil ?_ | refine H_exit ?_ | refine H_ret ?_ | refine B_normal ?_ | refine B_same ?_ | refine B_other rfl ?_ | refine B_ret ?_ | refine L_exit ?_ | refine L_ret ?_)
    refine H_drawn k37 s37_17 p37_17 (Nob) rfl mixed (by as_aux_lemma => kernel_rfl) fun K hK => ?_; simp (config := { maxSteps := 4000000 }) only [go_sem, beq_self_eq_true, List.getElem_toArray, List.getElem_cons_zero, List.getElem_cons_succ, decide_true, decide_false, cond_true, cond_false, Nat.reduceBEq, reduceCtorEq, Nat.reduceAdd, Nat.reduceMul, Nat.reduceSub, reduceIte, Int.reduceToNat, Int.reduceEq, Int.reduceLT, Int.reduceLE, Nat.reduceLeDiff, Nat.reduceEqDiff, eq_self, and_self, s37_17, p37_17, h1.blk.cell]
    refine ⟨fun q => q, fun q => q, ?_⟩
    refine callC tcall_52 (scount_spec m.n w1) ?_
    rintro v2 w1 ⟨rfl, rfl⟩
    refine ⟨Fr.refl _ _, ?_⟩
    simp (config := { maxSteps := 4000000 }) only [go_sem, beq_self_eq_true, List.getElem_toArray, List.getElem_cons_zero, List.getElem_cons_succ, decide_true, decide_false, cond_true, cond_false, Nat.reduceBEq, reduceCtorEq, Nat.reduceAdd, Nat.reduceMul, Nat.reduceSub, reduceIte, Int.reduceToNat, Int.reduceEq, Int.reduceLT, Int.reduceLE, Nat.reduceLeDiff, Nat.reduceEqDiff, eq_self, and_self, s37_17, p37_17_1]
    refine callC tcall_28 (getb_spec s as_ ns_ cs_ size ms _ _ w1 hhs hsp1.oks) ?_
    rintro v3 u3 ⟨ho3, hb3, f3⟩
    rw [hmp] at ho3
    obtain ⟨a3, n3, c3, rfl⟩ := ho3.lit
    (try simp (config := { maxSteps := 4000000 }) only [go_sem, beq_self_eq_true, List.getElem_toArray, List.getElem_cons_zero, List.getElem_cons_succ, decide_true, decide_false, cond_true, cond_false, Nat.reduceBEq, reduceCtorEq, Nat.reduceAdd, Nat.reduceMul, Nat.reduceSub, reduceIte, Int.reduceToNat, Int.reduceEq, Int.reduceLT, Int.reduceLE, Nat.reduceLeDiff, Nat.reduceEqDiff, eq_self, and_self])
    refine hK _ _ ?_; clear hK K
    repeat' (first | refine H_seq ?_ | refine H_block ?_ | refine H_skip ?_ | refine H_nil ?_ | refine H_exit ?_ | refine H_ret ?_ | refine B_normal ?_ | refine B_same ?_ | refine B_other rfl ?_ | refine B_ret ?_ | refine L_exit ?_ | refine L_ret ?_)
    have hW3 := h1.blk.fr f3 (fun q => q)
    refine H_drawn k37 s37_18 p37_18 (Nob) rfl mixed (by as_aux_lemma => kernel_rfl) fun K hK => ?_; simp (config := { maxSteps := 4000000 }) only [go_sem, beq_self_eq_true, List.getElem_toArray, List.getElem_cons_zero, List.getElem_cons_succ, decide_true, decide_false, cond_true, cond_false, Nat.reduceBEq, reduceCtorEq, Nat.reduceAdd, Nat.reduceMul, Nat.reduceSub, reduceIte, Int.reduceToNat, Int.reduceEq, Int.reduceLT, Int.reduceLE, Nat.reduceLeDiff, Nat.reduceEqDiff, eq_self, and_self, s37_18, p37_18, hW3.cell]
    refine ⟨fun q => q, fun q => q, ?_⟩
    refine callC tcall_52 (scount_spec m.n u3) ?_
    rintro v4 u3 ⟨rfl, rfl⟩
    refine ⟨Fr.refl _ _, ?_⟩
    simp (config := { maxSteps := 4000000 }) only [go_sem, beq_self_eq_true, List.getElem_toArray, List.getElem_cons_zero, List.getElem_cons_succ, decide_true, decide_false, cond_true, cond_false, Nat.reduceBEq, reduceCtorEq, Nat.reduceAdd, Nat.reduceMul, Nat.reduceSub, reduceIte, Int.reduceToNat, Int.reduceEq, Int.reduceLT, Int.reduceLE, Nat.reduceLeDiff, Nat.reduceEqDiff, eq_self, and_self, s37_18, p37_18_2]
    refine callC tcall_53 (rget_spec r ar_ nr_ cr_ size mr _ _ u3 (hhr.fr f3) (fun x hx => ((hrf1.pcs x hx).1).fr f3 (fun q => q))) ?_
    rintro v5 u5 ⟨ho5, _, f5⟩
    rw [hrp] at ho5
    obtain ⟨a5, n5, c5, rfl⟩ := ho5.lit
    simp (config := { maxSteps := 4000000 }) only [go_sem, beq_self_eq_true, List.getElem_toArray, List.getElem_cons_zero, List.getElem_cons_succ, decide_true, decide_false, cond_true, cond_false, Nat.reduceBEq, reduceCtorEq, Nat.reduceAdd, Nat.reduceMul, Nat.reduceSub, reduceIte, Int.reduceToNat, Int.reduceEq, Int.reduceLT, Int.reduceLE, Nat.reduceLeDiff, Nat.reduceEqDiff, eq_self, and_self, s37_18, p37_18_1]
    have ho35 := ho3.fr f5 (fun _ _ q => q)
    refine callC tcall_49 (r01same_spec _ _ _ _ _ _ _ _ u5 ho35.row ho5.row) ?_
    rintro v6 u5 ⟨rfl, rfl⟩
    (try simp (config := { maxSteps := 4000000 }) only [go_sem, beq_self_eq_true, List.getElem_toArray, List.getElem_cons_zero, List.getElem_cons_succ, decide_true, decide_false, cond_true, cond_false, Nat.reduceBEq, reduceCtorEq, Nat.reduceAdd, Nat.reduceMul, Nat.reduceSub, reduceIte, Int.reduceToNat, Int.reduceEq, Int.reduceLT, Int.reduceLE, Nat.reduceLeDiff, Nat.reduceEqDiff, eq_self, and_self])
    have f36 := f3.trans f5
    refine hK _ _ ?_; clear hK K
    repeat' (first | refine H_seq ?_ | refine H_block ?_ | refine H_skip ?_ | refine H_nil ?_ | refine H_exit ?_ | refine H_ret ?_ | refine B_normal ?_ | refine B_same ?_ | refine B_other rfl ?_ | refine B_ret ?_ | refine L_exit ?_ | refine L_ret ?_)
    refine H_region k37 s37_19 rfl fun K hK => ?_; simp (config := { maxSteps := 4000000 }) only [go_sem, beq_self_eq_true, List.getElem_toArray, List.getElem_cons_zero, List.getElem_cons_succ, decide_true, decide_false, cond_true, cond_false, Nat.reduceBEq, reduceCtorEq, Nat.reduceAdd, Nat.reduceMul, Nat.reduceSub, reduceIte, Int.reduceToNat, Int.reduceEq, Int.reduceLT, Int.reduceLE, Nat.reduceLeDiff, Nat.reduceEqDiff, eq_self, and_self, s37_19]
    refine hK _ _ ?_; clear hK K
    repeat' (first | refine H_seq ?_ | refine H_block ?_ | refine H_skip ?_ | refine H_nil ?_ | refine H_exit ?_ | refine H_ret ?_ | refine B_normal ?_ | refine B_same ?_ | refine B_other rfl ?_ | refine B_ret ?_ | refine L_exit ?_ | refine L_ret ?_)
    have hn3m : n3 ≤ maxLen := by obtain ⟨_, _, _, e, _, h1, h2, _⟩ := ho35; cases e; omega
    simp only [maxLen] at hn3m
    refine H_loop (fun q : Nat => [(0, ptrV s), (1, ptrV r), (6, .bool false), (12, .slice a3 n3 c3), (13, .bool true), (14, .int .i64 q)])
      (fun q u => q ≤ n3 ∧ Fr (Fromb w1.heap.size) w1 u ∧ ∃ xs, Own u (.slice a3 n3 c3) 1 xs) (fun q => n3 - q) 0 ⟨rfl, rfl, rfl, rfl, rfl, rfl, trivial⟩ ⟨Nat.zero_le _, f36.nob, _, ho35⟩ ?_
    rintro q u7 ⟨hq, f7, xs, hxs⟩
    repeat' (first | refine H_seq ?_ | refine H_block ?_ | refine H_skip ?_ | refine H_nil ?_ | refine H_exit ?_ | refine H_ret ?_ | refine B_normal ?_ | refine B_same ?_ | refine B_other rfl ?_ | refine B_ret ?_ | refine L_exit ?_ | refine L_ret ?_)
    refine H_region k37 s37_20 rfl fun K hK => ?_; simp (config := { maxSteps := 4000000 }) only [go_sem, beq_self_eq_true, List.getElem_toArray, List.getElem_cons_zero, List.getElem_cons_succ, decide_true, decide_false, cond_true, cond_false, Nat.reduceBEq, reduceCtorEq, Nat.reduceAdd, Nat.reduceMul, Nat.reduceSub, reduceIte, Int.reduceToNat, Int.reduceEq, Int.reduceLT, Int.reduceLE, Nat.reduceLeDiff, Nat.reduceEqDiff, eq_self, and_self, s37_20]
    refine hK _ _ ?_; clear hK K
    repeat' (first | refine H_seq ?_ | refine H_block ?_ | refine H_skip ?_ | refine H_nil ?_ | refine H_exit ?_ | refine H_ret ?_ | refine B_normal ?_ | refine B_same ?_ | refine B_other rfl ?_ | refine B_ret ?_ | refine L_exit ?_ | refine L_ret ?_)
    by_cases hqk : q < n3
    · refine H_condT rfl (by simpa using hqk) ?_
      repeat' (first | refine H_seq ?_ | refine H_block ?_ | refine H_skip ?_ | refine H_nil ?_ | refine H_exit ?_ | refine H_ret ?_ | refine B_normal ?_ | refine B_same ?_ | refine B_other rfl ?_ | refine B_ret ?_ | refine L_exit ?_ | refine L_ret ?_)
      obtain ⟨bm, om, csm, rfl, hWm, hlm, hn3c⟩ : ∃ bm om cs, a3 = some ⟨bm, om, none⟩ ∧ W u7 bm cs ∧ om + c3 ≤ cs.length ∧ n3 ≤ c3 := by
        obtain ⟨a', n', c', e, _, hnc, _, hq⟩ := hxs
        cases e
        rcases hq with ⟨_, e⟩ | ⟨b', o', cs, e, hw, hcs, _⟩
        · omega
        · exact ⟨b', o', cs, e, hw, by omega, hnc⟩
      have hbm := hb3 bm rfl
      refine H_region k37 s37_22 rfl fun K hK => ?_; simp (config := { maxSteps := 4000000 }) only [go_sem, beq_self_eq_true, List.getElem_toArray, List.getElem_cons_zero, List.getElem_cons_succ, decide_true, decide_false, cond_true, cond_false, Nat.reduceBEq, reduceCtorEq, Nat.reduceAdd, Nat.reduceMul, Nat.reduceSub, reduceIte, Int.reduceToNat, Int.reduceEq, Int.reduceLT, Int.reduceLE, Nat.reduceLeDiff, Nat.reduceEqDiff, eq_self, and_self, s37_22]
      refine ⟨⟨by omega, by omega⟩, _, hWm, by omega, ?_⟩
      (try simp (config := { maxSteps := 4000000 }) only [go_sem, beq_self_eq_true, List.getElem_toArray, List.getElem_cons_zero, List.getElem_cons_succ, decide_true, decide_false, cond_true, cond_false, Nat.reduceBEq, reduceCtorEq, Nat.reduceAdd, Nat.reduceMul, Nat.reduceSub, reduceIte, Int.reduceToNat, Int.reduceEq, Int.reduceLT, Int.reduceLE, Nat.reduceLeDiff, Nat.reduceEqDiff, eq_self, and_self])
      intro u8 hp8
      refine hK _ _ ?_; clear hK K
      repeat' (first | refine H_seq ?_ | refine H_block ?_ | refine H_skip ?_ | refine H_nil ?_ | refine H_exit ?_ | refine H_ret ?_ | refine B_normal ?_ | refine B_same ?_ | refine B_other rfl ?_ | refine B_ret ?_ | refine L_exit ?_ | refine L_ret ?_)
      refine H_region k37 s37_21 rfl fun K hK => ?_; simp (config := { maxSteps := 4000000 }) only [go_sem, beq_self_eq_true, List.getElem_toArray, List.getElem_cons_zero, List.getElem_cons_succ, decide_true, decide_false, cond_true, cond_false, Nat.reduceBEq, reduceCtorEq, Nat.reduceAdd, Nat.reduceMul, Nat.reduceSub, reduceIte, Int.reduceToNat, Int.reduceEq, Int.reduceLT, Int.reduceLE, Nat.reduceLeDiff, Nat.reduceEqDiff, eq_self, and_self, s37_21]
      refine hK _ _ ?_; clear hK K
      repeat' (first | refine H_seq ?_ | refine H_block ?_ | refine H_skip ?_ | refine H_nil ?_ | refine H_exit ?_ | refine H_ret ?_ | refine B_normal ?_ | refine B_same ?_ | refine B_other rfl ?_ | refine B_ret ?_ | refine L_exit ?_ | refine L_ret ?_)
      rw [wrapI (n := (q : Int) + 1) (by omega), show ((q : Int) + 1) = ((q + 1 : Nat) : Int) by omega]
      refine L_normal ⟨q + 1, ⟨rfl, rfl, rfl, rfl, rfl, rfl, trivial⟩, ⟨hqk, f7.trans2 hp8.fr (fun _ _ q => q) (fun b _ q => by simp only [Onb] at q; simp only [Fromb]; omega), ?_⟩, by omega⟩
      obtain ⟨_, _, _, e, _, _, hm3, _⟩ := hxs
      cases e
      have hl8 : (splice csm (om + q * 1) [Value.int IntKind.u8 123]).length = csm.length := splice_length (by simp only [List.length_cons, List.length_nil]; omega)
      exact ⟨_, _, _, _, rfl, by rw [List.length_take, List.length_drop, hl8, Nat.mul_one]; omega, hn3c, hm3, .inr ⟨bm, om, _, rfl, hp8.blk, by rw [hl8]; omega, rfl⟩⟩
    · refine H_condF rfl (by simpa using hqk) ?_
      repeat' (first | refine H_seq ?_ | refine H_block ?_ | refine H_skip ?_ | refine H_nil ?_ | refine H_exit ?_ | refine H_ret ?_ | refine B_normal ?_ | refine B_same ?_ | refine B_other rfl ?_ | refine B_ret ?_ | refine L_exit ?_ | refine L_ret ?_)
      refine H_region k37 s37_23 rfl fun K hK => ?_; simp (config := { maxSteps := 4000000 }) only [go_sem, beq_self_eq_true, List.getElem_toArray, List.getElem_cons_zero, List.getElem_cons_succ, decide_true, decide_false, cond_true, cond_false, Nat.reduceBEq, reduceCtorEq, Nat.reduceAdd, Nat.reduceMul, Nat.reduceSub, reduceIte, Int.reduceToNat, Int.reduceEq, Int.reduceLT, Int.reduceLE, Nat.reduceLeDiff, Nat.reduceEqDiff, eq_self, and_self, s37_23]
      refine hK _ _ ?_; clear hK K
      repeat' (first | refine H_seq ?_ | refine H_block ?_ | refine H_skip ?_ | refine H_nil ?_ | refine H_exit ?_ | refine H_ret ?_ | refine B_normal ?_ | refine B_same ?_ | refine B_other rfl ?_ | refine B_ret ?_ | refine L_exit ?_ | refine L_ret ?_)
      refine F_ret ?_
      (try simp (config := { maxSteps := 4000000 }) only [go_sem, beq_self_eq_true, List.getElem_toArray, List.getElem_cons_zero, List.getElem_cons_succ, decide_true, decide_false, cond_true, cond_false, Nat.reduceBEq, reduceCtorEq, Nat.reduceAdd, Nat.reduceMul, Nat.reduceSub, reduceIte, Int.reduceToNat, Int.reduceEq, Int.reduceLT, Int.reduceLE, Nat.reduceLeDiff, Nat.reduceEqDiff, eq_self, and_self])
      have hcF : ∀ {k : Nat}, k ≠ 0 → ∀ b, col b = k → ¬ Fromb w1.heap.size b := fun hk b e q => by have := z1 b q; omega
      exact ⟨col, fun _ _ => rfl, f1.trans2 f7 (fun _ _ q => q.elim) (fun b hb q => by simp only [Fromb] at q; omega), ⟨ms, hsp1.fr f7 (hcF hi), hmp⟩, ⟨mr, hrf1.fr f7 (hcF hj), hrp⟩, fun b hb => z1 b (Nat.le_trans f7.size hb)⟩
  refine H_condF rfl (by simpa using h4) ?_
  repeat' (first | refine H_seq ?_ | refine H_block ?_ | refine H_skip ?_ | refine H_nil ?_ | refine H_exit ?_ | refine H_ret ?_ | refine B_normal ?_ | refine B_same ?_ | refine B_other rfl ?_ | refine B_ret ?_ | refine L_exit ?_ | refine L_ret ?_)
  refine H_region k37 s37_24 rfl fun K hK => ?_; simp (config := { maxSteps := 4000000 }) only [go_sem, beq_self_eq_true, List.getElem_toArray, List.getElem_cons_zero, List.getElem_cons_succ, decide_true, decide_false, cond_true, cond_false, Nat.reduceBEq, reduceCtorEq, Nat.reduceAdd, Nat.reduceMul, Nat.reduceSub, reduceIte, Int.reduceToNat, Int.reduceEq, Int.reduceLT, Int.reduceLE, Nat.reduceLeDiff, Nat.reduceEqDiff, eq_self, and_self, s37_24]
  refine hK _ _ ?_; clear hK K
  repeat' (first | refine H_seq ?_ | refine H_block ?_ | refine H_skip ?_ | refine H_nil ?_ | refine H_exit ?_ | refine H_ret ?_ | refine B_normal ?_ | refine B_same ?_ | refine B_other rfl ?_ | refine B_ret ?_ | refine L_exit ?_ | refine L_ret ?_)
  by_cases h5 : m.do_ = 4
  · refine H_condT rfl (by simpa using h5) ?_
    repeat' (first | refine H_seq ?_ | refine H_block ?_ | refine H_skip ?_ | refine H_nil ?_ | refine H_exit ?_ | refine H_ret ?_ | refine B_normal ?_ | refine B_same ?_ | refine B_other rfl ?_ | refine B_ret ?_ | refine L_exit ?_ | refine L_ret ?_)
    refine H_region k37 s37_25 rfl fun K hK => ?_; simp (config := { maxSteps := 4000000 }) only [go_sem, beq_self_eq_true, List.getElem_toArray, List.getElem_cons_zero, List.getElem_cons_succ, decide_true, decide_false, cond_true, cond_false, Nat.reduceBEq, reduceCtorEq, Nat.reduceAdd, Nat.reduceMul, Nat.reduceSub, reduceIte, Int.reduceToNat, Int.reduceEq, Int.reduceLT, Int.reduceLE, Nat.reduceLeDiff, Nat.reduceEqDiff, eq_self, and_self, s37_25, h1.blk.cell]
    refine callC tcall_33 (next_spec s as_ ns_ cs_ size ms m.at_ w1 hhs) ?_
    rintro v2 u2 ⟨rfl, f2⟩
    rw [hmp]
    have hW2 := h1.blk.fr f2 (fun q => q)
    (try simp (config := { maxSteps := 4000000 }) only [go_sem, beq_self_eq_true, List.getElem_toArray, List.getElem_cons_zero, List.getElem_cons_succ, decide_true, decide_false, cond_true, cond_false, Nat.reduceBEq, reduceCtorEq, Nat.reduceAdd, Nat.reduceMul, Nat.reduceSub, reduceIte, Int.reduceToNat, Int.reduceEq, Int.reduceLT, Int.reduceLE, Nat.reduceLeDiff, Nat.reduceEqDiff, eq_self, and_self])
    refine hK _ _ ?_; clear hK K
    repeat' (first | refine H_seq ?_ | refine H_block ?_ | refine H_skip ?_ | refine H_nil ?_ | refine H_exit ?_ | refine H_ret ?_ | refine B_normal ?_ | refine B_same ?_ | refine B_other rfl ?_ | refine B_ret ?_ | refine L_exit ?_ | refine L_ret ?_)
    refine H_region k37 s37_26 rfl fun K hK => ?_; simp (config := { maxSteps := 4000000 }) only [go_sem, beq_self_eq_true, List.getElem_toArray, List.getElem_cons_zero, List.getElem_cons_succ, decide_true, decide_false, cond_true, cond_false, Nat.reduceBEq, reduceCtorEq, Nat.reduceAdd, Nat.reduceMul, Nat.reduceSub, reduceIte, Int.reduceToNat, Int.reduceEq, Int.reduceLT, Int.reduceLE, Nat.reduceLeDiff, Nat.reduceEqDiff, eq_self, and_self, s37_26, hW2.cell]
    refine callC tcall_54 (rnext_spec r ar_ nr_ cr_ size mr m.at_ u2 (hhr.fr f2)) ?_
    rintro v3 u3 ⟨rfl, f3⟩
    rw [hrp]
    (try simp (config := { maxSteps := 4000000 }) only [go_sem, beq_self_eq_true, List.getElem_toArray, List.getElem_cons_zero, List.getElem_cons_succ, decide_true, decide_false, cond_true, cond_false, Nat.reduceBEq, reduceCtorEq, Nat.reduceAdd, Nat.reduceMul, Nat.reduceSub, reduceIte, Int.reduceToNat, Int.reduceEq, Int.reduceLT, Int.reduceLE, Nat.reduceLeDiff, Nat.reduceEqDiff, eq_self, and_self])
    refine hK _ _ ?_; clear hK K
    repeat' (first | refine H_seq ?_ | refine H_block ?_ | refine H_skip ?_ | refine H_nil ?_ | refine H_exit ?_ | refine H_ret ?_ | refine B_normal ?_ | refine B_same ?_ | refine B_other rfl ?_ | refine B_ret ?_ | refine L_exit ?_ | refine L_ret ?_)
    refine H_region k37 s37_27 rfl fun K hK => ?_; simp (config := { maxSteps := 4000000 }) only [go_sem, beq_self_eq_true, List.getElem_toArray, List.getElem_cons_zero, List.getElem_cons_succ, decide_true, decide_false, cond_true, cond_false, Nat.reduceBEq, reduceCtorEq, Nat.reduceAdd, Nat.reduceMul, Nat.reduceSub, reduceIte, Int.reduceToNat, Int.reduceEq, Int.reduceLT, Int.reduceLE, Nat.reduceLeDiff, Nat.reduceEqDiff, eq_self, and_self, s37_27]
    refine hK _ _ ?_; clear hK K
    repeat' (first | refine H_seq ?_ | refine H_block ?_ | refine H_skip ?_ | refine H_nil ?_ | refine H_exit ?_ | refine H_ret ?_ | refine B_normal ?_ | refine B_same ?_ | refine B_other rfl ?_ | refine B_ret ?_ | refine L_exit ?_ | refine L_ret ?_)
    refine F_ret ?_
    (try simp (config := { maxSteps := 4000000 }) only [go_sem, beq_self_eq_true, List.getElem_toArray, List.getElem_cons_zero, List.getElem_cons_succ, decide_true, decide_false, cond_true, cond_false, Nat.reduceBEq, reduceCtorEq, Nat.reduceAdd, Nat.reduceMul, Nat.reduceSub, reduceIte, Int.reduceToNat, Int.reduceEq, Int.reduceLT, Int.reduceLE, Nat.reduceLeDiff, Nat.reduceEqDiff, eq_self, and_self])
    exact same u3 (f2.trans f3)
  refine H_condF rfl (by simpa using h5) ?_
  repeat' (first | refine H_seq ?_ | refine H_block ?_ | refine H_skip ?_ | refine H_nil ?_ | refine H_exit ?_ | refine H_ret ?_ | refine B_normal ?_ | refine B_same ?_ | refine B_other rfl ?_ | refine B_ret ?_ | refine L_exit ?_ | refine L_ret ?_)
  refine H_region k37 s37_28 rfl fun K hK => ?_; simp (config := { maxSteps := 4000000 }) only [go_sem, beq_self_eq_true, List.getElem_toArray, List.getElem_cons_zero, List.getElem_cons_succ, decide_true, decide_false, cond_true, cond_false, Nat.reduceBEq, reduceCtorEq, Nat.reduceAdd, Nat.reduceMul, Nat.reduceSub, reduceIte, Int.reduceToNat, Int.reduceEq, Int.reduceLT, Int.reduceLE, Nat.reduceLeDiff, Nat.reduceEqDiff, eq_self, and_self, s37_28]
  refine hK _ _ ?_; clear hK K
  repeat' (first | refine H_seq ?_ | refine H_block ?_ | refine H_skip ?_ | refine H_nil ?_ | refine H_exit ?_ | refine H_ret ?_ | refine B_normal ?_ | refine B_same ?_ | refine B_other rfl ?_ | refine B_ret ?_ | refine L_exit ?_ | refine L_ret ?_)
  refine F_ret ?_
  (try simp (config := { maxSteps := 4000000 }) only [go_sem, beq_self_eq_true, List.getElem_toArray, List.getElem_cons_zero, List.getElem_cons_succ, decide_true, decide_false, cond_true, cond_false, Nat.reduceBEq, reduceCtorEq, Nat.reduceAdd, Nat.reduceMul, Nat.reduceSub, reduceIte, Int.reduceToNat, Int.reduceEq, Int.reduceLT, Int.reduceLE, Nat.reduceLeDiff, Nat.reduceEqDiff, eq_self, and_self])
  exact same w1 (Fr.refl _ _)
end Go.Proofs.Ytpdklpeojjkkaaa

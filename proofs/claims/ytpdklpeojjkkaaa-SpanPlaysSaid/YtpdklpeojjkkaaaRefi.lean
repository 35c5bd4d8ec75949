/- mantlelaw01: SpanPlays. -/
import Derived.Test.YtpdklpeojjkkaaaRefh
namespace Go.Proofs.Ytpdklpeojjkkaaa
open Go
set_option linter.unusedVariables false
set_option linter.unusedSimpArgs false
set_option maxRecDepth 100000
set_option maxHeartbeats 4000000
theorem Both.keep {col col' : Nat → Nat} {c d i j t r size : Nat} {ps : List Pc} {w u : World} (h : Both col c d t r ps size w) (old : ∀ b, b < w.heap.size → col' b = col b) (f : Fr (fun b => col b = i ∨ col b = j) w u) (hci : c ≠ i) (hcj : c ≠ j) (hdi : d ≠ i) (hdj : d ≠ j)
    (z : ∀ b, u.heap.size ≤ b → col' b = 0) : Both col' c d t r ps size u := by
  obtain ⟨⟨ms, hs, hm⟩, ⟨mr, hr, hrm⟩, _⟩ := h
  refine ⟨⟨ms, ?_, hm⟩, ⟨mr, ?_, hrm⟩, z⟩
  · have h' : IsSpan w (fun b => col b = c ∧ b < w.heap.size) t ms size := hs.mono (fun b hb q => ⟨q, hb⟩)
    refine (h'.fr f (fun b q e => by rcases e with e | e <;> omega)).mono (fun b _ q => ?_)
    rw [old b q.2]; exact q.1
  · have h' : IsRef w (fun b => col b = d ∧ b < w.heap.size) r mr size := hr.mono (fun b hb q => ⟨q, hb⟩)
    refine (h'.fr f (fun b q e => by rcases e with e | e <;> omega)).mono (fun b _ q => ?_)
    rw [old b q.2]; exact q.1
theorem Both.fr {col : Nat → Nat} {c d t r size : Nat} {ps : List Pc} {w u : World} (h : Both col c d t r ps size w) (f : Fr Nob w u) : Both col c d t r ps size u := by
  obtain ⟨⟨ms, hs, hm⟩, ⟨mr, hr, hrm⟩, z⟩ := h
  exact ⟨⟨ms, hs.fr f (fun _ _ q => q), hm⟩, ⟨mr, hr.fr f (fun _ _ q => q), hrm⟩, fun b hb => z b (Nat.le_trans f.size hb)⟩
theorem Both.paint {col : Nat → Nat} {c d k t r size : Nat} {ps : List Pc} {w u : World} (h : Both col c d t r ps size w) (f : Fr Nob w u) (hck : k ≠ c) (hdk : k ≠ d) : Both (paint col w u k) c d t r ps size u := by
  obtain ⟨⟨ms, hs, hm⟩, ⟨mr, hr, hrm⟩, z⟩ := h
  exact ⟨⟨ms, hs.paint (f.nob (G := fun b => col b = k)) hck, hm⟩, ⟨mr, hr.paint (f.nob (G := fun b => col b = k)) hdk, hrm⟩, fun b hb => paint_zero f.size hb⟩
theorem Both.same {col : Nat → Nat} {c d t r size : Nat} {ps : List Pc} {w : World} (h : Both col c d t r ps size w) : CallsE Try.prog 38 [ptrV t, ptrV r] w fun x u => x = .bool true ∧ Fr Nob w u := by
  obtain ⟨⟨ms, hs, hm⟩, ⟨mr, hr, hrm⟩, z⟩ := h
  obtain ⟨a, n, k, hh, _⟩ := hs.hdr
  obtain ⟨a', n', k', hh', _⟩ := hr.hd
  exact ssame_spec t r a a' n k n' k' size ms mr w hh hh' hs.oks (fun x hx => (hr.pcs x hx).1) (by rw [hm, hrm])
/-- Four colours, none of them 0, no two alike. -/
structure Four (a b c d : Nat) : Prop where
  na : a ≠ 0
  nb : b ≠ 0
  nc : c ≠ 0
  nd : d ≠ 0
  ab : a ≠ b
  ac : a ≠ c
  ad : a ≠ d
  bc : b ≠ c
  bd : b ≠ d
  cd : c ≠ d
theorem Four.swap {a b c d : Nat} (h : Four a b c d) : Four c d a b := ⟨h.nc, h.nd, h.na, h.nb, h.cd, h.ac.symm, h.bc.symm, h.ad.symm, h.bd.symm, h.ab⟩
theorem four1 : Four 1 2 3 4 := by constructor <;> decide
structure PV where
  i : Nat
  a : Nat
  b : Nat
  c : Nat
  d : Nat
  s : Nat
  r : Nat
  t : Nat
  u : Nat
def PV.inv (w0 : World) (x : PV) (w : World) : Prop := Four x.a x.b x.c x.d ∧ Fr Nob w0 w ∧ ∃ col ps zs pt zt, Both col x.a x.b x.s x.r ps zs w ∧ Both col x.c x.d x.t x.u pt zt w ∧ ∀ b, b < w0.heap.size → col b = 0
theorem spanPlays_spec (a : Option Addr) (k c : Nat) (bs : List UInt8) (a' : Option Addr) (n c' : Nat) (l : List MV) (w : World) (hb : Row w (.slice a k c) 1 (bvs bs)) (hl : Mvs w a' n c' l) (hgr : CallsE Try.prog 31 [.slice a k c, .slice a' n c'] w fun r u => ∃ d, r = .bool d ∧ (d = false → bs.length ≤ 131072 ∧ n ≤ 300 ∧ ∀ m ∈ l, m.k ≤ 1048576) ∧ u = w) :
    CallsE Try.prog 9 [.slice a k c, .slice a' n c'] w fun r u => r = .bool true ∧ Fr Nob w u := by
  have hkl : bs.length = k := by have := hb.len; rw [bvs_len] at this; omega
  refine enter Try.func9 rfl Try.results9 Try.ntmps9 rfl ?_
  repeat' (first | refine H_seq ?_ | refine H_block ?_ | refine H_skip ?_ | refine H_nil ?_ | refine H_exit ?_ | refine H_ret ?_ | refine B_normal ?_ | refine B_same ?_ | refine B_other rfl ?_ | refine B_ret ?_ | refine L_exit ?_ | refine L_ret ?_)
  refine H_region k9 s9_0 rfl fun K hK => ?_; simp (config := { maxSteps := 4000000 }) only [go_sem, beq_self_eq_true, List.getElem_toArray, List.getElem_cons_zero, List.getElem_cons_succ, decide_true, decide_false, cond_true, cond_false, Nat.reduceBEq, reduceCtorEq, Nat.reduceAdd, Nat.reduceMul, Nat.reduceSub, reduceIte, Int.reduceToNat, Int.reduceEq, Int.reduceLT, Int.reduceLE, Nat.reduceLeDiff, Nat.reduceEqDiff, eq_self, and_self, s9_0]
  refine hK _ _ ?_; clear hK K
  repeat' (first | refine H_seq ?_ | refine H_block ?_ | refine H_skip ?_ | refine H_nil ?_ | refine H_exit ?_ | refine H_ret ?_ | refine B_normal ?_ | refine B_same ?_ | refine B_other rfl ?_ | refine B_ret ?_ | refine L_exit ?_ | refine L_ret ?_)
  refine H_region k9 s9_1 rfl fun K hK => ?_; simp (config := { maxSteps := 4000000 }) only [go_sem, beq_self_eq_true, List.getElem_toArray, List.getElem_cons_zero, List.getElem_cons_succ, decide_true, decide_false, cond_true, cond_false, Nat.reduceBEq, reduceCtorEq, Nat.reduceAdd, Nat.reduceMul, Nat.reduceSub, reduceIte, Int.reduceToNat, Int.reduceEq, Int.reduceLT, Int.reduceLE, Nat.reduceLeDiff, Nat.reduceEqDiff, eq_self, and_self, s9_1]
  refine callC tcall_31 hgr ?_
  rintro v1 w0 ⟨d, rfl, hd, rfl⟩
  (try simp (config := { maxSteps := 4000000 }) only [go_sem, beq_self_eq_true, List.getElem_toArray, List.getElem_cons_zero, List.getElem_cons_succ, decide_true, decide_false, cond_true, cond_false, Nat.reduceBEq, reduceCtorEq, Nat.reduceAdd, Nat.reduceMul, Nat.reduceSub, reduceIte, Int.reduceToNat, Int.reduceEq, Int.reduceLT, Int.reduceLE, Nat.reduceLeDiff, Nat.reduceEqDiff, eq_self, and_self])
  refine hK _ _ ?_; clear hK K
  repeat' (first | refine H_seq ?_ | refine H_block ?_ | refine H_skip ?_ | refine H_nil ?_ | refine H_exit ?_ | refine H_ret ?_ | refine B_normal ?_ | refine B_same ?_ | refine B_other rfl ?_ | refine B_ret ?_ | refine L_exit ?_ | refine L_ret ?_)
  cases d with
  | true =>
    refine H_condT rfl rfl ?_
    repeat' (first | refine H_seq ?_ | refine H_block ?_ | refine H_skip ?_ | refine H_nil ?_ | refine H_exit ?_ | refine H_ret ?_ | refine B_normal ?_ | refine B_same ?_ | refine B_other rfl ?_ | refine B_ret ?_ | refine L_exit ?_ | refine L_ret ?_)
    refine H_region k9 s9_2 rfl fun K hK => ?_; simp (config := { maxSteps := 4000000 }) only [go_sem, beq_self_eq_true, List.getElem_toArray, List.getElem_cons_zero, List.getElem_cons_succ, decide_true, decide_false, cond_true, cond_false, Nat.reduceBEq, reduceCtorEq, Nat.reduceAdd, Nat.reduceMul, Nat.reduceSub, reduceIte, Int.reduceToNat, Int.reduceEq, Int.reduceLT, Int.reduceLE, Nat.reduceLeDiff, Nat.reduceEqDiff, eq_self, and_self, s9_2]
    refine callC tcall_30 (swakes_spec _) ?_
    rintro v2 w2 ⟨rfl, f2⟩
    (try simp (config := { maxSteps := 4000000 }) only [go_sem, beq_self_eq_true, List.getElem_toArray, List.getElem_cons_zero, List.getElem_cons_succ, decide_true, decide_false, cond_true, cond_false, Nat.reduceBEq, reduceCtorEq, Nat.reduceAdd, Nat.reduceMul, Nat.reduceSub, reduceIte, Int.reduceToNat, Int.reduceEq, Int.reduceLT, Int.reduceLE, Nat.reduceLeDiff, Nat.reduceEqDiff, eq_self, and_self])
    refine hK _ _ ?_; clear hK K
    repeat' (first | refine H_seq ?_ | refine H_block ?_ | refine H_skip ?_ | refine H_nil ?_ | refine H_exit ?_ | refine H_ret ?_ | refine B_normal ?_ | refine B_same ?_ | refine B_other rfl ?_ | refine B_ret ?_ | refine L_exit ?_ | refine L_ret ?_)
    refine F_ret ?_
    (try simp (config := { maxSteps := 4000000 }) only [go_sem, beq_self_eq_true, List.getElem_toArray, List.getElem_cons_zero, List.getElem_cons_succ, decide_true, decide_false, cond_true, cond_false, Nat.reduceBEq, reduceCtorEq, Nat.reduceAdd, Nat.reduceMul, Nat.reduceSub, reduceIte, Int.reduceToNat, Int.reduceEq, Int.reduceLT, Int.reduceLE, Nat.reduceLeDiff, Nat.reduceEqDiff, eq_self, and_self])
    exact f2
  | false =>
  obtain ⟨hk, hn3, hbulk⟩ := hd rfl
  refine H_condF rfl rfl ?_
  repeat' (first | refine H_seq ?_ | refine H_block ?_ | refine H_skip ?_ | refine H_nil ?_ | refine H_exit ?_ | refine H_ret ?_ | refine B_normal ?_ | refine B_same ?_ | refine B_other rfl ?_ | refine B_ret ?_ | refine L_exit ?_ | refine L_ret ?_)
  refine H_region k9 s9_3 rfl fun K hK => ?_; simp (config := { maxSteps := 4000000 }) only [go_sem, beq_self_eq_true, List.getElem_toArray, List.getElem_cons_zero, List.getElem_cons_succ, decide_true, decide_false, cond_true, cond_false, Nat.reduceBEq, reduceCtorEq, Nat.reduceAdd, Nat.reduceMul, Nat.reduceSub, reduceIte, Int.reduceToNat, Int.reduceEq, Int.reduceLT, Int.reduceLE, Nat.reduceLeDiff, Nat.reduceEqDiff, eq_self, and_self, s9_3]
  intro b1 w1 h1
  refine appendQ (ys := bvs bs) tsl_40 rfl rfl (by decide) (Own.of_new (n := 0) h1 rfl (Nat.zero_le _)) (Fr.refl _ _) (hb.fr h1.fr (fun _ _ q => q)) (bvs_one _) (by rw [bvs_len]; simp only [List.length_nil]; omega) ?_
  intro v2 w2 ho2 f2 hv2
  rw [List.nil_append] at ho2
  have hn1 := h1.num
  have hs1 := h1.size
  have hv2' : ∀ b, blk v2 = some b → w0.heap.size ≤ b := fun b hb => by
    rcases hv2 b hb with e | e
    · simp only [blk, Option.some.injEq] at e; omega
    · omega
  have F2 : Fr Nob w0 w2 := h1.fr.trans2 f2 (fun _ _ q => q) (fun b hb q => by simp only [blk, Option.some.injEq] at q; omega)
  obtain ⟨a2, n2, c2, rfl⟩ := ho2.lit
  intro b3 w3 h3
  refine appendQ (ys := bvs [165]) tsl_40 rfl rfl (by decide) (ho2.fr h3.fr (fun _ _ q => q)) (Fr.refl _ _) (⟨_, _, _, rfl, rfl, Nat.le_refl _, .inr ⟨b3, 0, _, rfl, h3.blk.r, by simp, rfl⟩⟩) (bvs_one _) (by rw [bvs_len, bvs_len]; simp only [List.length_cons, List.length_nil]; omega) ?_
  intro v4 w4 ho4 f4 hv4
  rw [← bvs_app] at ho4
  obtain ⟨a4, n4, c4, rfl⟩ := ho4.lit
  obtain rfl : n4 = k + 1 := by have := ho4.row.len; rw [bvs_len, List.length_append] at this; simp at this; omega
  have hcap : k + 1 ≤ c4 := by obtain ⟨_, _, _, e, _, h, _⟩ := ho4; cases e; exact h
  have F4 : Fr Nob w0 w4 := (F2.trans h3.fr).trans2 f4 (fun _ _ q => q) (fun b hb q => by have := hv2' b q; omega)
  obtain ⟨bm, om, rfl⟩ : ∃ bm om, a4 = some ⟨bm, om, none⟩ := by
    obtain ⟨b, o, e, _⟩ := Own.piece ho4 (by simp)
    exact ⟨b, o, e⟩
  have hbm : w0.heap.size ≤ bm := by
    have h3n := h3.num
    have := F2.size
    rcases hv4 bm rfl with e | e
    · exact hv2' bm e
    · have := h3.size; omega
  refine ⟨⟨by omega, by omega⟩, ?_⟩
  have hmine : Row w4 (.slice (some ⟨bm, om, none⟩) k c4) 1 (bvs bs) := by
    have := ho4.row.pre k (by omega)
    rw [Nat.mul_one, bvs_take, ← hkl, List.take_left] at this
    rw [← hkl]; exact this
  (try simp (config := { maxSteps := 4000000 }) only [go_sem, beq_self_eq_true, List.getElem_toArray, List.getElem_cons_zero, List.getElem_cons_succ, decide_true, decide_false, cond_true, cond_false, Nat.reduceBEq, reduceCtorEq, Nat.reduceAdd, Nat.reduceMul, Nat.reduceSub, reduceIte, Int.reduceToNat, Int.reduceEq, Int.reduceLT, Int.reduceLE, Nat.reduceLeDiff, Nat.reduceEqDiff, eq_self, and_self])
  refine hK _ _ ?_; clear hK K
  repeat' (first | refine H_seq ?_ | refine H_block ?_ | refine H_skip ?_ | refine H_nil ?_ | refine H_exit ?_ | refine H_ret ?_ | refine B_normal ?_ | refine B_same ?_ | refine B_other rfl ?_ | refine B_ret ?_ | refine L_exit ?_ | refine L_ret ?_)
  refine H_region k9 s9_4 rfl fun K hK => ?_; simp (config := { maxSteps := 4000000 }) only [go_sem, beq_self_eq_true, List.getElem_toArray, List.getElem_cons_zero, List.getElem_cons_succ, decide_true, decide_false, cond_true, cond_false, Nat.reduceBEq, reduceCtorEq, Nat.reduceAdd, Nat.reduceMul, Nat.reduceSub, reduceIte, Int.reduceToNat, Int.reduceEq, Int.reduceLT, Int.reduceLE, Nat.reduceLeDiff, Nat.reduceEqDiff, eq_self, and_self, s9_4]
  refine callC tcall_23 (snew_spec (some ⟨bm, om, none⟩) k c4 bs w4 hmine (by omega)) ?_
  rintro v5 w5 ⟨s, ms, rfl, hs5, hms, f5⟩
  rw [List.take_of_length_le (by omega)] at hs5 hms
  have ho5 := ho4.fr f5 (fun _ _ q => q)
  have hcell : w5.cell? ⟨bm, om + k * 1, none⟩ = some (.int .u8 165) := by
    obtain ⟨b', o', e, _, hc⟩ := ho5.row.cells (by omega)
    cases e
    rw [hc _ (by omega), Nat.mul_one, bvs_app, List.getElem?_append_right (by rw [bvs_len]; omega), bvs_len, hkl, Nat.sub_self]
    rfl
  have hwr : IntKind.i64.wrap ((k : Int) + 1) = ((k + 1 : Nat) : Int) := by rw [wrapI (by omega)]; omega
  (try simp (config := { maxSteps := 4000000 }) only [go_sem, beq_self_eq_true, List.getElem_toArray, List.getElem_cons_zero, List.getElem_cons_succ, decide_true, decide_false, cond_true, cond_false, Nat.reduceBEq, reduceCtorEq, Nat.reduceAdd, Nat.reduceMul, Nat.reduceSub, reduceIte, Int.reduceToNat, Int.reduceEq, Int.reduceLT, Int.reduceLE, Nat.reduceLeDiff, Nat.reduceEqDiff, eq_self, and_self])
  refine hK _ _ ?_; clear hK K
  repeat' (first | refine H_seq ?_ | refine H_block ?_ | refine H_skip ?_ | refine H_nil ?_ | refine H_exit ?_ | refine H_ret ?_ | refine B_normal ?_ | refine B_same ?_ | refine B_other rfl ?_ | refine B_ret ?_ | refine L_exit ?_ | refine L_ret ?_)
  refine H_region k9 s9_5 rfl fun K hK => ?_; simp (config := { maxSteps := 4000000 }) only [go_sem, beq_self_eq_true, List.getElem_toArray, List.getElem_cons_zero, List.getElem_cons_succ, decide_true, decide_false, cond_true, cond_false, Nat.reduceBEq, reduceCtorEq, Nat.reduceAdd, Nat.reduceMul, Nat.reduceSub, reduceIte, Int.reduceToNat, Int.reduceEq, Int.reduceLT, Int.reduceLE, Nat.reduceLeDiff, Nat.reduceEqDiff, eq_self, and_self, s9_5, Try.underlying49, hwr, hcell]
  refine ⟨⟨by omega, by omega⟩, ⟨by omega, by omega⟩, ?_⟩
  obtain ⟨csm, hWm, hlm⟩ : ∃ cs, W w5 bm cs ∧ om + k ≤ cs.length := by
    obtain ⟨a', n', c', e, _, hnc, _, hq⟩ := ho5
    cases e
    rcases hq with ⟨e, _⟩ | ⟨b', o', cs, e, hw, hcs, _⟩
    · cases e
    · cases e; exact ⟨cs, hw, by omega⟩
  have F5 : Fr Nob w0 w5 := F4.trans f5
  have hbm4 : bm < w4.heap.size := ho4.blk_lt rfl
  -- s is 1
  obtain ⟨F5', c5⟩ := Fr.paint (i := 1) F4 (col := fun _ => 0) (fun _ _ => rfl) (by decide) f5.nob
  have hs5p : IsSpan w5 (fun b => paint (fun _ => 0) w4 w5 1 b = 1) s ms bs.length := hs5.born
  have z5 : ∀ b, w5.heap.size ≤ b → paint (fun _ => 0) w4 w5 1 b = 0 := fun b hb => paint_zero f5.size hb
  have hcbm : paint (fun _ => 0) w4 w5 1 bm = 0 := paint_old hbm4
  generalize paint (fun _ => 0) w4 w5 1 = col5 at c5 hs5p z5 hcbm
  refine hK _ _ ?_; clear hK K
  repeat' (first | refine H_seq ?_ | refine H_block ?_ | refine H_skip ?_ | refine H_nil ?_ | refine H_exit ?_ | refine H_ret ?_ | refine B_normal ?_ | refine B_same ?_ | refine B_other rfl ?_ | refine B_ret ?_ | refine L_exit ?_ | refine L_ret ?_)
  refine H_condF rfl rfl ?_
  repeat' (first | refine H_seq ?_ | refine H_block ?_ | refine H_skip ?_ | refine H_nil ?_ | refine H_exit ?_ | refine H_ret ?_ | refine B_normal ?_ | refine B_same ?_ | refine B_other rfl ?_ | refine B_ret ?_ | refine L_exit ?_ | refine L_ret ?_)
  refine H_region k9 s9_7 rfl fun K hK => ?_; simp (config := { maxSteps := 4000000 }) only [go_sem, beq_self_eq_true, List.getElem_toArray, List.getElem_cons_zero, List.getElem_cons_succ, decide_true, decide_false, cond_true, cond_false, Nat.reduceBEq, reduceCtorEq, Nat.reduceAdd, Nat.reduceMul, Nat.reduceSub, reduceIte, Int.reduceToNat, Int.reduceEq, Int.reduceLT, Int.reduceLE, Nat.reduceLeDiff, Nat.reduceEqDiff, eq_self, and_self, s9_7]
  refine hK _ _ ?_; clear hK K
  repeat' (first | refine H_seq ?_ | refine H_block ?_ | refine H_skip ?_ | refine H_nil ?_ | refine H_exit ?_ | refine H_ret ?_ | refine B_normal ?_ | refine B_same ?_ | refine B_other rfl ?_ | refine B_ret ?_ | refine L_exit ?_ | refine L_ret ?_)
  refine H_loop (fun q : Nat => [(0, .slice a k c), (1, .slice a' n c'), (4, .bool false), (5, .slice (some ⟨bm, om, none⟩) k c4), (6, ptrV s), (7, .int .i64 q)])
    (fun q u => q ≤ k ∧ Fr (fun b => b = bm) w5 u ∧ ∃ cs, W u bm cs ∧ om + k ≤ cs.length) (fun q => k - q) 0 ⟨rfl, rfl, rfl, rfl, rfl, rfl, trivial⟩ ⟨Nat.zero_le _, Fr.refl _ _, csm, hWm, hlm⟩ ?_
  clear hWm hlm
  rintro q w7 ⟨hq, f7, cs, hWm, hlm⟩
  repeat' (first | refine H_seq ?_ | refine H_block ?_ | refine H_skip ?_ | refine H_nil ?_ | refine H_exit ?_ | refine H_ret ?_ | refine B_normal ?_ | refine B_same ?_ | refine B_other rfl ?_ | refine B_ret ?_ | refine L_exit ?_ | refine L_ret ?_)
  refine H_region k9 s9_8 rfl fun K hK => ?_; simp (config := { maxSteps := 4000000 }) only [go_sem, beq_self_eq_true, List.getElem_toArray, List.getElem_cons_zero, List.getElem_cons_succ, decide_true, decide_false, cond_true, cond_false, Nat.reduceBEq, reduceCtorEq, Nat.reduceAdd, Nat.reduceMul, Nat.reduceSub, reduceIte, Int.reduceToNat, Int.reduceEq, Int.reduceLT, Int.reduceLE, Nat.reduceLeDiff, Nat.reduceEqDiff, eq_self, and_self, s9_8]
  refine hK _ _ ?_; clear hK K
  repeat' (first | refine H_seq ?_ | refine H_block ?_ | refine H_skip ?_ | refine H_nil ?_ | refine H_exit ?_ | refine H_ret ?_ | refine B_normal ?_ | refine B_same ?_ | refine B_other rfl ?_ | refine B_ret ?_ | refine L_exit ?_ | refine L_ret ?_)
  by_cases hqk : q < k
  · refine H_condT rfl (by simpa using hqk) ?_
    repeat' (first | refine H_seq ?_ | refine H_block ?_ | refine H_skip ?_ | refine H_nil ?_ | refine H_exit ?_ | refine H_ret ?_ | refine B_normal ?_ | refine B_same ?_ | refine B_other rfl ?_ | refine B_ret ?_ | refine L_exit ?_ | refine L_ret ?_)
    refine H_region k9 s9_10 rfl fun K hK => ?_; simp (config := { maxSteps := 4000000 }) only [go_sem, beq_self_eq_true, List.getElem_toArray, List.getElem_cons_zero, List.getElem_cons_succ, decide_true, decide_false, cond_true, cond_false, Nat.reduceBEq, reduceCtorEq, Nat.reduceAdd, Nat.reduceMul, Nat.reduceSub, reduceIte, Int.reduceToNat, Int.reduceEq, Int.reduceLT, Int.reduceLE, Nat.reduceLeDiff, Nat.reduceEqDiff, eq_self, and_self, s9_10]
    refine ⟨⟨by omega, by omega⟩, _, hWm, by omega, ?_⟩
    (try simp (config := { maxSteps := 4000000 }) only [go_sem, beq_self_eq_true, List.getElem_toArray, List.getElem_cons_zero, List.getElem_cons_succ, decide_true, decide_false, cond_true, cond_false, Nat.reduceBEq, reduceCtorEq, Nat.reduceAdd, Nat.reduceMul, Nat.reduceSub, reduceIte, Int.reduceToNat, Int.reduceEq, Int.reduceLT, Int.reduceLE, Nat.reduceLeDiff, Nat.reduceEqDiff, eq_self, and_self])
    intro u8 hp8
    refine hK _ _ ?_; clear hK K
    repeat' (first | refine H_seq ?_ | refine H_block ?_ | refine H_skip ?_ | refine H_nil ?_ | refine H_exit ?_ | refine H_ret ?_ | refine B_normal ?_ | refine B_same ?_ | refine B_other rfl ?_ | refine B_ret ?_ | refine L_exit ?_ | refine L_ret ?_)
    refine H_region k9 s9_9 rfl fun K hK => ?_; simp (config := { maxSteps := 4000000 }) only [go_sem, beq_self_eq_true, List.getElem_toArray, List.getElem_cons_zero, List.getElem_cons_succ, decide_true, decide_false, cond_true, cond_false, Nat.reduceBEq, reduceCtorEq, Nat.reduceAdd, Nat.reduceMul, Nat.reduceSub, reduceIte, Int.reduceToNat, Int.reduceEq, Int.reduceLT, Int.reduceLE, Nat.reduceLeDiff, Nat.reduceEqDiff, eq_self, and_self, s9_9]
    refine hK _ _ ?_; clear hK K
    repeat' (first | refine H_seq ?_ | refine H_block ?_ | refine H_skip ?_ | refine H_nil ?_ | refine H_exit ?_ | refine H_ret ?_ | refine B_normal ?_ | refine B_same ?_ | refine B_other rfl ?_ | refine B_ret ?_ | refine L_exit ?_ | refine L_ret ?_)
    rw [wrapI (n := (q : Int) + 1) (by omega), show ((q : Int) + 1) = ((q + 1 : Nat) : Int) by omega]
    exact L_normal ⟨q + 1, ⟨rfl, rfl, rfl, rfl, rfl, rfl, trivial⟩, ⟨hqk, f7.trans2 hp8.fr (fun _ _ q => q) (fun _ _ q => q), _, hp8.blk, by rw [splice_length (by simp only [List.length_cons, List.length_nil]; omega)]; exact hlm⟩, by omega⟩
  refine H_condF rfl (by simpa using hqk) ?_
  repeat' (first | refine H_seq ?_ | refine H_block ?_ | refine H_skip ?_ | refine H_nil ?_ | refine H_exit ?_ | refine H_ret ?_ | refine B_normal ?_ | refine B_same ?_ | refine B_other rfl ?_ | refine B_ret ?_ | refine L_exit ?_ | refine L_ret ?_)
  have F7 : Fr Nob w0 w7 := F5.trans2 f7 (fun _ _ q => q) (fun b hb q => by have q' : b = bm := q; omega)
  have hs7 : IsSpan w7 (fun b => col5 b = 1) s ms bs.length := hs5p.fr f7 (fun b hb q => by have q' : b = bm := q; subst q'; have hb' : col5 b = 1 := hb; omega)
  have z7 : ∀ b, w7.heap.size ≤ b → col5 b = 0 := fun b hb => z5 b (Nat.le_trans f7.size hb)
  have hs7n : w5.heap.size ≤ w7.heap.size := f7.size
  refine H_region k9 s9_11 rfl fun K hK => ?_; simp (config := { maxSteps := 4000000 }) only [go_sem, beq_self_eq_true, List.getElem_toArray, List.getElem_cons_zero, List.getElem_cons_succ, decide_true, decide_false, cond_true, cond_false, Nat.reduceBEq, reduceCtorEq, Nat.reduceAdd, Nat.reduceMul, Nat.reduceSub, reduceIte, Int.reduceToNat, Int.reduceEq, Int.reduceLT, Int.reduceLE, Nat.reduceLeDiff, Nat.reduceEqDiff, eq_self, and_self, s9_11]
  intro b8 w8 h8
  have hn8 := h8.num
  refine appendQ (ys := bvs bs) tsl_40 rfl rfl (by decide) (Own.of_new (n := 0) h8 rfl (Nat.zero_le _)) (Fr.refl _ _) (hb.fr (F7.trans h8.fr) (fun _ _ q => q)) (bvs_one _) (by rw [bvs_len]; simp only [List.length_nil]; omega) ?_
  intro v9 w9 ho9 f9 hv9
  rw [List.nil_append] at ho9
  obtain ⟨a9, n9, c9, rfl⟩ := ho9.lit
  have f79 : Fr Nob w7 w9 := h8.fr.trans2 f9 (fun _ _ q => q) (fun b hb q => by simp only [blk, Option.some.injEq] at q; omega)
  refine callC tcall_34 (rnew_spec a9 n9 c9 bs w9 ho9.row (by omega)) ?_
  rintro v10 w10 ⟨r, mr, rfl, hr10, hmr, f10⟩
  -- r is 2
  have hs9 := hs7.fr f79 (fun _ _ q => q)
  have B10 : Both (paint col5 w9 w10 2) 1 2 s r (wholeL bs) bs.length w10 := ⟨⟨ms, hs9.paint (f10.nob (G := fun b => col5 b = 2)) (by decide), hms⟩, ⟨mr, hr10.born, hmr⟩, fun b hb => paint_zero f10.size hb⟩
  obtain ⟨F10, c10⟩ := Fr.paint (i := 2) (F7.trans f79) c5 (by decide) (f10.nob (G := fun b => col5 b = 2))
  generalize paint col5 w9 w10 2 = col10 at B10 c10
  clear hs5p z5 hcbm c5 hs7 z7 hs9
  (try simp (config := { maxSteps := 4000000 }) only [go_sem, beq_self_eq_true, List.getElem_toArray, List.getElem_cons_zero, List.getElem_cons_succ, decide_true, decide_false, cond_true, cond_false, Nat.reduceBEq, reduceCtorEq, Nat.reduceAdd, Nat.reduceMul, Nat.reduceSub, reduceIte, Int.reduceToNat, Int.reduceEq, Int.reduceLT, Int.reduceLE, Nat.reduceLeDiff, Nat.reduceEqDiff, eq_self, and_self])
  refine hK _ _ ?_; clear hK K
  repeat' (first | refine H_seq ?_ | refine H_block ?_ | refine H_skip ?_ | refine H_nil ?_ | refine H_exit ?_ | refine H_ret ?_ | refine B_normal ?_ | refine B_same ?_ | refine B_other rfl ?_ | refine B_ret ?_ | refine L_exit ?_ | refine L_ret ?_)
  refine H_region k9 s9_12 rfl fun K hK => ?_; simp (config := { maxSteps := 4000000 }) only [go_sem, beq_self_eq_true, List.getElem_toArray, List.getElem_cons_zero, List.getElem_cons_succ, decide_true, decide_false, cond_true, cond_false, Nat.reduceBEq, reduceCtorEq, Nat.reduceAdd, Nat.reduceMul, Nat.reduceSub, reduceIte, Int.reduceToNat, Int.reduceEq, Int.reduceLT, Int.reduceLE, Nat.reduceLeDiff, Nat.reduceEqDiff, eq_self, and_self, s9_12]
  obtain ⟨ms10, hs10, hm10⟩ := B10.sp
  refine callC tcall_35 (twin_spec s _ _ ms10 w10 hs10) ?_
  rintro v11 w11 ⟨t, mt, rfl, ht11, hmt, f11⟩
  rw [hm10] at hmt
  have B11 := B10.paint (k := 3) f11 (by decide) (by decide)
  have ht11' : IsSpan w11 (fun b => paint col10 w10 w11 3 b = 3) t mt bs.length := ht11.born
  obtain ⟨F11, c11⟩ := Fr.paint (i := 3) F10 c10 (by decide) (f11.nob (G := fun b => col10 b = 3))
  generalize paint col10 w10 w11 3 = col11 at B11 c11 ht11'
  (try simp (config := { maxSteps := 4000000 }) only [go_sem, beq_self_eq_true, List.getElem_toArray, List.getElem_cons_zero, List.getElem_cons_succ, decide_true, decide_false, cond_true, cond_false, Nat.reduceBEq, reduceCtorEq, Nat.reduceAdd, Nat.reduceMul, Nat.reduceSub, reduceIte, Int.reduceToNat, Int.reduceEq, Int.reduceLT, Int.reduceLE, Nat.reduceLeDiff, Nat.reduceEqDiff, eq_self, and_self])
  refine hK _ _ ?_; clear hK K
  repeat' (first | refine H_seq ?_ | refine H_block ?_ | refine H_skip ?_ | refine H_nil ?_ | refine H_exit ?_ | refine H_ret ?_ | refine B_normal ?_ | refine B_same ?_ | refine B_other rfl ?_ | refine B_ret ?_ | refine L_exit ?_ | refine L_ret ?_)
  refine H_region k9 s9_13 rfl fun K hK => ?_; simp (config := { maxSteps := 4000000 }) only [go_sem, beq_self_eq_true, List.getElem_toArray, List.getElem_cons_zero, List.getElem_cons_succ, decide_true, decide_false, cond_true, cond_false, Nat.reduceBEq, reduceCtorEq, Nat.reduceAdd, Nat.reduceMul, Nat.reduceSub, reduceIte, Int.reduceToNat, Int.reduceEq, Int.reduceLT, Int.reduceLE, Nat.reduceLeDiff, Nat.reduceEqDiff, eq_self, and_self, s9_13]
  obtain ⟨mr11, hr11, hmr11⟩ := B11.rf
  refine callC tcall_36 (rtwin_spec r _ _ mr11 w11 hr11) ?_
  rintro v12 w12 ⟨u, mu, rfl, hu12, hmu, f12⟩
  rw [hmr11] at hmu
  have B12 := B11.paint (k := 4) f12 (by decide) (by decide)
  have C12 : Both (paint col11 w11 w12 4) 3 4 t u (wholeL bs) bs.length w12 := ⟨⟨mt, ht11'.paint (f12.nob (G := fun b => col11 b = 4)) (by decide), hmt⟩, ⟨mu, hu12.born, hmu⟩, fun b hb => paint_zero f12.size hb⟩
  obtain ⟨F12, c12⟩ := Fr.paint (i := 4) F11 c11 (by decide) (f12.nob (G := fun b => col11 b = 4))
  generalize paint col11 w11 w12 4 = col12 at B12 c12 C12
  clear ht11' ht11 hu12 B10 B11 hs10 hr11
  (try simp (config := { maxSteps := 4000000 }) only [go_sem, beq_self_eq_true, List.getElem_toArray, List.getElem_cons_zero, List.getElem_cons_succ, decide_true, decide_false, cond_true, cond_false, Nat.reduceBEq, reduceCtorEq, Nat.reduceAdd, Nat.reduceMul, Nat.reduceSub, reduceIte, Int.reduceToNat, Int.reduceEq, Int.reduceLT, Int.reduceLE, Nat.reduceLeDiff, Nat.reduceEqDiff, eq_self, and_self])
  refine hK _ _ ?_; clear hK K
  repeat' (first | refine H_seq ?_ | refine H_block ?_ | refine H_skip ?_ | refine H_nil ?_ | refine H_exit ?_ | refine H_ret ?_ | refine B_normal ?_ | refine B_same ?_ | refine B_other rfl ?_ | refine B_ret ?_ | refine L_exit ?_ | refine L_ret ?_)
  refine H_region k9 s9_14 rfl fun K hK => ?_; simp (config := { maxSteps := 4000000 }) only [go_sem, beq_self_eq_true, List.getElem_toArray, List.getElem_cons_zero, List.getElem_cons_succ, decide_true, decide_false, cond_true, cond_false, Nat.reduceBEq, reduceCtorEq, Nat.reduceAdd, Nat.reduceMul, Nat.reduceSub, reduceIte, Int.reduceToNat, Int.reduceEq, Int.reduceLT, Int.reduceLE, Nat.reduceLeDiff, Nat.reduceEqDiff, eq_self, and_self, s9_14, Try.underlying49]
  refine hK _ _ ?_; clear hK K
  repeat' (first | refine H_seq ?_ | refine H_block ?_ | refine H_skip ?_ | refine H_nil ?_ | refine H_exit ?_ | refine H_ret ?_ | refine B_normal ?_ | refine B_same ?_ | refine B_other rfl ?_ | refine B_ret ?_ | refine L_exit ?_ | refine L_ret ?_)
  refine H_condF rfl rfl ?_
  repeat' (first | refine H_seq ?_ | refine H_block ?_ | refine H_skip ?_ | refine H_nil ?_ | refine H_exit ?_ | refine H_ret ?_ | refine B_normal ?_ | refine B_same ?_ | refine B_other rfl ?_ | refine B_ret ?_ | refine L_exit ?_ | refine L_ret ?_)
  refine H_region k9 s9_16 rfl fun K hK => ?_; simp (config := { maxSteps := 4000000 }) only [go_sem, beq_self_eq_true, List.getElem_toArray, List.getElem_cons_zero, List.getElem_cons_succ, decide_true, decide_false, cond_true, cond_false, Nat.reduceBEq, reduceCtorEq, Nat.reduceAdd, Nat.reduceMul, Nat.reduceSub, reduceIte, Int.reduceToNat, Int.reduceEq, Int.reduceLT, Int.reduceLE, Nat.reduceLeDiff, Nat.reduceEqDiff, eq_self, and_self, s9_16]
  refine hK _ _ ?_; clear hK K
  repeat' (first | refine H_seq ?_ | refine H_block ?_ | refine H_skip ?_ | refine H_nil ?_ | refine H_exit ?_ | refine H_ret ?_ | refine B_normal ?_ | refine B_same ?_ | refine B_other rfl ?_ | refine B_ret ?_ | refine L_exit ?_ | refine L_ret ?_)
  refine H_loop (fun x : PV => [(0, .slice a k c), (1, .slice a' n c'), (4, .bool false), (6, ptrV x.s), (8, ptrV x.r), (9, ptrV x.t), (10, ptrV x.u), (11, .int .i64 x.i)]) (fun x w => x.i ≤ n ∧ x.inv w0 w) (fun x => n - x.i)
    ⟨0, 1, 2, 3, 4, s, r, t, u⟩ ⟨rfl, rfl, rfl, rfl, rfl, rfl, rfl, rfl, trivial⟩ ⟨Nat.zero_le _, four1, F12, col12, _, _, _, _, B12, C12, c12⟩ ?_
  clear B12 C12 c12 F12
  rintro ⟨i, ca, cb, cc, cd, s, r, t, u⟩ wl ⟨hi, h4, FL, col, ps, zs, pt, zt, hB, hC, hc0⟩
  simp only at hi h4 hB hC
  repeat' (first | refine H_seq ?_ | refine H_block ?_ | refine H_skip ?_ | refine H_nil ?_ | refine H_exit ?_ | refine H_ret ?_ | refine B_normal ?_ | refine B_same ?_ | refine B_other rfl ?_ | refine B_ret ?_ | refine L_exit ?_ | refine L_ret ?_)
  refine H_region k9 s9_17 rfl fun K hK => ?_; simp (config := { maxSteps := 4000000 }) only [go_sem, beq_self_eq_true, List.getElem_toArray, List.getElem_cons_zero, List.getElem_cons_succ, decide_true, decide_false, cond_true, cond_false, Nat.reduceBEq, reduceCtorEq, Nat.reduceAdd, Nat.reduceMul, Nat.reduceSub, reduceIte, Int.reduceToNat, Int.reduceEq, Int.reduceLT, Int.reduceLE, Nat.reduceLeDiff, Nat.reduceEqDiff, eq_self, and_self, s9_17]
  refine hK _ _ ?_; clear hK K
  repeat' (first | refine H_seq ?_ | refine H_block ?_ | refine H_skip ?_ | refine H_nil ?_ | refine H_exit ?_ | refine H_ret ?_ | refine B_normal ?_ | refine B_same ?_ | refine B_other rfl ?_ | refine B_ret ?_ | refine L_exit ?_ | refine L_ret ?_)
  by_cases hin : i < n
  · refine H_condT rfl (by simpa using hin) ?_
    repeat' (first | refine H_seq ?_ | refine H_block ?_ | refine H_skip ?_ | refine H_nil ?_ | refine H_exit ?_ | refine H_ret ?_ | refine B_normal ?_ | refine B_same ?_ | refine B_other rfl ?_ | refine B_ret ?_ | refine L_exit ?_ | refine L_ret ?_)
    have hll := hl.fr FL
    obtain ⟨bl, ol, m, ea, hm, hmem, c0, c1, c2, c3⟩ := hll.cells hin
    subst ea
    have hmok := hl.oks m hmem
    have hdec : n - (i + 1) < n - i := by omega
    have hnext : IntKind.i64.wrap ((i : Int) + 1) = ((i + 1 : Nat) : Int) := by rw [wrapI (by omega)]; omega
    refine H_region k9 s9_19 rfl fun K hK => ?_; simp (config := { maxSteps := 4000000 }) only [go_sem, beq_self_eq_true, List.getElem_toArray, List.getElem_cons_zero, List.getElem_cons_succ, decide_true, decide_false, cond_true, cond_false, Nat.reduceBEq, reduceCtorEq, Nat.reduceAdd, Nat.reduceMul, Nat.reduceSub, reduceIte, Int.reduceToNat, Int.reduceEq, Int.reduceLT, Int.reduceLE, Nat.reduceLeDiff, Nat.reduceEqDiff, eq_self, and_self, s9_19, c0, c1, c2, c3]
    refine ⟨⟨by omega, by omega⟩, ?_⟩
    refine callC tcall_37 (smoved_spec col ca cb s r zs ps m wl h4.na h4.nb h4.ab hB (hmok.fr FL) (hbulk m hmem) (fun x fx => hmok.1.fr (FL.trans2 fx (H := Nob) (fun _ _ q => q) (fun b hb q => by have := hc0 b hb; have := h4.na; have := h4.nb; rcases q with q | q <;> omega)) (fun _ _ q => q))) ?_
    rintro v1 x1 ⟨rfl, col1, old1, g1, hB1⟩
    have FX1 : Fr Nob w0 x1 := FL.trans2 g1 (fun _ _ q => q) (fun b hb q => by have := hc0 b hb; have := h4.na; have := h4.nb; rcases q with q | q <;> omega)
    have hC1 := hC.keep old1 g1 h4.ac.symm h4.bc.symm h4.ad.symm h4.bd.symm hB1.z
    have hc1 : ∀ b, b < w0.heap.size → col1 b = 0 := fun b hb => by rw [old1 b (by have := FL.size; omega)]; exact hc0 b hb
    clear hB hC hc0 old1 g1
    simp (config := { maxSteps := 4000000 }) only [go_sem, beq_self_eq_true, List.getElem_toArray, List.getElem_cons_zero, List.getElem_cons_succ, decide_true, decide_false, cond_true, cond_false, Nat.reduceBEq, reduceCtorEq, Nat.reduceAdd, Nat.reduceMul, Nat.reduceSub, reduceIte, Int.reduceToNat, Int.reduceEq, Int.reduceLT, Int.reduceLE, Nat.reduceLeDiff, Nat.reduceEqDiff, eq_self, and_self, s9_19_1]
    refine callC tcall_38 hB1.same ?_
    rintro v2 x2 ⟨rfl, f2'⟩
    simp (config := { maxSteps := 4000000 }) only [go_sem, beq_self_eq_true, List.getElem_toArray, List.getElem_cons_zero, List.getElem_cons_succ, decide_true, decide_false, cond_true, cond_false, Nat.reduceBEq, reduceCtorEq, Nat.reduceAdd, Nat.reduceMul, Nat.reduceSub, reduceIte, Int.reduceToNat, Int.reduceEq, Int.reduceLT, Int.reduceLE, Nat.reduceLeDiff, Nat.reduceEqDiff, eq_self, and_self, s9_19_2]
    refine callC tcall_38 (hC1.fr f2').same ?_
    rintro v3 x3 ⟨rfl, f3'⟩
    have f13 := f2'.trans f3'
    have hB3 := hB1.fr f13
    have hC3 := hC1.fr f13
    have FX3 := FX1.trans f13
    have hll3 := hl.fr FX3
    obtain ⟨bl', ol', m', ea, hm', _, e0, e1, e2, e3⟩ := hll3.cells hin
    cases ea
    rw [hm] at hm'
    cases hm'
    simp (config := { maxSteps := 4000000 }) only [go_sem, beq_self_eq_true, List.getElem_toArray, List.getElem_cons_zero, List.getElem_cons_succ, decide_true, decide_false, cond_true, cond_false, Nat.reduceBEq, reduceCtorEq, Nat.reduceAdd, Nat.reduceMul, Nat.reduceSub, reduceIte, Int.reduceToNat, Int.reduceEq, Int.reduceLT, Int.reduceLE, Nat.reduceLeDiff, Nat.reduceEqDiff, eq_self, and_self, s9_19_3]
    refine hK _ _ ?_; clear hK K
    repeat' (first | refine H_seq ?_ | refine H_block ?_ | refine H_skip ?_ | refine H_nil ?_ | refine H_exit ?_ | refine H_ret ?_ | refine B_normal ?_ | refine B_same ?_ | refine B_other rfl ?_ | refine B_ret ?_ | refine L_exit ?_ | refine L_ret ?_)
    refine H_condF rfl rfl ?_
    repeat' (first | refine H_seq ?_ | refine H_block ?_ | refine H_skip ?_ | refine H_nil ?_ | refine H_exit ?_ | refine H_ret ?_ | refine B_normal ?_ | refine B_same ?_ | refine B_other rfl ?_ | refine B_ret ?_ | refine L_exit ?_ | refine L_ret ?_)
    refine H_region k9 s9_21 rfl fun K hK => ?_; simp (config := { maxSteps := 4000000 }) only [go_sem, beq_self_eq_true, List.getElem_toArray, List.getElem_cons_zero, List.getElem_cons_succ, decide_true, decide_false, cond_true, cond_false, Nat.reduceBEq, reduceCtorEq, Nat.reduceAdd, Nat.reduceMul, Nat.reduceSub, reduceIte, Int.reduceToNat, Int.reduceEq, Int.reduceLT, Int.reduceLE, Nat.reduceLeDiff, Nat.reduceEqDiff, eq_self, and_self, s9_21, e0]
    refine ⟨⟨by omega, by omega⟩, ?_⟩
    refine hK _ _ ?_; clear hK K
    repeat' (first | refine H_seq ?_ | refine H_block ?_ | refine H_skip ?_ | refine H_nil ?_ | refine H_exit ?_ | refine H_ret ?_ | refine B_normal ?_ | refine B_same ?_ | refine B_other rfl ?_ | refine B_ret ?_ | refine L_exit ?_ | refine L_ret ?_)
    refine H_cond rfl (fun h5 => ?_) (fun h5 => ?_)
    · repeat' (first | refine H_seq ?_ | refine H_block ?_ | refine H_skip ?_ | refine H_nil ?_ | refine H_exit ?_ | refine H_ret ?_ | refine B_normal ?_ | refine B_same ?_ | refine B_other rfl ?_ | refine B_ret ?_ | refine L_exit ?_ | refine L_ret ?_)
      refine H_region k9 s9_22 rfl fun K hK => ?_; simp (config := { maxSteps := 4000000 }) only [go_sem, beq_self_eq_true, List.getElem_toArray, List.getElem_cons_zero, List.getElem_cons_succ, decide_true, decide_false, cond_true, cond_false, Nat.reduceBEq, reduceCtorEq, Nat.reduceAdd, Nat.reduceMul, Nat.reduceSub, reduceIte, Int.reduceToNat, Int.reduceEq, Int.reduceLT, Int.reduceLE, Nat.reduceLeDiff, Nat.reduceEqDiff, eq_self, and_self, s9_22]
      refine hK _ _ ?_; clear hK K
      repeat' (first | refine H_seq ?_ | refine H_block ?_ | refine H_skip ?_ | refine H_nil ?_ | refine H_exit ?_ | refine H_ret ?_ | refine B_normal ?_ | refine B_same ?_ | refine B_other rfl ?_ | refine B_ret ?_ | refine L_exit ?_ | refine L_ret ?_)
      refine H_region k9 s9_23 rfl fun K hK => ?_; simp (config := { maxSteps := 4000000 }) only [go_sem, beq_self_eq_true, List.getElem_toArray, List.getElem_cons_zero, List.getElem_cons_succ, decide_true, decide_false, cond_true, cond_false, Nat.reduceBEq, reduceCtorEq, Nat.reduceAdd, Nat.reduceMul, Nat.reduceSub, reduceIte, Int.reduceToNat, Int.reduceEq, Int.reduceLT, Int.reduceLE, Nat.reduceLeDiff, Nat.reduceEqDiff, eq_self, and_self, s9_23]
      refine hK _ _ ?_; clear hK K
      repeat' (first | refine H_seq ?_ | refine H_block ?_ | refine H_skip ?_ | refine H_nil ?_ | refine H_exit ?_ | refine H_ret ?_ | refine B_normal ?_ | refine B_same ?_ | refine B_other rfl ?_ | refine B_ret ?_ | refine L_exit ?_ | refine L_ret ?_)
      refine H_region k9 s9_24 rfl fun K hK => ?_; simp (config := { maxSteps := 4000000 }) only [go_sem, beq_self_eq_true, List.getElem_toArray, List.getElem_cons_zero, List.getElem_cons_succ, decide_true, decide_false, cond_true, cond_false, Nat.reduceBEq, reduceCtorEq, Nat.reduceAdd, Nat.reduceMul, Nat.reduceSub, reduceIte, Int.reduceToNat, Int.reduceEq, Int.reduceLT, Int.reduceLE, Nat.reduceLeDiff, Nat.reduceEqDiff, eq_self, and_self, s9_24]
      refine hK _ _ ?_; clear hK K
      repeat' (first | refine H_seq ?_ | refine H_block ?_ | refine H_skip ?_ | refine H_nil ?_ | refine H_exit ?_ | refine H_ret ?_ | refine B_normal ?_ | refine B_same ?_ | refine B_other rfl ?_ | refine B_ret ?_ | refine L_exit ?_ | refine L_ret ?_)
      refine H_cond rfl (fun h6 => ?_) (fun h6 => ?_)
      · repeat' (first | refine H_seq ?_ | refine H_block ?_ | refine H_skip ?_ | refine H_nil ?_ | refine H_exit ?_ | refine H_ret ?_ | refine B_normal ?_ | refine B_same ?_ | refine B_other rfl ?_ | refine B_ret ?_ | refine L_exit ?_ | refine L_ret ?_)
        refine H_region k9 s9_25 rfl fun K hK => ?_; simp (config := { maxSteps := 4000000 }) only [go_sem, beq_self_eq_true, List.getElem_toArray, List.getElem_cons_zero, List.getElem_cons_succ, decide_true, decide_false, cond_true, cond_false, Nat.reduceBEq, reduceCtorEq, Nat.reduceAdd, Nat.reduceMul, Nat.reduceSub, reduceIte, Int.reduceToNat, Int.reduceEq, Int.reduceLT, Int.reduceLE, Nat.reduceLeDiff, Nat.reduceEqDiff, eq_self, and_self, s9_25]
        obtain ⟨mt3, ht3, hmt3⟩ := hC3.sp
        refine callC tcall_35 (twin_spec t _ _ mt3 x3 ht3) ?_
        rintro v4 x4 ⟨t2, mt4, rfl, ht4, hmt4, f4'⟩
        rw [hmt3] at hmt4
        have hC4 := hC3.paint (k := ca) f4' h4.ac h4.ad
        have ht4' : IsSpan x4 (fun b => paint col1 x3 x4 ca b = ca) t2 mt4 zt := ht4.born
        obtain ⟨FX4, hc4⟩ := Fr.paint (i := ca) FX3 hc1 h4.na (f4'.nob (G := fun b => col1 b = ca))
        generalize paint col1 x3 x4 ca = col4 at hC4 ht4' hc4
        (try simp (config := { maxSteps := 4000000 }) only [go_sem, beq_self_eq_true, List.getElem_toArray, List.getElem_cons_zero, List.getElem_cons_succ, decide_true, decide_false, cond_true, cond_false, Nat.reduceBEq, reduceCtorEq, Nat.reduceAdd, Nat.reduceMul, Nat.reduceSub, reduceIte, Int.reduceToNat, Int.reduceEq, Int.reduceLT, Int.reduceLE, Nat.reduceLeDiff, Nat.reduceEqDiff, eq_self, and_self])
        refine hK _ _ ?_; clear hK K
        repeat' (first | refine H_seq ?_ | refine H_block ?_ | refine H_skip ?_ | refine H_nil ?_ | refine H_exit ?_ | refine H_ret ?_ | refine B_normal ?_ | refine B_same ?_ | refine B_other rfl ?_ | refine B_ret ?_ | refine L_exit ?_ | refine L_ret ?_)
        refine H_region k9 s9_26 rfl fun K hK => ?_; simp (config := { maxSteps := 4000000 }) only [go_sem, beq_self_eq_true, List.getElem_toArray, List.getElem_cons_zero, List.getElem_cons_succ, decide_true, decide_false, cond_true, cond_false, Nat.reduceBEq, reduceCtorEq, Nat.reduceAdd, Nat.reduceMul, Nat.reduceSub, reduceIte, Int.reduceToNat, Int.reduceEq, Int.reduceLT, Int.reduceLE, Nat.reduceLeDiff, Nat.reduceEqDiff, eq_self, and_self, s9_26]
        obtain ⟨mu4, hu4, hmu4⟩ := hC4.rf
        refine callC tcall_36 (rtwin_spec u _ _ mu4 x4 hu4) ?_
        rintro v5 x5 ⟨u2, mu5, rfl, hu5, hmu5, f5'⟩
        rw [hmu4] at hmu5
        have hC5 := hC4.paint (k := cb) f5' h4.bc h4.bd
        have D5 : Both (paint col4 x4 x5 cb) ca cb t2 u2 pt zt x5 := ⟨⟨mt4, ht4'.paint (f5'.nob (G := fun b => col4 b = cb)) h4.ab.symm, hmt4⟩, ⟨mu5, hu5.born, hmu5⟩, fun b hb => paint_zero f5'.size hb⟩
        obtain ⟨FX5, hc5⟩ := Fr.paint (i := cb) FX4 hc4 h4.nb (f5'.nob (G := fun b => col4 b = cb))
        (try simp (config := { maxSteps := 4000000 }) only [go_sem, beq_self_eq_true, List.getElem_toArray, List.getElem_cons_zero, List.getElem_cons_succ, decide_true, decide_false, cond_true, cond_false, Nat.reduceBEq, reduceCtorEq, Nat.reduceAdd, Nat.reduceMul, Nat.reduceSub, reduceIte, Int.reduceToNat, Int.reduceEq, Int.reduceLT, Int.reduceLE, Nat.reduceLeDiff, Nat.reduceEqDiff, eq_self, and_self])
        refine hK _ _ ?_; clear hK K
        repeat' (first | refine H_seq ?_ | refine H_block ?_ | refine H_skip ?_ | refine H_nil ?_ | refine H_exit ?_ | refine H_ret ?_ | refine B_normal ?_ | refine B_same ?_ | refine B_other rfl ?_ | refine B_ret ?_ | refine L_exit ?_ | refine L_ret ?_)
        refine H_region k9 s9_18 rfl fun K hK => ?_; simp (config := { maxSteps := 4000000 }) only [go_sem, beq_self_eq_true, List.getElem_toArray, List.getElem_cons_zero, List.getElem_cons_succ, decide_true, decide_false, cond_true, cond_false, Nat.reduceBEq, reduceCtorEq, Nat.reduceAdd, Nat.reduceMul, Nat.reduceSub, reduceIte, Int.reduceToNat, Int.reduceEq, Int.reduceLT, Int.reduceLE, Nat.reduceLeDiff, Nat.reduceEqDiff, eq_self, and_self, s9_18]
        refine hK _ _ ?_; clear hK K
        repeat' (first | refine H_seq ?_ | refine H_block ?_ | refine H_skip ?_ | refine H_nil ?_ | refine H_exit ?_ | refine H_ret ?_ | refine B_normal ?_ | refine B_same ?_ | refine B_other rfl ?_ | refine B_ret ?_ | refine L_exit ?_ | refine L_ret ?_)
        rw [hnext]
        exact L_normal ⟨⟨i + 1, cc, cd, ca, cb, t, u, t2, u2⟩, ⟨rfl, rfl, rfl, rfl, rfl, rfl, rfl, rfl, trivial⟩, ⟨hin, h4.swap, FX5, _, _, _, _, _, hC5, D5, hc5⟩, hdec⟩
      · repeat' (first | refine H_seq ?_ | refine H_block ?_ | refine H_skip ?_ | refine H_nil ?_ | refine H_exit ?_ | refine H_ret ?_ | refine B_normal ?_ | refine B_same ?_ | refine B_other rfl ?_ | refine B_ret ?_ | refine L_exit ?_ | refine L_ret ?_)
        refine H_region k9 s9_18 rfl fun K hK => ?_; simp (config := { maxSteps := 4000000 }) only [go_sem, beq_self_eq_true, List.getElem_toArray, List.getElem_cons_zero, List.getElem_cons_succ, decide_true, decide_false, cond_true, cond_false, Nat.reduceBEq, reduceCtorEq, Nat.reduceAdd, Nat.reduceMul, Nat.reduceSub, reduceIte, Int.reduceToNat, Int.reduceEq, Int.reduceLT, Int.reduceLE, Nat.reduceLeDiff, Nat.reduceEqDiff, eq_self, and_self, s9_18]
        refine hK _ _ ?_; clear hK K
        repeat' (first | refine H_seq ?_ | refine H_block ?_ | refine H_skip ?_ | refine H_nil ?_ | refine H_exit ?_ | refine H_ret ?_ | refine B_normal ?_ | refine B_same ?_ | refine B_other rfl ?_ | refine B_ret ?_ | refine L_exit ?_ | refine L_ret ?_)
        rw [hnext]
        exact L_normal ⟨⟨i + 1, cc, cd, ca, cb, t, u, s, r⟩, ⟨rfl, rfl, rfl, rfl, rfl, rfl, rfl, rfl, trivial⟩, ⟨hin, h4.swap, FX3, col1, _, _, _, _, hC3, hB3, hc1⟩, hdec⟩
    · repeat' (first | refine H_seq ?_ | refine H_block ?_ | refine H_skip ?_ | refine H_nil ?_ | refine H_exit ?_ | refine H_ret ?_ | refine B_normal ?_ | refine B_same ?_ | refine B_other rfl ?_ | refine B_ret ?_ | refine L_exit ?_ | refine L_ret ?_)
      refine H_region k9 s9_18 rfl fun K hK => ?_; simp (config := { maxSteps := 4000000 }) only [go_sem, beq_self_eq_true, List.getElem_toArray, List.getElem_cons_zero, List.getElem_cons_succ, decide_true, decide_false, cond_true, cond_false, Nat.reduceBEq, reduceCtorEq, Nat.reduceAdd, Nat.reduceMul, Nat.reduceSub, reduceIte, Int.reduceToNat, Int.reduceEq, Int.reduceLT, Int.reduceLE, Nat.reduceLeDiff, Nat.reduceEqDiff, eq_self, and_self, s9_18]
      refine hK _ _ ?_; clear hK K
      repeat' (first | refine H_seq ?_ | refine H_block ?_ | refine H_skip ?_ | refine H_nil ?_ | refine H_exit ?_ | refine H_ret ?_ | refine B_normal ?_ | refine B_same ?_ | refine B_other rfl ?_ | refine B_ret ?_ | refine L_exit ?_ | refine L_ret ?_)
      rw [hnext]
      exact L_normal ⟨⟨i + 1, ca, cb, cc, cd, s, r, t, u⟩, ⟨rfl, rfl, rfl, rfl, rfl, rfl, rfl, rfl, trivial⟩, ⟨hin, h4, FX3, col1, _, _, _, _, hB3, hC3, hc1⟩, hdec⟩
  · refine H_condF rfl (by simpa using hin) ?_
    repeat' (first | refine H_seq ?_ | refine H_block ?_ | refine H_skip ?_ | refine H_nil ?_ | refine H_exit ?_ | refine H_ret ?_ | refine B_normal ?_ | refine B_same ?_ | refine B_other rfl ?_ | refine B_ret ?_ | refine L_exit ?_ | refine L_ret ?_)
    refine H_region k9 s9_27 rfl fun K hK => ?_; simp (config := { maxSteps := 4000000 }) only [go_sem, beq_self_eq_true, List.getElem_toArray, List.getElem_cons_zero, List.getElem_cons_succ, decide_true, decide_false, cond_true, cond_false, Nat.reduceBEq, reduceCtorEq, Nat.reduceAdd, Nat.reduceMul, Nat.reduceSub, reduceIte, Int.reduceToNat, Int.reduceEq, Int.reduceLT, Int.reduceLE, Nat.reduceLeDiff, Nat.reduceEqDiff, eq_self, and_self, s9_27]
    refine callC tcall_38 hB.same ?_
    rintro v2 x2 ⟨rfl, f2'⟩
    simp (config := { maxSteps := 4000000 }) only [go_sem, beq_self_eq_true, List.getElem_toArray, List.getElem_cons_zero, List.getElem_cons_succ, decide_true, decide_false, cond_true, cond_false, Nat.reduceBEq, reduceCtorEq, Nat.reduceAdd, Nat.reduceMul, Nat.reduceSub, reduceIte, Int.reduceToNat, Int.reduceEq, Int.reduceLT, Int.reduceLE, Nat.reduceLeDiff, Nat.reduceEqDiff, eq_self, and_self, s9_27_1]
    refine callC tcall_38 (hC.fr f2').same ?_
    rintro v3 x3 ⟨rfl, f3'⟩
    simp (config := { maxSteps := 4000000 }) only [go_sem, beq_self_eq_true, List.getElem_toArray, List.getElem_cons_zero, List.getElem_cons_succ, decide_true, decide_false, cond_true, cond_false, Nat.reduceBEq, reduceCtorEq, Nat.reduceAdd, Nat.reduceMul, Nat.reduceSub, reduceIte, Int.reduceToNat, Int.reduceEq, Int.reduceLT, Int.reduceLE, Nat.reduceLeDiff, Nat.reduceEqDiff, eq_self, and_self, s9_27_2]
    refine callC tcall_30 (swakes_spec _) ?_
    rintro v4 x4 ⟨rfl, f4'⟩
    simp (config := { maxSteps := 4000000 }) only [go_sem, beq_self_eq_true, List.getElem_toArray, List.getElem_cons_zero, List.getElem_cons_succ, decide_true, decide_false, cond_true, cond_false, Nat.reduceBEq, reduceCtorEq, Nat.reduceAdd, Nat.reduceMul, Nat.reduceSub, reduceIte, Int.reduceToNat, Int.reduceEq, Int.reduceLT, Int.reduceLE, Nat.reduceLeDiff, Nat.reduceEqDiff, eq_self, and_self, s9_27_3]
    refine hK _ _ ?_; clear hK K
    repeat' (first | refine H_seq ?_ | refine H_block ?_ | refine H_skip ?_ | refine H_nil ?_ | refine H_exit ?_ | refine H_ret ?_ | refine B_normal ?_ | refine B_same ?_ | refine B_other rfl ?_ | refine B_ret ?_ | refine L_exit ?_ | refine L_ret ?_)
    refine F_ret ?_
    (try simp (config := { maxSteps := 4000000 }) only [go_sem, beq_self_eq_true, List.getElem_toArray, List.getElem_cons_zero, List.getElem_cons_succ, decide_true, decide_false, cond_true, cond_false, Nat.reduceBEq, reduceCtorEq, Nat.reduceAdd, Nat.reduceMul, Nat.reduceSub, reduceIte, Int.reduceToNat, Int.reduceEq, Int.reduceLT, Int.reduceLE, Nat.reduceLeDiff, Nat.reduceEqDiff, eq_self, and_self])
    exact FL.trans (f2'.trans (f3'.trans f4'))
end Go.Proofs.Ytpdklpeojjkkaaa

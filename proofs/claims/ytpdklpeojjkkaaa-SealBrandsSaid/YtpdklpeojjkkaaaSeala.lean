/- mantlelaw16: SealBrands. -/
import Derived.Test.YtpdklpeojjkkaaaSeal9
namespace Go.Proofs.Ytpdklpeojjkkaaa
open Go
set_option linter.unusedVariables false
set_option linter.unusedSimpArgs false
set_option maxRecDepth 100000
set_option maxHeartbeats 2000000
structure St where
  i : Nat
  v3 : Value
  v4 : Value
  v5 : Value
  v6 : Value
  c : Nat → Nat
  bs : List (Nat × Br)
  rs : List Rb
  xs : List Nat
  hs : List Nat
def CW (c : Nat → Nat) (u : World) (b : Nat) (cs : List Value) : Prop := W u b cs ∧ c b = 0
theorem CW.keep {c : Nat → Nat} {u u' : World} {b q : Nat} {cs : List Value} {G : Nat → Prop} (k : CW c u b cs) (f : Fr G u u') (hg : ∀ b, G b → c b ≠ 0) : CW (paint c u q) u' b cs :=
  ⟨k.1.fr f (fun hG => hg _ hG k.2), by rw [paint_old k.1.lt]; exact k.2⟩
theorem Inv.at {w u : World} {l : List Mk} {i : Nat} {c : Nat → Nat} {v3 v4 v5 v6 : Value} {bs : List (Nat × Br)} {rs : List Rb} {xs hs : List Nat} (h : Inv w l i c v3 v4 v5 v6 bs rs xs hs u) (j : Nat) : Inv w l j c v3 v4 v5 v6 bs rs xs hs u :=
  ⟨h.f, h.new, h.o3, h.o4, h.o5, h.o6, h.br, h.bx, h.ow, h.rf⟩
theorem Fr.cell {w u : World} {b o : Nat} (f : Fr Nob w u) (hb : b < w.heap.size) : u.cell? ⟨b, o, none⟩ = w.cell? ⟨b, o, none⟩ := by
  simp only [World.cell?, f.same b hb (fun q => q)]
theorem hptrEqN (w : World) (a : Addr) : ptrEq Try.prog w 36 (.pointer none) (.pointer (some a)) = some false := by
  unfold ptrEq
  simp [Try.underlying36]
theorem brSame {mi mk : Mk} {x y : Br} {i k : Nat} (hx : BrK mi x) (hy : BrK mk y) (h1 : ∀ o, x = .own o → y = .own o → i = k) (h2 : i = k → x = y) :
    x.same y = rSame (kindOf mi.1, (i : Int), mi.2) (kindOf mk.1, (k : Int), mk.2) := by
  cases x with
  | own o =>
    have hx : mi.1 = 0 := hx
    cases y with
    | own o' =>
      have hy : mk.1 = 0 := hy
      simp only [Br.same, rSame, kindOf, hx, hy, if_true]
      by_cases e : i = k
      · have := h2 e
        cases this
        simp [e]
      · have : ¬ o = o' := fun e' => e (h1 o rfl (by rw [e']))
        simp [this]; omega
    | plain s =>
      have hy : mk.1 = 1 := hy.1
      simp [Br.same, rSame, kindOf, hx, hy]
    | odd v =>
      have hy1 : mk.1 ≠ 0 := hy.1
      have hy2 : mk.1 ≠ 1 := hy.2
      simp [Br.same, rSame, kindOf, hx, hy1, hy2]
  | plain s =>
    have hx1 : mi.1 = 1 := hx.1
    have hx2 : s = mi.2 := hx.2
    cases y with
    | own o' =>
      have hy : mk.1 = 0 := hy
      simp [Br.same, rSame, kindOf, hx1, hy]
    | plain s' =>
      have hy1 : mk.1 = 1 := hy.1
      have hy2 : s' = mk.2 := hy.2
      simp [Br.same, rSame, kindOf, hx1, hy1, hx2, hy2]
    | odd v =>
      have hy1 : mk.1 ≠ 0 := hy.1
      have hy2 : mk.1 ≠ 1 := hy.2
      simp [Br.same, rSame, kindOf, hx1, hy1, hy2]
  | odd v =>
    have hx1 : mi.1 ≠ 0 := hx.1
    have hx2 : mi.1 ≠ 1 := hx.2
    cases y with
    | own o' =>
      have hy : mk.1 = 0 := hy
      simp [Br.same, rSame, kindOf, hx1, hx2, hy]
    | plain s' =>
      have hy1 : mk.1 = 1 := hy.1
      simp [Br.same, rSame, kindOf, hx1, hx2, hy1]
    | odd v =>
      have hy1 : mk.1 ≠ 0 := hy.1
      have hy2 : mk.1 ≠ 1 := hy.2
      simp [Br.same, rSame, kindOf, hx1, hx2, hy1, hy2]
theorem sealBrands_spec (a : Option Addr) (n cap : Nat) (l : List Mk) (w : World) (hv : Row w (.slice a n cap) 2 (l.flatMap Mk.cells)) :
    CallsE Try.prog 3 [.slice a n cap] w fun r u => r = .bool true ∧ Fr Nob w u := by
  obtain ⟨hn, hel⟩ := hv.elem (Mk.len l) (by omega)
  refine enter Try.func3 rfl Try.results3 Try.ntmps3 rfl ?_
  repeat' (first | refine H_seq ?_ | refine H_block ?_ | refine H_skip ?_ | refine H_nil ?_ | refine H_exit ?_ | refine H_ret ?_ | refine B_normal ?_ | refine B_same ?_ | refine B_other rfl ?_ | refine B_ret ?_ | refine L_exit ?_ | refine L_ret ?_)
  refine H_region k3 s3_0 rfl fun K hK => ?_; simp (config := { maxSteps := 4000000 }) only [go_sem, beq_self_eq_true, List.getElem_toArray, List.getElem_cons_zero, List.getElem_cons_succ, decide_true, decide_false, cond_true, cond_false, Nat.reduceBEq, reduceCtorEq, Nat.reduceAdd, Nat.reduceMul, Nat.reduceSub, reduceIte, Int.reduceToNat, Int.reduceEq, Int.reduceLT, Int.reduceLE, Nat.reduceLeDiff, Nat.reduceEqDiff, eq_self, and_self, s3_0]
  refine hK _ _ ?_; clear hK K
  repeat' (first | refine H_seq ?_ | refine H_block ?_ | refine H_skip ?_ | refine H_nil ?_ | refine H_exit ?_ | refine H_ret ?_ | refine B_normal ?_ | refine B_same ?_ | refine B_other rfl ?_ | refine B_ret ?_ | refine L_exit ?_ | refine L_ret ?_)
  refine H_region k3 s3_1 rfl fun K hK => ?_; simp (config := { maxSteps := 4000000 }) only [go_sem, beq_self_eq_true, List.getElem_toArray, List.getElem_cons_zero, List.getElem_cons_succ, decide_true, decide_false, cond_true, cond_false, Nat.reduceBEq, reduceCtorEq, Nat.reduceAdd, Nat.reduceMul, Nat.reduceSub, reduceIte, Int.reduceToNat, Int.reduceEq, Int.reduceLT, Int.reduceLE, Nat.reduceLeDiff, Nat.reduceEqDiff, eq_self, and_self, s3_1]
  refine callC tcall_12 (great_spec a n cap l _ hv) ?_
  rintro v1 w1 ⟨gr, rfl, hgr, f1⟩
  (try simp (config := { maxSteps := 4000000 }) only [go_sem, beq_self_eq_true, List.getElem_toArray, List.getElem_cons_zero, List.getElem_cons_succ, decide_true, decide_false, cond_true, cond_false, Nat.reduceBEq, reduceCtorEq, Nat.reduceAdd, Nat.reduceMul, Nat.reduceSub, reduceIte, Int.reduceToNat, Int.reduceEq, Int.reduceLT, Int.reduceLE, Nat.reduceLeDiff, Nat.reduceEqDiff, eq_self, and_self])
  refine hK _ _ ?_; clear hK K
  repeat' (first | refine H_seq ?_ | refine H_block ?_ | refine H_skip ?_ | refine H_nil ?_ | refine H_exit ?_ | refine H_ret ?_ | refine B_normal ?_ | refine B_same ?_ | refine B_other rfl ?_ | refine B_ret ?_ | refine L_exit ?_ | refine L_ret ?_)
  cases gr with
  | true =>
    refine H_condT rfl rfl ?_
    repeat' (first | refine H_seq ?_ | refine H_block ?_ | refine H_skip ?_ | refine H_nil ?_ | refine H_exit ?_ | refine H_ret ?_ | refine B_normal ?_ | refine B_same ?_ | refine B_other rfl ?_ | refine B_ret ?_ | refine L_exit ?_ | refine L_ret ?_)
    refine H_region k3 s3_2 rfl fun K hK => ?_; simp (config := { maxSteps := 4000000 }) only [go_sem, beq_self_eq_true, List.getElem_toArray, List.getElem_cons_zero, List.getElem_cons_succ, decide_true, decide_false, cond_true, cond_false, Nat.reduceBEq, reduceCtorEq, Nat.reduceAdd, Nat.reduceMul, Nat.reduceSub, reduceIte, Int.reduceToNat, Int.reduceEq, Int.reduceLT, Int.reduceLE, Nat.reduceLeDiff, Nat.reduceEqDiff, eq_self, and_self, s3_2]
    refine callC tcall_13 (wakes_spec _) ?_
    rintro v2 w2 ⟨rfl, f2⟩
    (try simp (config := { maxSteps := 4000000 }) only [go_sem, beq_self_eq_true, List.getElem_toArray, List.getElem_cons_zero, List.getElem_cons_succ, decide_true, decide_false, cond_true, cond_false, Nat.reduceBEq, reduceCtorEq, Nat.reduceAdd, Nat.reduceMul, Nat.reduceSub, reduceIte, Int.reduceToNat, Int.reduceEq, Int.reduceLT, Int.reduceLE, Nat.reduceLeDiff, Nat.reduceEqDiff, eq_self, and_self])
    refine hK _ _ ?_; clear hK K
    repeat' (first | refine H_seq ?_ | refine H_block ?_ | refine H_skip ?_ | refine H_nil ?_ | refine H_exit ?_ | refine H_ret ?_ | refine B_normal ?_ | refine B_same ?_ | refine B_other rfl ?_ | refine B_ret ?_ | refine L_exit ?_ | refine L_ret ?_)
    refine F_ret ?_
    (try simp (config := { maxSteps := 4000000 }) only [go_sem, beq_self_eq_true, List.getElem_toArray, List.getElem_cons_zero, List.getElem_cons_succ, decide_true, decide_false, cond_true, cond_false, Nat.reduceBEq, reduceCtorEq, Nat.reduceAdd, Nat.reduceMul, Nat.reduceSub, reduceIte, Int.reduceToNat, Int.reduceEq, Int.reduceLT, Int.reduceLE, Nat.reduceLeDiff, Nat.reduceEqDiff, eq_self, and_self])
    exact f1.trans f2
  | false =>
  have hn40 := hgr rfl
  refine H_condF rfl rfl ?_
  repeat' (first | refine H_seq ?_ | refine H_block ?_ | refine H_skip ?_ | refine H_nil ?_ | refine H_exit ?_ | refine H_ret ?_ | refine B_normal ?_ | refine B_same ?_ | refine B_other rfl ?_ | refine B_ret ?_ | refine L_exit ?_ | refine L_ret ?_)
  refine H_region k3 s3_3 rfl fun K hK => ?_; simp (config := { maxSteps := 4000000 }) only [go_sem, beq_self_eq_true, List.getElem_toArray, List.getElem_cons_zero, List.getElem_cons_succ, decide_true, decide_false, cond_true, cond_false, Nat.reduceBEq, reduceCtorEq, Nat.reduceAdd, Nat.reduceMul, Nat.reduceSub, reduceIte, Int.reduceToNat, Int.reduceEq, Int.reduceLT, Int.reduceLE, Nat.reduceLeDiff, Nat.reduceEqDiff, eq_self, and_self, s3_3]
  refine hK _ _ ?_; clear hK K
  repeat' (first | refine H_seq ?_ | refine H_block ?_ | refine H_skip ?_ | refine H_nil ?_ | refine H_exit ?_ | refine H_ret ?_ | refine B_normal ?_ | refine B_same ?_ | refine B_other rfl ?_ | refine B_ret ?_ | refine L_exit ?_ | refine L_ret ?_)
  refine H_region k3 s3_4 rfl fun K hK => ?_; simp (config := { maxSteps := 4000000 }) only [go_sem, beq_self_eq_true, List.getElem_toArray, List.getElem_cons_zero, List.getElem_cons_succ, decide_true, decide_false, cond_true, cond_false, Nat.reduceBEq, reduceCtorEq, Nat.reduceAdd, Nat.reduceMul, Nat.reduceSub, reduceIte, Int.reduceToNat, Int.reduceEq, Int.reduceLT, Int.reduceLE, Nat.reduceLeDiff, Nat.reduceEqDiff, eq_self, and_self, s3_4]
  refine hK _ _ ?_; clear hK K
  repeat' (first | refine H_seq ?_ | refine H_block ?_ | refine H_skip ?_ | refine H_nil ?_ | refine H_exit ?_ | refine H_ret ?_ | refine B_normal ?_ | refine B_same ?_ | refine B_other rfl ?_ | refine B_ret ?_ | refine L_exit ?_ | refine L_ret ?_)
  refine H_region k3 s3_5 rfl fun K hK => ?_; simp (config := { maxSteps := 4000000 }) only [go_sem, beq_self_eq_true, List.getElem_toArray, List.getElem_cons_zero, List.getElem_cons_succ, decide_true, decide_false, cond_true, cond_false, Nat.reduceBEq, reduceCtorEq, Nat.reduceAdd, Nat.reduceMul, Nat.reduceSub, reduceIte, Int.reduceToNat, Int.reduceEq, Int.reduceLT, Int.reduceLE, Nat.reduceLeDiff, Nat.reduceEqDiff, eq_self, and_self, s3_5]
  refine hK _ _ ?_; clear hK K
  repeat' (first | refine H_seq ?_ | refine H_block ?_ | refine H_skip ?_ | refine H_nil ?_ | refine H_exit ?_ | refine H_ret ?_ | refine B_normal ?_ | refine B_same ?_ | refine B_other rfl ?_ | refine B_ret ?_ | refine L_exit ?_ | refine L_ret ?_)
  refine H_region k3 s3_6 rfl fun K hK => ?_; simp (config := { maxSteps := 4000000 }) only [go_sem, beq_self_eq_true, List.getElem_toArray, List.getElem_cons_zero, List.getElem_cons_succ, decide_true, decide_false, cond_true, cond_false, Nat.reduceBEq, reduceCtorEq, Nat.reduceAdd, Nat.reduceMul, Nat.reduceSub, reduceIte, Int.reduceToNat, Int.reduceEq, Int.reduceLT, Int.reduceLE, Nat.reduceLeDiff, Nat.reduceEqDiff, eq_self, and_self, s3_6]
  refine hK _ _ ?_; clear hK K
  repeat' (first | refine H_seq ?_ | refine H_block ?_ | refine H_skip ?_ | refine H_nil ?_ | refine H_exit ?_ | refine H_ret ?_ | refine B_normal ?_ | refine B_same ?_ | refine B_other rfl ?_ | refine B_ret ?_ | refine L_exit ?_ | refine L_ret ?_)
  refine H_region k3 s3_7 rfl fun K hK => ?_; simp (config := { maxSteps := 4000000 }) only [go_sem, beq_self_eq_true, List.getElem_toArray, List.getElem_cons_zero, List.getElem_cons_succ, decide_true, decide_false, cond_true, cond_false, Nat.reduceBEq, reduceCtorEq, Nat.reduceAdd, Nat.reduceMul, Nat.reduceSub, reduceIte, Int.reduceToNat, Int.reduceEq, Int.reduceLT, Int.reduceLE, Nat.reduceLeDiff, Nat.reduceEqDiff, eq_self, and_self, s3_7]
  refine hK _ _ ?_; clear hK K
  repeat' (first | refine H_seq ?_ | refine H_block ?_ | refine H_skip ?_ | refine H_nil ?_ | refine H_exit ?_ | refine H_ret ?_ | refine B_normal ?_ | refine B_same ?_ | refine B_other rfl ?_ | refine B_ret ?_ | refine L_exit ?_ | refine L_ret ?_)
  have hI0 : Inv w l 0 (fun _ => 0) (.slice none 0 0) (.slice none 0 0) (.slice none 0 0) (.slice none 0 0) [] [] [] [] w1 :=
    ⟨f1, fun b h => absurd rfl h, ⟨Own.nil _ _, fun b h => by cases h⟩, ⟨Own.nil _ _, fun b h => by cases h⟩, ⟨Own.nil _ _, fun b h => by cases h⟩, ⟨Own.nil _ _, fun b h => by cases h⟩,
      fun j p h => by simp at h, fun j p x h a => by simp at a, fun j j' p p' o h => by simp at h, fun j m h => by simp at h⟩
  refine H_loop (fun s : St => [(0, .slice a n cap), (3, s.v3), (4, s.v4), (5, s.v5), (6, s.v6), (7, .int .i64 s.i)])
    (fun s u => Inv w l s.i s.c s.v3 s.v4 s.v5 s.v6 s.bs s.rs s.xs s.hs u ∧ s.i ≤ n ∧ s.bs.length = s.i ∧ s.rs.length = s.i ∧ s.xs.length = s.i ∧ s.hs.length = s.i)
    (fun s => n - s.i) ⟨0, _, _, _, _, _, [], [], [], []⟩ ⟨rfl, rfl, rfl, rfl, rfl, rfl, trivial⟩ ⟨hI0, Nat.zero_le _, rfl, rfl, rfl, rfl⟩ ?_
  rintro ⟨i, v3, v4, v5, v6, c, bs, rs, xs, hs⟩ u ⟨hI, hi, hbl, hrl, hxl, hhl⟩
  simp only at hI hi hbl hrl hxl hhl
  repeat' (first | refine H_seq ?_ | refine H_block ?_ | refine H_skip ?_ | refine H_nil ?_ | refine H_exit ?_ | refine H_ret ?_ | refine B_normal ?_ | refine B_same ?_ | refine B_other rfl ?_ | refine B_ret ?_ | refine L_exit ?_ | refine L_ret ?_)
  refine H_region k3 s3_8 rfl fun K hK => ?_; simp (config := { maxSteps := 4000000 }) only [go_sem, beq_self_eq_true, List.getElem_toArray, List.getElem_cons_zero, List.getElem_cons_succ, decide_true, decide_false, cond_true, cond_false, Nat.reduceBEq, reduceCtorEq, Nat.reduceAdd, Nat.reduceMul, Nat.reduceSub, reduceIte, Int.reduceToNat, Int.reduceEq, Int.reduceLT, Int.reduceLE, Nat.reduceLeDiff, Nat.reduceEqDiff, eq_self, and_self, s3_8]
  refine hK _ _ ?_; clear hK K
  repeat' (first | refine H_seq ?_ | refine H_block ?_ | refine H_skip ?_ | refine H_nil ?_ | refine H_exit ?_ | refine H_ret ?_ | refine B_normal ?_ | refine B_same ?_ | refine B_other rfl ?_ | refine B_ret ?_ | refine L_exit ?_ | refine L_ret ?_)
  by_cases hin : i < n
  · refine H_condT rfl (by simpa using hin) ?_
    repeat' (first | refine H_seq ?_ | refine H_block ?_ | refine H_skip ?_ | refine H_nil ?_ | refine H_exit ?_ | refine H_ret ?_ | refine B_normal ?_ | refine B_same ?_ | refine B_other rfl ?_ | refine B_ret ?_ | refine L_exit ?_ | refine L_ret ?_)
    obtain ⟨b, o, rfl, hb, hcl⟩ := (hv.fr hI.f (fun _ _ q => q)).elem (Mk.len l) (by omega) |>.2 (by omega)
    obtain ⟨m, hm⟩ : ∃ m, l[i]? = some m := ⟨l[i]'(by omega), List.getElem?_eq_getElem _⟩
    have hc0 : u.cell? ⟨b, o + i * 2, none⟩ = some (.int .i64 m.1) := hcl i m hm 0 (by omega)
    have hc1 : u.cell? ⟨b, o + i * 2 + 1, none⟩ = some (.string m.2) := hcl i m hm 1 (by omega)
    refine H_region k3 s3_10 rfl fun K hK => ?_; simp (config := { maxSteps := 4000000 }) only [go_sem, beq_self_eq_true, List.getElem_toArray, List.getElem_cons_zero, List.getElem_cons_succ, decide_true, decide_false, cond_true, cond_false, Nat.reduceBEq, reduceCtorEq, Nat.reduceAdd, Nat.reduceMul, Nat.reduceSub, reduceIte, Int.reduceToNat, Int.reduceEq, Int.reduceLT, Int.reduceLE, Nat.reduceLeDiff, Nat.reduceEqDiff, eq_self, and_self, s3_10, hc0, hc1]
    refine ⟨⟨by omega, by omega⟩, callC tcall_14 (made_specF m.1 i m.2 _) ?_⟩
    rintro v2 w2 ⟨bb, x, rfl, hbn, hbr, hbo, f2⟩
    simp (config := { maxSteps := 4000000 }) only [go_sem, beq_self_eq_true, List.getElem_toArray, List.getElem_cons_zero, List.getElem_cons_succ, decide_true, decide_false, cond_true, cond_false, Nat.reduceBEq, reduceCtorEq, Nat.reduceAdd, Nat.reduceMul, Nat.reduceSub, reduceIte, Int.reduceToNat, Int.reduceEq, Int.reduceLT, Int.reduceLE, Nat.reduceLeDiff, Nat.reduceEqDiff, eq_self, and_self, s3_10_1]
    intro b9 w3 h3
    refine ⟨_, h3.blk, by simp, ?_⟩
    (try simp (config := { maxSteps := 4000000 }) only [go_sem, beq_self_eq_true, List.getElem_toArray, List.getElem_cons_zero, List.getElem_cons_succ, decide_true, decide_false, cond_true, cond_false, Nat.reduceBEq, reduceCtorEq, Nat.reduceAdd, Nat.reduceMul, Nat.reduceSub, reduceIte, Int.reduceToNat, Int.reduceEq, Int.reduceLT, Int.reduceLE, Nat.reduceLeDiff, Nat.reduceEqDiff, eq_self, and_self])
    intro w4 h4
    have h3n := h3.num
    have f2s := f2.size
    have f4 : Fr Nob u w4 := (f2.trans h3.fr).put h4 (.inl (by omega))
    have hbr4 : CBr (paint c u 0) w4 (bb, x) := by
      refine ⟨(hbr.fr h3.fr).put h3.blk rfl (fun o ho => ?_) h4, paint_new hbn, fun o ho => ?_⟩
      · have := hbr.own_lt ho; omega
      · simp only at ho; subst ho; exact paint_new hbo.2.1
    have hc9 : CW (paint c u 0) w4 b9 [.int .i64 (kindOf m.1), .int .i64 i, .string m.2] := ⟨h4.blk, paint_new (by omega)⟩
    have hI4 := hI.keep f4
    have hown : ∀ (j : Nat) (q : Nat × Br) (o : Nat), bs[j]? = some q → q.2 = .own o → x ≠ .own o := fun j q o hq ho e => by
      subst e
      have h1 := ((hI.br j q hq).1.1.own_lt ho)
      have h2 := hbo.2.1
      omega
    generalize hc4 : paint c u 0 = c4 at *
    clear hI hbr h3 h4 f2 f4 hc0 hc1 hcl
    refine hK _ _ ?_; clear hK K
    repeat' (first | refine H_seq ?_ | refine H_block ?_ | refine H_skip ?_ | refine H_nil ?_ | refine H_exit ?_ | refine H_ret ?_ | refine B_normal ?_ | refine B_same ?_ | refine B_other rfl ?_ | refine B_ret ?_ | refine L_exit ?_ | refine L_ret ?_)
    have hwr : IntKind.u8.wrap (i : Int) = ((UInt8.ofNat i).toNat : Int) := by
      rw [UInt8.toNat_ofNat']
      simp [IntKind.wrap, IntKind.signed, IntKind.bits]
    refine H_region k3 s3_11 rfl fun K hK => ?_; simp (config := { maxSteps := 4000000 }) only [go_sem, beq_self_eq_true, List.getElem_toArray, List.getElem_cons_zero, List.getElem_cons_succ, decide_true, decide_false, cond_true, cond_false, Nat.reduceBEq, reduceCtorEq, Nat.reduceAdd, Nat.reduceMul, Nat.reduceSub, reduceIte, Int.reduceToNat, Int.reduceEq, Int.reduceLT, Int.reduceLE, Nat.reduceLeDiff, Nat.reduceEqDiff, eq_self, and_self, s3_11, Try.underlying3]
    intro b5 w5 h5
    rw [hwr] at h5
    refine callC tcall_15 (mnew_spec (some ⟨b5, 0, none⟩) 1 1 [UInt8.ofNat i] 0 w5 ⟨_, _, _, rfl, rfl, Nat.le_refl _, .inr ⟨b5, 0, _, rfl, h5.blk.r, by simp, rfl⟩⟩ (by simp) (by decide) (by decide)) ?_
    rintro v6' w6 ⟨h, fb, f, s, ms, rfl, hmem, hspan, hms, f6⟩
    (try simp (config := { maxSteps := 4000000 }) only [go_sem, beq_self_eq_true, List.getElem_toArray, List.getElem_cons_zero, List.getElem_cons_succ, decide_true, decide_false, cond_true, cond_false, Nat.reduceBEq, reduceCtorEq, Nat.reduceAdd, Nat.reduceMul, Nat.reduceSub, reduceIte, Int.reduceToNat, Int.reduceEq, Int.reduceLT, Int.reduceLE, Nat.reduceLeDiff, Nat.reduceEqDiff, eq_self, and_self])
    have f56 : Fr Nob w4 w6 := h5.fr.trans f6
    clear hmem hspan hms h5 f6
    refine hK _ _ ?_; clear hK K
    repeat' (first | refine H_seq ?_ | refine H_block ?_ | refine H_skip ?_ | refine H_nil ?_ | refine H_exit ?_ | refine H_ret ?_ | refine B_normal ?_ | refine B_same ?_ | refine B_other rfl ?_ | refine B_ret ?_ | refine L_exit ?_ | refine L_ret ?_)
    refine H_region k3 s3_12 rfl fun K hK => ?_; simp (config := { maxSteps := 4000000 }) only [go_sem, beq_self_eq_true, List.getElem_toArray, List.getElem_cons_zero, List.getElem_cons_succ, decide_true, decide_false, cond_true, cond_false, Nat.reduceBEq, reduceCtorEq, Nat.reduceAdd, Nat.reduceMul, Nat.reduceSub, reduceIte, Int.reduceToNat, Int.reduceEq, Int.reduceLT, Int.reduceLE, Nat.reduceLeDiff, Nat.reduceEqDiff, eq_self, and_self, s3_12, Try.underlying29]
    refine hK _ _ ?_; clear hK K
    repeat' (first | refine H_seq ?_ | refine H_block ?_ | refine H_skip ?_ | refine H_nil ?_ | refine H_exit ?_ | refine H_ret ?_ | refine B_normal ?_ | refine B_same ?_ | refine B_other rfl ?_ | refine B_ret ?_ | refine L_exit ?_ | refine L_ret ?_)
    refine H_condF rfl rfl ?_
    repeat' (first | refine H_seq ?_ | refine H_block ?_ | refine H_skip ?_ | refine H_nil ?_ | refine H_exit ?_ | refine H_ret ?_ | refine B_normal ?_ | refine B_same ?_ | refine B_other rfl ?_ | refine B_ret ?_ | refine L_exit ?_ | refine L_ret ?_)
    refine H_region k3 s3_14 rfl fun K hK => ?_; simp (config := { maxSteps := 4000000 }) only [go_sem, beq_self_eq_true, List.getElem_toArray, List.getElem_cons_zero, List.getElem_cons_succ, decide_true, decide_false, cond_true, cond_false, Nat.reduceBEq, reduceCtorEq, Nat.reduceAdd, Nat.reduceMul, Nat.reduceSub, reduceIte, Int.reduceToNat, Int.reduceEq, Int.reduceLT, Int.reduceLE, Nat.reduceLeDiff, Nat.reduceEqDiff, eq_self, and_self, s3_14]
    refine callC tcall_16 (seal_specF bb h _) ?_
    rintro v7 w7 ⟨xb, rfl, hxn, hxb, f7⟩
    (try simp (config := { maxSteps := 4000000 }) only [go_sem, beq_self_eq_true, List.getElem_toArray, List.getElem_cons_zero, List.getElem_cons_succ, decide_true, decide_false, cond_true, cond_false, Nat.reduceBEq, reduceCtorEq, Nat.reduceAdd, Nat.reduceMul, Nat.reduceSub, reduceIte, Int.reduceToNat, Int.reduceEq, Int.reduceLT, Int.reduceLE, Nat.reduceLeDiff, Nat.reduceEqDiff, eq_self, and_self])
    refine hK _ _ ?_; clear hK K
    repeat' (first | refine H_seq ?_ | refine H_block ?_ | refine H_skip ?_ | refine H_nil ?_ | refine H_exit ?_ | refine H_ret ?_ | refine B_normal ?_ | refine B_same ?_ | refine B_other rfl ?_ | refine B_ret ?_ | refine L_exit ?_ | refine L_ret ?_)
    refine H_region k3 s3_15 rfl fun K hK => ?_; simp (config := { maxSteps := 4000000 }) only [go_sem, beq_self_eq_true, List.getElem_toArray, List.getElem_cons_zero, List.getElem_cons_succ, decide_true, decide_false, cond_true, cond_false, Nat.reduceBEq, reduceCtorEq, Nat.reduceAdd, Nat.reduceMul, Nat.reduceSub, reduceIte, Int.reduceToNat, Int.reduceEq, Int.reduceLT, Int.reduceLE, Nat.reduceLeDiff, Nat.reduceEqDiff, eq_self, and_self, s3_15, Try.underlying41]
    refine callC tcall_16 (seal_nil (some bb) none (.inr rfl) _) ?_
    rintro v8 w8 ⟨rfl, rfl⟩
    simp (config := { maxSteps := 4000000 }) only [go_sem, beq_self_eq_true, List.getElem_toArray, List.getElem_cons_zero, List.getElem_cons_succ, decide_true, decide_false, cond_true, cond_false, Nat.reduceBEq, reduceCtorEq, Nat.reduceAdd, Nat.reduceMul, Nat.reduceSub, reduceIte, Int.reduceToNat, Int.reduceEq, Int.reduceLT, Int.reduceLE, Nat.reduceLeDiff, Nat.reduceEqDiff, eq_self, and_self, s3_15_1, Try.underlying41]
    refine hK _ _ ?_; clear hK K
    repeat' (first | refine H_seq ?_ | refine H_block ?_ | refine H_skip ?_ | refine H_nil ?_ | refine H_exit ?_ | refine H_ret ?_ | refine B_normal ?_ | refine B_same ?_ | refine B_other rfl ?_ | refine B_ret ?_ | refine L_exit ?_ | refine L_ret ?_)
    refine H_condF rfl rfl ?_
    repeat' (first | refine H_seq ?_ | refine H_block ?_ | refine H_skip ?_ | refine H_nil ?_ | refine H_exit ?_ | refine H_ret ?_ | refine B_normal ?_ | refine B_same ?_ | refine B_other rfl ?_ | refine B_ret ?_ | refine L_exit ?_ | refine L_ret ?_)
    have f47 := f56.trans f7
    have hI7 := hI4.keep f47
    have hbr7 := hbr4.keep (q := 0) f47 (fun _ q => q.elim)
    have hc97 := hc9.keep (q := 0) f47 (fun _ q => q.elim)
    have hbx7 : CBx (paint c4 w4 0) w8 xb bb h := ⟨hxb, paint_new (Nat.le_trans f56.size hxn)⟩
    generalize hc7 : paint c4 w4 0 = c7 at *
    clear hI4 hbr4 hc9 hxb hxn f7 f47 f56 hc7 hc4
    refine H_region k3 s3_17 rfl fun K hK => ?_; simp (config := { maxSteps := 4000000 }) only [go_sem, beq_self_eq_true, List.getElem_toArray, List.getElem_cons_zero, List.getElem_cons_succ, decide_true, decide_false, cond_true, cond_false, Nat.reduceBEq, reduceCtorEq, Nat.reduceAdd, Nat.reduceMul, Nat.reduceSub, reduceIte, Int.reduceToNat, Int.reduceEq, Int.reduceLT, Int.reduceLE, Nat.reduceLeDiff, Nat.reduceEqDiff, eq_self, and_self, s3_17]
    intro t3 wa3 hN3
    refine appendC tsl_25 rfl rfl (hI7.o3.1.fr hN3.fr (fun _ _ q => q)) (Own.of_new (n := 1) hN3 rfl (by decide)).row (by simp [Value.oneCell']) (by simp [flat_len Rb.cells 3 rs (fun _ _ => rfl)]; omega) ?_
    intro v3' wb3 ho3 hf3 hb3
    refine hK _ _ ?_; clear hK K
    repeat' (first | refine H_seq ?_ | refine H_block ?_ | refine H_skip ?_ | refine H_nil ?_ | refine H_exit ?_ | refine H_ret ?_ | refine B_normal ?_ | refine B_same ?_ | refine B_other rfl ?_ | refine B_ret ?_ | refine L_exit ?_ | refine L_ret ?_)
    have ka3 := hI7.keep hN3.fr
    have hbra3 := hbr7.keep (q := 0) hN3.fr (fun _ q => q.elim)
    have hc9a3 := hc97.keep (q := 0) hN3.fr (fun _ q => q.elim)
    have hbxa3 := hbx7.keep (q := 0) hN3.fr (fun _ q => q.elim)
    have hI13 := ka3.app3 hf3 (by simpa using ho3) hb3 hbra3 (by rw [hbl]; exact hm) hbo.k (by simpa using hown) (by omega)
    have hbr13 := hbra3.keep (q := 3) hf3 (fun b e => by rw [ka3.o3.2 b e]; decide)
    have hc913 := hc9a3.keep (q := 3) hf3 (fun b e => by rw [ka3.o3.2 b e]; decide)
    have hbx13 := hbxa3.keep (q := 3) hf3 (fun b e => by rw [ka3.o3.2 b e]; decide)
    refine H_region k3 s3_18 rfl fun K hK => ?_; simp (config := { maxSteps := 4000000 }) only [go_sem, beq_self_eq_true, List.getElem_toArray, List.getElem_cons_zero, List.getElem_cons_succ, decide_true, decide_false, cond_true, cond_false, Nat.reduceBEq, reduceCtorEq, Nat.reduceAdd, Nat.reduceMul, Nat.reduceSub, reduceIte, Int.reduceToNat, Int.reduceEq, Int.reduceLT, Int.reduceLE, Nat.reduceLeDiff, Nat.reduceEqDiff, eq_self, and_self, s3_18, hc913.1.cell]
    intro t4 wa4 hN4
    refine appendC tsl_26 rfl rfl (hI13.o4.1.fr hN4.fr (fun _ _ q => q)) (Own.of_new (n := 1) hN4 rfl (by decide)).row (by simp [Value.oneCell']) (by simp [flat_len Rb.cells 3 rs (fun _ _ => rfl)]; omega) ?_
    intro v4' wb4 ho4 hf4 hb4
    refine hK _ _ ?_; clear hK K
    repeat' (first | refine H_seq ?_ | refine H_block ?_ | refine H_skip ?_ | refine H_nil ?_ | refine H_exit ?_ | refine H_ret ?_ | refine B_normal ?_ | refine B_same ?_ | refine B_other rfl ?_ | refine B_ret ?_ | refine L_exit ?_ | refine L_ret ?_)
    have ka4 := hI13.keep hN4.fr
    have hbxa4 := hbx13.keep (q := 0) hN4.fr (fun _ q => q.elim)
    have hI14 := ka4.app4 (r := (kindOf m.1, (i : Int), m.2)) hf4 (by simpa [Rb.cells] using ho4) hb4 (fun m2 hm2 => by rw [hrl, hm] at hm2; cases hm2; rw [hrl])
    have hbx14 := hbxa4.keep (q := 4) hf4 (fun b e => by rw [ka4.o4.2 b e]; decide)
    refine H_region k3 s3_19 rfl fun K hK => ?_; simp (config := { maxSteps := 4000000 }) only [go_sem, beq_self_eq_true, List.getElem_toArray, List.getElem_cons_zero, List.getElem_cons_succ, decide_true, decide_false, cond_true, cond_false, Nat.reduceBEq, reduceCtorEq, Nat.reduceAdd, Nat.reduceMul, Nat.reduceSub, reduceIte, Int.reduceToNat, Int.reduceEq, Int.reduceLT, Int.reduceLE, Nat.reduceLeDiff, Nat.reduceEqDiff, eq_self, and_self, s3_19]
    intro t5 wa5 hN5
    refine appendC tsl_27 rfl rfl (hI14.o5.1.fr hN5.fr (fun _ _ q => q)) (Own.of_new (n := 1) hN5 rfl (by decide)).row (by simp [Value.oneCell']) (by simp [flat_len Rb.cells 3 rs (fun _ _ => rfl)]; omega) ?_
    intro v5' wb5 ho5 hf5 hb5
    refine hK _ _ ?_; clear hK K
    repeat' (first | refine H_seq ?_ | refine H_block ?_ | refine H_skip ?_ | refine H_nil ?_ | refine H_exit ?_ | refine H_ret ?_ | refine B_normal ?_ | refine B_same ?_ | refine B_other rfl ?_ | refine B_ret ?_ | refine L_exit ?_ | refine L_ret ?_)
    have ka5 := hI14.keep hN5.fr
    have hbxa5 := hbx14.keep (q := 0) hN5.fr (fun _ q => q.elim)
    have hI15 := ka5.app5 hf5 (by simpa using ho5) hb5 (by omega)
    have hbx15 := hbxa5.keep (q := 5) hf5 (fun b e => by rw [ka5.o5.2 b e]; decide)
    refine H_region k3 s3_20 rfl fun K hK => ?_; simp (config := { maxSteps := 4000000 }) only [go_sem, beq_self_eq_true, List.getElem_toArray, List.getElem_cons_zero, List.getElem_cons_succ, decide_true, decide_false, cond_true, cond_false, Nat.reduceBEq, reduceCtorEq, Nat.reduceAdd, Nat.reduceMul, Nat.reduceSub, reduceIte, Int.reduceToNat, Int.reduceEq, Int.reduceLT, Int.reduceLE, Nat.reduceLeDiff, Nat.reduceEqDiff, eq_self, and_self, s3_20]
    intro t6 wa6 hN6
    refine appendC tsl_28 rfl rfl (hI15.o6.1.fr hN6.fr (fun _ _ q => q)) (Own.of_new (n := 1) hN6 rfl (by decide)).row (by simp [Value.oneCell']) (by simp [flat_len Rb.cells 3 rs (fun _ _ => rfl)]; omega) ?_
    intro v6' wb6 ho6 hf6 hb6
    refine hK _ _ ?_; clear hK K
    repeat' (first | refine H_seq ?_ | refine H_block ?_ | refine H_skip ?_ | refine H_nil ?_ | refine H_exit ?_ | refine H_ret ?_ | refine B_normal ?_ | refine B_same ?_ | refine B_other rfl ?_ | refine B_ret ?_ | refine L_exit ?_ | refine L_ret ?_)
    have ka6 := hI15.keep hN6.fr
    have hbxa6 := hbx15.keep (q := 0) hN6.fr (fun _ q => q.elim)
    have hI16 := ka6.app6 hf6 (by simpa using ho6) hb6 (fun p y hp hy => by
      rw [hhl, ← hbl] at hp
      rw [hhl, ← hxl] at hy
      simp at hp hy
      subst hp hy
      exact hbxa6)
    refine H_region k3 s3_9 rfl fun K hK => ?_; simp (config := { maxSteps := 4000000 }) only [go_sem, beq_self_eq_true, List.getElem_toArray, List.getElem_cons_zero, List.getElem_cons_succ, decide_true, decide_false, cond_true, cond_false, Nat.reduceBEq, reduceCtorEq, Nat.reduceAdd, Nat.reduceMul, Nat.reduceSub, reduceIte, Int.reduceToNat, Int.reduceEq, Int.reduceLT, Int.reduceLE, Nat.reduceLeDiff, Nat.reduceEqDiff, eq_self, and_self, s3_9]
    refine hK _ _ ?_; clear hK K
    repeat' (first | refine H_seq ?_ | refine H_block ?_ | refine H_skip ?_ | refine H_nil ?_ | refine H_exit ?_ | refine H_ret ?_ | refine B_normal ?_ | refine B_same ?_ | refine B_other rfl ?_ | refine B_ret ?_ | refine L_exit ?_ | refine L_ret ?_)
    rw [wrapI (n := (i : Int) + 1) (by omega), show ((i : Int) + 1) = ((i + 1 : Nat) : Int) by omega]
    refine L_normal ⟨⟨i + 1, v3', v4', v5', v6', _, bs ++ [(bb, x)], rs ++ [(kindOf m.1, (i : Int), m.2)], xs ++ [xb], hs ++ [h]⟩, ⟨rfl, rfl, rfl, rfl, rfl, rfl, trivial⟩, ⟨hI16.at (i + 1), hin, by simp [hbl], by simp [hrl], by simp [hxl], by simp [hhl]⟩, ?_⟩
    show n - (i + 1) < n - i
    omega
  refine H_condF rfl (by simpa using hin) ?_
  repeat' (first | refine H_seq ?_ | refine H_block ?_ | refine H_skip ?_ | refine H_nil ?_ | refine H_exit ?_ | refine H_ret ?_ | refine B_normal ?_ | refine B_same ?_ | refine B_other rfl ?_ | refine B_ret ?_ | refine L_exit ?_ | refine L_ret ?_)
  obtain rfl : i = n := by omega
  refine H_region k3 s3_21 rfl fun K hK => ?_; simp (config := { maxSteps := 4000000 }) only [go_sem, beq_self_eq_true, List.getElem_toArray, List.getElem_cons_zero, List.getElem_cons_succ, decide_true, decide_false, cond_true, cond_false, Nat.reduceBEq, reduceCtorEq, Nat.reduceAdd, Nat.reduceMul, Nat.reduceSub, reduceIte, Int.reduceToNat, Int.reduceEq, Int.reduceLT, Int.reduceLE, Nat.reduceLeDiff, Nat.reduceEqDiff, eq_self, and_self, s3_21]
  refine hK _ _ ?_; clear hK K
  repeat' (first | refine H_seq ?_ | refine H_block ?_ | refine H_skip ?_ | refine H_nil ?_ | refine H_exit ?_ | refine H_ret ?_ | refine B_normal ?_ | refine B_same ?_ | refine B_other rfl ?_ | refine B_ret ?_ | refine L_exit ?_ | refine L_ret ?_)
  clear hel hI0 f1 hgr
  obtain ⟨a3, n3, c3, rfl, _⟩ := id hI.o3.1
  obtain ⟨a4, n4, c4, rfl, _⟩ := id hI.o4.1
  obtain ⟨a5, n5, c5, rfl, _⟩ := id hI.o5.1
  obtain ⟨a6, n6, c6, rfl, _⟩ := id hI.o6.1
  obtain rfl : n3 = i := by have := hI.o3.1.row.elem1.1; omega
  obtain rfl : n4 = n3 := by have := (hI.o4.1.row.elem (fun _ _ => rfl) (by decide)).1; omega
  obtain rfl : n5 = n4 := by have := hI.o5.1.row.elem1.1; omega
  obtain rfl : n6 = n5 := by have := hI.o6.1.row.elem1.1; omega
  refine H_loop (fun i : Nat => [(3, .slice a3 n6 c3), (4, .slice a4 n6 c4), (5, .slice a5 n6 c5), (6, .slice a6 n6 c6), (13, .int .i64 i)])
    (fun i u => (∃ c, Inv w l n6 c (.slice a3 n6 c3) (.slice a4 n6 c4) (.slice a5 n6 c5) (.slice a6 n6 c6) bs rs xs hs u) ∧ i ≤ n6)
    (fun i => n6 - i) 0 ⟨rfl, rfl, rfl, rfl, rfl, trivial⟩ ⟨⟨c, hI⟩, Nat.zero_le _⟩ ?_
  clear hI hi hin
  rintro i u2 ⟨⟨c, hI⟩, hi⟩
  repeat' (first | refine H_seq ?_ | refine H_block ?_ | refine H_skip ?_ | refine H_nil ?_ | refine H_exit ?_ | refine H_ret ?_ | refine B_normal ?_ | refine B_same ?_ | refine B_other rfl ?_ | refine B_ret ?_ | refine L_exit ?_ | refine L_ret ?_)
  refine H_region k3 s3_22 rfl fun K hK => ?_; simp (config := { maxSteps := 4000000 }) only [go_sem, beq_self_eq_true, List.getElem_toArray, List.getElem_cons_zero, List.getElem_cons_succ, decide_true, decide_false, cond_true, cond_false, Nat.reduceBEq, reduceCtorEq, Nat.reduceAdd, Nat.reduceMul, Nat.reduceSub, reduceIte, Int.reduceToNat, Int.reduceEq, Int.reduceLT, Int.reduceLE, Nat.reduceLeDiff, Nat.reduceEqDiff, eq_self, and_self, s3_22]
  refine hK _ _ ?_; clear hK K
  repeat' (first | refine H_seq ?_ | refine H_block ?_ | refine H_skip ?_ | refine H_nil ?_ | refine H_exit ?_ | refine H_ret ?_ | refine B_normal ?_ | refine B_same ?_ | refine B_other rfl ?_ | refine B_ret ?_ | refine L_exit ?_ | refine L_ret ?_)
  by_cases hin : i < n6
  · refine H_condT rfl (by simpa using hin) ?_
    repeat' (first | refine H_seq ?_ | refine H_block ?_ | refine H_skip ?_ | refine H_nil ?_ | refine H_exit ?_ | refine H_ret ?_ | refine B_normal ?_ | refine B_same ?_ | refine B_other rfl ?_ | refine B_ret ?_ | refine L_exit ?_ | refine L_ret ?_)
    refine H_region k3 s3_24 rfl fun K hK => ?_; simp (config := { maxSteps := 4000000 }) only [go_sem, beq_self_eq_true, List.getElem_toArray, List.getElem_cons_zero, List.getElem_cons_succ, decide_true, decide_false, cond_true, cond_false, Nat.reduceBEq, reduceCtorEq, Nat.reduceAdd, Nat.reduceMul, Nat.reduceSub, reduceIte, Int.reduceToNat, Int.reduceEq, Int.reduceLT, Int.reduceLE, Nat.reduceLeDiff, Nat.reduceEqDiff, eq_self, and_self, s3_24]
    refine hK _ _ ?_; clear hK K
    repeat' (first | refine H_seq ?_ | refine H_block ?_ | refine H_skip ?_ | refine H_nil ?_ | refine H_exit ?_ | refine H_ret ?_ | refine B_normal ?_ | refine B_same ?_ | refine B_other rfl ?_ | refine B_ret ?_ | refine L_exit ?_ | refine L_ret ?_)
    refine H_loop (fun k : Nat => [(3, .slice a3 n6 c3), (4, .slice a4 n6 c4), (5, .slice a5 n6 c5), (6, .slice a6 n6 c6), (13, .int .i64 i), (14, .int .i64 k)])
      (fun k u => (∃ c, Inv w l n6 c (.slice a3 n6 c3) (.slice a4 n6 c4) (.slice a5 n6 c5) (.slice a6 n6 c6) bs rs xs hs u) ∧ k ≤ n6)
      (fun k => n6 - k) 0 ⟨rfl, rfl, rfl, rfl, rfl, rfl, trivial⟩ ⟨⟨c, hI⟩, Nat.zero_le _⟩ ?_
    clear hI
    rintro k u3 ⟨⟨c, hI⟩, hk⟩
    repeat' (first | refine H_seq ?_ | refine H_block ?_ | refine H_skip ?_ | refine H_nil ?_ | refine H_exit ?_ | refine H_ret ?_ | refine B_normal ?_ | refine B_same ?_ | refine B_other rfl ?_ | refine B_ret ?_ | refine L_exit ?_ | refine L_ret ?_)
    refine H_region k3 s3_25 rfl fun K hK => ?_; simp (config := { maxSteps := 4000000 }) only [go_sem, beq_self_eq_true, List.getElem_toArray, List.getElem_cons_zero, List.getElem_cons_succ, decide_true, decide_false, cond_true, cond_false, Nat.reduceBEq, reduceCtorEq, Nat.reduceAdd, Nat.reduceMul, Nat.reduceSub, reduceIte, Int.reduceToNat, Int.reduceEq, Int.reduceLT, Int.reduceLE, Nat.reduceLeDiff, Nat.reduceEqDiff, eq_self, and_self, s3_25]
    refine hK _ _ ?_; clear hK K
    repeat' (first | refine H_seq ?_ | refine H_block ?_ | refine H_skip ?_ | refine H_nil ?_ | refine H_exit ?_ | refine H_ret ?_ | refine B_normal ?_ | refine B_same ?_ | refine B_other rfl ?_ | refine B_ret ?_ | refine L_exit ?_ | refine L_ret ?_)
    by_cases hkn : k < n6
    · refine H_condT rfl (by simpa using hkn) ?_
      repeat' (first | refine H_seq ?_ | refine H_block ?_ | refine H_skip ?_ | refine H_nil ?_ | refine H_exit ?_ | refine H_ret ?_ | refine B_normal ?_ | refine B_same ?_ | refine B_other rfl ?_ | refine B_ret ?_ | refine L_exit ?_ | refine L_ret ?_)
      obtain ⟨b3, o3, rfl, l3, e3⟩ := hI.o3.1.row.elem1.2 (by omega)
      obtain ⟨b4, o4, rfl, l4, e4⟩ := (hI.o4.1.row.elem (fun _ _ => rfl) (by decide)).2 (by omega)
      obtain ⟨b5, o5, rfl, l5, e5⟩ := hI.o5.1.row.elem1.2 (by omega)
      obtain ⟨b6, o6, rfl, l6, e6⟩ := hI.o6.1.row.elem1.2 (by omega)
      have gi : ∀ (T : Type) (l : List T) (j : Nat), l.length = n6 → j < n6 → ∃ x, l[j]? = some x := fun T l j hl hj => ⟨l[j]'(by omega), List.getElem?_eq_getElem _⟩
      obtain ⟨pi, hpi⟩ := gi _ bs i hbl hin
      obtain ⟨pk, hpk⟩ := gi _ bs k hbl hkn
      obtain ⟨xk, hxk⟩ := gi _ xs k hxl hkn
      obtain ⟨hd, hhk⟩ := gi _ hs k hhl hkn
      obtain ⟨hbi, mi, hmi, kmi⟩ := hI.br i pi hpi
      obtain ⟨hbk, mk, hmk, kmk⟩ := hI.br k pk hpk
      have hbx := hI.bx k pk xk hd hpk hxk hhk
      have hri := hI.rf i mi (by omega) hmi
      have hrk := hI.rf k mk (by omega) hmk
      have hsame : pi.2.same pk.2 = rSame (kindOf mi.1, (i : Int), mi.2) (kindOf mk.1, (k : Int), mk.2) := brSame kmi kmk (fun o h1 h2 => hI.ow i k pi pk o hpi hpk h1 h2) (fun e => by subst e; rw [hpi] at hpk; cases hpk; rfl)
      have q0 := e4 i _ hri 0 (by decide)
      have q1 := e4 i _ hri 1 (by decide)
      have q2 := e4 i _ hri 2 (by decide)
      have r0 := e4 k _ hrk 0 (by decide)
      have r1 := e4 k _ hrk 1 (by decide)
      have r2 := e4 k _ hrk 2 (by decide)
      simp only [Rb.cells, List.getElem?_cons_zero, List.getElem?_cons_succ, Nat.add_zero] at q0 q1 q2 r0 r1 r2
      refine H_drawn k3 s3_27 p3_27 (Nob) rfl mixed (by as_aux_lemma => kernel_rfl) fun K hK => ?_; simp (config := { maxSteps := 4000000 }) only [go_sem, beq_self_eq_true, List.getElem_toArray, List.getElem_cons_zero, List.getElem_cons_succ, decide_true, decide_false, cond_true, cond_false, Nat.reduceBEq, reduceCtorEq, Nat.reduceAdd, Nat.reduceMul, Nat.reduceSub, reduceIte, Int.reduceToNat, Int.reduceEq, Int.reduceLT, Int.reduceLE, Nat.reduceLeDiff, Nat.reduceEqDiff, eq_self, and_self, s3_27, p3_27, q0, q1, q2, r0, r1, r2]
      refine ⟨⟨by omega, by omega⟩, fun q => q, ⟨by omega, by omega⟩, fun q => q, callC tcall_17 (rsame_spec _ _ _ _ _ _ _) ?_⟩
      rintro v4 u4 ⟨rfl, f4⟩
      rw [← hsame]
      refine hK _ _ ?_; clear hK K
      repeat' (first | refine H_seq ?_ | refine H_block ?_ | refine H_skip ?_ | refine H_nil ?_ | refine H_exit ?_ | refine H_ret ?_ | refine B_normal ?_ | refine B_same ?_ | refine B_other rfl ?_ | refine B_ret ?_ | refine L_exit ?_ | refine L_ret ?_)
      have x3i : u4.cell? ⟨b3, o3 + i, none⟩ = some (ptrV pi.1) := by rw [Fr.cell f4 l3]; exact e3 i pi hpi
      have x3k : u4.cell? ⟨b3, o3 + k, none⟩ = some (ptrV pk.1) := by rw [Fr.cell f4 l3]; exact e3 k pk hpk
      have x5k : u4.cell? ⟨b5, o5 + k, none⟩ = some (ptrV xk) := by rw [Fr.cell f4 l5]; exact e5 k xk hxk
      have x6k : u4.cell? ⟨b6, o6 + k, none⟩ = some (ptrV hd) := by rw [Fr.cell f4 l6]; exact e6 k hd hhk
      refine H_drawn k3 s3_28 p3_28 (Nob) rfl mixed (by as_aux_lemma => kernel_rfl) fun K hK => ?_; simp (config := { maxSteps := 4000000 }) only [go_sem, beq_self_eq_true, List.getElem_toArray, List.getElem_cons_zero, List.getElem_cons_succ, decide_true, decide_false, cond_true, cond_false, Nat.reduceBEq, reduceCtorEq, Nat.reduceAdd, Nat.reduceMul, Nat.reduceSub, reduceIte, Int.reduceToNat, Int.reduceEq, Int.reduceLT, Int.reduceLE, Nat.reduceLeDiff, Nat.reduceEqDiff, eq_self, and_self, s3_28, p3_28, x3i, x5k, Nat.mul_one]
      refine ⟨⟨by omega, by omega⟩, fun q => q, ⟨by omega, by omega⟩, fun q => q, callC tcall_18 (open_spec pi.1 pk.1 hd xk pi.2 pk.2 _ (hbi.1.fr f4) (hbk.1.fr f4) (hbx.1.fr f4 (fun q => q))) ?_⟩
      rintro v5 u5 ⟨rfl, f5⟩
      replace x3i : u5.cell? ⟨b3, o3 + i, none⟩ = some (ptrV pi.1) := by rw [Fr.cell f5 (Nat.lt_of_lt_of_le l3 f4.size)]; exact x3i
      replace x3k : u5.cell? ⟨b3, o3 + k, none⟩ = some (ptrV pk.1) := by rw [Fr.cell f5 (Nat.lt_of_lt_of_le l3 f4.size)]; exact x3k
      replace x6k : u5.cell? ⟨b6, o6 + k, none⟩ = some (ptrV hd) := by rw [Fr.cell f5 (Nat.lt_of_lt_of_le l6 f4.size)]; exact x6k
      have hS := same_spec pi.1 pk.1 pi.2 pk.2 u5 ((hbi.1.fr f4).fr f5) ((hbk.1.fr f4).fr f5)
      have hI5 := (hI.keep f4).keep f5
      generalize hc0 : pi.2.same pk.2 = c0 at *
      clear hbi hbk hbx hsame q0 q1 q2 r0 r1 r2 e3 e4 e5 e6 gi kmi kmk
      cases c0
      all_goals
        (try simp (config := { maxSteps := 4000000 }) only [go_sem, beq_self_eq_true, List.getElem_toArray, List.getElem_cons_zero, List.getElem_cons_succ, decide_true, decide_false, cond_true, cond_false, Nat.reduceBEq, reduceCtorEq, Nat.reduceAdd, Nat.reduceMul, Nat.reduceSub, reduceIte, Int.reduceToNat, Int.reduceEq, Int.reduceLT, Int.reduceLE, Nat.reduceLeDiff, Nat.reduceEqDiff, eq_self, and_self, hc0])
        refine hK _ _ ?_; clear hK K
        repeat' (first | refine H_seq ?_ | refine H_block ?_ | refine H_skip ?_ | refine H_nil ?_ | refine H_exit ?_ | refine H_ret ?_ | refine B_normal ?_ | refine B_same ?_ | refine B_other rfl ?_ | refine B_ret ?_ | refine L_exit ?_ | refine L_ret ?_)
        refine H_drawn k3 s3_29 p3_29 (Nob) rfl mixed (by as_aux_lemma => kernel_rfl) fun K hK => ?_; simp (config := { maxSteps := 4000000 }) only [go_sem, beq_self_eq_true, List.getElem_toArray, List.getElem_cons_zero, List.getElem_cons_succ, decide_true, decide_false, cond_true, cond_false, Nat.reduceBEq, reduceCtorEq, Nat.reduceAdd, Nat.reduceMul, Nat.reduceSub, reduceIte, Int.reduceToNat, Int.reduceEq, Int.reduceLT, Int.reduceLE, Nat.reduceLeDiff, Nat.reduceEqDiff, eq_self, and_self, s3_29, p3_29, x3i, x3k, x6k, Nat.mul_one, hptrEq, Try.underlying4, Try.underlying36]
        refine ⟨⟨by omega, by omega⟩, fun q => q, ⟨by omega, by omega⟩, fun q => q, callC tcall_19 hS ?_⟩
        rintro v6 u6 ⟨rfl, f6⟩
        replace x6k : u6.cell? ⟨b6, o6 + k, none⟩ = some (ptrV hd) := by rw [Fr.cell f6 (Nat.lt_of_lt_of_le (Nat.lt_of_lt_of_le l6 f4.size) f5.size)]; exact x6k
        simp (config := { maxSteps := 4000000 }) only [go_sem, beq_self_eq_true, List.getElem_toArray, List.getElem_cons_zero, List.getElem_cons_succ, decide_true, decide_false, cond_true, cond_false, Nat.reduceBEq, reduceCtorEq, Nat.reduceAdd, Nat.reduceMul, Nat.reduceSub, reduceIte, Int.reduceToNat, Int.reduceEq, Int.reduceLT, Int.reduceLE, Nat.reduceLeDiff, Nat.reduceEqDiff, eq_self, and_self, s3_29, p3_29_1, hptrEqN, x6k, Nat.mul_one, hptrEq, Try.underlying4, Try.underlying36]
        refine ⟨⟨by omega, by omega⟩, ?_⟩
        refine hK _ _ ?_; clear hK K
        repeat' (first | refine H_seq ?_ | refine H_block ?_ | refine H_skip ?_ | refine H_nil ?_ | refine H_exit ?_ | refine H_ret ?_ | refine B_normal ?_ | refine B_same ?_ | refine B_other rfl ?_ | refine B_ret ?_ | refine L_exit ?_ | refine L_ret ?_)
        refine H_condF rfl rfl ?_
        repeat' (first | refine H_seq ?_ | refine H_block ?_ | refine H_skip ?_ | refine H_nil ?_ | refine H_exit ?_ | refine H_ret ?_ | refine B_normal ?_ | refine B_same ?_ | refine B_other rfl ?_ | refine B_ret ?_ | refine L_exit ?_ | refine L_ret ?_)
        refine H_region k3 s3_26 rfl fun K hK => ?_; simp (config := { maxSteps := 4000000 }) only [go_sem, beq_self_eq_true, List.getElem_toArray, List.getElem_cons_zero, List.getElem_cons_succ, decide_true, decide_false, cond_true, cond_false, Nat.reduceBEq, reduceCtorEq, Nat.reduceAdd, Nat.reduceMul, Nat.reduceSub, reduceIte, Int.reduceToNat, Int.reduceEq, Int.reduceLT, Int.reduceLE, Nat.reduceLeDiff, Nat.reduceEqDiff, eq_self, and_self, s3_26]
        refine hK _ _ ?_; clear hK K
        repeat' (first | refine H_seq ?_ | refine H_block ?_ | refine H_skip ?_ | refine H_nil ?_ | refine H_exit ?_ | refine H_ret ?_ | refine B_normal ?_ | refine B_same ?_ | refine B_other rfl ?_ | refine B_ret ?_ | refine L_exit ?_ | refine L_ret ?_)
        rw [wrapI (n := (k : Int) + 1) (by omega), show ((k : Int) + 1) = ((k + 1 : Nat) : Int) by omega]
        refine L_normal ⟨k + 1, ⟨rfl, rfl, rfl, rfl, rfl, rfl, trivial⟩, ⟨⟨_, hI5.keep f6⟩, hkn⟩, by omega⟩
    · refine H_condF rfl (by simpa using hkn) ?_
      repeat' (first | refine H_seq ?_ | refine H_block ?_ | refine H_skip ?_ | refine H_nil ?_ | refine H_exit ?_ | refine H_ret ?_ | refine B_normal ?_ | refine B_same ?_ | refine B_other rfl ?_ | refine B_ret ?_ | refine L_exit ?_ | refine L_ret ?_)
      refine H_region k3 s3_23 rfl fun K hK => ?_; simp (config := { maxSteps := 4000000 }) only [go_sem, beq_self_eq_true, List.getElem_toArray, List.getElem_cons_zero, List.getElem_cons_succ, decide_true, decide_false, cond_true, cond_false, Nat.reduceBEq, reduceCtorEq, Nat.reduceAdd, Nat.reduceMul, Nat.reduceSub, reduceIte, Int.reduceToNat, Int.reduceEq, Int.reduceLT, Int.reduceLE, Nat.reduceLeDiff, Nat.reduceEqDiff, eq_self, and_self, s3_23]
      refine hK _ _ ?_; clear hK K
      repeat' (first | refine H_seq ?_ | refine H_block ?_ | refine H_skip ?_ | refine H_nil ?_ | refine H_exit ?_ | refine H_ret ?_ | refine B_normal ?_ | refine B_same ?_ | refine B_other rfl ?_ | refine B_ret ?_ | refine L_exit ?_ | refine L_ret ?_)
      rw [wrapI (n := (i : Int) + 1) (by omega), show ((i : Int) + 1) = ((i + 1 : Nat) : Int) by omega]
      refine L_normal ⟨i + 1, ⟨rfl, rfl, rfl, rfl, rfl, trivial⟩, ⟨⟨_, hI⟩, hin⟩, by omega⟩
  · refine H_condF rfl (by simpa using hin) ?_
    repeat' (first | refine H_seq ?_ | refine H_block ?_ | refine H_skip ?_ | refine H_nil ?_ | refine H_exit ?_ | refine H_ret ?_ | refine B_normal ?_ | refine B_same ?_ | refine B_other rfl ?_ | refine B_ret ?_ | refine L_exit ?_ | refine L_ret ?_)
    refine H_region k3 s3_31 rfl fun K hK => ?_; simp (config := { maxSteps := 4000000 }) only [go_sem, beq_self_eq_true, List.getElem_toArray, List.getElem_cons_zero, List.getElem_cons_succ, decide_true, decide_false, cond_true, cond_false, Nat.reduceBEq, reduceCtorEq, Nat.reduceAdd, Nat.reduceMul, Nat.reduceSub, reduceIte, Int.reduceToNat, Int.reduceEq, Int.reduceLT, Int.reduceLE, Nat.reduceLeDiff, Nat.reduceEqDiff, eq_self, and_self, s3_31]
    refine callC tcall_13 (wakes_spec _) ?_
    rintro v9 w9 ⟨rfl, f9⟩
    (try simp (config := { maxSteps := 4000000 }) only [go_sem, beq_self_eq_true, List.getElem_toArray, List.getElem_cons_zero, List.getElem_cons_succ, decide_true, decide_false, cond_true, cond_false, Nat.reduceBEq, reduceCtorEq, Nat.reduceAdd, Nat.reduceMul, Nat.reduceSub, reduceIte, Int.reduceToNat, Int.reduceEq, Int.reduceLT, Int.reduceLE, Nat.reduceLeDiff, Nat.reduceEqDiff, eq_self, and_self])
    refine hK _ _ ?_; clear hK K
    repeat' (first | refine H_seq ?_ | refine H_block ?_ | refine H_skip ?_ | refine H_nil ?_ | refine H_exit ?_ | refine H_ret ?_ | refine B_normal ?_ | refine B_same ?_ | refine B_other rfl ?_ | refine B_ret ?_ | refine L_exit ?_ | refine L_ret ?_)
    refine F_ret ?_
    (try simp (config := { maxSteps := 4000000 }) only [go_sem, beq_self_eq_true, List.getElem_toArray, List.getElem_cons_zero, List.getElem_cons_succ, decide_true, decide_false, cond_true, cond_false, Nat.reduceBEq, reduceCtorEq, Nat.reduceAdd, Nat.reduceMul, Nat.reduceSub, reduceIte, Int.reduceToNat, Int.reduceEq, Int.reduceLT, Int.reduceLE, Nat.reduceLeDiff, Nat.reduceEqDiff, eq_self, and_self])
    exact hI.f.trans f9
end Go.Proofs.Ytpdklpeojjkkaaa

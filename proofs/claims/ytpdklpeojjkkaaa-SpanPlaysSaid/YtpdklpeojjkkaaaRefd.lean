/- mantleref01: lay. -/
import Derived.Test.YtpdklpeojjkkaaaRefc
import Derived.Test.YtpdklpeojjkkaaaPc8
import Derived.Test.YtpdklpeojjkkaaaSpand
namespace Go.Proofs.Ytpdklpeojjkkaaa
open Go
set_option linter.unusedVariables false
set_option linter.unusedSimpArgs false
set_option maxRecDepth 100000
set_option maxHeartbeats 4000000
/-- 'append' to a list of a function's own, whose block is told from others'. -/
theorem appendQ {P : Program} {u u4 : World} {K : Value → World → Prop} {t : TypeId} {by_ sz : Nat} {z : List Value} {v x : Value} {xs ys : List Value} (ht : tsl P t = some (sz, z, by_)) (hsz : Nat.ble 1 sz = true) (hby : Nat.ble 1 by_ = true) (hb64 : by_ ≤ 64)
    (hs : Own u v sz xs) (hN : Fr Nob u u4) (hx : Row u4 x sz ys) (h1 : ∀ c ∈ ys, c.oneCell' = true) (hlen : xs.length + ys.length ≤ 1073741824)
    (hk : ∀ v' u', Own u' v' sz (xs ++ ys) → Fr (fun b => blk v = some b) u u' → (∀ b, blk v' = some b → blk v = some b ∨ u.heap.size ≤ b) → K v' u') :
    appendVC P u4 K t t v x := by
  refine appendC ht hsz hby (hs.fr hN (fun _ _ q => q)) hx h1 (by
    have : (xs.length + ys.length) * by_ ≤ (xs.length + ys.length) * 64 := Nat.mul_le_mul_left _ hb64
    omega) ?_
  intro v' u' ho f hb
  refine hk v' u' ho (hN.trans2 f (fun _ _ q => q.elim) (fun b hb' q => q)) (fun b hb' => ?_)
  rcases hb with e | ⟨b', e, hb2⟩
  · exact .inl (by rw [← e]; exact hb')
  · rw [hb'] at e; cases e; have := hN.size; exact .inr (by omega)
theorem lay_facts {A k : Nat} : ∀ (l : List MP) (s : LS), (l.foldl (layS A k) s).ah.length ≤ s.ah.length + l.length ∧ (l.foldl (layS A k) s).bh.length ≤ s.bh.length + l.length ∧
    (l.foldl (layS A k) s).y0.length ≤ s.y0.length + heldL (l.map MP.pc) ∧ (l.foldl (layS A k) s).y2.length ≤ s.y2.length + heldL (l.map MP.pc) ∧
    ∀ x, x ∈ (l.foldl (layS A k) s).ah ∨ x ∈ (l.foldl (layS A k) s).bh → x ∈ s.ah ∨ x ∈ s.bh ∨ x ∈ l
  | [], s => by simp
  | m :: r, s => by
    have h := lay_facts (A := A) (k := k) r (layS A k s m)
    rw [List.foldl_cons, List.map_cons, held_cons]
    obtain ⟨h1, h2, h3, h4, h5⟩ := h
    have e : (layS A k s m).ah.length ≤ s.ah.length + 1 ∧ (layS A k s m).bh.length ≤ s.bh.length + 1 ∧ (layS A k s m).y0.length ≤ s.y0.length + m.bs.length ∧ (layS A k s m).y2.length ≤ s.y2.length + m.bs.length ∧
        ∀ x, x ∈ (layS A k s m).ah ∨ x ∈ (layS A k s m).bh → x ∈ s.ah ∨ x ∈ s.bh ∨ x = m := by
      unfold layS
      split
      · refine ⟨by simp, by simp, by simp, by simp, fun x hx => ?_⟩
        simp at hx; rcases hx with (hx | hx) | hx <;> simp [hx]
      split
      · refine ⟨by simp, by simp, by simp, by simp, fun x hx => ?_⟩
        simp at hx; rcases hx with hx | hx <;> simp [hx]
      split
      · refine ⟨by simp, by simp, by simp, by simp, fun x hx => ?_⟩
        simp at hx; rcases hx with hx | hx <;> simp [hx]
      · refine ⟨by simp, by simp, by simp, by simp, fun x hx => ?_⟩
        simp at hx; rcases hx with hx | hx | hx <;> simp [hx]
    obtain ⟨e1, e2, e3, e4, e5⟩ := e
    simp only [List.length_cons, MP.pc]
    refine ⟨by omega, by omega, by omega, by omega, fun x hx => ?_⟩
    rcases h5 x hx with hx | hx | hx
    · rcases e5 x (.inl hx) with hx | hx | hx <;> simp [hx]
    · rcases e5 x (.inr hx) with hx | hx | hx <;> simp [hx]
    · simp [hx]
/-- What is in memory while pieces are gone over. -/
structure LayI (base b7 : Nat) (vA vH vL vB : Value) (st : LS) (u : World) : Prop where
  a : Own u vA 2 (mcells st.ah)
  h : Own u vH 2 (mcells st.bh)
  l : Row u vL 1 (bvs st.y2)
  w : W u b7 [.int .i64 st.at0, vB]
  b : Own u vB 1 (bvs st.y0)
  fa : ∀ b, blk vA = some b → base ≤ b ∧ blk vH ≠ some b ∧ blk vB ≠ some b
  fh : ∀ b, blk vH = some b → base ≤ b ∧ blk vB ≠ some b
  fb : ∀ b, blk vB = some b → base ≤ b
  fl : ∀ b, blk vL = some b → b < base ∧ b ≠ b7
  lt : b7 < base
  le : base ≤ u.heap.size
theorem LayI.fr {base b7 : Nat} {vA vH vL vB : Value} {st : LS} {u u' : World} (i : LayI base b7 vA vH vL vB st u) (f : Fr Nob u u') : LayI base b7 vA vH vL vB st u' :=
  ⟨i.a.fr f (fun _ _ q => q), i.h.fr f (fun _ _ q => q), i.l.fr f (fun _ _ q => q), i.w.fr f (fun q => q), i.b.fr f (fun _ _ q => q), i.fa, i.fh, i.fb, i.fl, i.lt, Nat.le_trans i.le f.size⟩
theorem LayI.toA {base b7 : Nat} {vA vH vL vB v' : Value} {st : LS} {u u' : World} {m : MP} (i : LayI base b7 vA vH vL vB st u) (ho : Own u' v' 2 (mcells (st.ah ++ [m]))) (f : Fr (fun b => blk vA = some b) u u') (hb : ∀ b, blk v' = some b → blk vA = some b ∨ u.heap.size ≤ b) :
    LayI base b7 v' vH vL vB { st with ah := st.ah ++ [m] } u' := by
  refine ⟨ho, i.h.fr f (fun b hb q => (i.fa b q).2.1 hb), i.l.fr f (fun b hb q => by have := i.fl b hb; have := i.fa b q; omega), i.w.fr f (fun q => by have := i.fa b7 q; have := i.lt; omega), i.b.fr f (fun b hb q => (i.fa b q).2.2 hb), fun b hb' => ?_, i.fh, i.fb, i.fl, i.lt, Nat.le_trans i.le f.size⟩
  rcases hb b hb' with h | h
  · exact i.fa b h
  · exact ⟨by have := i.le; omega, fun e => by have := i.h.blk_lt e; omega, fun e => by have := i.b.blk_lt e; omega⟩
theorem LayI.toH {base b7 : Nat} {vA vH vL vB v' : Value} {st : LS} {u u' : World} {m : MP} (i : LayI base b7 vA vH vL vB st u) (ho : Own u' v' 2 (mcells (st.bh ++ [m]))) (f : Fr (fun b => blk vH = some b) u u') (hb : ∀ b, blk v' = some b → blk vH = some b ∨ u.heap.size ≤ b) :
    LayI base b7 vA v' vL vB { st with bh := st.bh ++ [m] } u' := by
  refine ⟨i.a.fr f (fun b hb q => (i.fa b hb).2.1 q), ho, i.l.fr f (fun b hb q => by have := i.fl b hb; have := i.fh b q; omega), i.w.fr f (fun q => by have := i.fh b7 q; have := i.lt; omega), i.b.fr f (fun b hb q => (i.fh b q).2 hb), fun b hb' => ⟨(i.fa b hb').1, fun e => ?_, (i.fa b hb').2.2⟩, fun b hb' => ?_, i.fb, i.fl, i.lt, Nat.le_trans i.le f.size⟩
  · rcases hb b e with h | h
    · exact (i.fa b hb').2.1 h
    · have := i.a.blk_lt hb'; omega
  · rcases hb b hb' with h | h
    · exact i.fh b h
    · exact ⟨by have := i.le; omega, fun e => by have := i.b.blk_lt e; omega⟩
theorem LayI.toB {base b7 : Nat} {vA vH vL vB v' : Value} {st : LS} {u u' u'' : World} {at1 : Nat} {ys : List UInt8} (i : LayI base b7 vA vH vL vB st u) (ho : Own u' v' 1 (bvs ys)) (f : Fr (fun b => blk vB = some b) u u') (hb : ∀ b, blk v' = some b → blk vB = some b ∨ u.heap.size ≤ b)
    (hp : Put u' b7 [.int .i64 at1, v'] u'') : LayI base b7 vA vH vL v' { st with at0 := at1, y0 := ys } u'' := by
  have lt := i.lt
  have le := i.le
  have h7 : ∀ b, base ≤ b → ¬ Onb b7 b := fun b h q => by simp only [Onb] at q; omega
  have hv : ∀ b, blk v' = some b → base ≤ b := fun b e => by
    rcases hb b e with h | h
    · exact i.fb b h
    · omega
  refine ⟨(i.a.fr f (fun b hb q => (i.fa b hb).2.2 q)).fr hp.fr (fun b hb => h7 b (i.fa b hb).1), (i.h.fr f (fun b hb q => (i.fh b hb).2 q)).fr hp.fr (fun b hb => h7 b (i.fh b hb).1), (i.l.fr f (fun b hb q => by have := i.fl b hb; have := i.fb b q; omega)).fr hp.fr (fun b hb q => (i.fl b hb).2 q), hp.blk, ho.fr hp.fr (fun b e => h7 b (hv b e)), fun b hb' => ⟨(i.fa b hb').1, (i.fa b hb').2.1, fun e => ?_⟩, fun b hb' => ⟨(i.fh b hb').1, fun e => ?_⟩, hv, i.fl, lt, by rw [hp.size]; exact Nat.le_trans le f.size⟩
  · rcases hb b e with h | h
    · exact (i.fa b hb').2.2 h
    · have := i.a.blk_lt hb'; omega
  · rcases hb b e with h | h
    · exact (i.fh b hb').2 h
    · have := i.h.blk_lt hb'; omega
theorem bvs_app (xs ys : List UInt8) : bvs (xs ++ ys) = bvs xs ++ bvs ys := by simp [bvs]
theorem Own.piece {u : World} {a : Option Addr} {n c : Nat} {ys : List UInt8} (h : Own u (.slice a n c) 1 (bvs ys)) (h0 : 0 < ys.length) : ∃ b o, a = some ⟨b, o, none⟩ ∧ n = ys.length ∧ ∀ at_, MP.ok u ⟨at_, ys, b, o, c⟩ := by
  obtain ⟨a', n', c', e, hl, hnc, hcm, hr⟩ := h
  cases e
  have hn : n = ys.length := by rw [bvs_len] at hl; omega
  rcases hr with ⟨_, h1⟩ | ⟨b, o, cs, rfl, hw, hcs, ht⟩
  · omega
  · exact ⟨b, o, rfl, hn, fun at_ => ⟨by simp only; omega, hcm, cs, hw, by simp only; omega, by rw [← hn, ← ht, Nat.mul_one]⟩⟩
theorem rlay_spec (s A k c' : Nat) (a a' : Option Addr) (n c size : Nat) (ms : List MP) (bs : List UInt8) (w : World) (hh : Hd w s a n c size ms) (hp : ∀ m ∈ ms, m.ok w ∧ m.b ≠ s)
    (hb : Row w (.slice a' k c') 1 (bvs bs)) (h0 : 0 < bs.length) (hA : A + bs.length ≤ 1073741824) (hheld : heldL (ms.map MP.pc) + bs.length ≤ 8388608) :
    CallsE Try.prog 47 [ptrV s, .int .i64 A, .slice a' k c'] w fun r u => r = .tuple #[] ∧ ∃ a2 n2 c2 ms2, W u s [.slice a2 n2 c2, .int .i64 size] ∧ Row u (.slice a2 n2 c2) 2 (mcells ms2) ∧ (∀ b, blk (.slice a2 n2 c2) = some b → w.heap.size ≤ b ∧ b < u.heap.size) ∧
      (∀ m ∈ ms2, m.ok u ∧ (w.heap.size ≤ m.b ∨ ∃ m0 ∈ ms, m.b = m0.b)) ∧ ms2.map MP.pc = insL (clearL A (A + bs.length) (ms.map MP.pc)) A bs ∧ Fr (Onb s) w u := by
  have hkl : bs.length = k := by have := hb.len; rw [bvs_len] at this; omega
  have hcan := hh.canon
  have hz := hcan.size
  have hle := hh.heldLe
  have hn := hh.len
  refine enter Try.func47 rfl Try.results47 Try.ntmps47 rfl ?_
  repeat' (first | refine H_seq ?_ | refine H_block ?_ | refine H_skip ?_ | refine H_nil ?_ | refine H_exit ?_ | refine H_ret ?_ | refine B_normal ?_ | refine B_same ?_ | refine B_other rfl ?_ | refine B_ret ?_ | refine L_exit ?_ | refine L_ret ?_)
  refine H_region k47 s47_0 rfl fun K hK => ?_; simp (config := { maxSteps := 4000000 }) only [go_sem, beq_self_eq_true, List.getElem_toArray, List.getElem_cons_zero, List.getElem_cons_succ, decide_true, decide_false, cond_true, cond_false, Nat.reduceBEq, reduceCtorEq, Nat.reduceAdd, Nat.reduceMul, Nat.reduceSub, reduceIte, Int.reduceToNat, Int.reduceEq, Int.reduceLT, Int.reduceLE, Nat.reduceLeDiff, Nat.reduceEqDiff, eq_self, and_self, s47_0]
  refine hK _ _ ?_; clear hK K
  repeat' (first | refine H_seq ?_ | refine H_block ?_ | refine H_skip ?_ | refine H_nil ?_ | refine H_exit ?_ | refine H_ret ?_ | refine B_normal ?_ | refine B_same ?_ | refine B_other rfl ?_ | refine B_ret ?_ | refine L_exit ?_ | refine L_ret ?_)
  refine H_condF rfl (by simp; omega) ?_
  repeat' (first | refine H_seq ?_ | refine H_block ?_ | refine H_skip ?_ | refine H_nil ?_ | refine H_exit ?_ | refine H_ret ?_ | refine B_normal ?_ | refine B_same ?_ | refine B_other rfl ?_ | refine B_ret ?_ | refine L_exit ?_ | refine L_ret ?_)
  refine H_region k47 s47_1 rfl fun K hK => ?_; simp (config := { maxSteps := 4000000 }) only [go_sem, beq_self_eq_true, List.getElem_toArray, List.getElem_cons_zero, List.getElem_cons_succ, decide_true, decide_false, cond_true, cond_false, Nat.reduceBEq, reduceCtorEq, Nat.reduceAdd, Nat.reduceMul, Nat.reduceSub, reduceIte, Int.reduceToNat, Int.reduceEq, Int.reduceLT, Int.reduceLE, Nat.reduceLeDiff, Nat.reduceEqDiff, eq_self, and_self, s47_1]
  rw [wrapI (by omega), show ((A : Int) + k) = ((A + bs.length : Nat) : Int) by omega]
  refine callC tcall_65 (rtaken_spec s a n c size ms A (A + bs.length) w hh (fun m hm => (hp m hm).1) (by omega) (by omega)) ?_
  rintro vl w1 ⟨hol, hbl, f1⟩
  generalize hls : ms.flatMap (clearMP A (A + bs.length)) = ls at hol
  have hlsp : ls.map MP.pc = clearL A (A + bs.length) (ms.map MP.pc) := by rw [← hls, clearML_pc]
  have hlso : Ord 0 (ls.map MP.pc) size := by rw [hlsp]; exact clear_ord (by omega) hcan.ord
  have hlsa : ∀ p ∈ ls.map MP.pc, p.1 + p.2.length ≤ A ∨ A + bs.length ≤ p.1 := by rw [hlsp]; exact clear_avoid (by omega) _
  have hlsh : heldL (ls.map MP.pc) ≤ heldL (ms.map MP.pc) := by rw [hlsp]; exact clear_held (by omega) _
  have hlsm : ∀ x ∈ ls, x.ok w ∧ x.b ≠ s ∧ ∃ m0 ∈ ms, x.b = m0.b := fun x hx => by
    rw [← hls] at hx
    obtain ⟨m, hm, e, _⟩ := clearML_der x hx
    exact ⟨clearML_ok (fun m hm => (hp m hm).1) x hx, by rw [e]; exact (hp m hm).2, m, hm, e⟩
  have hlsl : ls.length ≤ 2 * n := by rw [← hls, ← hn]; exact clearML_len _ _ _
  obtain ⟨al, nl, cl, rfl⟩ := hol.lit
  have hnl : ls.length = nl := (hol.row.elem (f := MP.cells) (fun _ _ => rfl) (by decide)).1
  (try simp (config := { maxSteps := 4000000 }) only [go_sem, beq_self_eq_true, List.getElem_toArray, List.getElem_cons_zero, List.getElem_cons_succ, decide_true, decide_false, cond_true, cond_false, Nat.reduceBEq, reduceCtorEq, Nat.reduceAdd, Nat.reduceMul, Nat.reduceSub, reduceIte, Int.reduceToNat, Int.reduceEq, Int.reduceLT, Int.reduceLE, Nat.reduceLeDiff, Nat.reduceEqDiff, eq_self, and_self])
  refine hK _ _ ?_; clear hK K
  repeat' (first | refine H_seq ?_ | refine H_block ?_ | refine H_skip ?_ | refine H_nil ?_ | refine H_exit ?_ | refine H_ret ?_ | refine B_normal ?_ | refine B_same ?_ | refine B_other rfl ?_ | refine B_ret ?_ | refine L_exit ?_ | refine L_ret ?_)
  refine H_region k47 s47_2 rfl fun K hK => ?_; simp (config := { maxSteps := 4000000 }) only [go_sem, beq_self_eq_true, List.getElem_toArray, List.getElem_cons_zero, List.getElem_cons_succ, decide_true, decide_false, cond_true, cond_false, Nat.reduceBEq, reduceCtorEq, Nat.reduceAdd, Nat.reduceMul, Nat.reduceSub, reduceIte, Int.reduceToNat, Int.reduceEq, Int.reduceLT, Int.reduceLE, Nat.reduceLeDiff, Nat.reduceEqDiff, eq_self, and_self, s47_2]
  intro b7 w2 h7
  refine ⟨_, h7.blk, by simp, ?_⟩
  (try simp (config := { maxSteps := 4000000 }) only [go_sem, beq_self_eq_true, List.getElem_toArray, List.getElem_cons_zero, List.getElem_cons_succ, decide_true, decide_false, cond_true, cond_false, Nat.reduceBEq, reduceCtorEq, Nat.reduceAdd, Nat.reduceMul, Nat.reduceSub, reduceIte, Int.reduceToNat, Int.reduceEq, Int.reduceLT, Int.reduceLE, Nat.reduceLeDiff, Nat.reduceEqDiff, eq_self, and_self])
  intro w3 hp7
  have hn7 := h7.num
  have hs7 := h7.size
  have hs7' := hp7.size
  have hszw := f1.size
  have f3 : Fr Nob w w3 := (f1.new h7).put hp7 (.inl (by omega))
  have f13 : Fr Nob w1 w3 := (Fr.new (Fr.refl Nob w1) h7).put hp7 (.inl (by omega))
  refine hK _ _ ?_; clear hK K
  repeat' (first | refine H_seq ?_ | refine H_block ?_ | refine H_skip ?_ | refine H_nil ?_ | refine H_exit ?_ | refine H_ret ?_ | refine B_normal ?_ | refine B_same ?_ | refine B_other rfl ?_ | refine B_ret ?_ | refine L_exit ?_ | refine L_ret ?_)
  refine H_region k47 s47_3 rfl fun K hK => ?_; simp (config := { maxSteps := 4000000 }) only [go_sem, beq_self_eq_true, List.getElem_toArray, List.getElem_cons_zero, List.getElem_cons_succ, decide_true, decide_false, cond_true, cond_false, Nat.reduceBEq, reduceCtorEq, Nat.reduceAdd, Nat.reduceMul, Nat.reduceSub, reduceIte, Int.reduceToNat, Int.reduceEq, Int.reduceLT, Int.reduceLE, Nat.reduceLeDiff, Nat.reduceEqDiff, eq_self, and_self, s47_3]
  refine hK _ _ ?_; clear hK K
  repeat' (first | refine H_seq ?_ | refine H_block ?_ | refine H_skip ?_ | refine H_nil ?_ | refine H_exit ?_ | refine H_ret ?_ | refine B_normal ?_ | refine B_same ?_ | refine B_other rfl ?_ | refine B_ret ?_ | refine L_exit ?_ | refine L_ret ?_)
  refine H_region k47 s47_4 rfl fun K hK => ?_; simp (config := { maxSteps := 4000000 }) only [go_sem, beq_self_eq_true, List.getElem_toArray, List.getElem_cons_zero, List.getElem_cons_succ, decide_true, decide_false, cond_true, cond_false, Nat.reduceBEq, reduceCtorEq, Nat.reduceAdd, Nat.reduceMul, Nat.reduceSub, reduceIte, Int.reduceToNat, Int.reduceEq, Int.reduceLT, Int.reduceLE, Nat.reduceLeDiff, Nat.reduceEqDiff, eq_self, and_self, s47_4]
  refine hK _ _ ?_; clear hK K
  repeat' (first | refine H_seq ?_ | refine H_block ?_ | refine H_skip ?_ | refine H_nil ?_ | refine H_exit ?_ | refine H_ret ?_ | refine B_normal ?_ | refine B_same ?_ | refine B_other rfl ?_ | refine B_ret ?_ | refine L_exit ?_ | refine L_ret ?_)
  refine H_region k47 s47_5 rfl fun K hK => ?_; simp (config := { maxSteps := 4000000 }) only [go_sem, beq_self_eq_true, List.getElem_toArray, List.getElem_cons_zero, List.getElem_cons_succ, decide_true, decide_false, cond_true, cond_false, Nat.reduceBEq, reduceCtorEq, Nat.reduceAdd, Nat.reduceMul, Nat.reduceSub, reduceIte, Int.reduceToNat, Int.reduceEq, Int.reduceLT, Int.reduceLE, Nat.reduceLeDiff, Nat.reduceEqDiff, eq_self, and_self, s47_5]
  refine hK _ _ ?_; clear hK K
  repeat' (first | refine H_seq ?_ | refine H_block ?_ | refine H_skip ?_ | refine H_nil ?_ | refine H_exit ?_ | refine H_ret ?_ | refine B_normal ?_ | refine B_same ?_ | refine B_other rfl ?_ | refine B_ret ?_ | refine L_exit ?_ | refine L_ret ?_)
  refine H_region k47 s47_6 rfl fun K hK => ?_; simp (config := { maxSteps := 4000000 }) only [go_sem, beq_self_eq_true, List.getElem_toArray, List.getElem_cons_zero, List.getElem_cons_succ, decide_true, decide_false, cond_true, cond_false, Nat.reduceBEq, reduceCtorEq, Nat.reduceAdd, Nat.reduceMul, Nat.reduceSub, reduceIte, Int.reduceToNat, Int.reduceEq, Int.reduceLT, Int.reduceLE, Nat.reduceLeDiff, Nat.reduceEqDiff, eq_self, and_self, s47_6]
  refine hK _ _ ?_; clear hK K
  repeat' (first | refine H_seq ?_ | refine H_block ?_ | refine H_skip ?_ | refine H_nil ?_ | refine H_exit ?_ | refine H_ret ?_ | refine B_normal ?_ | refine B_same ?_ | refine B_other rfl ?_ | refine B_ret ?_ | refine L_exit ?_ | refine L_ret ?_)
  have h30 : LayI w3.heap.size b7 (.slice none 0 0) (.slice none 0 0) (.slice none 0 0) (.slice none 0 0) ⟨[], A, [], [], []⟩ w3 :=
    ⟨Own.nil _ _, Own.nil _ _, (Own.nil _ _).row, hp7.blk, Own.nil _ _, fun b hb => (by cases hb), fun b hb => (by cases hb), fun b hb => (by cases hb), fun b hb => (by cases hb), by omega, Nat.le_refl _⟩
  refine H_loop (fun x : Nat × Value × Value × Value × LS => [(0, ptrV s), (1, .int .i64 A), (2, .slice a' k c'), (6, .slice al nl cl), (7, ptrV b7), (8, x.2.1), (9, x.2.2.1), (10, x.2.2.2.1), (11, .int .i64 x.1)])
    (fun x u => x.1 ≤ nl ∧ (w3.heap.size ≤ u.heap.size ∧ Fr (fun b => b = b7) w3 u) ∧ x.2.2.2.2 = (ls.take x.1).foldl (layS A bs.length) ⟨[], A, [], [], []⟩ ∧ ∃ vB, LayI w3.heap.size b7 x.2.1 x.2.2.1 x.2.2.2.1 vB x.2.2.2.2 u)
    (fun x => nl - x.1) (0, .slice none 0 0, .slice none 0 0, .slice none 0 0, ⟨[], A, [], [], []⟩)
    ⟨rfl, rfl, rfl, rfl, rfl, rfl, rfl, rfl, rfl, trivial⟩ ⟨Nat.zero_le _, ⟨Nat.le_refl _, Fr.refl _ _⟩, rfl, _, h30⟩ ?_
  rintro ⟨i, vA, vH, vL, st⟩ u ⟨hi, ⟨hsz, hf⟩, hst, vB, hI⟩
  simp only at hi hf hst hI
  have hF : Fr Nob w1 u := f13.trans2 hf (fun _ _ q => q) (fun b hb q => by subst q; omega)
  have hFw : Fr Nob w u := f1.trans hF
  repeat' (first | refine H_seq ?_ | refine H_block ?_ | refine H_skip ?_ | refine H_nil ?_ | refine H_exit ?_ | refine H_ret ?_ | refine B_normal ?_ | refine B_same ?_ | refine B_other rfl ?_ | refine B_ret ?_ | refine L_exit ?_ | refine L_ret ?_)
  refine H_region k47 s47_7 rfl fun K hK => ?_; simp (config := { maxSteps := 4000000 }) only [go_sem, beq_self_eq_true, List.getElem_toArray, List.getElem_cons_zero, List.getElem_cons_succ, decide_true, decide_false, cond_true, cond_false, Nat.reduceBEq, reduceCtorEq, Nat.reduceAdd, Nat.reduceMul, Nat.reduceSub, reduceIte, Int.reduceToNat, Int.reduceEq, Int.reduceLT, Int.reduceLE, Nat.reduceLeDiff, Nat.reduceEqDiff, eq_self, and_self, s47_7]
  refine hK _ _ ?_; clear hK K
  repeat' (first | refine H_seq ?_ | refine H_block ?_ | refine H_skip ?_ | refine H_nil ?_ | refine H_exit ?_ | refine H_ret ?_ | refine B_normal ?_ | refine B_same ?_ | refine B_other rfl ?_ | refine B_ret ?_ | refine L_exit ?_ | refine L_ret ?_)
  by_cases hin : i < nl
  · refine H_condT rfl (by simpa using hin) ?_
    repeat' (first | refine H_seq ?_ | refine H_block ?_ | refine H_skip ?_ | refine H_nil ?_ | refine H_exit ?_ | refine H_ret ?_ | refine B_normal ?_ | refine B_same ?_ | refine B_other rfl ?_ | refine B_ret ?_ | refine L_exit ?_ | refine L_ret ?_)
    obtain ⟨bl, ol, rfl, _, hcl⟩ := rowM_cells (hol.fr hF (fun _ _ q => q)).row (by omega)
    obtain ⟨m, hm⟩ : ∃ m, ls[i]? = some m := ⟨ls[i]'(by omega), List.getElem?_eq_getElem _⟩
    obtain ⟨c0, c1⟩ := hcl i m hm
    have hmem := List.mem_of_getElem? hm
    have hmo := hlso.lo m.pc (List.mem_map.2 ⟨m, hmem, rfl⟩)
    simp only [MP.pc] at hmo
    obtain ⟨hmok, hmb, _⟩ := hlsm m hmem
    have hnext : IntKind.i64.wrap ((i : Int) + 1) = ((i + 1 : Nat) : Int) := by rw [wrapI (by omega)]; omega
    have hdec : nl - (i + 1) < nl - i := by omega
    have hstep : layS A bs.length st m = (ls.take (i + 1)).foldl (layS A bs.length) ⟨[], A, [], [], []⟩ := by rw [take_snoc hm, List.foldl_append, ← hst]; rfl
    obtain ⟨l1, l2, l3, l4, _⟩ := lay_facts (A := A) (k := bs.length) (ls.take i) ⟨[], A, [], [], []⟩
    rw [← hst] at l1 l2 l3 l4
    simp only [List.length_nil, Nat.zero_add, List.length_take] at l1 l2 l3 l4
    have l5 := held_take_le ls i
    have l7 := held_take_le ls (i + 1)
    have l8 := held_take_succ hm
    have hml : m.bs.length ≤ 1073741824 := by omega
    refine H_region k47 s47_9 rfl fun K hK => ?_; simp (config := { maxSteps := 4000000 }) only [go_sem, beq_self_eq_true, List.getElem_toArray, List.getElem_cons_zero, List.getElem_cons_succ, decide_true, decide_false, cond_true, cond_false, Nat.reduceBEq, reduceCtorEq, Nat.reduceAdd, Nat.reduceMul, Nat.reduceSub, reduceIte, Int.reduceToNat, Int.reduceEq, Int.reduceLT, Int.reduceLE, Nat.reduceLeDiff, Nat.reduceEqDiff, eq_self, and_self, s47_9, c0, c1]
    refine ⟨⟨by omega, by omega⟩, ?_⟩
    intro b12 u1 h12
    refine ⟨_, h12.blk, by simp, ?_⟩
    (try simp (config := { maxSteps := 4000000 }) only [go_sem, beq_self_eq_true, List.getElem_toArray, List.getElem_cons_zero, List.getElem_cons_succ, decide_true, decide_false, cond_true, cond_false, Nat.reduceBEq, reduceCtorEq, Nat.reduceAdd, Nat.reduceMul, Nat.reduceSub, reduceIte, Int.reduceToNat, Int.reduceEq, Int.reduceLT, Int.reduceLE, Nat.reduceLeDiff, Nat.reduceEqDiff, eq_self, and_self])
    intro u2 hp12
    have hn12 := h12.num
    have f2u : Fr Nob u u2 := (Fr.new (Fr.refl Nob u) h12).put hp12 (.inl (by omega))
    refine hK _ _ ?_; clear hK K
    repeat' (first | refine H_seq ?_ | refine H_block ?_ | refine H_skip ?_ | refine H_nil ?_ | refine H_exit ?_ | refine H_ret ?_ | refine B_normal ?_ | refine B_same ?_ | refine B_other rfl ?_ | refine B_ret ?_ | refine L_exit ?_ | refine L_ret ?_)
    refine H_region k47 s47_11 rfl fun K hK => ?_; simp (config := { maxSteps := 4000000 }) only [go_sem, beq_self_eq_true, List.getElem_toArray, List.getElem_cons_zero, List.getElem_cons_succ, decide_true, decide_false, cond_true, cond_false, Nat.reduceBEq, reduceCtorEq, Nat.reduceAdd, Nat.reduceMul, Nat.reduceSub, reduceIte, Int.reduceToNat, Int.reduceEq, Int.reduceLT, Int.reduceLE, Nat.reduceLeDiff, Nat.reduceEqDiff, eq_self, and_self, s47_11, hp12.blk.cell]
    refine callC tcall_66 (rend_spec _ _ _ _ _ (by omega) (by omega)) ?_
    rintro v3 u3 ⟨rfl, f3'⟩
    have hI3 := hI.fr (f2u.trans f3')
    have hF3 : Fr (fun b => b = b7) w3 u3 := (hf.trans2 (f2u.trans f3') (fun _ _ q => q) (fun _ _ q => q.elim))
    have h123 := hp12.blk.fr f3' (fun q => q)
    have h12ne : b12 ≠ b7 := by have := hI.lt; omega
    have h12v : ∀ v : Value, (∀ b, blk v = some b → b < u.heap.size) → blk v ≠ some b12 := fun v h e => by have := h b12 e; omega
    simp (config := { maxSteps := 4000000 }) only [go_sem, beq_self_eq_true, List.getElem_toArray, List.getElem_cons_zero, List.getElem_cons_succ, decide_true, decide_false, cond_true, cond_false, Nat.reduceBEq, reduceCtorEq, Nat.reduceAdd, Nat.reduceMul, Nat.reduceSub, reduceIte, Int.reduceToNat, Int.reduceEq, Int.reduceLT, Int.reduceLE, Nat.reduceLeDiff, Nat.reduceEqDiff, eq_self, and_self, s47_11_1]
    refine hK _ _ ?_; clear hK K
    repeat' (first | refine H_seq ?_ | refine H_block ?_ | refine H_skip ?_ | refine H_nil ?_ | refine H_exit ?_ | refine H_ret ?_ | refine B_normal ?_ | refine B_same ?_ | refine B_other rfl ?_ | refine B_ret ?_ | refine L_exit ?_ | refine L_ret ?_)
    by_cases k1 : m.at_ + m.bs.length < A
    · have hs1 : layS A bs.length st m = { st with ah := st.ah ++ [m] } := by unfold layS; rw [if_pos k1]
      rw [hs1] at hstep
      refine H_condT rfl (by simp; omega) ?_
      repeat' (first | refine H_seq ?_ | refine H_block ?_ | refine H_skip ?_ | refine H_nil ?_ | refine H_exit ?_ | refine H_ret ?_ | refine B_normal ?_ | refine B_same ?_ | refine B_other rfl ?_ | refine B_ret ?_ | refine L_exit ?_ | refine L_ret ?_)
      refine H_region k47 s47_12 rfl fun K hK => ?_; simp (config := { maxSteps := 4000000 }) only [go_sem, beq_self_eq_true, List.getElem_toArray, List.getElem_cons_zero, List.getElem_cons_succ, decide_true, decide_false, cond_true, cond_false, Nat.reduceBEq, reduceCtorEq, Nat.reduceAdd, Nat.reduceMul, Nat.reduceSub, reduceIte, Int.reduceToNat, Int.reduceEq, Int.reduceLT, Int.reduceLE, Nat.reduceLeDiff, Nat.reduceEqDiff, eq_self, and_self, s47_12, h123.cell]
      intro b4 u4 h4
      refine appendQ tsl_91 rfl rfl (by decide) hI3.a h4.fr (Own.of_new (n := 1) (sz := 2) h4 rfl (by decide)).row (by simp [Value.oneCell']) (by rw [mcells_len]; simp only [List.length_cons, List.length_nil]; omega) ?_
      intro v5 u5 ho5 f5 hb5
      refine hK _ _ ?_; clear hK K
      repeat' (first | refine H_seq ?_ | refine H_block ?_ | refine H_skip ?_ | refine H_nil ?_ | refine H_exit ?_ | refine H_ret ?_ | refine B_normal ?_ | refine B_same ?_ | refine B_other rfl ?_ | refine B_ret ?_ | refine L_exit ?_ | refine L_ret ?_)
      refine H_region k47 s47_8 rfl fun K hK => ?_; simp (config := { maxSteps := 4000000 }) only [go_sem, beq_self_eq_true, List.getElem_toArray, List.getElem_cons_zero, List.getElem_cons_succ, decide_true, decide_false, cond_true, cond_false, Nat.reduceBEq, reduceCtorEq, Nat.reduceAdd, Nat.reduceMul, Nat.reduceSub, reduceIte, Int.reduceToNat, Int.reduceEq, Int.reduceLT, Int.reduceLE, Nat.reduceLeDiff, Nat.reduceEqDiff, eq_self, and_self, s47_8]
      refine hK _ _ ?_; clear hK K
      repeat' (first | refine H_seq ?_ | refine H_block ?_ | refine H_skip ?_ | refine H_nil ?_ | refine H_exit ?_ | refine H_ret ?_ | refine B_normal ?_ | refine B_same ?_ | refine B_other rfl ?_ | refine B_ret ?_ | refine L_exit ?_ | refine L_ret ?_)
      rw [hnext]
      have hI5 := hI3.toA (m := m) (by rw [mcells_append]; simpa [mcells, MP.cells] using ho5) f5 hb5
      exact L_normal ⟨(i + 1, v5, vH, vL, _), ⟨rfl, rfl, rfl, rfl, rfl, rfl, rfl, rfl, rfl, trivial⟩, ⟨hin, ⟨hI5.le, hF3.trans2 f5 (fun _ _ q => q) (fun b hb q => by have := (hI3.fa b q).1; omega)⟩, hstep, vB, hI5⟩, hdec⟩
    refine H_condF rfl (by simp; omega) ?_
    repeat' (first | refine H_seq ?_ | refine H_block ?_ | refine H_skip ?_ | refine H_nil ?_ | refine H_exit ?_ | refine H_ret ?_ | refine B_normal ?_ | refine B_same ?_ | refine B_other rfl ?_ | refine B_ret ?_ | refine L_exit ?_ | refine L_ret ?_)
    refine H_region k47 s47_13 rfl fun K hK => ?_; simp (config := { maxSteps := 4000000 }) only [go_sem, beq_self_eq_true, List.getElem_toArray, List.getElem_cons_zero, List.getElem_cons_succ, decide_true, decide_false, cond_true, cond_false, Nat.reduceBEq, reduceCtorEq, Nat.reduceAdd, Nat.reduceMul, Nat.reduceSub, reduceIte, Int.reduceToNat, Int.reduceEq, Int.reduceLT, Int.reduceLE, Nat.reduceLeDiff, Nat.reduceEqDiff, eq_self, and_self, s47_13, h123.cell]
    refine callC tcall_66 (rend_spec _ _ _ _ _ (by omega) (by omega)) ?_
    rintro v4 u4 ⟨rfl, f4⟩
    have hI4 := hI3.fr f4
    have hF4 : Fr (fun b => b = b7) w3 u4 := hF3.trans2 f4 (fun _ _ q => q) (fun _ _ q => q.elim)
    have h124 := h123.fr f4 (fun q => q)
    simp (config := { maxSteps := 4000000 }) only [go_sem, beq_self_eq_true, List.getElem_toArray, List.getElem_cons_zero, List.getElem_cons_succ, decide_true, decide_false, cond_true, cond_false, Nat.reduceBEq, reduceCtorEq, Nat.reduceAdd, Nat.reduceMul, Nat.reduceSub, reduceIte, Int.reduceToNat, Int.reduceEq, Int.reduceLT, Int.reduceLE, Nat.reduceLeDiff, Nat.reduceEqDiff, eq_self, and_self, s47_13_1]
    refine hK _ _ ?_; clear hK K
    repeat' (first | refine H_seq ?_ | refine H_block ?_ | refine H_skip ?_ | refine H_nil ?_ | refine H_exit ?_ | refine H_ret ?_ | refine B_normal ?_ | refine B_same ?_ | refine B_other rfl ?_ | refine B_ret ?_ | refine L_exit ?_ | refine L_ret ?_)
    by_cases k2 : m.at_ + m.bs.length = A
    · have hs1 : layS A bs.length st m = { st with at0 := m.at_, y0 := st.y0 ++ m.bs } := by unfold layS; rw [if_neg k1, if_pos k2]
      rw [hs1] at hstep
      refine H_condT rfl (by simp; omega) ?_
      repeat' (first | refine H_seq ?_ | refine H_block ?_ | refine H_skip ?_ | refine H_nil ?_ | refine H_exit ?_ | refine H_ret ?_ | refine B_normal ?_ | refine B_same ?_ | refine B_other rfl ?_ | refine B_ret ?_ | refine L_exit ?_ | refine L_ret ?_)
      refine H_region k47 s47_14 rfl fun K hK => ?_; simp (config := { maxSteps := 4000000 }) only [go_sem, beq_self_eq_true, List.getElem_toArray, List.getElem_cons_zero, List.getElem_cons_succ, decide_true, decide_false, cond_true, cond_false, Nat.reduceBEq, reduceCtorEq, Nat.reduceAdd, Nat.reduceMul, Nat.reduceSub, reduceIte, Int.reduceToNat, Int.reduceEq, Int.reduceLT, Int.reduceLE, Nat.reduceLeDiff, Nat.reduceEqDiff, eq_self, and_self, s47_14, h124.cell]
      refine ⟨_, hI4.w, by simp, ?_⟩
      (try simp (config := { maxSteps := 4000000 }) only [go_sem, beq_self_eq_true, List.getElem_toArray, List.getElem_cons_zero, List.getElem_cons_succ, decide_true, decide_false, cond_true, cond_false, Nat.reduceBEq, reduceCtorEq, Nat.reduceAdd, Nat.reduceMul, Nat.reduceSub, reduceIte, Int.reduceToNat, Int.reduceEq, Int.reduceLT, Int.reduceLE, Nat.reduceLeDiff, Nat.reduceEqDiff, eq_self, and_self])
      intro u5 hp5
      have h125 := hp5.keepW h124 h12ne
      refine hK _ _ ?_; clear hK K
      repeat' (first | refine H_seq ?_ | refine H_block ?_ | refine H_skip ?_ | refine H_nil ?_ | refine H_exit ?_ | refine H_ret ?_ | refine B_normal ?_ | refine B_same ?_ | refine B_other rfl ?_ | refine B_ret ?_ | refine L_exit ?_ | refine L_ret ?_)
      refine H_region k47 s47_15 rfl fun K hK => ?_; simp (config := { maxSteps := 4000000 }) only [go_sem, beq_self_eq_true, List.getElem_toArray, List.getElem_cons_zero, List.getElem_cons_succ, decide_true, decide_false, cond_true, cond_false, Nat.reduceBEq, reduceCtorEq, Nat.reduceAdd, Nat.reduceMul, Nat.reduceSub, reduceIte, Int.reduceToNat, Int.reduceEq, Int.reduceLT, Int.reduceLE, Nat.reduceLeDiff, Nat.reduceEqDiff, eq_self, and_self, s47_15, h125.cell, hp5.blk.cell]
      have hI5 := hI4.toB (v' := vB) (ys := st.y0) hI4.b (Fr.refl _ _) (fun b h => .inl h) hp5
      have hF5 : Fr (fun b => b = b7) w3 u5 := hF4.trans2 hp5.fr (fun _ _ q => q) (fun _ _ q => q)
      have hmrow := MP.row (hmok.fr (f3.trans2 hF5 (H := fun b => b = b7) (fun _ _ q => q.elim) (fun _ _ q => q)) (fun q => by have := hmok.lt; have q' : m.b = b7 := q; omega))
      refine appendQ tsl_40 rfl rfl (by decide) hI5.b (Fr.refl _ _) hmrow (bvs_one _) (by rw [bvs_len, bvs_len]; simp only; omega) ?_
      intro v6 u6 ho6 f6 hb6
      rw [← bvs_app] at ho6
      obtain ⟨a6, n6, c6, rfl⟩ := ho6.lit
      refine ⟨by simp [vcells_slice], _, hp5.blk.fr f6 (fun q => by have := hI5.fb b7 q; have := hI5.lt; omega), by simp [vcells_slice], by simp [vcells_slice, Value.oneCell'], ?_⟩
      (try simp (config := { maxSteps := 4000000 }) only [go_sem, beq_self_eq_true, List.getElem_toArray, List.getElem_cons_zero, List.getElem_cons_succ, decide_true, decide_false, cond_true, cond_false, Nat.reduceBEq, reduceCtorEq, Nat.reduceAdd, Nat.reduceMul, Nat.reduceSub, reduceIte, Int.reduceToNat, Int.reduceEq, Int.reduceLT, Int.reduceLE, Nat.reduceLeDiff, Nat.reduceEqDiff, eq_self, and_self])
      intro u7 hp7'
      refine hK _ _ ?_; clear hK K
      repeat' (first | refine H_seq ?_ | refine H_block ?_ | refine H_skip ?_ | refine H_nil ?_ | refine H_exit ?_ | refine H_ret ?_ | refine B_normal ?_ | refine B_same ?_ | refine B_other rfl ?_ | refine B_ret ?_ | refine L_exit ?_ | refine L_ret ?_)
      refine H_region k47 s47_8 rfl fun K hK => ?_; simp (config := { maxSteps := 4000000 }) only [go_sem, beq_self_eq_true, List.getElem_toArray, List.getElem_cons_zero, List.getElem_cons_succ, decide_true, decide_false, cond_true, cond_false, Nat.reduceBEq, reduceCtorEq, Nat.reduceAdd, Nat.reduceMul, Nat.reduceSub, reduceIte, Int.reduceToNat, Int.reduceEq, Int.reduceLT, Int.reduceLE, Nat.reduceLeDiff, Nat.reduceEqDiff, eq_self, and_self, s47_8]
      refine hK _ _ ?_; clear hK K
      repeat' (first | refine H_seq ?_ | refine H_block ?_ | refine H_skip ?_ | refine H_nil ?_ | refine H_exit ?_ | refine H_ret ?_ | refine B_normal ?_ | refine B_same ?_ | refine B_other rfl ?_ | refine B_ret ?_ | refine L_exit ?_ | refine L_ret ?_)
      rw [hnext]
      have hI7 := hI5.toB ho6 f6 hb6 hp7'
      exact L_normal ⟨(i + 1, vA, vH, vL, _), ⟨rfl, rfl, rfl, rfl, rfl, rfl, rfl, rfl, rfl, trivial⟩, ⟨hin, ⟨hI7.le, (hF5.trans2 f6 (fun _ _ q => q) (fun b hb q => by have := hI5.fb b q; omega)).trans2 hp7'.fr (fun _ _ q => q) (fun _ _ q => q)⟩, hstep, _, hI7⟩, hdec⟩
    refine H_condF rfl (by simp; omega) ?_
    repeat' (first | refine H_seq ?_ | refine H_block ?_ | refine H_skip ?_ | refine H_nil ?_ | refine H_exit ?_ | refine H_ret ?_ | refine B_normal ?_ | refine B_same ?_ | refine B_other rfl ?_ | refine B_ret ?_ | refine L_exit ?_ | refine L_ret ?_)
    refine H_region k47 s47_16 rfl fun K hK => ?_; simp (config := { maxSteps := 4000000 }) only [go_sem, beq_self_eq_true, List.getElem_toArray, List.getElem_cons_zero, List.getElem_cons_succ, decide_true, decide_false, cond_true, cond_false, Nat.reduceBEq, reduceCtorEq, Nat.reduceAdd, Nat.reduceMul, Nat.reduceSub, reduceIte, Int.reduceToNat, Int.reduceEq, Int.reduceLT, Int.reduceLE, Nat.reduceLeDiff, Nat.reduceEqDiff, eq_self, and_self, s47_16, h124.cell]
    rw [wrapI (by omega)]
    refine hK _ _ ?_; clear hK K
    repeat' (first | refine H_seq ?_ | refine H_block ?_ | refine H_skip ?_ | refine H_nil ?_ | refine H_exit ?_ | refine H_ret ?_ | refine B_normal ?_ | refine B_same ?_ | refine B_other rfl ?_ | refine B_ret ?_ | refine L_exit ?_ | refine L_ret ?_)
    by_cases k3 : m.at_ = A + bs.length
    · have hs1 : layS A bs.length st m = { st with y2 := m.bs } := by unfold layS; rw [if_neg k1, if_neg k2, if_pos k3]
      rw [hs1] at hstep
      refine H_condT rfl (by simp; omega) ?_
      repeat' (first | refine H_seq ?_ | refine H_block ?_ | refine H_skip ?_ | refine H_nil ?_ | refine H_exit ?_ | refine H_ret ?_ | refine B_normal ?_ | refine B_same ?_ | refine B_other rfl ?_ | refine B_ret ?_ | refine L_exit ?_ | refine L_ret ?_)
      refine H_region k47 s47_17 rfl fun K hK => ?_; simp (config := { maxSteps := 4000000 }) only [go_sem, beq_self_eq_true, List.getElem_toArray, List.getElem_cons_zero, List.getElem_cons_succ, decide_true, decide_false, cond_true, cond_false, Nat.reduceBEq, reduceCtorEq, Nat.reduceAdd, Nat.reduceMul, Nat.reduceSub, reduceIte, Int.reduceToNat, Int.reduceEq, Int.reduceLT, Int.reduceLE, Nat.reduceLeDiff, Nat.reduceEqDiff, eq_self, and_self, s47_17, h124.cell]
      refine hK _ _ ?_; clear hK K
      repeat' (first | refine H_seq ?_ | refine H_block ?_ | refine H_skip ?_ | refine H_nil ?_ | refine H_exit ?_ | refine H_ret ?_ | refine B_normal ?_ | refine B_same ?_ | refine B_other rfl ?_ | refine B_ret ?_ | refine L_exit ?_ | refine L_ret ?_)
      refine H_region k47 s47_8 rfl fun K hK => ?_; simp (config := { maxSteps := 4000000 }) only [go_sem, beq_self_eq_true, List.getElem_toArray, List.getElem_cons_zero, List.getElem_cons_succ, decide_true, decide_false, cond_true, cond_false, Nat.reduceBEq, reduceCtorEq, Nat.reduceAdd, Nat.reduceMul, Nat.reduceSub, reduceIte, Int.reduceToNat, Int.reduceEq, Int.reduceLT, Int.reduceLE, Nat.reduceLeDiff, Nat.reduceEqDiff, eq_self, and_self, s47_8]
      refine hK _ _ ?_; clear hK K
      repeat' (first | refine H_seq ?_ | refine H_block ?_ | refine H_skip ?_ | refine H_nil ?_ | refine H_exit ?_ | refine H_ret ?_ | refine B_normal ?_ | refine B_same ?_ | refine B_other rfl ?_ | refine B_ret ?_ | refine L_exit ?_ | refine L_ret ?_)
      rw [hnext]
      have hmrow := MP.row (hmok.fr (f3.trans2 hF4 (H := fun b => b = b7) (fun _ _ q => q.elim) (fun _ _ q => q)) (fun q => by have := hmok.lt; have q' : m.b = b7 := q; omega))
      have hI5 : LayI w3.heap.size b7 vA vH (.slice (some ⟨m.b, m.o, none⟩) m.bs.length m.c) vB { st with y2 := m.bs } u4 :=
        ⟨hI4.a, hI4.h, hmrow, hI4.w, hI4.b, hI4.fa, hI4.fh, hI4.fb, fun b hb => by simp only [blk, Option.some.injEq] at hb; have := hmok.lt; omega, hI4.lt, hI4.le⟩
      exact L_normal ⟨(i + 1, vA, vH, _, _), ⟨rfl, rfl, rfl, rfl, rfl, rfl, rfl, rfl, rfl, trivial⟩, ⟨hin, ⟨hI5.le, hF4⟩, hstep, vB, hI5⟩, hdec⟩
    have hs1 : layS A bs.length st m = { st with bh := st.bh ++ [m] } := by unfold layS; rw [if_neg k1, if_neg k2, if_neg k3]
    rw [hs1] at hstep
    refine H_condF rfl (by simp; omega) ?_
    repeat' (first | refine H_seq ?_ | refine H_block ?_ | refine H_skip ?_ | refine H_nil ?_ | refine H_exit ?_ | refine H_ret ?_ | refine B_normal ?_ | refine B_same ?_ | refine B_other rfl ?_ | refine B_ret ?_ | refine L_exit ?_ | refine L_ret ?_)
    refine H_region k47 s47_10 rfl fun K hK => ?_; simp (config := { maxSteps := 4000000 }) only [go_sem, beq_self_eq_true, List.getElem_toArray, List.getElem_cons_zero, List.getElem_cons_succ, decide_true, decide_false, cond_true, cond_false, Nat.reduceBEq, reduceCtorEq, Nat.reduceAdd, Nat.reduceMul, Nat.reduceSub, reduceIte, Int.reduceToNat, Int.reduceEq, Int.reduceLT, Int.reduceLE, Nat.reduceLeDiff, Nat.reduceEqDiff, eq_self, and_self, s47_10, h124.cell]
    intro b5 u5 h5
    refine appendQ tsl_91 rfl rfl (by decide) hI4.h h5.fr (Own.of_new (n := 1) (sz := 2) h5 rfl (by decide)).row (by simp [Value.oneCell']) (by rw [mcells_len]; simp only [List.length_cons, List.length_nil]; omega) ?_
    intro v6 u6 ho6 f6 hb6
    refine hK _ _ ?_; clear hK K
    repeat' (first | refine H_seq ?_ | refine H_block ?_ | refine H_skip ?_ | refine H_nil ?_ | refine H_exit ?_ | refine H_ret ?_ | refine B_normal ?_ | refine B_same ?_ | refine B_other rfl ?_ | refine B_ret ?_ | refine L_exit ?_ | refine L_ret ?_)
    refine H_region k47 s47_8 rfl fun K hK => ?_; simp (config := { maxSteps := 4000000 }) only [go_sem, beq_self_eq_true, List.getElem_toArray, List.getElem_cons_zero, List.getElem_cons_succ, decide_true, decide_false, cond_true, cond_false, Nat.reduceBEq, reduceCtorEq, Nat.reduceAdd, Nat.reduceMul, Nat.reduceSub, reduceIte, Int.reduceToNat, Int.reduceEq, Int.reduceLT, Int.reduceLE, Nat.reduceLeDiff, Nat.reduceEqDiff, eq_self, and_self, s47_8]
    refine hK _ _ ?_; clear hK K
    repeat' (first | refine H_seq ?_ | refine H_block ?_ | refine H_skip ?_ | refine H_nil ?_ | refine H_exit ?_ | refine H_ret ?_ | refine B_normal ?_ | refine B_same ?_ | refine B_other rfl ?_ | refine B_ret ?_ | refine L_exit ?_ | refine L_ret ?_)
    rw [hnext]
    have hI6 := hI4.toH (m := m) (by rw [mcells_append]; simpa [mcells, MP.cells] using ho6) f6 hb6
    exact L_normal ⟨(i + 1, vA, v6, vL, _), ⟨rfl, rfl, rfl, rfl, rfl, rfl, rfl, rfl, rfl, trivial⟩, ⟨hin, ⟨hI6.le, hF4.trans2 f6 (fun _ _ q => q) (fun b hb q => by have := (hI4.fh b q).1; omega)⟩, hstep, vB, hI6⟩, hdec⟩
  · refine H_condF rfl (by simpa using hin) ?_
    repeat' (first | refine H_seq ?_ | refine H_block ?_ | refine H_skip ?_ | refine H_nil ?_ | refine H_exit ?_ | refine H_ret ?_ | refine B_normal ?_ | refine B_same ?_ | refine B_other rfl ?_ | refine B_ret ?_ | refine L_exit ?_ | refine L_ret ?_)
    rw [List.take_of_length_le (by omega)] at hst
    have hfin := lay_all (bs := bs) h0 ls [] 0 hlso hlsa
    rw [← hst, hlsp] at hfin
    simp only [List.map_nil, List.nil_append] at hfin
    obtain ⟨l1, l2, l3, l4, l6⟩ := lay_facts (A := A) (k := bs.length) ls ⟨[], A, [], [], []⟩
    rw [← hst] at l1 l2 l3 l4 l6
    simp only [List.length_nil, Nat.zero_add, List.not_mem_nil, false_or] at l1 l2 l3 l4 l6
    have hbu := (hb.fr hFw (fun _ _ q => q))
    obtain ⟨aL, nL, cL, rfl, _⟩ := id hI.l
    obtain ⟨aH, nH, cH, rfl⟩ := hI.h.lit
    obtain ⟨aA, nA, cA, rfl⟩ := hI.a.lit
    refine H_region k47 s47_18 rfl fun K hK => ?_; simp (config := { maxSteps := 4000000 }) only [go_sem, beq_self_eq_true, List.getElem_toArray, List.getElem_cons_zero, List.getElem_cons_succ, decide_true, decide_false, cond_true, cond_false, Nat.reduceBEq, reduceCtorEq, Nat.reduceAdd, Nat.reduceMul, Nat.reduceSub, reduceIte, Int.reduceToNat, Int.reduceEq, Int.reduceLT, Int.reduceLE, Nat.reduceLeDiff, Nat.reduceEqDiff, eq_self, and_self, s47_18, hI.w.cell]
    refine appendQ tsl_40 rfl rfl (by decide) hI.b (Fr.refl _ _) hbu (bvs_one _) (by rw [bvs_len, bvs_len]; omega) ?_
    intro v5 u5 ho5 f5 hb5
    rw [← bvs_app] at ho5
    obtain ⟨a5, n5, c5, rfl⟩ := ho5.lit
    refine ⟨by simp [vcells_slice], _, hI.w.fr f5 (fun q => by have := hI.fb b7 q; have := hI.lt; omega), by simp [vcells_slice], by simp [vcells_slice, Value.oneCell'], ?_⟩
    (try simp (config := { maxSteps := 4000000 }) only [go_sem, beq_self_eq_true, List.getElem_toArray, List.getElem_cons_zero, List.getElem_cons_succ, decide_true, decide_false, cond_true, cond_false, Nat.reduceBEq, reduceCtorEq, Nat.reduceAdd, Nat.reduceMul, Nat.reduceSub, reduceIte, Int.reduceToNat, Int.reduceEq, Int.reduceLT, Int.reduceLE, Nat.reduceLeDiff, Nat.reduceEqDiff, eq_self, and_self])
    intro u6 hp6
    have hI6 := hI.toB ho5 f5 hb5 hp6
    have hF6 : Fr (fun b => b = b7) w3 u6 := (hf.trans2 f5 (fun _ _ q => q) (fun b hb q => by have := hI.fb b q; omega)).trans2 hp6.fr (fun _ _ q => q) (fun _ _ q => q)
    refine hK _ _ ?_; clear hK K
    repeat' (first | refine H_seq ?_ | refine H_block ?_ | refine H_skip ?_ | refine H_nil ?_ | refine H_exit ?_ | refine H_ret ?_ | refine B_normal ?_ | refine B_same ?_ | refine B_other rfl ?_ | refine B_ret ?_ | refine L_exit ?_ | refine L_ret ?_)
    refine H_region k47 s47_19 rfl fun K hK => ?_; simp (config := { maxSteps := 4000000 }) only [go_sem, beq_self_eq_true, List.getElem_toArray, List.getElem_cons_zero, List.getElem_cons_succ, decide_true, decide_false, cond_true, cond_false, Nat.reduceBEq, reduceCtorEq, Nat.reduceAdd, Nat.reduceMul, Nat.reduceSub, reduceIte, Int.reduceToNat, Int.reduceEq, Int.reduceLT, Int.reduceLE, Nat.reduceLeDiff, Nat.reduceEqDiff, eq_self, and_self, s47_19, hI6.w.cell]
    refine appendQ tsl_40 rfl rfl (by decide) hI6.b (Fr.refl _ _) hI6.l (bvs_one _) (by rw [bvs_len, bvs_len]; simp only [List.length_append]; omega) ?_
    intro v7 u7 ho7 f7 hb7'
    rw [← bvs_app] at ho7
    obtain ⟨a7, n7, c7, rfl⟩ := ho7.lit
    refine ⟨by simp [vcells_slice], _, hI6.w.fr f7 (fun q => by have := hI6.fb b7 q; have := hI6.lt; omega), by simp [vcells_slice], by simp [vcells_slice, Value.oneCell'], ?_⟩
    (try simp (config := { maxSteps := 4000000 }) only [go_sem, beq_self_eq_true, List.getElem_toArray, List.getElem_cons_zero, List.getElem_cons_succ, decide_true, decide_false, cond_true, cond_false, Nat.reduceBEq, reduceCtorEq, Nat.reduceAdd, Nat.reduceMul, Nat.reduceSub, reduceIte, Int.reduceToNat, Int.reduceEq, Int.reduceLT, Int.reduceLE, Nat.reduceLeDiff, Nat.reduceEqDiff, eq_self, and_self])
    intro u8 hp8
    have hI8 := hI6.toB ho7 f7 hb7' hp8
    have hF8 : Fr (fun b => b = b7) w3 u8 := (hF6.trans2 f7 (fun _ _ q => q) (fun b hb q => by have := hI6.fb b q; omega)).trans2 hp8.fr (fun _ _ q => q) (fun _ _ q => q)
    obtain ⟨bo, oo, rfl, rfl, hown⟩ := Own.piece hI8.b (by simp only [List.length_append]; omega)
    have hF8w : Fr Nob w u8 := f3.trans2 hF8 (fun _ _ q => q) (fun b hb q => by subst q; omega)
    have hs8 := hh.hs.fr hF8w (fun q => q)
    refine hK _ _ ?_; clear hK K
    repeat' (first | refine H_seq ?_ | refine H_block ?_ | refine H_skip ?_ | refine H_nil ?_ | refine H_exit ?_ | refine H_ret ?_ | refine B_normal ?_ | refine B_same ?_ | refine B_other rfl ?_ | refine B_ret ?_ | refine L_exit ?_ | refine L_ret ?_)
    refine H_region k47 s47_20 rfl fun K hK => ?_; simp (config := { maxSteps := 4000000 }) only [go_sem, beq_self_eq_true, List.getElem_toArray, List.getElem_cons_zero, List.getElem_cons_succ, decide_true, decide_false, cond_true, cond_false, Nat.reduceBEq, reduceCtorEq, Nat.reduceAdd, Nat.reduceMul, Nat.reduceSub, reduceIte, Int.reduceToNat, Int.reduceEq, Int.reduceLT, Int.reduceLE, Nat.reduceLeDiff, Nat.reduceEqDiff, eq_self, and_self, s47_20, hI8.w.cell]
    intro b9 u9 h9
    have hslt : s < w.heap.size := hh.hs.lt
    have hlt := hI8.lt
    have hle8 := hI8.le
    have hbase : w.heap.size ≤ w3.heap.size := f3.size
    refine appendQ tsl_91 rfl rfl (by decide) hI8.a h9.fr (Own.of_new (n := 1) (sz := 2) h9 rfl (by decide)).row (by simp [Value.oneCell']) (by rw [mcells_len]; simp only [List.length_cons, List.length_nil]; omega) ?_
    intro v10 u10 ho10 f10 hb10
    obtain ⟨a10, n10, c10, rfl⟩ := ho10.lit
    have hs10 := hs8.fr f10 (fun q => by have := (hI8.fa s q).1; omega)
    refine ⟨by simp [vcells_slice], _, hs10, by simp [vcells_slice], by simp [vcells_slice, Value.oneCell'], ?_⟩
    (try simp (config := { maxSteps := 4000000 }) only [go_sem, beq_self_eq_true, List.getElem_toArray, List.getElem_cons_zero, List.getElem_cons_succ, decide_true, decide_false, cond_true, cond_false, Nat.reduceBEq, reduceCtorEq, Nat.reduceAdd, Nat.reduceMul, Nat.reduceSub, reduceIte, Int.reduceToNat, Int.reduceEq, Int.reduceLT, Int.reduceLE, Nat.reduceLeDiff, Nat.reduceEqDiff, eq_self, and_self])
    intro u11 hp11
    have hv10 : ∀ b, blk (.slice a10 n10 c10) = some b → w3.heap.size ≤ b ∧ blk (.slice aH nH cH) ≠ some b ∧ b ≠ bo := fun b hb => by
      rcases hb10 b hb with h | h
      · have := hI8.fa b h
        exact ⟨this.1, this.2.1, fun e => this.2.2 (by rw [e]; rfl)⟩
      · refine ⟨by omega, fun e => by have := hI8.h.blk_lt e; omega, fun e => ?_⟩
        have := (hown 0).lt
        simp only at this; omega
    have hoH := (hI8.h.fr f10 (fun b hb q => (hI8.fa b q).2.1 hb)).fr hp11.fr (fun b hb q => by have := (hI8.fh b hb).1; simp only [Onb] at q; omega)
    have ho11 := ho10.fr hp11.fr (fun b hb q => by have := (hv10 b hb).1; simp only [Onb] at q; omega)
    refine hK _ _ ?_; clear hK K
    repeat' (first | refine H_seq ?_ | refine H_block ?_ | refine H_skip ?_ | refine H_nil ?_ | refine H_exit ?_ | refine H_ret ?_ | refine B_normal ?_ | refine B_same ?_ | refine B_other rfl ?_ | refine B_ret ?_ | refine L_exit ?_ | refine L_ret ?_)
    refine H_region k47 s47_21 rfl fun K hK => ?_; simp (config := { maxSteps := 4000000 }) only [go_sem, beq_self_eq_true, List.getElem_toArray, List.getElem_cons_zero, List.getElem_cons_succ, decide_true, decide_false, cond_true, cond_false, Nat.reduceBEq, reduceCtorEq, Nat.reduceAdd, Nat.reduceMul, Nat.reduceSub, reduceIte, Int.reduceToNat, Int.reduceEq, Int.reduceLT, Int.reduceLE, Nat.reduceLeDiff, Nat.reduceEqDiff, eq_self, and_self, s47_21, hp11.blk.cell]
    refine appendQ tsl_91 rfl rfl (by decide) ho11 (Fr.refl _ _) hoH.row (mcells_one _) (by
      rw [mcells_len, List.length_append, mcells_len]; simp only [List.length_cons, List.length_nil]; omega) ?_
    intro v12 u12 ho12 f12 hb12
    obtain ⟨a12, n12, c12, rfl⟩ := ho12.lit
    have hs12 := hp11.blk.fr f12 (fun q => by have := (hv10 s q).1; omega)
    refine ⟨by simp [vcells_slice], _, hs12, by simp [vcells_slice], by simp [vcells_slice, Value.oneCell'], ?_⟩
    (try simp (config := { maxSteps := 4000000 }) only [go_sem, beq_self_eq_true, List.getElem_toArray, List.getElem_cons_zero, List.getElem_cons_succ, decide_true, decide_false, cond_true, cond_false, Nat.reduceBEq, reduceCtorEq, Nat.reduceAdd, Nat.reduceMul, Nat.reduceSub, reduceIte, Int.reduceToNat, Int.reduceEq, Int.reduceLT, Int.reduceLE, Nat.reduceLeDiff, Nat.reduceEqDiff, eq_self, and_self])
    intro u13 hp13
    refine hK _ _ ?_; clear hK K
    repeat' (first | refine H_seq ?_ | refine H_block ?_ | refine H_skip ?_ | refine H_nil ?_ | refine H_exit ?_ | refine H_ret ?_ | refine B_normal ?_ | refine B_same ?_ | refine B_other rfl ?_ | refine B_ret ?_ | refine L_exit ?_ | refine L_ret ?_)
    refine F_normal ?_
    (try simp (config := { maxSteps := 4000000 }) only [go_sem, beq_self_eq_true, List.getElem_toArray, List.getElem_cons_zero, List.getElem_cons_succ, decide_true, decide_false, cond_true, cond_false, Nat.reduceBEq, reduceCtorEq, Nat.reduceAdd, Nat.reduceMul, Nat.reduceSub, reduceIte, Int.reduceToNat, Int.reduceEq, Int.reduceLT, Int.reduceLE, Nat.reduceLeDiff, Nat.reduceEqDiff, eq_self, and_self])
    have FS : Fr (Onb s) w u13 := by
      have e1 : Fr (Onb s) w u10 := (f3.trans2 hF8 (H := Nob) (fun _ _ q => q) (fun b hb q => by have q' : b = b7 := q; omega)).trans2 f10 (fun _ _ q => q.elim) (fun b hb q => by have := (hI8.fa b q).1; omega)
      have e2 := e1.trans2 hp11.fr (H := Onb s) (fun _ _ q => q) (fun _ _ q => q)
      have e3 := e2.trans2 f12 (H := Onb s) (fun _ _ q => q) (fun b hb q => by have := (hv10 b q).1; omega)
      exact e3.trans2 hp13.fr (fun _ _ q => q) (fun _ _ q => q)
    have hv12 : ∀ b, blk (.slice a12 n12 c12) = some b → w3.heap.size ≤ b := fun b hb => by
      rcases hb12 b hb with h | h
      · exact (hv10 b h).1
      · have h1 := hp11.size; have h2 := f10.size; omega
    refine ⟨a12, n12, c12, st.ah ++ ⟨st.at0, st.y0 ++ bs ++ st.y2, bo, oo, c7⟩ :: st.bh, hp13.blk, ?_, fun b hb => ⟨by have := hv12 b hb; omega, by have := ho12.blk_lt hb; have := hp13.size; omega⟩, fun x hx => ?_, ?_, FS⟩
    · have e : mcells (st.ah ++ ⟨st.at0, st.y0 ++ bs ++ st.y2, bo, oo, c7⟩ :: st.bh) = mcells st.ah ++ [.int .i64 st.at0, .slice (some ⟨bo, oo, none⟩) (st.y0 ++ bs ++ st.y2).length c7] ++ mcells st.bh := by
        rw [mcells_append]; simp [mcells, MP.cells]
      rw [e]
      exact (ho12.fr hp13.fr (fun b hb q => by have := hv12 b hb; simp only [Onb] at q; omega)).row
    · have hold : ∀ y ∈ ls, y.ok u13 ∧ (w.heap.size ≤ y.b ∨ ∃ m0 ∈ ms, y.b = m0.b) := fun y hy => by
        obtain ⟨h1, h2, m0, hm0, h3⟩ := hlsm y hy
        exact ⟨h1.fr FS (fun q => h2 q), .inr ⟨m0, hm0, h3⟩⟩
      rcases List.mem_append.1 hx with hx | hx
      · exact hold x (l6 x (.inl hx))
      · rcases List.mem_cons.1 hx with rfl | hx
        · have hbo := hI8.fb bo rfl
          have hbo8 := (hown 0).lt
          simp only at hbo8
          refine ⟨((((hown st.at0).fr f10 (fun q => (hI8.fa bo q).2.2 rfl)).fr hp11.fr (fun q => by simp only [Onb] at q; omega)).fr f12 (fun q => (hv10 bo q).2.2 rfl)).fr hp13.fr (fun q => by simp only [Onb] at q; omega), .inl (by simp only; omega)⟩
        · exact hold x (l6 x (.inr hx))
    · rw [List.map_append, List.map_cons]
      exact hfin
end Go.Proofs.Ytpdklpeojjkkaaa

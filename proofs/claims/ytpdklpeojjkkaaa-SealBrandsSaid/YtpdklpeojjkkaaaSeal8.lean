/- mantlelaw16: what stands between the rounds of SealBrands' first loop. -/
import Derived.Test.YtpdklpeojjkkaaaSeal5
namespace Go.Proofs.Ytpdklpeojjkkaaa
open Go
set_option linter.unusedVariables false
set_option linter.unusedSimpArgs false
abbrev ptrV (b : Nat) : Value := .pointer (some ⟨b, 0, none⟩)
/-- The document's brand, as cells. -/
abbrev Rb := Int × Int × ByteArray
def Rb.cells (r : Rb) : List Value := [.int .i64 r.1, .int .i64 r.2.1, .string r.2.2]
/-- Blocks that are new get the colour q. -/
def paint (c : Nat → Nat) (w : World) (q : Nat) : Nat → Nat := fun b => if b < w.heap.size then c b else q
theorem paint_old {c : Nat → Nat} {w : World} {q b : Nat} (h : b < w.heap.size) : paint c w q b = c b := if_pos h
theorem paint_new {c : Nat → Nat} {w : World} {q b : Nat} (h : w.heap.size ≤ b) : paint c w q b = q := if_neg (by omega)
/-- A slice of the program's own, in blocks of colour k. -/
def CO (c : Nat → Nat) (u : World) (v : Value) (k sz : Nat) (xs : List Value) : Prop := Own u v sz xs ∧ ∀ b, blk v = some b → c b = k
theorem CO.keep {c : Nat → Nat} {u u' : World} {v : Value} {k sz q : Nat} {xs : List Value} {G : Nat → Prop} (h : CO c u v k sz xs) (f : Fr G u u') (hg : ∀ b, G b → c b ≠ k) : CO (paint c u q) u' v k sz xs :=
  ⟨h.1.fr f (fun b hb hG => hg b hG (h.2 b hb)), fun b hb => by rw [paint_old (h.1.blk_lt hb)]; exact h.2 b hb⟩
theorem CO.app {c : Nat → Nat} {u u' : World} {v v' : Value} {k sz : Nat} {xs ys : List Value} (h : CO c u v k sz xs) (ho : Own u' v' sz ys) (hb : blk v' = blk v ∨ ∃ b, blk v' = some b ∧ u.heap.size ≤ b) : CO (paint c u k) u' v' k sz ys := by
  refine ⟨ho, fun b hv => ?_⟩
  rcases hb with e | ⟨b', e, hn⟩
  · rw [e] at hv; rw [paint_old (h.1.blk_lt hv)]; exact h.2 b hv
  · rw [hv] at e; cases e; exact paint_new hn
/-- A brand that nothing turns. -/
def CBr (c : Nat → Nat) (u : World) (p : Nat × Br) : Prop := IsBr u p.1 p.2 ∧ c p.1 = 0 ∧ ∀ o, p.2 = .own o → c o = 0
theorem CBr.keep {c : Nat → Nat} {u u' : World} {p : Nat × Br} {q : Nat} {G : Nat → Prop} (h : CBr c u p) (f : Fr G u u') (hg : ∀ b, G b → c b ≠ 0) : CBr (paint c u q) u' p := by
  obtain ⟨⟨h1, h2⟩, h3, h4⟩ := h
  refine ⟨⟨h1.fr f (fun hG => hg _ hG h3), fun o ho => let ⟨cs, hc⟩ := h2 o ho; ⟨cs, hc.fr f (fun hG => hg _ hG (h4 o ho))⟩⟩, by rw [paint_old h1.lt]; exact h3, fun o ho => ?_⟩
  obtain ⟨cs, hc⟩ := h2 o ho
  rw [paint_old hc.lt]; exact h4 o ho
def CBx (c : Nat → Nat) (u : World) (x b h : Nat) : Prop := W u x [ptrV b, ptrV h] ∧ c x = 0
theorem CBx.keep {c : Nat → Nat} {u u' : World} {x b h : Nat} {q : Nat} {G : Nat → Prop} (k : CBx c u x b h) (f : Fr G u u') (hg : ∀ b, G b → c b ≠ 0) : CBx (paint c u q) u' x b h :=
  ⟨k.1.fr f (fun hG => hg _ hG k.2), by rw [paint_old k.1.lt]; exact k.2⟩
/-- What kind of brand a maker makes. -/
def BrK (m : Mk) : Br → Prop
  | .own _ => m.1 = 0
  | .plain s => m.1 = 1 ∧ s = m.2
  | .odd _ => m.1 ≠ 0 ∧ m.1 ≠ 1
theorem BrOf.k {m : Mk} {lo hi : Nat} {x : Br} (h : BrOf m.1 m.2 lo hi x) : BrK m x := by
  cases x with
  | own o => exact h.1
  | plain s => exact h
  | odd v => exact h
structure Inv (w : World) (l : List Mk) (i : Nat) (c : Nat → Nat) (v3 v4 v5 v6 : Value) (bs : List (Nat × Br)) (rs : List Rb) (xs hs : List Nat) (u : World) : Prop where
  f : Fr Nob w u
  new : ∀ b, c b ≠ 0 → w.heap.size ≤ b
  o3 : CO c u v3 3 1 (bs.map fun p => ptrV p.1)
  o4 : CO c u v4 4 3 (rs.flatMap Rb.cells)
  o5 : CO c u v5 5 1 (xs.map ptrV)
  o6 : CO c u v6 6 1 (hs.map ptrV)
  br : ∀ (j : Nat) (p : Nat × Br), bs[j]? = some p → CBr c u p ∧ ∃ m : Mk, l[j]? = some m ∧ BrK m p.2
  bx : ∀ (j : Nat) (p : Nat × Br) (x h : Nat), bs[j]? = some p → xs[j]? = some x → hs[j]? = some h → CBx c u x p.1 h
  ow : ∀ (j j' : Nat) (p p' : Nat × Br) (o : Nat), bs[j]? = some p → bs[j']? = some p' → p.2 = .own o → p'.2 = .own o → j = j'
  rf : ∀ (j : Nat) (m : Mk), j < rs.length → l[j]? = some m → rs[j]? = some (kindOf m.1, (j : Int), m.2)
section
variable {w u u' : World} {l : List Mk} {i : Nat} {c : Nat → Nat} {v3 v4 v5 v6 : Value} {bs : List (Nat × Br)} {rs : List Rb} {xs hs : List Nat}
theorem new_paint {w u : World} {c : Nat → Nat} {q : Nat} (h : ∀ b, c b ≠ 0 → w.heap.size ≤ b) (f : w.heap.size ≤ u.heap.size) : ∀ b, paint c u q b ≠ 0 → w.heap.size ≤ b := fun b hb => by
  by_cases hlt : b < u.heap.size
  · rw [paint_old hlt] at hb; exact h b hb
  · omega
theorem Inv.keep (h : Inv w l i c v3 v4 v5 v6 bs rs xs hs u) (f : Fr Nob u u') : Inv w l i (paint c u 0) v3 v4 v5 v6 bs rs xs hs u' :=
  ⟨h.f.trans f, new_paint h.new h.f.size, h.o3.keep f (fun _ q => q.elim), h.o4.keep f (fun _ q => q.elim), h.o5.keep f (fun _ q => q.elim), h.o6.keep f (fun _ q => q.elim),
    fun j p hp => ⟨(h.br j p hp).1.keep f (fun _ q => q.elim), (h.br j p hp).2⟩, fun j p x hh a b d => (h.bx j p x hh a b d).keep f (fun _ q => q.elim), h.ow, h.rf⟩
theorem frS {v : Value} {q : Nat} (h : Fr Nob w u) (hn : ∀ b, c b ≠ 0 → w.heap.size ≤ b) (hv : ∀ b, blk v = some b → c b = q) (hq : q ≠ 0) (f : Fr (fun b => blk v = some b) u u') : Fr Nob w u' :=
  h.trans2 f (fun _ _ q => q) (fun b hb e => absurd (hn b (by rw [hv b e]; exact hq)) (by omega))
theorem Inv.app3 {v' : Value} {p : Nat × Br} {m : Mk} (h : Inv w l i c v3 v4 v5 v6 bs rs xs hs u) (f : Fr (fun b => blk v3 = some b) u u') (ho : Own u' v' 1 ((bs ++ [p]).map fun p => ptrV p.1)) (hb : blk v' = blk v3 ∨ ∃ b, blk v' = some b ∧ u.heap.size ≤ b)
    (hp : CBr c u p) (hm : l[bs.length]? = some m) (hk : BrK m p.2) (hown : ∀ (j : Nat) (q : Nat × Br) (o : Nat), bs[j]? = some q → q.2 = .own o → p.2 ≠ .own o) (hxl : xs.length ≤ bs.length) : Inv w l i (paint c u 3) v' v4 v5 v6 (bs ++ [p]) rs xs hs u' := by
  have gc : ∀ k, k ≠ 3 → ∀ b, blk v3 = some b → c b ≠ k := fun k hk b e => by rw [h.o3.2 b e]; exact Ne.symm hk
  have hlast : ∀ (j : Nat) q, (bs ++ [p])[j]? = some q → bs[j]? = some q ∨ (j = bs.length ∧ q = p) := fun j q hq => by
    rcases Nat.lt_or_ge j bs.length with hj | hj
    · rw [List.getElem?_append_left hj] at hq; exact .inl hq
    · rw [List.getElem?_append_right hj] at hq
      have hj1 := (List.getElem?_eq_some_iff.1 hq).1
      simp at hj1
      rw [show j - bs.length = 0 by omega] at hq
      simp at hq
      exact .inr ⟨by omega, hq.symm⟩
  refine ⟨frS h.f h.new h.o3.2 (by decide) f, new_paint h.new h.f.size, h.o3.app ho hb, h.o4.keep f (gc 4 (by decide)), h.o5.keep f (gc 5 (by decide)), h.o6.keep f (gc 6 (by decide)), fun j q hq => ?_, fun j q x hh a b d => ?_, fun j j' q q' o a b d e => ?_, h.rf⟩
  · rcases hlast j q hq with hq | ⟨rfl, rfl⟩
    · exact ⟨(h.br j q hq).1.keep f (gc 0 (by decide)), (h.br j q hq).2⟩
    · exact ⟨hp.keep f (gc 0 (by decide)), m, hm, hk⟩
  · rcases hlast j q a with a | ⟨rfl, rfl⟩
    · exact (h.bx j q x hh a b d).keep f (gc 0 (by decide))
    · have := (List.getElem?_eq_some_iff.1 b).1; omega
  · rcases hlast j q a with a1 | ⟨e1, e2⟩ <;> rcases hlast j' q' b with b1 | ⟨e3, e4⟩
    · exact h.ow j j' q q' o a1 b1 d e
    · rw [e4] at e; exact absurd e (hown j q o a1 d)
    · rw [e2] at d; exact absurd d (hown j' q' o b1 e)
    · rw [e1, e3]
theorem Inv.app4 {v' : Value} {r : Rb} (h : Inv w l i c v3 v4 v5 v6 bs rs xs hs u) (f : Fr (fun b => blk v4 = some b) u u') (ho : Own u' v' 3 ((rs ++ [r]).flatMap Rb.cells)) (hb : blk v' = blk v4 ∨ ∃ b, blk v' = some b ∧ u.heap.size ≤ b)
    (hr : ∀ m : Mk, l[rs.length]? = some m → r = (kindOf m.1, (rs.length : Int), m.2)) : Inv w l i (paint c u 4) v3 v' v5 v6 bs (rs ++ [r]) xs hs u' := by
  have gc : ∀ k, k ≠ 4 → ∀ b, blk v4 = some b → c b ≠ k := fun k hk b e => by rw [h.o4.2 b e]; exact Ne.symm hk
  refine ⟨frS h.f h.new h.o4.2 (by decide) f, new_paint h.new h.f.size, h.o3.keep f (gc 3 (by decide)), h.o4.app ho hb, h.o5.keep f (gc 5 (by decide)), h.o6.keep f (gc 6 (by decide)), fun j q hq => ⟨(h.br j q hq).1.keep f (gc 0 (by decide)), (h.br j q hq).2⟩, fun j q x hh a b d => (h.bx j q x hh a b d).keep f (gc 0 (by decide)), h.ow, fun j m hj hm => ?_⟩
  rcases Nat.lt_or_ge j rs.length with hlt | hge
  · rw [List.getElem?_append_left hlt]; exact h.rf j m hlt hm
  · have : j = rs.length := by simp at hj; omega
    subst this
    rw [List.getElem?_append_right hge]
    simp [hr m hm]
theorem Inv.app5 {v' : Value} {x : Nat} (h : Inv w l i c v3 v4 v5 v6 bs rs xs hs u) (f : Fr (fun b => blk v5 = some b) u u') (ho : Own u' v' 1 ((xs ++ [x]).map ptrV)) (hb : blk v' = blk v5 ∨ ∃ b, blk v' = some b ∧ u.heap.size ≤ b)
    (hl : hs.length ≤ xs.length) : Inv w l i (paint c u 5) v3 v4 v' v6 bs rs (xs ++ [x]) hs u' := by
  have gc : ∀ k, k ≠ 5 → ∀ b, blk v5 = some b → c b ≠ k := fun k hk b e => by rw [h.o5.2 b e]; exact Ne.symm hk
  refine ⟨frS h.f h.new h.o5.2 (by decide) f, new_paint h.new h.f.size, h.o3.keep f (gc 3 (by decide)), h.o4.keep f (gc 4 (by decide)), h.o5.app ho hb, h.o6.keep f (gc 6 (by decide)), fun j q hq => ⟨(h.br j q hq).1.keep f (gc 0 (by decide)), (h.br j q hq).2⟩, fun j q x hh a b d => ?_, h.ow, h.rf⟩
  have hj := (List.getElem?_eq_some_iff.1 d).1
  rw [List.getElem?_append_left (by omega)] at b
  exact (h.bx j q x hh a b d).keep f (gc 0 (by decide))
theorem Inv.app6 {v' : Value} {hd : Nat} (h : Inv w l i c v3 v4 v5 v6 bs rs xs hs u) (f : Fr (fun b => blk v6 = some b) u u') (ho : Own u' v' 1 ((hs ++ [hd]).map ptrV)) (hb : blk v' = blk v6 ∨ ∃ b, blk v' = some b ∧ u.heap.size ≤ b)
    (hx : ∀ p x, bs[hs.length]? = some p → xs[hs.length]? = some x → CBx c u x p.1 hd) : Inv w l i (paint c u 6) v3 v4 v5 v' bs rs xs (hs ++ [hd]) u' := by
  have gc : ∀ k, k ≠ 6 → ∀ b, blk v6 = some b → c b ≠ k := fun k hk b e => by rw [h.o6.2 b e]; exact Ne.symm hk
  refine ⟨frS h.f h.new h.o6.2 (by decide) f, new_paint h.new h.f.size, h.o3.keep f (gc 3 (by decide)), h.o4.keep f (gc 4 (by decide)), h.o5.keep f (gc 5 (by decide)), h.o6.app ho hb, fun j q hq => ⟨(h.br j q hq).1.keep f (gc 0 (by decide)), (h.br j q hq).2⟩, fun j q x hh a b d => ?_, h.ow, h.rf⟩
  rcases Nat.lt_or_ge j hs.length with hlt | hge
  · rw [List.getElem?_append_left hlt] at d
    exact (h.bx j q x hh a b d).keep f (gc 0 (by decide))
  · rw [List.getElem?_append_right hge] at d
    have hj1 := (List.getElem?_eq_some_iff.1 d).1
    simp at hj1
    have : j = hs.length := by omega
    subst this
    simp at d
    subst d
    exact (hx q x a b).keep f (gc 0 (by decide))
end
end Go.Proofs.Ytpdklpeojjkkaaa

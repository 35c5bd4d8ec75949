/- span: Put. -/
import Derived.Test.YtpdklpeojjkkaaaIns2
namespace Go.Proofs.Ytpdklpeojjkkaaa
open Go
set_option linter.unusedVariables false
set_option linter.unusedSimpArgs false
set_option maxRecDepth 100000
set_option maxHeartbeats 1000000
theorem splice_get {cs vs : List Value} {o j : Nat} (h : o + vs.length ≤ cs.length) : (splice cs o vs)[j]? = if o ≤ j ∧ j < o + vs.length then vs[j - o]? else cs[j]? := by
  unfold splice
  by_cases h1 : j < o
  · rw [if_neg (by omega), List.append_assoc, List.getElem?_append_left (by rw [List.length_take]; omega), List.getElem?_take_of_lt h1]
  · by_cases h2 : j < o + vs.length
    · rw [if_pos (by omega), List.append_assoc, List.getElem?_append_right (by rw [List.length_take]; omega), List.length_take, Nat.min_eq_left (by omega), List.getElem?_append_left (by omega)]
    · rw [if_neg (by omega), List.getElem?_append_right (by rw [List.length_append, List.length_take]; omega), List.length_append, List.length_take, Nat.min_eq_left (by omega), List.getElem?_drop]
      congr 1; omega
/-- Bytes are laid within piece i: the pieces behind it. -/
def layMP (ms : List MP) (i : Nat) (m : MP) (k : Nat) (bs : List UInt8) : List MP := ms.set i { m with bs := spl m.bs k bs }
theorem map_set_same {α β : Type} (f : α → β) {l : List α} {i : Nat} {x y : α} (h : l[i]? = some x) (hf : f y = f x) : (l.set i y).map f = l.map f := by
  apply List.ext_getElem?
  intro j
  rw [List.getElem?_map, List.getElem?_map, List.getElem?_set]
  by_cases hij : i = j
  · subst hij
    rw [if_pos rfl, if_pos (List.getElem?_eq_some_iff.1 h).1, h]
    simp [hf]
  · rw [if_neg hij]
theorem ord_len {s : Nat} : ∀ {lo : Nat} {ps qs : List Pc}, ps.map (fun p => (p.1, p.2.length)) = qs.map (fun p => (p.1, p.2.length)) → Ord lo ps s → Ord lo qs s
  | lo, [], [], _, h => h
  | lo, [], q :: r, e, _ => by simp at e
  | lo, p :: r, [], e, _ => by simp at e
  | lo, p :: r, q :: r', e, ⟨h1, h2, h3, h4⟩ => by
    simp only [List.map_cons, List.cons.injEq, Prod.mk.injEq] at e
    obtain ⟨⟨e1, e2⟩, e3⟩ := e
    exact ⟨by omega, by omega, by omega, by rw [← e1, ← e2]; exact ord_len e3 h4⟩
theorem IsSpan.lay {w u : World} {F : Nat → Prop} {s size i k : Nat} {ms : List MP} {m : MP} {bs : List UInt8} {cs : List Value} (h : IsSpan w F s ms size) (hm : ms[i]? = some m) (hk : k + bs.length ≤ m.bs.length) (hw : W w m.b cs) (hp : Put w m.b (splice cs (m.o + k) (bvs bs)) u) :
    IsSpan u (Fnew F w) s (layMP ms i m k bs) size ∧ Fr F w u := by
  have hmm := List.mem_of_getElem? hm
  have hi : i < ms.length := (List.getElem?_eq_some_iff.1 hm).1
  obtain ⟨lv, h1, h2, h3⟩ := h.hd
  obtain ⟨hmb, hmF, hms⟩ := h.pcs m hmm
  obtain ⟨hc1, hc2, cs', hcw, hc3, hc4⟩ := hmb
  obtain rfl := hcw.r.inj hw.r
  have hfit : m.o + k + (bvs bs).length ≤ cs'.length := by rw [bvs_len]; omega
  have hspl : (spl m.bs k bs).length = m.bs.length := spl_len hk
  have hcase : ∀ x ∈ layMP ms i m k bs, (∃ j, j ≠ i ∧ ms[j]? = some x) ∨ x = { m with bs := spl m.bs k bs } := fun x hx => by
    obtain ⟨j, hj⟩ := List.getElem?_of_mem hx
    rw [layMP, List.getElem?_set] at hj
    split at hj
    · exact .inr (Option.some.inj hj).symm
    · rename_i hij
      exact .inl ⟨j, fun e => hij e.symm, hj⟩
  have horig : ∀ x ∈ layMP ms i m k bs, ∃ y ∈ ms, x.b = y.b ∧ x.o = y.o ∧ x.at_ = y.at_ := fun x hx => by
    rcases hcase x hx with ⟨j, _, hj⟩ | rfl
    · exact ⟨x, List.mem_of_getElem? hj, rfl, rfl, rfl⟩
    · exact ⟨m, hmm, rfl, rfl, rfl⟩
  have hmc : mcells (layMP ms i m k bs) = mcells ms := by
    unfold mcells layMP
    have : ∀ l : List MP, l.flatMap MP.cells = (l.map MP.cells).flatten := fun l => by simp [List.flatMap]
    rw [this, this, map_set_same MP.cells hm (by simp only [MP.cells, hspl])]
  refine ⟨⟨⟨lv, h1.fr hp.fr (fun q => hms q.symm), ?_, fun b hb => ⟨.inl (h3 b hb).1, (h3 b hb).2.1, fun x hx => ?_⟩⟩, .inl h.own, fun x hx => ⟨?_, ?_, ?_⟩, fun x hx y hy e => ?_, ?_⟩, hp.fr.mono (fun b _ q => by simp only [Onb] at q; rw [q]; exact hmF)⟩
  · rw [hmc]
    exact h2.fr hp.fr (fun b hb q => (h3 b hb).2.2 m hmm (by simp only [Onb] at q; exact q.symm))
  · obtain ⟨y, hy, e, _⟩ := horig x hx
    rw [e]; exact (h3 b hb).2.2 y hy
  · rcases hcase x hx with ⟨j, hj, hxj⟩ | rfl
    · have hx' := List.mem_of_getElem? hxj
      have hxo := h.oks x hx'
      by_cases hb : x.b = m.b
      · obtain ⟨g1, g2, cs2, g3, g4, g5⟩ := hxo
        rw [hb] at g3
        obtain rfl := g3.r.inj hw.r
        have hal := h.al x hx' m hmm hb
        have hdis : x.at_ + x.bs.length ≤ m.at_ ∨ m.at_ + m.bs.length ≤ x.at_ := by
          rcases Nat.lt_or_gt_of_ne hj with hlt | hgt
          · have := ord_get h.canon.ord j i x.pc m.pc hlt (by rw [List.getElem?_map, hxj]; rfl) (by rw [List.getElem?_map, hm]; rfl)
            simp only [MP.pc] at this; omega
          · have := ord_get h.canon.ord i j m.pc x.pc hgt (by rw [List.getElem?_map, hm]; rfl) (by rw [List.getElem?_map, hxj]; rfl)
            simp only [MP.pc] at this; omega
        refine ⟨g1, g2, _, by rw [hb]; exact hp.blk, by rw [splice_length hfit]; exact g4, ?_⟩
        rw [← g5]
        apply List.ext_getElem?
        intro q
        by_cases hq : q < x.bs.length
        · rw [List.getElem?_take_of_lt hq, List.getElem?_take_of_lt hq, List.getElem?_drop, List.getElem?_drop, splice_get hfit, if_neg (by rw [bvs_len]; omega)]
        · rw [List.getElem?_take, if_neg hq, List.getElem?_take, if_neg hq]
      · exact hxo.fr hp.fr (fun q => hb (by simp only [Onb] at q; exact q))
    · refine ⟨by simp only [hspl]; exact hc1, hc2, _, hp.blk, by rw [splice_length hfit]; exact hc3, ?_⟩
      simp only [hspl]
      apply List.ext_getElem?
      intro q
      by_cases hq : q < m.bs.length
      · have e0 : cs'[m.o + q]? = (bvs m.bs)[q]? := by rw [← hc4, List.getElem?_take_of_lt hq, List.getElem?_drop]
        rw [List.getElem?_take_of_lt hq, List.getElem?_drop, splice_get hfit, bvs_len]
        simp only [bvs, List.getElem?_map] at e0 ⊢
        rw [spl_get hk]
        by_cases hc : k ≤ q ∧ q < k + bs.length
        · rw [if_pos (by omega), if_pos hc]
          congr 2; omega
        · rw [if_neg (by omega), if_neg hc, e0]
      · rw [List.getElem?_take, if_neg hq, List.getElem?_eq_none (by rw [bvs_len, hspl]; omega)]
  · obtain ⟨y, hy, e, _⟩ := horig x hx
    rw [e]; exact .inl (h.pcs y hy).2.1
  · obtain ⟨y, hy, e, _⟩ := horig x hx
    rw [e]; exact (h.pcs y hy).2.2
  · obtain ⟨x0, hx0, e1, e2, e3⟩ := horig x hx
    obtain ⟨y0, hy0, e4, e5, e6⟩ := horig y hy
    have := h.al x0 hx0 y0 hy0 (by rw [← e1, ← e4]; exact e)
    omega
  · have hmap : ((layMP ms i m k bs).map MP.pc).map (fun p => (p.1, p.2.length)) = (ms.map MP.pc).map (fun p => (p.1, p.2.length)) := by
      unfold layMP
      rw [List.map_map, List.map_map, map_set_same _ hm (by simp only [Function.comp_apply, MP.pc, hspl])]
    refine ⟨ord_len hmap.symm h.canon.ord, h.canon.size, ?_⟩
    have e : heldL ((layMP ms i m k bs).map MP.pc) = heldL (ms.map MP.pc) := by
      have := congrArg (fun l => (l.map Prod.snd).sum) hmap
      simpa [heldL, List.map_map, Function.comp_def] using this
    rw [e]; exact h.canon.held
end Go.Proofs.Ytpdklpeojjkkaaa

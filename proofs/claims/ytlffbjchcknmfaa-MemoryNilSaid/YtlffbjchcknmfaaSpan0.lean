/- span: what bytes with holes are in memory. -/
import Derived.Test.YtlffbjchcknmfaaSl1
import Derived.Test.YtlffbjchcknmfaaPc1
namespace Go.Proofs.Ytlffbjchcknmfaa
open Go
set_option linter.unusedVariables false
set_option linter.unusedSimpArgs false
abbrev ptrV (b : Nat) : Value := .pointer (some ⟨b, 0, none⟩)
/-- A piece in memory: where it stands, its bytes, and the block, the offset and the capacity of its slice. -/
structure MP where
  at_ : Nat
  bs : List UInt8
  b : Nat
  o : Nat
  c : Nat
def MP.cells (m : MP) : List Value := [.int .i64 m.at_, .slice (some ⟨m.b, m.o, none⟩) m.bs.length m.c]
def mcells (ms : List MP) : List Value := ms.flatMap MP.cells
def MP.ok (w : World) (m : MP) : Prop :=
  m.bs.length ≤ m.c ∧ m.c ≤ maxLen ∧ ∃ cs, W w m.b cs ∧ m.o + m.c ≤ cs.length ∧ (cs.drop m.o).take m.bs.length = bvs m.bs
def MP.pc (m : MP) : Pc := (m.at_, m.bs)
structure IsSpan (w : World) (F : Nat → Prop) (s : Nat) (ms : List MP) (size : Nat) : Prop where
  hd : ∃ lv, W w s [lv, .int .i64 size] ∧ Own w lv 2 (mcells ms) ∧ ∀ b, blk lv = some b → F b ∧ b ≠ s ∧ ∀ m ∈ ms, m.b ≠ b
  own : F s
  pcs : ∀ m ∈ ms, m.ok w ∧ F m.b ∧ m.b ≠ s
  al : ∀ m ∈ ms, ∀ m' ∈ ms, m.b = m'.b → m.o + m'.at_ = m'.o + m.at_
  canon : Canon (ms.map MP.pc) size
theorem mcells_len (ms : List MP) : (mcells ms).length = ms.length * 2 := by
  induction ms with
  | nil => rfl
  | cons m r ih => simp only [mcells, List.flatMap_cons, List.length_append] at *; simp [MP.cells, ih]; omega
theorem MP.ok.fr {G : Nat → Prop} {w u : World} {m : MP} (h : m.ok w) (f : Fr G w u) (hg : ¬ G m.b) : m.ok u := by
  obtain ⟨h1, h2, cs, h3, h4⟩ := h
  exact ⟨h1, h2, cs, h3.fr f hg, h4⟩
theorem IsSpan.fr {G F : Nat → Prop} {w u : World} {s : Nat} {ms : List MP} {size : Nat} (h : IsSpan w F s ms size) (f : Fr G w u) (hg : ∀ b, F b → ¬ G b) : IsSpan u F s ms size := by
  obtain ⟨lv, h1, h2, h3⟩ := h.hd
  exact ⟨⟨lv, h1.fr f (hg _ h.own), h2.fr f (fun b hb => hg b (h3 b hb).1), h3⟩, h.own, fun m hm => ⟨(h.pcs m hm).1.fr f (hg _ (h.pcs m hm).2.1), (h.pcs m hm).2⟩, h.al, h.canon⟩
/-- All its blocks are of the world. -/
theorem IsSpan.lt {F : Nat → Prop} {w : World} {s : Nat} {ms : List MP} {size : Nat} (h : IsSpan w F s ms size) : s < w.heap.size := by
  obtain ⟨lv, h1, _⟩ := h.hd
  exact h1.lt
theorem IsSpan.mono {F F' : Nat → Prop} {w : World} {s : Nat} {ms : List MP} {size : Nat} (h : IsSpan w F s ms size) (hf : ∀ b, b < w.heap.size → F b → F' b) : IsSpan w F' s ms size := by
  obtain ⟨lv, h1, h2, h3⟩ := h.hd
  exact ⟨⟨lv, h1, h2, fun b hb => ⟨hf b (h2.blk_lt hb) (h3 b hb).1, (h3 b hb).2⟩⟩, hf _ h1.lt h.own,
    fun m hm => ⟨(h.pcs m hm).1, hf _ (by obtain ⟨_, _, cs, h4, _⟩ := (h.pcs m hm).1; exact h4.lt) (h.pcs m hm).2.1, (h.pcs m hm).2.2⟩, h.al, h.canon⟩
end Go.Proofs.Ytlffbjchcknmfaa

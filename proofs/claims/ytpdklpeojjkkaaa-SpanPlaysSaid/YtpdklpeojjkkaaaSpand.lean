/- Blocks and whose they are: bytes with holes side by side. -/
import Derived.Test.YtpdklpeojjkkaaaSpanc
namespace Go.Proofs.Ytpdklpeojjkkaaa
open Go
set_option linter.unusedVariables false
set_option linter.unusedSimpArgs false
set_option maxRecDepth 100000
/-- What is new between two worlds is i's. -/
def paint (col : Nat → Nat) (w u : World) (i : Nat) (b : Nat) : Nat := if b < w.heap.size then col b else if b < u.heap.size then i else 0
theorem paint_old {col : Nat → Nat} {w u : World} {i b : Nat} (h : b < w.heap.size) : paint col w u i b = col b := if_pos h
theorem paint_new {col : Nat → Nat} {w u : World} {i b : Nat} (h : w.heap.size ≤ b) (h' : b < u.heap.size) : paint col w u i b = i := by unfold paint; rw [if_neg (by omega), if_pos h']
theorem Left_.paint {w u : World} {col : Nat → Nat} {i s : Nat} {res : Int × List Pc × Nat} {r : Value} (h : Left_ (fun b => col b = i) w s res r u) :
    r = .int .i64 res.1 ∧ ∃ ms', IsSpan u (fun b => paint col w u i b = i) s ms' res.2.2 ∧ ms'.map MP.pc = res.2.1 ∧ Fr (fun b => col b = i) w u := by
  obtain ⟨hr, ms', h1, h2, h3⟩ := h
  refine ⟨hr, ms', h1.mono (fun b hb q => ?_), h2, h3⟩
  by_cases hw : b < w.heap.size
  · rw [paint_old hw]
    rcases q with q | q
    · exact q
    · omega
  · exact paint_new (by omega) hb
theorem IsSpan.paint {w u : World} {col : Nat → Nat} {i j s size : Nat} {ms : List MP} (h : IsSpan w (fun b => col b = j) s ms size) (f : Fr (fun b => col b = i) w u) (hij : i ≠ j) : IsSpan u (fun b => paint col w u i b = j) s ms size := by
  have h' : IsSpan w (fun b => col b = j ∧ b < w.heap.size) s ms size := h.mono (fun b hb q => ⟨q, hb⟩)
  refine (h'.fr f (fun b q e => hij (e.symm.trans q.1))).mono (fun b _ q => ?_)
  rw [paint_old q.2]; exact q.1
theorem IsSpan.born {w u : World} {col : Nat → Nat} {i s size : Nat} {ms : List MP} (h : IsSpan u (Fromb w.heap.size) s ms size) : IsSpan u (fun b => Go.Proofs.Ytpdklpeojjkkaaa.paint col w u i b = i) s ms size :=
  h.mono (fun b hb q => paint_new q hb)
theorem Fr.paint {w0 w u : World} {col : Nat → Nat} {i : Nat} (f0 : Fr Nob w0 w) (h0 : ∀ b, b < w0.heap.size → col b = 0) (hi : i ≠ 0) (f : Fr (fun b => col b = i) w u) : Fr Nob w0 u ∧ ∀ b, b < w0.heap.size → Go.Proofs.Ytpdklpeojjkkaaa.paint col w u i b = 0 := by
  refine ⟨f0.trans2 f (fun _ _ q => q) (fun b hb q => hi (q.symm.trans (h0 b hb))), fun b hb => ?_⟩
  have := f0.size
  rw [paint_old (by omega)]; exact h0 b hb
end Go.Proofs.Ytpdklpeojjkkaaa

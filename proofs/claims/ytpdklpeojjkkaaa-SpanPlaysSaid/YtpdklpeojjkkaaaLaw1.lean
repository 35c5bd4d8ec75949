/- A slice of structs that came in: a row of things; rows of moves. -/
import Derived.Test.YtpdklpeojjkkaaaLaw0
import Derived.Test.YtpdklpeojjkkaaaSpanc
namespace Go.Proofs.Ytpdklpeojjkkaaa
open Go Go.ChangeShapes Go.WideShapes Go.ChangeAt Go.RowKit
set_option linter.unusedVariables false
set_option linter.unusedSimpArgs false
theorem wf64 {n : Int} (h : (Lit.int .i64 n).wf = true) : -9223372036854775808 ≤ n ∧ n ≤ 9223372036854775807 := by
  simp [Lit.wf, IntKind.min, IntKind.max, IntKind.signed, IntKind.bits] at h
  omega
theorem addr_add_any (x : Addr) (a b : Nat) : (x.add a).add b = x.add (a + b) := by
  cases b with
  | zero => simp [Addr.add]
  | succ b => exact addr_add_add x a b
section
variable {H : Type} {enc : TypeId × Value → H} {P : Program} {w : World} {base : Nat} {spare : Nat → Bool} {held : Bool}
theorem open_rows {r : Reach} {b0 : Nat} {t e : TypeId} {v : Value} {d : DataW H} {p : List MemPlace} {α : Type} (g : α → List Value) (Q : α → Prop) (K : Nat) (hK : 0 < K) (hg : ∀ x, (g x).length = K) (ht : P.underlying t = some (.slice e)) (ce : P.cellsOf e = K)
    (hin : ∀ (n : Nat) (cs : List Value) (y : DataW H × List MemPlace), cs.length = K → DataW.trod enc P w base spare held n e cs = some y → ∃ x, g x = cs ∧ Q x)
    (hval : Value.okWide P w r b0 t v) (h : DataW.Trod enc P w base spare held t v d p) :
    ∃ a n cap l, v = .slice a n cap ∧ Row w (.slice a n cap) K (List.flatMap g l) ∧ (∀ x ∈ l, Q x) ∧ l.length = n ∧ n ≤ cap ∧ cap ≤ maxLen := by
  obtain ⟨a, n, cap, rfl⟩ := okWide_slice ht hval
  obtain ⟨fuel, hf⟩ := h
  rcases Go.Deep.open_slice ht hf with ⟨hcs, _⟩ | ⟨x, l, c, m, k, D, Pl, hcs, _, hl, hm, hmm, _, hx⟩
  · simp [Value.cells] at hcs
    obtain ⟨rfl, rfl, rfl⟩ := hcs
    exact ⟨none, 0, 0, [], rfl, (Own.nil _ _).row, fun x hx => (by cases hx), rfl, Nat.le_refl _, Nat.zero_le _⟩
  · simp [Value.cells] at hcs
    obtain ⟨rfl, rfl, rfl⟩ := hcs
    have hlm : n ≤ m := by rw [hmm]; split <;> omega
    have each : ∀ i, i < n → ∃ y, Q y ∧ ∀ j, j < K → w.cell? (x.add (i * K + j)) = (g y)[j]? := fun i hi => by
      obtain ⟨cs, h1, h2⟩ := hx i (by omega)
      rw [ce] at h1
      obtain ⟨_, hlen, hc⟩ := World.cells?_some h1
      obtain ⟨y, hy, hq⟩ := hin _ cs _ hlen h2
      refine ⟨y, hq, fun j hj => ?_⟩
      have := hc j hj
      rw [hy, ← this, addr_add_any]
    have build : ∀ k, k ≤ n → ∃ l : List α, l.length = k ∧ (∀ y ∈ l, Q y) ∧ ∀ i y, l[i]? = some y → ∀ j, j < K → w.cell? (x.add (i * K + j)) = (g y)[j]? := by
      intro k
      induction k with
      | zero => exact fun _ => ⟨[], rfl, fun y h => (by cases h), fun i y h => by simp at h⟩
      | succ k ih =>
        intro hk
        obtain ⟨l, hl, hQ, hy⟩ := ih (by omega)
        obtain ⟨y, hq, h1⟩ := each k (by omega)
        refine ⟨l ++ [y], by simp [hl], fun z hz => ?_, fun i z hz => ?_⟩
        · rcases List.mem_append.1 hz with hz | hz
          · exact hQ z hz
          · simp at hz; subst hz; exact hq
        rcases Nat.lt_or_ge i l.length with hi | hi
        · rw [List.getElem?_append_left hi] at hz; exact hy i z hz
        · rw [List.getElem?_append_right hi] at hz
          have : i = k := by
            have := (List.getElem?_eq_some_iff.1 hz).1
            simp at this; omega
          subst this
          rw [show i - l.length = 0 by omega] at hz
          simp at hz; subst hz
          exact h1
    obtain ⟨l, hll, hQ, hy⟩ := build n (Nat.le_refl _)
    refine ⟨some x, n, cap, l, rfl, ?_, hQ, hll, hl, hm⟩
    refine row_of_reads hK (by rw [flat_len g K l (fun y _ => hg y), hll]) hl fun i hi => ?_
    have hq0 : i / K < n := (Nat.div_lt_iff_lt_mul hK).2 hi
    have hr : i % K < K := Nat.mod_lt _ hK
    have hi' : i = i / K * K + i % K := by rw [Nat.mul_comm]; exact (Nat.div_add_mod i K).symm
    have hq : l[i / K]? = some (l[i / K]'(by omega)) := List.getElem?_eq_getElem _
    rw [hi', flat_get g K l (fun y _ => hg y) _ _ _ hq hr]
    have := hy _ _ hq (i % K) hr
    rw [← this]
/-- A slice of moves that came in. -/
theorem open_moves {r : Reach} {b0 : Nat} {t e eb : TypeId} {f0 f1 f2 f3 : Field} {v : Value} {d : DataW H} {p : List MemPlace} (ht : P.underlying t = some (.slice e)) (he : P.underlying e = some (.struct #[f0, f1, f2, f3])) (ce : P.cellsOf e = 4)
    (hone : Go.Deep.oneCellFields P #[f0, f1, f2, f3] = true) (u0 : P.underlying f0.type = some (.int .i64)) (u1 : P.underlying f1.type = some (.int .i64)) (u2 : P.underlying f2.type = some (.int .i64)) (u3 : P.underlying f3.type = some (.slice eb)) (hb : P.underlying eb = some (.int .u8)) (cb : P.cellsOf eb = 1)
    (hval : Value.okWide P w r b0 t v) (h : DataW.Trod enc P w base spare held t v d p) : ∃ a n cap l, v = .slice a n cap ∧ Mvs w a n cap l := by
  obtain ⟨a, n, cap, l, rfl, hrow, hok, hl, hnc, hcm⟩ := open_rows MV.cells (MV.ok w) 4 (by decide) (fun _ => rfl) ht ce (fun n cs y hlen hy => by
    obtain ⟨y0, y1, y2, y3, q, _, _, t0, t1, t2, t3⟩ := Go.Joins.trod_struct4 he hy
    obtain ⟨v0, v1, v2, v3, rfl⟩ : ∃ v0 v1 v2 v3, cs = [v0, v1, v2, v3] := by
      match cs, hlen with
      | [v0, v1, v2, v3], _ => exact ⟨v0, v1, v2, v3, rfl⟩
    obtain ⟨o0, k0⟩ := Go.Deep.hone_of hone 0 f0 rfl
    obtain ⟨o1, k1⟩ := Go.Deep.hone_of hone 1 f1 rfl
    obtain ⟨o2, k2⟩ := Go.Deep.hone_of hone 2 f2 rfl
    obtain ⟨o3, k3⟩ := Go.Deep.hone_of hone 3 f3 rfl
    simp only [o0, o1, o2, o3, k0, k1, k2, k3] at t0 t1 t2 t3
    obtain ⟨i0, e0, _⟩ := DataW.trod_int u0 t0
    obtain ⟨i1, e1, _⟩ := DataW.trod_int u1 t1
    obtain ⟨i2, e2, _⟩ := DataW.trod_int u2 t2
    obtain ⟨a3, n3, c3, b3, e3, r3, _, hn3, hc3, _⟩ := open_bytes_cell u3 hb cb t3
    simp at e0 e1 e2 e3
    exact ⟨⟨i0, i1, i2, a3, n3, c3, b3⟩, by rw [e0, e1, e2, e3]; rfl, r3, Nat.le_trans hn3 hc3⟩) hval h
  exact ⟨a, n, cap, l, rfl, hrow, hok, Nat.le_trans hnc hcm⟩
end
end Go.Proofs.Ytpdklpeojjkkaaa

/- What the arguments of a law are, read off the reading that the statement gives; and how a law's walk ends. -/
import Derived.Test.YtlffbjchcknmfaaSrow
import Derived.WalkKit
import Derived.ProofKit
import Derived.OpenShut
import Derived.ShutString
import Derived.ChangeOld
import Derived.Below
import Derived.Carry
import Derived.Deep.Slices
import Derived.ChangeSame
import Derived.Lib.SmallJoins
namespace Go.Proofs.Ytlffbjchcknmfaa
open Go Go.ChangeShapes Go.WideShapes Go.ChangeAt Go.RowKit
set_option linter.unusedVariables false
set_option linter.unusedSimpArgs false
theorem law_end {P : Program} {f : FuncId} {args : List Value} {w : World} (h : CallsE P f args w fun r u => r = .bool true ∧ Fr Nob w u) :
    Calls P f args.toArray w fun e w' => e = .returned (.bool true) ∧ Below w.heap.size w w' :=
  (callsE_use h (Weq.refl w)).mono fun e w' ⟨v, u, he, hu, hv, hf⟩ => by
    subst hv
    exact ⟨he, hu.os.trans hf.os, hu.tape.trans hf.tape, hu.output.trans hf.output, by rw [hu.heap]; exact hf.size, fun k hk => by rw [hu.heap]; exact hf.same k hk (fun q => q)⟩
theorem addr_add_add (x : Addr) (a b : Nat) : (x.add a).add (b + 1) = x.add (a + (b + 1)) := by
  unfold Addr.add
  by_cases h : a = 0 <;> simp [h] <;> omega
/-- A slice whose cells are read one by one leads to a row. -/
theorem row_of_reads {w : World} {a : Addr} {n cap sz : Nat} {xs : List Value} (hsz : 0 < sz) (hlen : xs.length = n * sz) (hnc : n ≤ cap) (h : ∀ i, i < n * sz → w.cell? (a.add i) = xs[i]?) : Row w (.slice (some a) n cap) sz xs := by
  refine ⟨_, _, _, rfl, hlen, hnc, ?_⟩
  by_cases h0 : n = 0
  · exact .inl h0
  have hpos : 0 < n * sz := Nat.mul_pos (by omega) hsz
  have g0 := h 0 hpos
  obtain ⟨c0, hc0⟩ : ∃ c0, xs[0]? = some c0 := ⟨xs[0]'(by omega), List.getElem?_eq_getElem _⟩
  rw [hc0] at g0
  have hspot : a.spot = none := by simpa [Addr.add] using World.cell?_spot g0
  obtain ⟨b, o, sp⟩ := a
  simp only at hspot
  subst hspot
  have hblk : ∃ cs e fr, w.heap[b]? = some (.cells cs e fr) := by
    unfold World.cell? at g0
    split at g0
    · rename_i cs e fr he
      exact ⟨cs, e, fr, by simpa [Addr.add] using he⟩
    · cases g0
  obtain ⟨cs, e, fr, hb⟩ := hblk
  have hget : ∀ i, i < n * sz → cs.toList[o + i]? = xs[i]? := fun i hi => by
    have := h i hi
    rw [addr_add] at this
    simp only [World.cell?, hb] at this
    simpa using this
  have hsz' : o + n * sz ≤ cs.toList.length := by
    have h3 : n * sz - 1 + 1 = n * sz := Nat.sub_add_cancel hpos
    have := hget (n * sz - 1) (by omega)
    have hx : xs[n * sz - 1]? = some (xs[n * sz - 1]'(by omega)) := List.getElem?_eq_getElem _
    rw [hx] at this
    have := (List.getElem?_eq_some_iff.1 this).1
    omega
  refine .inr ⟨b, o, cs.toList, rfl, ⟨e, fr, by simpa using hb⟩, hsz', ?_⟩
  apply List.ext_getElem?
  intro i
  by_cases hi : i < n * sz
  · rw [List.getElem?_take_of_lt hi, List.getElem?_drop]; exact hget i hi
  · rw [List.getElem?_take, if_neg hi, List.getElem?_eq_none (by omega)]
section
variable {H : Type} {enc : TypeId × Value → H} {P : Program} {w : World} {base : Nat} {spare : Nat → Bool} {held : Bool}
/-- A slice of bytes that came in, by its cell. -/
theorem open_bytes_cell {fuel : Nat} {t e : TypeId} {cs : List Value} {x : DataW H × List MemPlace} (ht : P.underlying t = some (.slice e)) (he : P.underlying e = some (.int .u8)) (hc : P.cellsOf e = 1) (hf : DataW.trod enc P w base spare held fuel t cs = some x) :
    ∃ a n cap bs, cs = [.slice a n cap] ∧ Row w (.slice a n cap) 1 (bvs bs) ∧ bs.length = n ∧ n ≤ cap ∧ cap ≤ maxLen ∧ (a = none → cap = 0) := by
  rcases open_ints ht he hc hf with ⟨rfl, _⟩ | ⟨x, l, c, zs, rfl, _, hl, hm, hz, _, hcell, hwz⟩
  · exact ⟨none, 0, 0, [], rfl, (Own.nil _ _).row, rfl, Nat.le_refl _, Nat.zero_le _, fun _ => rfl⟩
  · have hzl : l ≤ zs.length := by
      have hz' : zs.length = (if spare x.block then c else l) := by simpa using hz
      rw [hz']; split <;> omega
    have hby : ∀ z ∈ zs, 0 ≤ z ∧ z < 256 := fun z hz => by
      have := hwz z hz
      simp [Lit.wf, IntKind.min, IntKind.max, IntKind.signed, IntKind.bits] at this
      omega
    refine ⟨some x, l, c, (zs.take l).map fun z => UInt8.ofNat z.toNat, rfl, ?_, by simp; omega, hl, hm, fun h => by cases h⟩
    refine row_of_reads (by decide) (by simp [bvs_len]; omega) hl fun i hi => ?_
    have hi' : i < l := by omega
    rw [hcell i (by omega)]
    have hin : i < zs.length := by omega
    simp only [bvs, List.map_map]
    rw [List.getElem?_map, List.getElem?_take_of_lt hi', List.getElem?_eq_getElem hin]
    simp only [Option.map_some, Function.comp_apply, bv, List.getD_eq_getElem?_getD, List.getElem?_eq_getElem hin, Option.getD_some, Option.some.injEq, Value.int.injEq, true_and]
    have := hby _ (List.getElem_mem hin)
    rw [UInt8.toNat_ofNat']
    omega
/-- A slice of bytes that came in. -/
theorem open_bytes {r : Reach} {b0 : Nat} {t e : TypeId} {v : Value} {d : DataW H} {p : List MemPlace} (ht : P.underlying t = some (.slice e)) (he : P.underlying e = some (.int .u8)) (hc : P.cellsOf e = 1) (hval : Value.okWide P w r b0 t v)
    (h : DataW.Trod enc P w base spare held t v d p) : ∃ a n cap bs, v = .slice a n cap ∧ Row w (.slice a n cap) 1 (bvs bs) ∧ bs.length = n ∧ n ≤ cap ∧ cap ≤ maxLen ∧ (a = none → cap = 0) := by
  obtain ⟨a, n, cap, rfl⟩ := okWide_slice ht hval
  obtain ⟨fuel, hf⟩ := h
  obtain ⟨a', n', c', bs, e, h⟩ := open_bytes_cell ht he hc hf
  simp [Value.cells] at e
  obtain ⟨rfl, rfl, rfl⟩ := e
  exact ⟨_, _, _, bs, rfl, h⟩
/-- A slice of structs of two one-cell fields that came in: what each element's cells read as. -/
theorem open_pairs {r : Reach} {b0 : Nat} {t e : TypeId} {f0 f1 : Field} {v : Value} {d : DataW H} {p : List MemPlace} {α : Type} (g : α → List Value) (hg : ∀ x, (g x).length = 2) (ht : P.underlying t = some (.slice e)) (he : P.underlying e = some (.struct #[f0, f1])) (ce : P.cellsOf e = 2)
    (o0 : f0.offset = 0) (o1 : f1.offset = 1) (c0 : P.cellsOf f0.type = 1) (c1 : P.cellsOf f1.type = 1)
    (hin : ∀ (n : Nat) (v0 v1 : Value) (y0 y1 : DataW H × List MemPlace), DataW.trod enc P w base spare held n f0.type [v0] = some y0 → DataW.trod enc P w base spare held n f1.type [v1] = some y1 → ∃ x, g x = [v0, v1])
    (hval : Value.okWide P w r b0 t v) (h : DataW.Trod enc P w base spare held t v d p) :
    ∃ a n cap l, v = .slice a n cap ∧ Row w (.slice a n cap) 2 (List.flatMap g l) ∧ l.length = n ∧ n ≤ cap ∧ cap ≤ maxLen := by
  obtain ⟨a, n, cap, rfl⟩ := okWide_slice ht hval
  obtain ⟨fuel, hf⟩ := h
  rcases Go.Deep.open_slice ht hf with ⟨hcs, _⟩ | ⟨x, l, c, m, k, D, Pl, hcs, _, hl, hm, hmm, _, hx⟩
  · simp [Value.cells] at hcs
    obtain ⟨rfl, rfl, rfl⟩ := hcs
    exact ⟨none, 0, 0, [], rfl, (Own.nil _ _).row, rfl, Nat.le_refl _, Nat.zero_le _⟩
  · simp [Value.cells] at hcs
    obtain ⟨rfl, rfl, rfl⟩ := hcs
    have hlm : n ≤ m := by rw [hmm]; split <;> omega
    have each : ∀ i, i < n → ∃ y, w.cell? (x.add (i * 2)) = (g y)[0]? ∧ w.cell? (x.add (i * 2 + 1)) = (g y)[1]? := fun i hi => by
      obtain ⟨cs, h1, h2⟩ := hx i (by omega)
      rw [ce] at h1
      obtain ⟨_, hlen, hc⟩ := World.cells?_some h1
      obtain ⟨y0, y1, q, _, _, t0, t1⟩ := trod_struct2 he h2
      rw [o0, c0] at t0
      rw [o1, c1] at t1
      obtain ⟨v0, v1, rfl⟩ : ∃ v0 v1, cs = [v0, v1] := by
        match cs, hlen with
        | [v0, v1], _ => exact ⟨v0, v1, rfl⟩
      obtain ⟨y, hy⟩ := hin q v0 v1 y0 y1 (by simpa using t0) (by simpa using t1)
      refine ⟨y, ?_, ?_⟩
      · rw [hy]; have := hc 0 (by decide); simpa [Addr.add] using this
      · rw [hy]; have := hc 1 (by decide)
        rw [← this, ← addr_add_add]
    have build : ∀ k, k ≤ n → ∃ l : List α, l.length = k ∧ ∀ i y, l[i]? = some y → w.cell? (x.add (i * 2)) = (g y)[0]? ∧ w.cell? (x.add (i * 2 + 1)) = (g y)[1]? := by
      intro k
      induction k with
      | zero => exact fun _ => ⟨[], rfl, fun i y h => by simp at h⟩
      | succ k ih =>
        intro hk
        obtain ⟨l, hl, hy⟩ := ih (by omega)
        obtain ⟨y, h1, h2⟩ := each k (by omega)
        refine ⟨l ++ [y], by simp [hl], fun i z hz => ?_⟩
        rcases Nat.lt_or_ge i l.length with hi | hi
        · rw [List.getElem?_append_left hi] at hz; exact hy i z hz
        · rw [List.getElem?_append_right hi] at hz
          have : i = k := by
            have := (List.getElem?_eq_some_iff.1 hz).1
            simp at this; omega
          subst this
          rw [show i - l.length = 0 by omega] at hz
          simp at hz; subst hz
          exact ⟨h1, h2⟩
    obtain ⟨l, hll, hy⟩ := build n (Nat.le_refl _)
    refine ⟨some x, n, cap, l, rfl, ?_, hll, hl, hm⟩
    refine row_of_reads (by decide) (by rw [flat_len g 2 l (fun y _ => hg y), hll]) hl fun i hi => ?_
    obtain ⟨j, hj⟩ : ∃ j, i = j * 2 + 0 ∨ i = j * 2 + 1 := ⟨i / 2, by omega⟩
    have hj2 : j < l.length := by omega
    have hq : l[j]? = some (l[j]'hj2) := List.getElem?_eq_getElem hj2
    obtain ⟨e0, e1⟩ := hy j _ hq
    rcases hj with rfl | rfl
    · rw [flat_get g 2 l (fun y _ => hg y) j _ 0 hq (by decide), ← e0, Nat.add_zero]
    · rw [flat_get g 2 l (fun y _ => hg y) j _ 1 hq (by decide), ← e1]
end
end Go.Proofs.Ytlffbjchcknmfaa

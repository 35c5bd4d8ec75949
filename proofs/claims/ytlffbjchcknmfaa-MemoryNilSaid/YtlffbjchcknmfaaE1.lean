/- The engine, part 1: worlds up to draws, frames, blocks, rows; what the heap operations do to them. Over any program. -/
import Derived.Calls
import Derived.OrdersHeld
import Derived.Laws.AppendOwn
import Derived.Laws.MakeOwn
import Derived.Laws.CopyOwn
import Derived.Laws.Pointers
namespace Go.Proofs.Ytlffbjchcknmfaa
open Go
set_option linter.unusedVariables false
set_option linter.unusedSimpArgs false

/-- The same world but for the count of draws. -/
structure Weq (w w' : World) : Prop where
  heap : w'.heap = w.heap
  tape : w'.tape = w.tape
  os : w'.os = w.os
  output : w'.output = w.output

theorem Weq.refl (w : World) : Weq w w := ⟨rfl, rfl, rfl, rfl⟩
theorem Weq.symm {w w' : World} (h : Weq w w') : Weq w' w := ⟨h.heap.symm, h.tape.symm, h.os.symm, h.output.symm⟩
theorem Weq.trans {a b c : World} (h : Weq a b) (k : Weq b c) : Weq a c :=
  ⟨k.heap.trans h.heap, k.tape.trans h.tape, k.os.trans h.os, k.output.trans h.output⟩
theorem Weq.drew {a b : World} (h : Weq a b) : Weq a { b with drawn := b.drawn + 1 } := ⟨h.heap, h.tape, h.os, h.output⟩
theorem Weq.cell {w w' : World} (h : Weq w w') (a : Addr) : w'.cell? a = w.cell? a := by simp only [World.cell?, h.heap]
theorem Weq.frozen {w w' : World} (h : Weq w w') (a : Addr) : w'.frozen? a = w.frozen? a := by simp only [World.frozen?, h.heap]
theorem Weq.shape {w w' : World} (h : Weq w w') (r : Nat) : w'.shape? r = w.shape? r := by simp only [World.shape?, h.heap]

/-- From w to w': of the blocks of w only those in G may have turned; no block has gone. -/
structure Fr (G : Nat → Prop) (w w' : World) : Prop where
  tape : w'.tape = w.tape
  os : w'.os = w.os
  output : w'.output = w.output
  size : w.heap.size ≤ w'.heap.size
  same : ∀ b, b < w.heap.size → ¬ G b → w'.heap[b]? = w.heap[b]?

/-- No old block. -/
def Nob : Nat → Prop := fun _ => False
/-- Just this block. -/
def Onb (b : Nat) : Nat → Prop := fun k => k = b
/-- All from this block on. -/
def Fromb (b : Nat) : Nat → Prop := fun k => b ≤ k

theorem Fr.refl (G : Nat → Prop) (w : World) : Fr G w w := ⟨rfl, rfl, rfl, Nat.le_refl _, fun _ _ _ => rfl⟩
theorem Fr.of_weq {w w' : World} (h : Weq w w') (G : Nat → Prop) : Fr G w w' :=
  ⟨h.tape, h.os, h.output, by rw [h.heap]; exact Nat.le_refl _, fun b _ _ => by rw [h.heap]⟩
theorem Fr.trans {G : Nat → Prop} {a b c : World} (h : Fr G a b) (k : Fr G b c) : Fr G a c :=
  ⟨k.tape.trans h.tape, k.os.trans h.os, k.output.trans h.output, Nat.le_trans h.size k.size,
    fun i hi hg => (k.same i (Nat.lt_of_lt_of_le hi h.size) hg).trans (h.same i hi hg)⟩
theorem Fr.mono {G G' : Nat → Prop} {a b : World} (h : Fr G a b) (hg : ∀ k, k < a.heap.size → G k → G' k) : Fr G' a b :=
  ⟨h.tape, h.os, h.output, h.size, fun i hi hn => h.same i hi (fun hgi => hn (hg i hi hgi))⟩
/-- Two steps: what the second one turns is turned, or is new. -/
theorem Fr.trans2 {G G' H : Nat → Prop} {a b c : World} (h : Fr G a b) (k : Fr G' b c)
    (h1 : ∀ i, i < a.heap.size → G i → H i) (h2 : ∀ i, i < a.heap.size → G' i → H i) : Fr H a c :=
  ⟨k.tape.trans h.tape, k.os.trans h.os, k.output.trans h.output, Nat.le_trans h.size k.size,
    fun i hi hg => (k.same i (Nat.lt_of_lt_of_le hi h.size) (fun q => hg (h2 i hi q))).trans (h.same i hi (fun q => hg (h1 i hi q)))⟩
theorem Fr.nob {G : Nat → Prop} {a b : World} (h : Fr Nob a b) : Fr G a b := h.mono (fun _ _ q => q.elim)
theorem Fr.weqR {G : Nat → Prop} {a b c : World} (h : Fr G a b) (k : Weq b c) : Fr G a c := h.trans (.of_weq k G)
theorem Fr.weqL {G : Nat → Prop} {a b c : World} (k : Weq a b) (h : Fr G b c) : Fr G a c := (Fr.of_weq k G).trans h

/-- Block b holds these cells. -/
def R (w : World) (b : Nat) (cs : List Value) : Prop := ∃ e fr, w.heap[b]? = some (.cells cs.toArray e fr)
/-- Block b holds these cells, and may be written. -/
def W (w : World) (b : Nat) (cs : List Value) : Prop := ∃ e, w.heap[b]? = some (.cells cs.toArray e (0, 0))

theorem W.r {w : World} {b : Nat} {cs : List Value} (h : W w b cs) : R w b cs := let ⟨e, h⟩ := h; ⟨e, (0, 0), h⟩
theorem R.lt {w : World} {b : Nat} {cs : List Value} (h : R w b cs) : b < w.heap.size := by
  obtain ⟨e, fr, h⟩ := h
  exact (Array.getElem?_eq_some_iff.1 h).1
theorem W.lt {w : World} {b : Nat} {cs : List Value} (h : W w b cs) : b < w.heap.size := h.r.lt
theorem R.fr {G : Nat → Prop} {w w' : World} {b : Nat} {cs : List Value} (h : R w b cs) (f : Fr G w w') (hg : ¬ G b) : R w' b cs := by
  have hl := h.lt
  obtain ⟨e, fr, h⟩ := h
  exact ⟨e, fr, by rw [f.same b hl hg]; exact h⟩
theorem W.fr {G : Nat → Prop} {w w' : World} {b : Nat} {cs : List Value} (h : W w b cs) (f : Fr G w w') (hg : ¬ G b) : W w' b cs := by
  have hl := h.lt
  obtain ⟨e, h⟩ := h
  exact ⟨e, by rw [f.same b hl hg]; exact h⟩
theorem R.weq {w w' : World} {b : Nat} {cs : List Value} (h : R w b cs) (k : Weq w w') : R w' b cs := by
  obtain ⟨e, fr, h⟩ := h
  exact ⟨e, fr, by rw [k.heap]; exact h⟩
theorem W.weq {w w' : World} {b : Nat} {cs : List Value} (h : W w b cs) (k : Weq w w') : W w' b cs := by
  obtain ⟨e, h⟩ := h
  exact ⟨e, by rw [k.heap]; exact h⟩
theorem R.inj {w : World} {b : Nat} {cs ds : List Value} (h : R w b cs) (k : R w b ds) : cs = ds := by
  obtain ⟨e, fr, h⟩ := h
  obtain ⟨e', fr', k⟩ := k
  rw [h] at k
  simp at k
  exact k.1
/-- What a cell of a known block holds. -/
theorem R.cell {w : World} {b : Nat} {cs : List Value} (h : R w b cs) (o : Nat) : w.cell? ⟨b, o, none⟩ = cs[o]? := by
  obtain ⟨e, fr, h⟩ := h
  simp [World.cell?, h]
theorem W.cell {w : World} {b : Nat} {cs : List Value} (h : W w b cs) (o : Nat) : w.cell? ⟨b, o, none⟩ = cs[o]? := h.r.cell o

/-- What becomes of a list of cells when some are written from o on. -/
def splice (cs : List Value) (o : Nat) (vs : List Value) : List Value := cs.take o ++ vs ++ cs.drop (o + vs.length)
theorem splice_length {cs : List Value} {o : Nat} {vs : List Value} (h : o + vs.length ≤ cs.length) : (splice cs o vs).length = cs.length := by
  simp [splice]; omega

/-- A new block b with these cells. -/
structure New (w : World) (b : Nat) (cs : List Value) (u : World) : Prop where
  num : b = w.heap.size
  blk : W u b cs
  fr : Fr Nob w u
  size : u.heap.size = w.heap.size + 1

theorem New.of_alloc (w w' : World) (k : Weq w w') (cs : Array Value) (e : TypeId) : New w w'.heap.size cs.toList (w'.alloc (.cells cs e)) := by
  have hsz : (w'.alloc (.cells cs e)).heap.size = w.heap.size + 1 := by rw [World.size_alloc, k.heap]
  refine ⟨by rw [k.heap], ⟨e, ?_⟩, ⟨k.tape, k.os, k.output, by omega, fun b hb _ => ?_⟩, hsz⟩
  · show (w'.heap.push _)[w'.heap.size]? = _
    rw [Array.getElem?_push_size]
  · show (w'.heap.push _)[b]? = _
    rw [Array.getElem?_push, if_neg (by rw [k.heap]; omega), k.heap]

/-- Block b has been written; it now holds these cells. -/
structure Put (w : World) (b : Nat) (cs : List Value) (u : World) : Prop where
  blk : W u b cs
  fr : Fr (Onb b) w u
  size : u.heap.size = w.heap.size

theorem Put.of_setRow {w w' : World} (k : Weq w w') {b : Nat} {cur : Array Value} {e : TypeId} (hg : w'.heap[b]? = some (.cells cur e (0, 0))) (cs : List Value) :
    Put w b cs (w'.setRow b cs.toArray) := by
  refine ⟨⟨e, setRow_heap w' b cur _ e _ hg⟩, ⟨k.tape, k.os, k.output, by simp [k.heap], fun i hi hn => ?_⟩, by simp [k.heap]⟩
  rw [setRow_other w' b i _ (fun h => hn (by first | exact h | exact h.symm)), k.heap]

theorem Put.keepW {w u : World} {b b' : Nat} {cs ds : List Value} (h : Put w b cs u) (k : W w b' ds) (hne : b' ≠ b) : W u b' ds := k.fr h.fr hne
theorem Put.keepR {w u : World} {b b' : Nat} {cs ds : List Value} (h : Put w b cs u) (k : R w b' ds) (hne : b' ≠ b) : R u b' ds := k.fr h.fr hne
theorem New.keepW {w u : World} {b b' : Nat} {cs ds : List Value} (h : New w b cs u) (k : W w b' ds) : W u b' ds := k.fr h.fr (fun q => q)
theorem New.keepR {w u : World} {b b' : Nat} {cs ds : List Value} (h : New w b cs u) (k : R w b' ds) : R u b' ds := k.fr h.fr (fun q => q)
/-- Behind a write into a block that is new since w0. -/
theorem Fr.put {G : Nat → Prop} {w0 w u : World} {b : Nat} {cs : List Value} (h : Fr G w0 w) (hp : Put w b cs u) (hb : w0.heap.size ≤ b ∨ G b) : Fr G w0 u :=
  h.trans2 hp.fr (fun _ _ q => q) (fun i hi q => by
    simp only [Onb] at q
    rcases hb with hb | hb
    · omega
    · rw [q]; exact hb)
theorem Fr.new {G : Nat → Prop} {w0 w u : World} {b : Nat} {cs : List Value} (h : Fr G w0 w) (hp : New w b cs u) : Fr G w0 u := h.trans hp.fr.nob
/-- The cells of a slice's value: nil, or cells of a known block. sz: cells of one element. -/
def Row (w : World) (v : Value) (sz : Nat) (xs : List Value) : Prop :=
  ∃ a n cap, v = .slice a n cap ∧ xs.length = n * sz ∧ n ≤ cap ∧
    (n = 0 ∨ ∃ b o cs, a = some ⟨b, o, none⟩ ∧ R w b cs ∧ o + n * sz ≤ cs.length ∧ (cs.drop o).take (n * sz) = xs)
/-- A slice whose array, up to the capacity, is in a block that may be written. -/
def Own (w : World) (v : Value) (sz : Nat) (xs : List Value) : Prop :=
  ∃ a n cap, v = .slice a n cap ∧ xs.length = n * sz ∧ n ≤ cap ∧ cap ≤ maxLen ∧
    ((a = none ∧ cap = 0) ∨ ∃ b o cs, a = some ⟨b, o, none⟩ ∧ W w b cs ∧ o + cap * sz ≤ cs.length ∧ (cs.drop o).take (n * sz) = xs)
/-- The block that a slice's value leads to. -/
def blk : Value → Option Nat
  | .slice (some a) _ _ => some a.block
  | _ => none
theorem Own.row {w : World} {v : Value} {sz : Nat} {xs : List Value} (h : Own w v sz xs) : Row w v sz xs := by
  obtain ⟨a, n, cap, hv, hl, hn, hm, h⟩ := h
  refine ⟨a, n, cap, hv, hl, hn, ?_⟩
  rcases h with ⟨_, h0⟩ | ⟨b, o, cs, ha, hw, hc, ht⟩
  · exact .inl (by omega)
  · refine .inr ⟨b, o, cs, ha, hw.r, ?_, ht⟩
    have := Nat.mul_le_mul_right sz hn
    omega
theorem Row.fr {G : Nat → Prop} {w w' : World} {v : Value} {sz : Nat} {xs : List Value} (h : Row w v sz xs) (f : Fr G w w') (hg : ∀ b, blk v = some b → ¬ G b) : Row w' v sz xs := by
  obtain ⟨a, n, cap, hv, hl, hn, h⟩ := h
  refine ⟨a, n, cap, hv, hl, hn, ?_⟩
  rcases h with h0 | ⟨b, o, cs, ha, hw, hc, ht⟩
  · exact .inl h0
  · exact .inr ⟨b, o, cs, ha, hw.fr f (hg b (by rw [hv, ha]; rfl)), hc, ht⟩
theorem Own.fr {G : Nat → Prop} {w w' : World} {v : Value} {sz : Nat} {xs : List Value} (h : Own w v sz xs) (f : Fr G w w') (hg : ∀ b, blk v = some b → ¬ G b) : Own w' v sz xs := by
  obtain ⟨a, n, cap, hv, hl, hn, hm, h⟩ := h
  refine ⟨a, n, cap, hv, hl, hn, hm, ?_⟩
  rcases h with h0 | ⟨b, o, cs, ha, hw, hc, ht⟩
  · exact .inl h0
  · exact .inr ⟨b, o, cs, ha, hw.fr f (hg b (by rw [hv, ha]; rfl)), hc, ht⟩
theorem Row.weq {w w' : World} {v : Value} {sz : Nat} {xs : List Value} (h : Row w v sz xs) (k : Weq w w') : Row w' v sz xs :=
  h.fr (.of_weq k Nob) (fun _ _ q => q)
theorem Own.weq {w w' : World} {v : Value} {sz : Nat} {xs : List Value} (h : Own w v sz xs) (k : Weq w w') : Own w' v sz xs :=
  h.fr (.of_weq k Nob) (fun _ _ q => q)
theorem Own.blk_lt {w : World} {v : Value} {sz : Nat} {xs : List Value} (h : Own w v sz xs) {b : Nat} (hb : blk v = some b) : b < w.heap.size := by
  obtain ⟨a, n, cap, hv, hl, hn, hm, h⟩ := h
  rcases h with ⟨rfl, h0⟩ | ⟨b', o, cs, rfl, hw, hc, ht⟩
  · rw [hv] at hb; cases hb
  · rw [hv] at hb; cases hb; exact hw.lt
theorem Own.nil (w : World) (sz : Nat) : Own w (.slice none 0 0) sz [] := ⟨none, 0, 0, rfl, by simp, Nat.le_refl _, Nat.zero_le _, .inl ⟨rfl, rfl⟩⟩
theorem Row.len {w : World} {a : Option Addr} {n cap sz : Nat} {xs : List Value} (h : Row w (.slice a n cap) sz xs) : xs.length = n * sz := by
  obtain ⟨a', n', cap', hv, hl, hn, h⟩ := h
  cases hv; exact hl
/-- An element's cells, read through a row. -/
theorem Row.cells {w : World} {a : Option Addr} {n cap sz : Nat} {xs : List Value} (h : Row w (.slice a n cap) sz xs) (h0 : 0 < n) :
    ∃ b o, a = some ⟨b, o, none⟩ ∧ b < w.heap.size ∧ ∀ j, j < n * sz → w.cell? ⟨b, o + j, none⟩ = xs[j]? := by
  obtain ⟨a', n', cap', hv, hl, hn, h⟩ := h
  cases hv
  rcases h with rfl | ⟨b, o, cs, ha, hw, hc, ht⟩
  · omega
  · refine ⟨b, o, ha, hw.lt, fun j hj => ?_⟩
    rw [hw.cell, ← ht, List.getElem?_take, if_pos hj, List.getElem?_drop]

theorem addr_add (b o n : Nat) : (⟨b, o, none⟩ : Addr).add n = ⟨b, o + n, none⟩ := Addr.add_lit b o n

theorem zeroCells_size (z : Array Value) (n : Nat) : (Builtin.zeroCells z n).size = n * z.size := size_zeroCells z n

theorem take_drop_splice (cs : List Value) (o n : Nat) (vs : List Value) (h : o + n + vs.length ≤ cs.length) :
    ((splice cs (o + n) vs).drop o).take (n + vs.length) = (cs.drop o).take n ++ vs := by
  unfold splice
  apply List.ext_getElem?
  intro j
  have e1 : ((cs.drop o).take n).length = n := by rw [List.length_take, List.length_drop]; omega
  have e2 : (cs.take (o + n)).length = o + n := by rw [List.length_take]; omega
  by_cases hj : j < n + vs.length
  · rw [List.getElem?_take_of_lt hj, List.getElem?_drop]
    by_cases hjn : j < n
    · rw [List.append_assoc, List.getElem?_append_left (by rw [e2]; omega), List.getElem?_append_left (by rw [e1]; exact hjn)]
      rw [List.getElem?_take_of_lt (by omega), List.getElem?_take_of_lt hjn, List.getElem?_drop]
    · rw [List.append_assoc, List.getElem?_append_right (by rw [e2]; omega), e2, List.getElem?_append_left (by omega)]
      rw [List.getElem?_append_right (by rw [e1]; omega), e1]
      congr 1
      omega
  · rw [List.getElem?_take, if_neg hj, List.getElem?_eq_none]
    rw [List.length_append, e1]
    omega

section
variable {P : Program}

/-- **append** of one row to a slice of the program's own. -/
theorem run_append (t ty e : TypeId) (i : TypeInfo) (z : Value) (ht : P.underlying t = some (.slice e)) (hi : P.info? e = some i) (hz : i.zero = some z)
    (hzs : z.cells.size = i.size) (w : World) (s x : Value) (xs ys : List Value) (hs : Own w s i.size xs) (hx : Row w x i.size ys)
    (h1 : ∀ u ∈ ys, u.oneCell' = true) (hbytes : ∀ a n c a' m c', s = .slice a n c → x = .slice a' m c' → (n + m) * i.bytes ≤ 140737488355328 ∧ n + m ≤ maxLen) :
    ∃ v w', (Builtin.append_ #[t, t] ty #[s, x]).run P w = .ok v w' ∧ Own w' v i.size (xs ++ ys) ∧ Fr (fun b => blk s = some b) w w' ∧
      (blk v = blk s ∨ ∃ b, blk v = some b ∧ w.heap.size ≤ b) ∧ (∀ a n c a' m c', s = .slice a n c → x = .slice a' m c' → c < n + m → Fr Nob w w' ∧ ∃ b, blk v = some b ∧ w.heap.size ≤ b) ∧
      (∀ b o n c a' m c' cs, s = .slice (some ⟨b, o, none⟩) n c → x = .slice a' m c' → n + m ≤ c → W w b cs → v = .slice (some ⟨b, o, none⟩) (n + m) c ∧ Put w b (splice cs (o + n * i.size) ys) w') := by
  obtain ⟨a, n, cap, rfl, hlx, hnc, hcm, hs⟩ := hs
  obtain ⟨a', m, cap', rfl, hly, hmc, hx⟩ := hx
  obtain ⟨hb, h63⟩ := hbytes _ _ _ _ _ _ rfl rfl
  have hsum : (xs ++ ys).length = (n + m) * i.size := by rw [List.length_append, hlx, hly, Nat.add_mul]
  -- what is appended, as the model loads it
  have hf : ∀ w' : World, Weq w w' → (Builtin.firstCells i.size m (.slice a' m cap')).run P w' = .ok ys.toArray w' := by
    intro w' k
    rcases hx with rfl | ⟨b, o, cs, rfl, hr, ho, htk⟩
    · have : ys = [] := List.eq_nil_of_length_eq_zero (by simpa using hly)
      subst this
      cases a' with
      | none => simp [Builtin.firstCells]
      | some q => simp [Builtin.firstCells, loadCells, loadCellsFrom]
    · refine run_firstCells_some w' i.size m _ m cap' ys hly (fun j v hj => ?_)
      rw [addr_add, (hr.weq k).cell]
      have hjl : j < m * i.size := by rw [← hly]; exact (List.getElem?_eq_some_iff.1 hj).1
      rw [← htk, List.getElem?_take, if_pos hjl, List.getElem?_drop] at hj
      exact hj
  -- what was there
  have hfo : ∀ w' : World, Weq w w' → (Builtin.firstCells i.size n (.slice a n cap)).run P w' = .ok xs.toArray w' := by
    intro w' k
    rcases hs with ⟨rfl, h0⟩ | ⟨b, o, cs, rfl, hr, ho, htk⟩
    · have : xs = [] := List.eq_nil_of_length_eq_zero (by rw [hlx]; have : n = 0 := by omega
                                                          simp [this])
      subst this
      simp [Builtin.firstCells]
    · refine run_firstCells_some w' i.size n _ n cap xs hlx (fun j v hj => ?_)
      rw [addr_add, (hr.r.weq k).cell]
      have hjl : j < n * i.size := by rw [← hlx]; exact (List.getElem?_eq_some_iff.1 hj).1
      rw [← htk, List.getElem?_take, if_pos hjl, List.getElem?_drop] at hj
      exact hj
  by_cases hroom : n + m ≤ cap
  · -- in place
    rcases hs with ⟨rfl, h0⟩ | ⟨b, o, cs, rfl, hr, ho, htk⟩
    · have hm0 : m = 0 := by omega
      have hn0 : n = 0 := by omega
      subst hm0; subst hn0
      have : ys = [] := List.eq_nil_of_length_eq_zero (by simpa using hly)
      subst this
      refine ⟨.slice none 0 cap, w, ?_, ⟨none, 0, cap, rfl, by simpa using hlx, Nat.zero_le _, hcm, .inl ⟨rfl, h0⟩⟩, .refl _ _, .inl rfl, fun _ _ _ _ _ _ e1 e2 hlt => (by cases e1; cases e2; omega), fun _ _ _ _ _ _ _ _ e1 => (by cases e1)⟩
      have := hf w (.refl w)
      simp [Builtin.append_, run_underlying ht, sizeOf, typeInfo, hi, Builtin.lenOf, this]
    · obtain ⟨e', hg⟩ := hr
      have hmul := Nat.mul_le_mul_right i.size hroom
      have hfit : o + n * i.size + ys.length ≤ cs.length := by rw [hly, Nat.add_assoc, ← Nat.add_mul]; omega
      have hst := run_storeCells_at P b (o + n * i.size) e' ys 0 cs.toArray w hg (by simpa using hfit) h1
      simp only [Nat.add_zero] at hst
      have hput := Put.of_setRow (Weq.refl w) hg (splice cs (o + n * i.size) ys)
      refine ⟨.slice (some ⟨b, o, none⟩) (n + m) cap, w.setRow b (splice cs (o + n * i.size) ys).toArray, ?_,
        ⟨_, _, _, rfl, hsum, hroom, hcm, .inr ⟨b, o, _, rfl, hput.blk, ?_, ?_⟩⟩, hput.fr.mono (fun k _ hk => by simp only [blk, Onb] at *; rw [hk]), .inl rfl, fun _ _ _ _ _ _ e1 e2 hlt => (by cases e1; cases e2; omega),
        fun _ _ _ _ _ _ _ _ e1 e2 _ hW => (by cases e1; cases e2; obtain rfl := (show W w b cs from ⟨e', hg⟩).r.inj hW.r; exact ⟨rfl, hput⟩)⟩
      · have := hf w (.refl w)
        simp [Builtin.append_, run_underlying ht, sizeOf, typeInfo, hi, Builtin.lenOf, this, hroom, addr_add, hst, splice]
      · rw [splice_length hfit]; exact ho
      · have := take_drop_splice cs o (n * i.size) ys hfit
        rw [htk, hly, ← Nat.add_mul] at this
        exact this
  · -- a new array
    have hn : ¬ (n + m ≤ cap) := hroom
    have h63' : ¬ (9223372036854775807 < ((n : Int) + (m : Int))) := by simp only [maxLen] at h63; omega
    have hgs := growslice_fits (old := cap) (need := n + m) (by omega) hb
    have h48' : ¬ (281474976710656 < Builtin.nextslicecap (n + m) cap * i.bytes) := by omega
    have k1 : Weq w w.drew := ⟨rfl, rfl, rfl, rfl⟩
    have hnew := hf w.drew k1
    have hold := hfo w.drew k1
    have hge := grownCap_ge w (n + m) cap e
    have hcm' : grownCap w (n + m) cap e ≤ maxLen := grownCap_le_maxLen w (n + m) cap e h63
    have hN := New.of_alloc w w.drew k1 (xs.toArray ++ ys.toArray ++ Builtin.zeroCells z.cells (grownCap w (n + m) cap e - (n + m))) e
    refine ⟨.slice (some ⟨w.heap.size, 0, none⟩) (n + m) (grownCap w (n + m) cap e),
      w.drew.alloc (.cells (xs.toArray ++ ys.toArray ++ Builtin.zeroCells z.cells (grownCap w (n + m) cap e - (n + m))) e), ?_,
      ⟨_, _, _, rfl, hsum, hge, hcm', .inr ⟨w.heap.size, 0, _, rfl, hN.blk, ?_, ?_⟩⟩, hN.fr.nob, .inr ⟨_, rfl, Nat.le_refl _⟩, fun _ _ _ _ _ _ _ _ _ => ⟨hN.fr, _, rfl, Nat.le_refl _⟩, fun _ _ _ _ _ _ _ _ e1 e2 hlt => (by cases e1; cases e2; omega)⟩
    · simp [Builtin.append_, run_underlying ht, sizeOf, typeInfo, zeroValue, hi, hz, Builtin.lenOf, hn, h63', h48', Question.forced, hnew, hold, newRow, grownCap]
      congr 2
      apply Array.ext'
      simp [List.append_assoc]
    · simp only [Array.toList_append, List.length_append, Array.length_toList, zeroCells_size, hzs, hlx, hly, ← Nat.add_mul]
      have : n + m + (grownCap w (n + m) cap e - (n + m)) = grownCap w (n + m) cap e := by omega
      rw [this]; omega
    · simp only [Array.toList_append, List.drop_zero]
      rw [← hsum]
      exact List.take_left
end
end Go.Proofs.Ytlffbjchcknmfaa

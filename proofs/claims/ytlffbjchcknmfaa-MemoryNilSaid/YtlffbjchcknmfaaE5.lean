/- The engine, part 5: calls; every operation. -/
import Derived.Test.YtlffbjchcknmfaaE4
namespace Go.Proofs.Ytlffbjchcknmfaa
open Go
set_option linter.unusedVariables false
set_option linter.unusedSimpArgs false
section
variable {P : Program} {E : Env} {w w' : World} {K : Value → World → Prop} {k : Value → Prop} {ρ : Operand → Value} {ty : TypeId}

theorem run_copy {t ty e : TypeId} {i : TypeInfo} (ht : P.underlying t = some (.slice e)) (hi : P.info? e = some i) (k : Weq w w')
    {a : Option Addr} {n c : Nat} {a' : Option Addr} {m c' : Nat} {xs : List Value} (hs : Row w (.slice a' m c') i.size xs) (h1 : ∀ u ∈ xs.take (min m n * i.size), u.oneCell' = true)
    (K : Value → World → Prop)
    (h : (min m n = 0 ∧ K (.int .i64 0) w) ∨ ∃ b o cs, a = some ⟨b, o, none⟩ ∧ W w b cs ∧ o + min m n * i.size ≤ cs.length ∧ ∀ u, Put w b (splice cs o (xs.take (min m n * i.size))) u → K (.int .i64 (min m n : Nat)) u) :
    ∃ v w'', (Builtin.copy_ #[t, t] ty #[.slice a n c, .slice a' m c']).run P w' = .ok v w'' ∧ Upto K v w'' := by
  have hf : (Builtin.firstCells i.size (min m n) (.slice a' m c')).run P w' = .ok (xs.take (min m n * i.size)).toArray w' := by
    obtain ⟨a2, m2, c2, hv, hl, hn, hr⟩ := hs
    cases hv
    have hl2 : (xs.take (min m n * i.size)).length = min m n * i.size := by
      rw [List.length_take, hl]
      have := Nat.mul_le_mul_right i.size (Nat.min_le_left m n)
      omega
    cases a' with
    | none =>
      rcases hr with rfl | ⟨_, _, _, hq, _⟩
      · simp [Builtin.firstCells]
      · cases hq
    | some q =>
      refine run_firstCells_some w' i.size (min m n) q m c' _ hl2 (fun j v hj => ?_)
      rcases hr with rfl | ⟨b', o, cs, ha, hw, hc, ht⟩
      · simp at hj
      · cases ha
        rw [addr_add, (hw.weq k).cell]
        have hjl : j < min m n * i.size := by rw [← hl2]; exact (List.getElem?_eq_some_iff.1 hj).1
        have := Nat.mul_le_mul_right i.size (Nat.min_le_left m n)
        rw [List.getElem?_take, if_pos hjl, ← ht, List.getElem?_take, if_pos (by omega), List.getElem?_drop] at hj
        exact hj
  have hsz : tsz P e = some i.size := by simp [tsz, hi]
  have hmin : Nat.min m n = min m n := rfl
  rcases h with ⟨h0, hK⟩ | ⟨b, o, cs, rfl, hw, hfit, hK⟩
  · refine ⟨.int .i64 0, w', ?_, w, k, hK⟩
    rw [h0, Nat.zero_mul, List.take_zero] at hf
    simp only [Builtin.copy_, Sem.run_bind, List.getElem?_toArray]
    cases a with
    | none => simp [run_underlying ht, Builtin.lenOf, sizeOf_run hsz, hmin, h0, hf, goInt]
    | some q => simp [run_underlying ht, Builtin.lenOf, sizeOf_run hsz, hmin, h0, hf, goInt, storeCells]
  · obtain ⟨e', hg⟩ := hw.weq k
    have hl2 : (xs.take (min m n * i.size)).length = min m n * i.size := by
      rw [List.length_take, hs.len]
      have := Nat.mul_le_mul_right i.size (Nat.min_le_left m n)
      omega
    have hst := run_storeCells_at P b o e' (xs.take (min m n * i.size)) 0 cs.toArray w' hg (by rw [hl2]; simpa using hfit) h1
    simp only [Nat.add_zero] at hst
    refine ⟨.int .i64 (min m n : Nat), _, ?_, _, Weq.refl _, hK _ (Put.of_setRow k hg _)⟩
    simp only [Builtin.copy_, Sem.run_bind, List.getElem?_toArray]
    simp [run_underlying ht, Builtin.lenOf, sizeOf_run hsz, hmin, hf, goInt, hst, splice]
theorem zeroCells_reps (z : Array Value) (n : Nat) : (Builtin.zeroCells z n).toList = reps z.toList n := made_reps z n
theorem run_append_zeros {t t' ty e : TypeId} {i : TypeInfo} {z : Value} {j : IntKind} (ht : P.underlying t = some (.slice e)) (ht' : P.underlying t' = some (.int j)) (hi : P.info? e = some i) (hz : i.zero = some z)
    (hzs : z.cells.size = i.size) (w : World) (s : Value) (xs : List Value) (m : Nat) (hs : Own w s i.size xs) (hb0 : 0 < i.bytes)
    (h1 : ∀ u ∈ z.cells.toList, u.oneCell' = true) (jx : IntKind) (hbytes : ∀ a n c, s = .slice a n c → (n + m) * i.bytes ≤ 140737488355328 ∧ n + m ≤ maxLen) :
    ∃ v w', (Builtin.append_ #[t, t'] ty #[s, .int jx m]).run P w = .ok v w' ∧ Own w' v i.size (xs ++ reps z.cells.toList m) ∧ Fr (fun b => blk s = some b) w w' ∧
      (blk v = blk s ∨ ∃ b, blk v = some b ∧ w.heap.size ≤ b) ∧ (∀ a n c, s = .slice a n c → c < n + m → Fr Nob w w' ∧ ∃ b, blk v = some b ∧ w.heap.size ≤ b) := by
  obtain ⟨a, n, cap, rfl, hlx, hnc, hcm, hs⟩ := hs
  obtain ⟨hb, h63⟩ := hbytes _ _ _ rfl
  have hm63 : (m : Int) ≤ 9223372036854775807 := by simp only [maxLen] at h63; omega
  have hl : IntKind.i64.wrap (m : Int) = m := by rw [IntKind.wrap_i64]; omega
  have hlen : (reps z.cells.toList m).length = m * i.size := by rw [reps_length]; simp [hzs]
  have hsum : (xs ++ reps z.cells.toList m).length = (n + m) * i.size := by rw [List.length_append, hlx, hlen, Nat.add_mul]
  have hmb : m * i.bytes ≤ 140737488355328 := Nat.le_trans (Nat.mul_le_mul_right _ (by omega)) hb
  have hmb' : ¬ ((281474976710656 : Int) < (m : Int) * (i.bytes : Int)) := by
    have : ((m * i.bytes : Nat) : Int) ≤ 140737488355328 := by omega
    rw [Int.natCast_mul] at this; omega
  have hneg : ¬ ((m : Int) < 0) := by omega
  have hint : (underlying t').run P w = .ok (.int j) w := run_underlying ht' w
  have h1r : ∀ u ∈ reps z.cells.toList m, u.oneCell' = true := by
    have : ∀ k, ∀ u ∈ reps z.cells.toList k, u.oneCell' = true := by
      intro k
      induction k with
      | zero => intro u hu; cases hu
      | succ k ih => intro u hu; simp only [reps, List.mem_append] at hu; rcases hu with hu | hu; exact h1 u hu; exact ih u hu
    exact this m
  have hzr : ∀ w, (zeroValue e).run P w = .ok z w := fun w => by simp [zeroValue, typeInfo, hi, hz]
  -- what is appended, as the model makes it
  have happ : ∀ w' : World, ((if m * i.size = 0 then pure #[] else do pure (Builtin.zeroCells (← zeroValue e).cells m)) : Sem (Array Value)).run P w' = .ok (reps z.cells.toList m).toArray w' := by
    intro w'
    split
    · rename_i h0
      have : reps z.cells.toList m = [] := List.eq_nil_of_length_eq_zero (by rw [hlen, h0])
      rw [this]; simp
    · simp only [Sem.run_bind, hzr, Result.andThen_ok, Sem.run_pure]
      congr 1
      apply Array.ext'
      rw [zeroCells_reps]
  have hfo : ∀ w' : World, Weq w w' → (Builtin.firstCells i.size n (.slice a n cap)).run P w' = .ok xs.toArray w' := by
    intro w' k
    rcases hs with ⟨rfl, h0⟩ | ⟨b, o, cs, rfl, hr, ho, htk⟩
    · have : xs = [] := List.eq_nil_of_length_eq_zero (by rw [hlx]; have : n = 0 := by omega
                                                          simp [this])
      subst this
      simp [Builtin.firstCells]
    · refine run_firstCells_some w' i.size n _ n cap xs hlx (fun j v hj => ?_)
      rw [addr_add, (hr.r.weq k).cell]
      have hjl : j < n * i.size := by rw [← hlx]; exact (List.getElem?_eq_some_iff.1 hj).1
      rw [← htk, List.getElem?_take, if_pos hjl, List.getElem?_drop] at hj
      exact hj
  by_cases hroom : n + m ≤ cap
  · rcases hs with ⟨rfl, h0⟩ | ⟨b, o, cs, rfl, hr, ho, htk⟩
    · have hm0 : m = 0 := by omega
      have hn0 : n = 0 := by omega
      subst hm0; subst hn0
      refine ⟨.slice none 0 cap, w, ?_, ⟨none, 0, cap, rfl, by simpa [reps] using hlx, Nat.zero_le _, hcm, .inl ⟨rfl, h0⟩⟩, .refl _ _, .inl rfl, fun _ _ _ e1 hlt => (by cases e1; omega)⟩
      have hl0 : IntKind.i64.wrap 0 = 0 := by decide
      simp [Builtin.append_, run_underlying ht, run_underlying ht', sizeOf, typeInfo, hi, asInt, asIntOf, hl0]
    · obtain ⟨e', hg⟩ := hr
      have hmul := Nat.mul_le_mul_right i.size hroom
      have hfit : o + n * i.size + (reps z.cells.toList m).length ≤ cs.length := by rw [hlen, Nat.add_assoc, ← Nat.add_mul]; omega
      have hst := run_storeCells_at P b (o + n * i.size) e' (reps z.cells.toList m) 0 cs.toArray w hg (by simpa using hfit) h1r
      simp only [Nat.add_zero] at hst
      have hput := Put.of_setRow (Weq.refl w) hg (splice cs (o + n * i.size) (reps z.cells.toList m))
      refine ⟨.slice (some ⟨b, o, none⟩) (n + m) cap, w.setRow b (splice cs (o + n * i.size) (reps z.cells.toList m)).toArray, ?_,
        ⟨_, _, _, rfl, hsum, hroom, hcm, .inr ⟨b, o, _, rfl, hput.blk, ?_, ?_⟩⟩, hput.fr.mono (fun k _ hk => by simp only [blk, Onb] at *; rw [hk]), .inl rfl, fun _ _ _ e1 hlt => (by cases e1; omega)⟩
      · have := happ w
        by_cases hz0 : m * i.size = 0
        · rw [if_pos hz0] at this
          have hnil : reps z.cells.toList m = [] := List.eq_nil_of_length_eq_zero (by rw [hlen, hz0])
          rw [hnil] at hst
          simp [Builtin.append_, run_underlying ht, run_underlying ht', sizeOf, typeInfo, hi, asInt, asIntOf, hl, hneg, hmb', hroom, hz0, addr_add, hst, splice, hnil]
        · rw [if_neg hz0] at this
          simp only [Sem.run_bind, hzr, Result.andThen_ok, Sem.run_pure, Result.ok.injEq, and_true] at this
          simp [Builtin.append_, run_underlying ht, run_underlying ht', sizeOf, typeInfo, hi, asInt, asIntOf, hl, hneg, hmb', hroom, hz0, addr_add, hzr, this, hst, splice]
      · rw [splice_length hfit]; exact ho
      · have := take_drop_splice cs o (n * i.size) (reps z.cells.toList m) hfit
        rw [htk, hlen, ← Nat.add_mul] at this
        exact this
  · have hn : ¬ (n + m ≤ cap) := hroom
    have h63' : ¬ (9223372036854775807 < ((n : Int) + (m : Int))) := by simp only [maxLen] at h63; omega
    have hgs := growslice_fits (old := cap) (need := n + m) (by omega) hb
    have h48' : ¬ (281474976710656 < Builtin.nextslicecap (n + m) cap * i.bytes) := by omega
    have k1 : Weq w w.drew := ⟨rfl, rfl, rfl, rfl⟩
    have hnew := happ w.drew
    have hold := hfo w.drew k1
    have hge := grownCap_ge w (n + m) cap e
    have hcm' : grownCap w (n + m) cap e ≤ maxLen := grownCap_le_maxLen w (n + m) cap e h63
    have hN := New.of_alloc w w.drew k1 (xs.toArray ++ (reps z.cells.toList m).toArray ++ Builtin.zeroCells z.cells (grownCap w (n + m) cap e - (n + m))) e
    refine ⟨.slice (some ⟨w.heap.size, 0, none⟩) (n + m) (grownCap w (n + m) cap e),
      w.drew.alloc (.cells (xs.toArray ++ (reps z.cells.toList m).toArray ++ Builtin.zeroCells z.cells (grownCap w (n + m) cap e - (n + m))) e), ?_,
      ⟨_, _, _, rfl, hsum, hge, hcm', .inr ⟨w.heap.size, 0, _, rfl, hN.blk, ?_, ?_⟩⟩, hN.fr.nob, .inr ⟨_, rfl, Nat.le_refl _⟩, fun _ _ _ _ _ => ⟨hN.fr, _, rfl, Nat.le_refl _⟩⟩
    · by_cases hz0 : m * i.size = 0
      · have hnil : reps z.cells.toList m = [] := List.eq_nil_of_length_eq_zero (by rw [hlen, hz0])
        simp [Builtin.append_, run_underlying ht, run_underlying ht', sizeOf, typeInfo, hi, asInt, asIntOf, hl, hneg, hmb', hn, h63', h48', hz0, Question.forced, hold, hzr, newRow, grownCap, hnil]
      · rw [if_neg hz0] at hnew
        simp only [Sem.run_bind, hzr, Result.andThen_ok, Sem.run_pure, Result.ok.injEq, and_true] at hnew
        simp [Builtin.append_, run_underlying ht, run_underlying ht', sizeOf, typeInfo, hi, asInt, asIntOf, hl, hneg, hmb', hn, h63', h48', hz0, Question.forced, hold, hzr, hnew, newRow, grownCap]
        congr 2
        apply Array.ext'
        simp [List.append_assoc]
    · simp only [Array.toList_append, List.length_append, Array.length_toList, zeroCells_size, hzs, hlx, hlen, ← Nat.add_mul]
      have : n + m + (grownCap w (n + m) cap e - (n + m)) = grownCap w (n + m) cap e := by omega
      rw [this]; omega
    · simp only [Array.toList_append, List.drop_zero]
      rw [← hsum]
      exact List.take_left
theorem builtinP_run {b : Builtin} {ts : List TypeId} {vs : List Value} (h : builtinP P k b ts vs) :
    ∃ v, (∀ (ty : TypeId) (consts : Array Bool) (w' : World), (builtin b ts.toArray ty consts vs.toArray).run P w' = .ok (.value v) w') ∧ k v := by
  unfold builtinP at h
  split at h
  · rename_i t v
    split at h
    · rename_i a n c
      obtain ⟨hu, hK⟩ := h
      obtain ⟨⟨sz, z, by_⟩, ht⟩ := Option.isSome_iff_exists.1 hu
      obtain ⟨e, i, v, hu, _⟩ := tsl_spec ht
      exact ⟨_, fun _ _ _ => by simp [builtin, Builtin.len_, run_underlying hu, goInt], hK⟩
    · rename_i s
      obtain ⟨hu, hK⟩ := h
      exact ⟨_, fun _ _ _ => by simp [builtin, Builtin.len_, run_underlying hu, goInt], hK⟩
    · exact h.elim
  · rename_i t v
    split at h
    · rename_i a n c
      obtain ⟨hu, hK⟩ := h
      obtain ⟨⟨sz, z, by_⟩, ht⟩ := Option.isSome_iff_exists.1 hu
      obtain ⟨e, i, v, hu, _⟩ := tsl_spec ht
      exact ⟨_, fun _ _ _ => by simp [builtin, Builtin.cap_, run_underlying hu, goInt], hK⟩
    · exact h.elim
  · rename_i j a j' b
    refine ⟨.int j (min a b), ?_, h⟩
    have : (if b < a then b else a) = min a b := by rw [Int.min_def]; split <;> split <;> omega
    intro ty consts w; simp [builtin, Builtin.min_, Builtin.min2, this]
  · rename_i j a j' b
    refine ⟨.int j (max a b), ?_, h⟩
    have : (if a < b then b else a) = max a b := by rw [Int.max_def]; split <;> split <;> omega
    intro ty consts w; simp [builtin, Builtin.max_, Builtin.max2, this]
  · exact h.elim
theorem builtin_run {b : Builtin} {ts : List TypeId} {vs : List Value} {ty : TypeId} (h : builtinVC P w K b ts vs) (k : Weq w w') :
    ∃ v w'', (∀ consts : Array Bool, (builtin b ts.toArray ty consts vs.toArray).run P w' = .ok (.value v) w'') ∧ Upto K v w'' := by
  have pu : ∀ {b : Builtin} {ts : List TypeId} {vs : List Value}, builtinP P (fun v => K v w) b ts vs → ∃ v w'', (∀ consts : Array Bool, (builtin b ts.toArray ty consts vs.toArray).run P w' = .ok (.value v) w'') ∧ Upto K v w'' := fun h => by
    obtain ⟨v, hr, hK⟩ := builtinP_run h
    exact ⟨v, w', fun c => hr ty c w', w, k, hK⟩
  unfold builtinVC at h
  split at h
  · rename_i t t' s x
    split at h
    · rename_i j n
      unfold appendZVC at h
      obtain ⟨ht', h⟩ := h
      split at h
      · exact h.elim
      rename_i sz z by_ ht
      obtain ⟨hb0, xs, hs, hn, h1, hb, h⟩ := h
      obtain ⟨e, i, v, hu, hi, hz, rfl, rfl, rfl, hzs⟩ := tsl_spec ht
      obtain ⟨jk, hjk⟩ := Option.isSome_iff_exists.1 ht'
      unfold tint at hjk
      split at hjk
      · rename_i j' hu'
        obtain ⟨m, rfl⟩ := Int.eq_ofNat_of_zero_le hn
        rw [Int.toNat_natCast] at h hb
        obtain ⟨r, w'', hr, hown, hfr, hblk, hnew⟩ := run_append_zeros (P := P) (ty := ty) hu hu' hi hz hzs w' s xs m (hs.weq k) hb0 h1 j hb
        rw [k.heap] at hblk
        refine ⟨r, w'', fun _ => by simp [builtin, hr], w'', Weq.refl _, h _ _ hown (hfr.weqL k) hblk (fun a n c e hlt => ?_)⟩
        obtain ⟨g1, g2⟩ := hnew a n c e hlt
        rw [k.heap] at g2
        exact ⟨g1.weqL k, g2⟩
      · cases hjk
    unfold appendVC at h
    obtain ⟨rfl, h⟩ := h
    split at h
    · exact h.elim
    rename_i sz z by_ ht
    obtain ⟨xs, ys, hs, hx, h1, hb, h⟩ := h
    obtain ⟨e, i, v, hu, hi, hz, rfl, rfl, rfl, hzs⟩ := tsl_spec ht
    obtain ⟨r, w'', hr, hown, hfr, hblk, hnew, hroom⟩ := run_append (P := P) t ty e i v hu hi hz hzs w' s x xs ys (hs.weq k) (hx.weq k) h1 hb
    rw [k.heap] at hblk
    refine ⟨r, w'', fun _ => by simp [builtin, hr], w'', Weq.refl _, h _ _ hown (hfr.weqL k) hblk (fun a n c a' m c' e e' hlt => ?_) (fun b o n c a' m c' cs e e' hle hW => ?_)⟩
    · obtain ⟨g1, g2⟩ := hnew a n c a' m c' e e' hlt
      rw [k.heap] at g2
      exact ⟨g1.weqL k, g2⟩
    · obtain ⟨g1, g2⟩ := hroom b o n c a' m c' cs e e' hle (hW.weq k)
      exact ⟨g1, g2.blk, g2.fr.weqL k, by rw [g2.size, k.heap]⟩
  · rename_i t s
    unfold clearVC at h
    split at h
    · exact h.elim
    rename_i sz z by_ ht
    obtain ⟨a, n, c, rfl, h1, h⟩ := h
    obtain ⟨e, i, v, hu, hi, hz, rfl, rfl, rfl, hzs⟩ := tsl_spec ht
    have hzr : ∀ w, (zeroValue e).run P w = .ok v w := fun w => by simp [zeroValue, typeInfo, hi, hz]
    rcases h with ⟨rfl, hK⟩ | ⟨hn, b, o, cs, rfl, hw, hfit, hK⟩
    · refine ⟨_, _, fun _ => ?_, w, k, hK⟩
      cases a <;> simp [builtin, Builtin.clear_, run_underlying hu]
    · obtain ⟨e', hg⟩ := hw.weq k
      have hlen : (reps v.cells.toList n).length = n * i.size := by rw [reps_length]; simp [hzs]
      have h1r : ∀ k, ∀ u ∈ reps v.cells.toList k, u.oneCell' = true := by
        intro k
        induction k with
        | zero => intro u hu; cases hu
        | succ k ih => intro u hu; simp only [reps, List.mem_append] at hu; rcases hu with hu | hu; exact h1 u hu; exact ih u hu
      have hst := run_storeCells_at P b o e' (reps v.cells.toList n) 0 cs.toArray w' hg (by rw [hlen]; simpa using hfit) (h1r n)
      simp only [Nat.add_zero] at hst
      refine ⟨.tuple #[], _, fun _ => ?_, _, Weq.refl _, hK _ (Put.of_setRow k hg _)⟩
      obtain ⟨n, rfl⟩ : ∃ m, n = m + 1 := ⟨n - 1, by omega⟩
      have hzc := zeroCells_reps v.cells (n + 1)
      simp [builtin, Builtin.clear_, run_underlying hu, hzr, hzc, hst, splice]
  · rename_i t t' d s
    unfold copyVC at h
    obtain ⟨rfl, h⟩ := h
    split at h
    · exact h.elim
    rename_i sz z by_ ht
    obtain ⟨a, n, c, xs, a', m, c', rfl, rfl, hx, h1, h⟩ := h
    obtain ⟨e, i, v, hu, hi, hz, rfl, rfl, rfl, hzs⟩ := tsl_spec ht
    obtain ⟨r, w'', hr, hK⟩ := run_copy (ty := ty) (c := c) hu hi k hx h1 K h
    exact ⟨r, w'', fun _ => by simp [builtin, hr], hK⟩
  · exact pu h
  · exact pu h
  · exact pu h
  · exact pu h
  · exact h.elim
theorem callFunc_run {f : FuncId} (h : tcall P f = true) (args : Array Value) (w : World) : (callFunc f args).run P w = .ok (.enter f args) w := by
  unfold tcall at h
  split at h
  · rename_i fn hf
    simp only [Bool.and_eq_true, bne_iff_ne, ne_eq] at h
    obtain ⟨bd, hbd⟩ := Option.isSome_iff_exists.1 h.2
    simp [callFunc, hf, h.1, hbd]
  · cases h
theorem pure_call {c : Call} (h : pureVC P E k (.call c)) (ha : Agrees E ρ) : RunsP P (.call c) ρ k := by
  have hargs : c.args.map ρ = (c.args.toList.map ρ).toArray := by apply Array.ext'; simp
  simp only [pureVC] at h
  split at h
  · rename_i b hb
    replace h := evs_elim ha h
    obtain ⟨v, hr, hK⟩ := builtinP_run h
    refine ⟨v, fun ty w' => ?_, hK⟩
    simp only [execOp, resolve, hb, Sem.run_bind, Sem.run_pure, Result.andThen_ok, invoke, hargs]
    exact hr _ _ _
  · exact h.elim
theorem sound_call {c : Call} (h : opVC P E w K (.call c)) (ha : Agrees E ρ) (k : Weq w w') : OpSem P (.call c) ty ρ w' (Upto K) := by
  simp only [opVC] at h
  have hargs : c.args.map ρ = (c.args.toList.map ρ).toArray := by apply Array.ext'; simp
  split at h
  · rename_i b hb
    replace h := evs_elim ha h
    obtain ⟨v, w'', hr, u, hu, hK⟩ := builtin_run (ty := ty) h k
    refine .val ?_ hu hK
    simp only [execOp, resolve, hb, Sem.run_bind, Sem.run_pure, Result.andThen_ok, invoke, hargs]
    exact hr _
  · rename_i f hf
    replace h := ev_elim (evs_elim ha h) ha
    try dsimp only at h
    split at h
    · rename_i g first cap hv
      have e : first ++ c.args.map ρ ++ cap = (first.toList ++ c.args.toList.map ρ ++ cap.toList).toArray := by apply Array.ext'; simp
      rcases h with ⟨hc, hcall⟩ | h
      case inr =>
        obtain ⟨v, w'', hr, u, hu, hK⟩ := h w' k
        refine .val (w'' := w'') (v := v) ?_ hu hK
        simp only [execOp, resolve, hf, hv, Deferred.ofValue, Sem.run_bind, Sem.run_pure, Result.andThen_ok, invoke, e]
        exact hr
      refine .inr (.inr ⟨g, (first.toList ++ c.args.toList.map ρ ++ cap.toList).toArray, w', ?_, (callsE_use hcall k).mono fun e w3 ⟨v, u, he, hu, hK⟩ => ⟨v, he, u, hu, hK⟩⟩)
      simp only [execOp, resolve, hf, hv, Deferred.ofValue, Sem.run_bind, Sem.run_pure, Result.andThen_ok, invoke, callFunc_run hc, e]
    · exact h.elim
  · rename_i r name hr
    replace h := ev_elim (evs_elim ha h) ha
    try dsimp only at h
    split at h
    · rename_i t x hv
      obtain ⟨f, recv, hm, h⟩ := h
      have e0 : (#[ρ r] ++ c.args.map ρ)[0]? = some (Value.iface t x) := by rw [hargs]; simp [hv]
      have e1 : (#[ρ r] ++ c.args.map ρ).extract 1 (#[ρ r] ++ c.args.map ρ).size = c.args.map ρ := by
        rw [hargs]
        apply Array.ext'
        simp
        rw [List.take_of_length_le (by simp)]
      have e2 : #[recv] ++ c.args.map ρ = (recv :: c.args.toList.map ρ).toArray := by apply Array.ext'; simp
      rcases h with ⟨hc, hcall⟩ | h
      case inr =>
        obtain ⟨v, w'', hr', u, hu, hK⟩ := h w' k
        refine .val (w'' := w'') (v := v) ?_ hu hK
        simp only [execOp, resolve, hr, Sem.run_bind, Sem.run_pure, Result.andThen_ok, invoke, e0, e1, callMethod, run_program, hm w' k, e2]
        exact hr'
      refine .inr (.inr ⟨f, (recv :: c.args.toList.map ρ).toArray, w', ?_, (callsE_use hcall k).mono fun e w3 ⟨v, u, he, hu, hK⟩ => ⟨v, he, u, hu, hK⟩⟩)
      simp only [execOp, resolve, hr, Sem.run_bind, Sem.run_pure, Result.andThen_ok, invoke, e0, e1, callMethod, run_program, hm w' k, callFunc_run hc, e2]
    · exact h.elim

/-- **What 'pureVC' asks is enough.** -/
theorem pure_sound {op : Op} (h : pureVC P E k op) (ha : Agrees E ρ) : RunsP P op ρ k := by
  cases op
  case move => exact pure_move h ha
  case assign => exact pure_assign h ha
  case pick => exact pure_pick h ha
  case build => exact pure_build h ha
  case nilCheck => exact pure_nilCheck h ha
  case binOp => exact pure_binOp h ha
  case unOp => exact pure_unOp h ha
  case convert => exact pure_convert h ha
  case makeInterface => exact pure_makeInterface h ha
  case makeFunc => exact pure_makeFunc h ha
  case typeAssert => exact pure_typeAssert h ha
  case slice => exact pure_slice h ha
  case fieldAddr => exact pure_fieldAddr h ha
  case field => exact pure_field h ha
  case indexAddr => exact pure_indexAddr h ha
  case extract => exact pure_extract h ha
  case call => exact pure_call h ha
  all_goals exact h.elim
/-- **What 'opVC' asks is enough.** -/
theorem op_sound {op : Op} (h : opVC P E w K op) (ha : Agrees E ρ) (k : Weq w w') : OpSem P op ty ρ w' (Upto K) := by
  cases op
  case move => exact pure_op (pure_move h ha) k
  case assign => exact pure_op (pure_assign h ha) k
  case pick => exact pure_op (pure_pick h ha) k
  case build => exact pure_op (pure_build h ha) k
  case nilCheck => exact pure_op (pure_nilCheck h ha) k
  case unOp => exact pure_op (pure_unOp h ha) k
  case makeInterface => exact pure_op (pure_makeInterface h ha) k
  case makeFunc => exact pure_op (pure_makeFunc h ha) k
  case typeAssert => exact pure_op (pure_typeAssert h ha) k
  case slice => exact pure_op (pure_slice h ha) k
  case fieldAddr => exact pure_op (pure_fieldAddr h ha) k
  case field => exact pure_op (pure_field h ha) k
  case indexAddr => exact pure_op (pure_indexAddr h ha) k
  case extract => exact pure_op (pure_extract h ha) k
  case binOp => exact sound_binOp h ha k
  case convert => exact sound_convert h ha k
  case alloc => exact sound_alloc h k
  case box => exact sound_box h ha k
  case buildSlice => exact sound_buildSlice h ha k
  case load => exact sound_load h ha k
  case store => exact sound_store h ha k
  case makeSlice => exact sound_makeSlice h ha k
  case call => exact sound_call h ha k
  all_goals exact h ρ w' ty ha k
end
end Go.Proofs.Ytlffbjchcknmfaa

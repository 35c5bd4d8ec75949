/- The engine, part 3: what 'opVC' asks is enough. -/
import Derived.Test.YtlffbjchcknmfaaE2
import Derived.Laws.Strings
namespace Go.Proofs.Ytlffbjchcknmfaa
open Go
set_option linter.unusedVariables false
set_option linter.unusedSimpArgs false
section
variable {P : Program} {E : Env} {w w' : World} {K : Value → World → Prop} {k : Value → Prop} {ρ : Operand → Value} {ty : TypeId}

theorem OpSem.val {op : Op} {v : Value} {w'' u : World} (hr : (execOp ρ ⟨none, op, ty, "", #[], none⟩).run P w' = .ok (.value v) w'') (k : Weq u w'') (h : K v u) : OpSem P op ty ρ w' (Upto K) :=
  .inl ⟨v, w'', hr, u, k, h⟩
theorem OpSem.skp {op : Op} {w'' u : World} (hr : (execOp ρ ⟨none, op, ty, "", #[], none⟩).run P w' = .ok .skip w'') (k : Weq u w'') (h : K undef u) : OpSem P op ty ρ w' (Upto K) :=
  .inr (.inl ⟨w'', hr, u, k, h⟩)

theorem pure_op {op : Op} (h : RunsP P op ρ fun v => K v w) (k : Weq w w') : OpSem P op ty ρ w' (Upto K) := by
  obtain ⟨v, hr, hK⟩ := h
  exact .val (hr ty w') k hK
theorem pure_move {x : Operand} (h : pureVC P E k (.move x)) (ha : Agrees E ρ) : RunsP P (.move x) ρ k :=
  ⟨_, fun ty w' => by simp [execOp], ev_elim h ha⟩
theorem pure_assign {x : Operand} (h : pureVC P E k (.assign x)) (ha : Agrees E ρ) : RunsP P (.assign x) ρ k :=
  ⟨_, fun ty w' => by simp [execOp], ev_elim h ha⟩
theorem pure_pick {c a b : Operand} (h : pureVC P E k (.pick c a b)) (ha : Agrees E ρ) : RunsP P (.pick c a b) ρ k := by
  have h1 := ev_elim (ev_elim (ev_elim h ha) ha) ha
  cases hc : ρ c <;> rw [hc] at h1 <;> simp only at h1
  rename_i t
  refine ⟨_, fun ty w' => ?_, h1⟩
  simp [execOp, hc, asBool, pickV_eq]
theorem sound_alloc {t : TypeId} (h : opVC P E w K (.alloc t)) (k : Weq w w') : OpSem P (.alloc t) ty ρ w' (Upto K) := by
  simp only [opVC] at h
  split at h
  · exact h.elim
  rename_i zs hz
  obtain ⟨v, hv, hr⟩ := zeroValue_run hz
  have hN := New.of_alloc w w' k v.cells t
  rw [hv] at hN
  refine .val (w'' := w'.alloc (.cells v.cells t)) ?_ (Weq.refl _) (h _ _ hN)
  simp [execOp, Instr.alloc, hr, newVar, newRow]
theorem sound_box {t : TypeId} {x : Operand} (h : opVC P E w K (.box t x)) (ha : Agrees E ρ) (k : Weq w w') : OpSem P (.box t x) ty ρ w' (Upto K) := by
  replace h := ev_elim h ha
  have hN := New.of_alloc w w' k (ρ x).cells t
  rw [← vcells_eq] at hN
  refine .val (w'' := w'.alloc (.cells (ρ x).cells t)) ?_ (Weq.refl _) (h _ _ hN)
  simp [execOp, Instr.box, newVar, newRow]

/-! building -/
theorem fill_step (cells : Array Value) (off : Nat) : ∀ (cs : List Value) (j : Nat), off + j + cs.length ≤ cells.size →
    ((cs.zipIdx j).foldl (fun a (p : Value × Nat) => a.setIfInBounds (off + p.2) p.1) cells).toList = splice cells.toList (off + j) cs := by
  intro cs
  induction cs generalizing cells with
  | nil => intro j h; simp [splice]
  | cons c r ih =>
    intro j h
    simp only [List.zipIdx_cons, List.foldl_cons]
    have := ih (cells.setIfInBounds (off + j) c) (j + 1) (by simp at h ⊢; omega)
    rw [this]
    have e := list_seg_step cells.toList (off + j) c r (by simp at h ⊢; omega)
    simpa [splice, Array.toList_setIfInBounds, Nat.add_assoc] using e
theorem fill_step' (cells v : Array Value) (off : Nat) (h : off + v.size ≤ cells.size) :
    (v.zipIdx.foldl (fun cs (p : Value × Nat) => cs.setIfInBounds (off + p.2) p.1) cells).toList = splice cells.toList off v.toList := by
  have := fill_step cells off v.toList 0 (by simpa using h)
  rw [Nat.add_zero] at this
  rw [← this, ← Array.foldl_toList]
  simp
theorem fill_buildL (pl : List (Nat × Nat)) (pa : Array (Nat × Nat)) (hpa : pa.toList = pl) : ∀ (vs : List (Nat × Value)) (cells : Array Value) (cs : List Value),
    buildL pl cells.toList vs = some cs → Instr.fill (pa[·]?) cells vs = some cs.toArray
  | [], cells, cs, h => by simp [buildL] at h; subst h; simp [Instr.fill]
  | (i, v) :: r, cells, cs, h => by
    simp only [buildL] at h
    have hp : pa[i]? = pl[i]? := by rw [← hpa]; simp
    cases hpl : pl[i]? with
    | none => simp [hpl] at h
    | some q =>
      obtain ⟨off, sz⟩ := q
      simp only [hpl] at h
      split at h
      · rename_i hc
        obtain ⟨h1, h2⟩ := hc
        rw [vcells_eq] at h1
        have h1' : v.cells.size = sz := by simpa using h1
        have h2' : off + v.cells.size ≤ cells.size := by rw [h1']; simpa using h2
        have hs := fill_step' cells v.cells off h2'
        simp only [Instr.fill, hp, hpl]
        rw [if_neg (by simp [h1']; have := h2'; rw [h1'] at this; omega)]
        refine fill_buildL pl pa hpa r _ cs ?_
        rw [vcells_eq, ← hs] at h
        exact h
      · cases h
theorem fill_buildS (sz : Nat) : ∀ (vs : List (Nat × Value)) (cells : Array Value) (cs : List Value),
    buildS sz cells.toList vs = some cs → Instr.fill (fun i => some (i * sz, sz)) cells vs = some cs.toArray
  | [], cells, cs, h => by simp [buildS] at h; subst h; simp [Instr.fill]
  | (i, v) :: r, cells, cs, h => by
    simp only [buildS] at h
    split at h
    · rename_i hc
      obtain ⟨h1, h2⟩ := hc
      rw [vcells_eq] at h1
      have h1' : v.cells.size = sz := by simpa using h1
      have h2' : i * sz + v.cells.size ≤ cells.size := by rw [h1']; simpa using h2
      have hs := fill_step' cells v.cells (i * sz) h2'
      simp only [Instr.fill]
      rw [if_neg (by simp [h1']; have := h2'; rw [h1'] at this; omega)]
      refine fill_buildS sz r _ cs ?_
      rw [vcells_eq, ← hs] at h
      exact h
    · cases h
theorem places_run {t : TypeId} {fs : Array Field} {pl : List (Nat × Nat)} (hpl : (fs.toList.mapM fun f => (tsz P f.type).map fun n => (f.offset, n)) = some pl) (w : World) :
    ((fs.mapM fun f => do pure (f.offset, ← sizeOf f.type)) : Sem _).run P w = .ok pl.toArray w := by
  have : ∀ (l : List Field) (pl : List (Nat × Nat)), (l.mapM fun f => (tsz P f.type).map fun n => (f.offset, n)) = some pl →
      ((l.mapM fun f => do pure (f.offset, ← sizeOf f.type)) : Sem _).run P w = .ok pl w := by
    intro l
    induction l with
    | nil => intro pl h; simp at h; subst h; simp
    | cons f r ih =>
      intro pl h
      simp only [List.mapM_cons, Option.bind_eq_bind, Option.bind_eq_some_iff, Option.pure_def, Option.some.injEq, Option.map_eq_some_iff] at h
      obtain ⟨q, ⟨n, hn, rfl⟩, pr, hr, rfl⟩ := h
      have := ih pr hr
      simp only [List.mapM_cons, Sem.run_bind, sizeOf_run hn, Result.andThen_ok, this, Sem.run_pure]
  have h := this fs.toList pl hpl
  rw [Array.mapM_eq_mapM_toList]
  simp only [Sem.run_map, h, Result.andThen_ok]
theorem map_pair (ps : Array (Nat × Operand)) (ρ : Operand → Value) : (ps.map fun (i, x) => (i, ρ x)).toList = ps.toList.map fun p => (p.1, ρ p.2) := by simp
theorem pure_build {t : TypeId} {ps : Array (Nat × Operand)} (h : pureVC P E k (.build t ps)) (ha : Agrees E ρ) : RunsP P (.build t ps) ρ k := by
  replace h := evp_elim ha h
  split at h
  · exact h.elim
  rename_i zs hz
  split at h
  · exact h.elim
  rename_i pl hpl
  split at h
  · exact h.elim
  rename_i cs hb
  obtain ⟨v, hv, hr⟩ := zeroValue_run hz
  unfold tplaces at hpl
  split at hpl
  · rename_i fs hu
    have h1 := places_run (P := P) (t := t) hpl
    have h2 := fill_buildL pl pl.toArray (by simp) _ v.cells cs (by rw [hv]; exact hb)
    refine ⟨_, fun ty w' => ?_, h⟩
    simp only [execOp, Instr.build, Sem.run_bind, hr, Result.andThen_ok, run_underlying hu, h1, map_pair, h2, Sem.run_pure]
  · cases hpl
theorem tsl_spec {t : TypeId} {sz : Nat} {z : List Value} {by_ : Nat} (h : tsl P t = some (sz, z, by_)) :
    ∃ e i v, P.underlying t = some (.slice e) ∧ P.info? e = some i ∧ i.zero = some v ∧ i.size = sz ∧ v.cells.toList = z ∧ i.bytes = by_ ∧ v.cells.size = i.size := by
  unfold tsl at h
  split at h
  · rename_i e hu
    split at h
    · rename_i i hi
      split at h
      · rename_i v hv
        split at h
        · rename_i hs; simp at h; exact ⟨e, i, v, hu, hi, hv, h.1, h.2.1, h.2.2, hs⟩
        · cases h
      · cases h
    · cases h
  · cases h
theorem reps_get (z : Array Value) : ∀ (n j : Nat), j < n * z.size → (reps z.toList n)[j]? = z[j % z.size]?
  | 0, j, h => by omega
  | n + 1, j, h => by
    unfold reps
    by_cases hj : j < z.size
    · rw [List.getElem?_append_left (by simpa using hj), Nat.mod_eq_of_lt hj]; simp
    · rw [List.getElem?_append_right (by simpa using hj)]
      have := reps_get z n (j - z.size) (by rw [Nat.add_mul] at h; omega)
      simp only [Array.length_toList]
      rw [this, ← Nat.mod_eq_sub_mod (by omega)]
theorem reps_length (z : List Value) : ∀ n, (reps z n).length = n * z.length
  | 0 => by simp [reps]
  | n + 1 => by simp [reps, reps_length z n, Nat.add_mul]; omega
theorem made_reps (z : Array Value) (n : Nat) : ((Array.range (n * z.size)).map (z[· % z.size]!)).toList = reps z.toList n := by
  apply List.ext_getElem?
  intro j
  by_cases hj : j < n * z.size
  · rw [reps_get z n j hj]
    have hz : 0 < z.size := by
      rcases Nat.eq_zero_or_pos z.size with h | h
      · rw [h] at hj; omega
      · exact h
    have := Nat.mod_lt j hz
    simp [hj, this]
  · rw [List.getElem?_eq_none (by simp; omega), List.getElem?_eq_none (by rw [reps_length]; simp; omega)]
theorem sound_buildSlice {t : TypeId} {len : Nat} {ps : Array (Nat × Operand)} (h : opVC P E w K (.buildSlice t len ps)) (ha : Agrees E ρ) (k : Weq w w') : OpSem P (.buildSlice t len ps) ty ρ w' (Upto K) := by
  replace h := evp_elim ha h
  split at h
  · exact h.elim
  rename_i sz z by_ ht
  obtain ⟨hlim, h⟩ := h
  split at h
  · exact h.elim
  rename_i cs hb
  obtain ⟨e, i, v, hu, hi, hz, rfl, rfl, rfl, hzs⟩ := tsl_spec ht
  have hlim' : ¬ (16777216 < len * i.size) := by omega
  have hsz : tsz P e = some i.size := by simp [tsz, hi]
  have hzr : ∀ w, (zeroValue e).run P w = .ok v w := fun w => by simp [zeroValue, typeInfo, hi, hz]
  have h2 := fill_buildS i.size _ ((Array.range (len * v.cells.size)).map (v.cells[· % v.cells.size]!)) cs (by rw [made_reps]; exact hb)
  rw [hzs] at h2
  have hN := New.of_alloc w w' k cs.toArray e
  refine .val (w'' := w'.alloc (.cells cs.toArray e)) ?_ (Weq.refl _) (h _ _ (by simpa using hN))
  by_cases h0 : len * i.size = 0
  · have r0 : ∀ f : Nat → Value, (Array.range 0).map f = #[] := fun f => by simp [Array.range_zero']
    rw [h0, r0] at h2
    simp only [execOp, Instr.buildSlice, Sem.run_bind, run_underlying hu, Result.andThen_ok, sizeOf_run hsz, h0, map_pair, r0]
    simp [h2, newRow]
  · simp [execOp, Instr.buildSlice, run_underlying hu, sizeOf_run hsz, hlim', h0, hzr]
    simp only [map_pair, hzs, h2]
    simp [newRow]
theorem sound_load {t : TypeId} {x : Operand} (h : opVC P E w K (.load t x)) (ha : Agrees E ρ) (k : Weq w w') : OpSem P (.load t x) ty ρ w' (Upto K) := by
  have h := ev_elim h ha
  try dsimp only at h
  split at h
  · rename_i a he
    split at h
    · rename_i x' hx
      refine .val ?_ k h
      simp [execOp, Instr.loadAt, Instr.sureAddr, he, loadW_run k hx]
    · exact h.elim
  · exact h.elim
theorem sound_store {t : TypeId} {p x : Operand} (h : opVC P E w K (.store t p x)) (ha : Agrees E ρ) (k : Weq w w') : OpSem P (.store t p x) ty ρ w' (Upto K) := by
  have h := ev_elim (ev_elim h ha) ha
  try dsimp only at h
  split at h
  · rename_i b o he
    obtain ⟨hsz, cs, hw, hfit, h1, h⟩ := h
    obtain ⟨w'', hr, hp⟩ := storeVar_run k hsz hw hfit h1
    refine .skp ?_ (Weq.refl _) (h w'' hp)
    simp [execOp, Instr.storeAt, Instr.sureAddr, he, hr]
  · exact h.elim
theorem pure_nilCheck {x : Operand} (h : pureVC P E k (.nilCheck x)) (ha : Agrees E ρ) : RunsP P (.nilCheck x) ρ k := by
  replace h := ev_elim h ha
  try dsimp only at h
  split at h
  · rename_i a he; exact ⟨_, fun ty w' => by simp [execOp, he], h⟩
  · rename_i t u he; exact ⟨_, fun ty w' => by simp [execOp, he], h⟩
  · rename_i f a b he; exact ⟨_, fun ty w' => by simp [execOp, he], h⟩
  · exact h.elim

/-! arithmetic and comparisons -/
theorem bytes_beq (a b : ByteArray) : (a.toList == b.toList) = decide (a.data.toList = b.data.toList) := by
  rw [ByteArray.toList_eq, ByteArray.toList_eq, Bool.eq_iff_iff]
  simp
theorem binV_sound {op : BinOp} {t : TypeId} {x y : Operand} {u v : Value} {k : Value → Prop} (h : binV op u v k) :
    ∃ r, (∀ w, (do eqGuard op t x y u v; binOp op t u v : Sem Value).run P w = .ok r w) ∧ k r := by
  unfold binV at h
  split at h
  all_goals first
    | exact h.elim
    | (obtain ⟨rfl, h⟩ := h; refine ⟨_, fun w => ?_, h⟩; first | (simp [eqGuard_add, binOp_add, Op.intArith]; done) | (simp [eqGuard_sub, binOp_sub, Op.intArith]; done) | (simp [eqGuard_mul, binOp_mul, Op.intArith]; done) | (simp [eqGuard_and, binOp_and, intBits_and]; done) | (simp [eqGuard_or, binOp_or, intBits_or]; done) | (simp [eqGuard_xor, binOp_xor, intBits_xor]; done) | (simp [eqGuard_at_int, binOp_eql]; rfl) | (simp [eqGuard_at_int, binOp_neq]; rfl) | (simp [eqGuard_lss, binOp_lss]; done) | (simp [eqGuard_leq, binOp_leq]; done) | (simp [eqGuard_gtr, binOp_gtr]; done) | (simp [eqGuard_geq, binOp_geq]; done))
    | (obtain ⟨rfl, hb, h⟩ := h; refine ⟨_, fun w => ?_, h⟩; first | (simp [eqGuard_quo, binOp_quo, Op.intDiv, hb]; done) | (simp [eqGuard_rem, binOp_rem, Op.intDiv, hb]; done))
    | (obtain ⟨h0, h1, h⟩ := h; refine ⟨_, fun w => ?_, h⟩; first | (simp [eqGuard_shr, binOp_shr, shift_shr _ _ _ _ h0 h1]; done) | (simp [eqGuard_shl, binOp_shl, shift_shl _ _ _ _ h0 h1]; done))
    | (refine ⟨_, fun w => ?_, h⟩; simp [eqGuard_at_string, binOp, Op.stringOp, bytes_beq]; done)
    | (refine ⟨_, fun w => ?_, h⟩; simp [eqGuard_at_string, binOp, Op.stringOp]; rw [← bytes_beq])
end
end Go.Proofs.Ytlffbjchcknmfaa

/- The engine, part 4: what 'opVC' asks is enough: the other operations, and all of them. -/
import Derived.Test.YtlffbjchcknmfaaE3
import Derived.Laws.IdiomStrings
import Derived.LaidEqlPtr
import Derived.Laws.Slices
namespace Go.Proofs.Ytlffbjchcknmfaa
open Go
set_option linter.unusedVariables false
set_option linter.unusedSimpArgs false
section
variable {P : Program} {E : Env} {w w' : World} {K : Value → World → Prop} {k : Value → Prop} {ρ : Operand → Value} {ty : TypeId}

theorem equal_def (t : TypeId) (u v : Value) : Op.equal t u v = Op.equalIn (9999 + 1) t u v := rfl
theorem nil_equal {t : TypeId} {u v : Value} {c : Bool} (h1 : tnil P t u v = true) (h2 : nilV u = some c) (d : Nat) (w : World) : (Op.equalIn (d + 1) t u v).run P w = .ok c w := by
  unfold tnil at h1
  split at h1
  case h_8 => cases h1
  case h_1 e a hu => simp [nilV] at h2; subst h2; cases a <;> simp [Op.equalIn, run_underlying hu]
  case h_2 e a _ _ _ _ hu => simp [nilV] at h2; subst h2; cases a <;> simp [Op.equalIn, run_underlying hu]
  case h_3 e _ _ hu => simp [nilV] at h2; subst h2; simp [Op.equalIn, run_underlying hu]
  case h_4 e hu => simp [nilV] at h2; subst h2; simp [Op.equalIn, run_underlying hu]
  case h_5 _ _ _ hu => simp [nilV] at h2; subst h2; simp [Op.equalIn, run_underlying hu]
  case h_6 _ _ _ _ _ _ hu => simp [nilV] at h2; subst h2; simp [Op.equalIn, run_underlying hu]
  case h_7 _ _ a hu => simp [nilV] at h2; subst h2; cases a <;> simp [Op.equalIn, run_underlying hu]
theorem nil_guard {t : TypeId} {x y : Operand} {u v : Value} (op : BinOp) (hy : isConst y = true) (h1 : tnil P t u v = true) : eqGuard op t x y u v = pure () := by
  obtain ⟨cv, rfl⟩ : ∃ cv, y = .const cv := by cases y <;> simp [isConst] at hy; exact ⟨_, rfl⟩
  unfold tnil at h1
  split at h1
  case h_8 => cases h1
  all_goals first | exact eqGuard_nil_constR .. | (cases op <;> rfl)
theorem nil_binOp {t : TypeId} {u v : Value} (h1 : tnil P t u v = true) : binOp .eql t u v = (do pure (.bool (← Op.equal t u v))) ∧ binOp .neq t u v = (do pure (.bool (!(← Op.equal t u v)))) := by
  unfold tnil at h1
  split at h1
  case h_8 => cases h1
  all_goals (constructor <;> rfl)
theorem nil_sound {t : TypeId} {x y : Operand} {u v : Value} {c : Bool} (hy : isConst y = true) (h1 : tnil P t u v = true) (h2 : nilV u = some c) (w : World) :
    (do eqGuard .eql t x y u v; binOp .eql t u v : Sem Value).run P w = .ok (.bool c) w ∧ (do eqGuard .neq t x y u v; binOp .neq t u v : Sem Value).run P w = .ok (.bool (!c)) w := by
  rw [nil_guard .eql hy h1, nil_guard .neq hy h1, (nil_binOp h1).1, (nil_binOp h1).2, equal_def]
  have := nil_equal h1 h2 9999 w
  constructor <;> simp only [Sem.run_bind, Sem.run_pure, Result.andThen_ok, this]

theorem equal_ptr {t : TypeId} {u v : Value} {c : Bool} (h : ptrEq P w t u v = some c) (k : Weq w w') (d : Nat) : (Op.equalIn (d + 1) t u v).run P w' = .ok c w' := by
  unfold ptrEq at h
  split at h
  · rename_i b
    split at h
    · rename_i e hu; simp at h; subst h; cases b <;> simp [Op.equalIn, run_underlying hu]
    · simp at h
  · split at h
    · rename_i e hu; simp at h; subst h; simp [Op.equalIn, run_underlying hu]
    · simp at h
  · rename_i a b
    split at h
    · rename_i e hu
      split at h
      · rename_i n hsz
        have hs : (Op.equalIn (d + 1) t (.pointer (some a)) (.pointer (some b))).run P w' = (sameAddr a b).run P w' := by
          simp [Op.equalIn, run_underlying hu, sizeOf_run hsz]
        rw [hs]
        split at h
        · rename_i hb
          simp at h
          subst h
          simp [sameAddr, hb]
          rw [Bool.eq_iff_iff]; simp
        · rename_i hb
          split at h
          · rename_i ca ta cb tb ha hb'
            simp at h; subst h
            exact run_sameAddr_other w' (fun e => hb (by rw [e])) (by rw [k.heap]; exact ha) (by rw [k.heap]; exact hb')
          · cases h
      · cases h
    · cases h
  · cases h
theorem equal_bool {t : TypeId} (hu : P.underlying t = some .bool) (a b : Bool) (d : Nat) (w : World) : (Op.equalIn (d + 1) t (.bool a) (.bool b)).run P w = .ok (a == b) w := by
  simp [Op.equalIn, run_underlying hu]
theorem ptr_binOp {t : TypeId} (a : Option Addr) {v : Value} {c : Bool} (h : ptrEq P w t (.pointer a) v = some c) :
    binOp .eql t (.pointer a) v = (do pure (.bool (← Op.equal t (.pointer a) v))) ∧ binOp .neq t (.pointer a) v = (do pure (.bool (!(← Op.equal t (.pointer a) v)))) := by
  cases v <;> first | (constructor <;> rfl) | (cases a <;> simp [ptrEq] at h)
theorem bool_binOp {t : TypeId} (a b : Bool) :
    binOp .eql t (.bool a) (.bool b) = (do pure (.bool (← Op.equal t (.bool a) (.bool b)))) ∧ binOp .neq t (.bool a) (.bool b) = (do pure (.bool (!(← Op.equal t (.bool a) (.bool b))))) := ⟨rfl, rfl⟩

theorem bin_run {op : BinOp} {t t' : TypeId} {x y : Operand} {r : Value} {w : World} (hr : (do eqGuard op t x y (ρ x) (ρ y); binOp op t (ρ x) (ρ y) : Sem Value).run P w = .ok r w) :
    (execOp ρ ⟨none, .binOp op t x y t', ty, "", #[], none⟩).run P w = .ok (.value r) w := by
  simp only [execOp, Sem.run_bind] at hr ⊢
  rw [hr]; rfl
theorem eqlP_sound {n : Bool} {t : TypeId} {x y : Operand} {u v : Value} (h : eqlP P n t y u v k) :
    ∃ r, (∀ w, (do eqGuard (match n with | true => .neq | false => .eql) t x y u v; binOp (match n with | true => .neq | false => .eql) t u v : Sem Value).run P w = .ok r w) ∧ k r := by
  unfold eqlP at h
  split at h
  · rename_i hc
    simp only [Bool.and_eq_true] at hc
    obtain ⟨h1, h⟩ := h
    split at h
    · rename_i c h2
      refine ⟨_, fun w => ?_, h⟩
      cases n
      · simpa using (nil_sound (x := x) hc.1 h1 h2 w).1
      · simpa using (nil_sound (x := x) hc.1 h1 h2 w).2
    · exact h.elim
  · split at h
    · obtain ⟨hu, hK⟩ := h
      refine ⟨_, fun w => ?_, hK⟩
      cases n
      · dsimp only
        rw [eqGuard_at_bool, (bool_binOp _ _).1, equal_def]
        simp only [Sem.run_bind, Sem.run_pure, Result.andThen_ok, equal_bool hu]
        simp
      · dsimp only
        rw [eqGuard_at_bool, (bool_binOp _ _).2, equal_def]
        simp only [Sem.run_bind, Sem.run_pure, Result.andThen_ok, equal_bool hu]
        simp
    · exact binV_sound h
theorem binP_sound {op : BinOp} {t : TypeId} {x y : Operand} {u v : Value} (h : binP P op t y u v k) :
    ∃ r, (∀ w, (do eqGuard op t x y u v; binOp op t u v : Sem Value).run P w = .ok r w) ∧ k r := by
  cases op
  case eql => exact eqlP_sound (n := false) h
  case neq => exact eqlP_sound (n := true) h
  all_goals exact binV_sound h
theorem pure_binOp {op : BinOp} {t t' : TypeId} {x y : Operand} (h : pureVC P E k (.binOp op t x y t')) (ha : Agrees E ρ) : RunsP P (.binOp op t x y t') ρ k := by
  replace h := ev_elim (ev_elim h ha) ha
  obtain ⟨r, hr, hK⟩ := binP_sound (x := x) h
  exact ⟨r, fun ty w' => bin_run (hr w'), hK⟩
theorem sound_binOp {op : BinOp} {t t' : TypeId} {x y : Operand} (h : opVC P E w K (.binOp op t x y t')) (ha : Agrees E ρ) (k : Weq w w') : OpSem P (.binOp op t x y t') ty ρ w' (Upto K) := by
  replace h := ev_elim (ev_elim h ha) ha
  try dsimp only at h
  split at h
  · rename_i hp
    obtain ⟨a, he⟩ : ∃ a, ρ x = .pointer a := by
      cases hx : ρ x <;> simp [hx, isPtr] at hp
      exact ⟨_, rfl⟩
    split at h
    · split at h
      · rename_i c hc
        refine .val (bin_run (r := .bool c) ?_) k h
        rw [he] at hc ⊢
        have := equal_ptr hc k 9999
        rw [eqGuard_at_pointer, (ptr_binOp a hc).1, equal_def]
        simp only [Sem.run_bind, Sem.run_pure, Result.andThen_ok, this]
      · exact h.elim
    · split at h
      · rename_i c hc
        refine .val (bin_run (r := .bool (!c)) ?_) k h
        rw [he] at hc ⊢
        have := equal_ptr hc k 9999
        rw [eqGuard_at_pointer, (ptr_binOp a hc).2, equal_def]
        simp only [Sem.run_bind, Sem.run_pure, Result.andThen_ok, this]
      · exact h.elim
    · exact h.elim
  · obtain ⟨r, hr, hK⟩ := binP_sound (x := x) h
    exact .val (bin_run (hr w')) k hK
theorem pure_unOp {op : UnOp} {t : TypeId} {x : Operand} (h : pureVC P E k (.unOp op t x)) (ha : Agrees E ρ) : RunsP P (.unOp op t x) ρ k := by
  replace h := ev_elim h ha
  try dsimp only at h
  split at h
  · rename_i b he; exact ⟨_, fun ty w' => by simp [execOp, he, Op.unary], h⟩
  · rename_i j n he; exact ⟨_, fun ty w' => by simp [execOp, he, Op.unary, Op.intArith], h⟩
  · exact h.elim

theorem bytes_loop (P : Program) (w : World) (f : Value → ByteArray → Sem (ForInStep ByteArray)) (hf : ∀ (b : UInt8) (s : ByteArray), (f (.int .u8 b.toNat) s).run P w = .ok (.yield (s.push b)) w) :
    ∀ (bs : List UInt8) (s : ByteArray), (forIn (bs.map fun c => Value.int .u8 c.toNat) s f : Sem ByteArray).run P w = .ok ⟨s.data ++ bs.toArray⟩ w
  | [], s => by simp
  | b :: r, s => by
    have ih := bytes_loop P w f hf r (s.push b)
    simp only [List.map_cons, List.forIn_cons, Sem.run_bind, hf, Result.andThen_ok]
    rw [ih]
    congr 2
    apply Array.ext'
    simp [ByteArray.push]
theorem tbyte_spec {s : TypeId} (h : tbyte P s = true) : ∃ e, P.underlying s = some (.slice e) ∧ P.underlying e = some (.int .u8) := by
  unfold tbyte at h
  split at h
  · rename_i e hs
    split at h
    · rename_i he; exact ⟨e, hs, he⟩
    · cases h
  · cases h
theorem row_load {w w' : World} (k : Weq w w') {b : Addr} {n cap sz : Nat} {xs : List Value} (h : Row w (.slice (some b) n cap) sz xs) :
    (loadCells b (n * sz)).run P w' = .ok xs.toArray w' := by
  obtain ⟨a', n', cap', hv, hl, hn, h⟩ := h
  cases hv
  rw [← hl]
  refine run_loadCells_list w' b xs (fun j v hj => ?_)
  rcases h with rfl | ⟨b', o, cs, ha, hw, hc, ht⟩
  · have : xs = [] := List.eq_nil_of_length_eq_zero (by simpa using hl)
    subst this; cases hj
  · cases ha
    rw [addr_add, (hw.weq k).cell]
    have hjl : j < n * sz := by rw [← hl]; exact (List.getElem?_eq_some_iff.1 hj).1
    rw [← ht, List.getElem?_take, if_pos hjl, List.getElem?_drop] at hj
    exact hj
theorem conv_int {s t : TypeId} {x : Operand} {j : IntKind} {n : Int} (he : ρ x = .int j n) (hs : (P.underlying s).isSome = true) {j' : IntKind} (ht : tint P t = some j') (w' : World) :
    (execOp ρ ⟨none, .convert s t x, ty, "", #[], none⟩).run P w' = .ok (.value (.int j' (j'.wrap n))) w' := by
  unfold tint at ht
  split at ht
  · rename_i j'' hu
    cases ht
    obtain ⟨d, hd⟩ := Option.isSome_iff_exists.1 hs
    simp [execOp, he, convert, run_underlying hd, run_underlying hu, Conv.intToInt]
  · cases ht
theorem pure_convert {s t : TypeId} {x : Operand} (h : pureVC P E k (.convert s t x)) (ha : Agrees E ρ) : RunsP P (.convert s t x) ρ k := by
  replace h := ev_elim h ha
  try dsimp only at h
  split at h
  · rename_i j n he
    obtain ⟨hs, h⟩ := h
    split at h
    · exact h.elim
    · rename_i j' ht
      exact ⟨_, fun ty w' => conv_int he hs ht w', h⟩
  · exact h.elim
theorem sound_convert {s t : TypeId} {x : Operand} (h : opVC P E w K (.convert s t x)) (ha : Agrees E ρ) (k : Weq w w') : OpSem P (.convert s t x) ty ρ w' (Upto K) := by
  replace h := ev_elim h ha
  try dsimp only at h
  split at h
  · rename_i j n he
    obtain ⟨hs, h⟩ := h
    split at h
    · exact h.elim
    · rename_i j' ht
      exact .val (conv_int he hs ht w') k h
  · rename_i bs he
    obtain ⟨hu, h3, hK⟩ := h
    obtain ⟨e, hs, hel⟩ := tbyte_spec h3
    have hr := run_bytes_of_string w' s t e bs hu hs hel
    generalize hw2 : w'.drew.alloc _ = w2 at hr
    refine .inl ⟨_, _, by simp only [execOp, he, Sem.run_bind, hr, Result.andThen_ok, Sem.run_pure], w2, Weq.refl _, hK w'.heap.size (grownCap w' bs.size 0 e) (List.replicate (grownCap w' bs.size 0 e - bs.size) (.int .u8 0)) w2 (by rw [k.heap]) ?_ ?_ ?_ ?_⟩
    · subst hw2
      refine ⟨e, ((bytesRow bs (grownCap w' bs.size 0 e)).size, (bytesRow bs (grownCap w' bs.size 0 e)).size + 1), ?_⟩
      show (w'.heap.push _)[w'.heap.size]? = _
      rw [Array.getElem?_push_size]
      simp [bytesRow]
    · subst hw2
      refine ⟨k.tape, k.os, k.output, by rw [World.size_alloc]; have := k.heap; simp [this], fun i hi _ => ?_⟩
      show (w'.heap.push _)[i]? = _
      rw [Array.getElem?_push, if_neg (by rw [k.heap]; omega), k.heap]
    · subst hw2; rw [World.size_alloc]; have := k.heap; simp [this]
    · have := grownCap_ge w' bs.size 0 e
      rw [List.length_replicate]; omega
  · rename_i a n cap he
    split at h
    · rename_i hst
      have hst : s = t := by simpa using hst
      subst hst
      split at h
      · rename_i b o
        obtain ⟨h3, cs, ⟨ee, hg⟩, hK⟩ := h
        obtain ⟨e, hs, hel⟩ := tbyte_spec h3
        have hg' : w'.heap[b]? = some (.cells cs.toArray ee (0, 0)) := by rw [k.heap]; exact hg
        have hlt := (Array.getElem?_eq_some_iff.1 hg').1
        have hsh : w'.shape? b = some (ee, cs.length) := by simp [World.shape?, hg']
        have hfz : ∀ i, (w'.freeze ⟨b, cs.length, none⟩ 1).heap[i]? = if b = i then some (.cells cs.toArray ee (cs.length, cs.length + 1)) else w'.heap[i]? := fun i => by
          unfold World.freeze
          rw [if_neg (by decide)]
          show (w'.heap.modify b _)[i]? = _
          rw [Array.getElem?_modify]
          split
          · rename_i hi; subst hi; rw [hg']; rfl
          · rfl
        have hsz : (w'.freeze ⟨b, cs.length, none⟩ 1).heap.size = w'.heap.size := by
          unfold World.freeze
          rw [if_neg (by decide)]
          show (w'.heap.modify b _).size = _
          simp
        refine .inl ⟨.slice (some ⟨b, o, none⟩) n cap, w'.freeze ⟨b, cs.length, none⟩ 1, ?_, _, Weq.refl _, hK _ ⟨?_, ?_, ?_, by rw [hsz, k.heap]; omega, fun i hi hne => ?_⟩ (by rw [hsz, k.heap]) ⟨ee, (cs.length, cs.length + 1), ?_⟩⟩
        · simp [execOp, he, convert, run_underlying hs, run_underlying hel, markStringish, hsh]
        · rw [← k.tape]; unfold World.freeze; rw [if_neg (by decide)]
        · rw [← k.os]; unfold World.freeze; rw [if_neg (by decide)]
        · rw [← k.output]; unfold World.freeze; rw [if_neg (by decide)]
        · rw [hfz, if_neg (fun e => hne e.symm), k.heap]
        · rw [hfz, if_pos rfl]
      · exact h.elim
    · obtain ⟨hu, h3, bs, hrow, hK⟩ := h
      obtain ⟨e, hs, hel⟩ := tbyte_spec h3
      refine .val ?_ k hK
      have hl := hrow.len
      cases a with
      | none =>
        obtain ⟨a', n', cap', hv, hl', hn, h⟩ := hrow
        cases hv
        rcases h with rfl | ⟨_, _, _, hq, _⟩
        · have : bs = [] := List.eq_nil_of_length_eq_zero (by simpa using hl)
          subst this
          simp [execOp, he, convert, run_underlying hs, run_underlying hu, run_underlying hel, Conv.bytesToString]
          rfl
        · cases hq
      | some b =>
        have hld := row_load (P := P) k hrow
        rw [Nat.mul_one] at hld
        simp only [execOp, he, convert, Sem.run_bind, run_underlying hs, run_underlying hu, run_underlying hel, Result.andThen_ok, Conv.bytesToString, hld, List.forIn_toArray]
        rw [bytes_loop P w' _ (fun b s => by simp) bs ByteArray.empty]
        simp
  · exact h.elim
theorem least_cons (x : String) (r : List String) : ∃ m, Instr.least (x :: r) = some m := ⟨_, rfl⟩
theorem missing_none {want : Array (String × TypeId)} {got : Array Method} (h : (want.toList.all fun x => got.any fun m => m.name == x.1 && m.sig == x.2) = true) : Instr.missingMethod want got = none := by
  have e : (want.toList.filter fun (x : String × TypeId) => match x with | (name, sig) => !got.any fun m => m.name == name && m.sig == sig) = [] := by
    rw [List.filter_eq_nil_iff]
    intro x hx
    have := List.all_eq_true.1 h x hx
    obtain ⟨n, s⟩ := x
    simpa using this
  unfold Instr.missingMethod
  simp only [e, List.map_nil]
  rfl
theorem missing_some {want : Array (String × TypeId)} {got : Array Method} (h : (want.toList.all fun x => got.any fun m => m.name == x.1 && m.sig == x.2) = false) : ∃ s, Instr.missingMethod want got = some s := by
  unfold Instr.missingMethod
  obtain ⟨x, hx, hn⟩ := List.all_eq_false.1 h
  generalize hL : ((want.toList.filter fun (x : String × TypeId) => match x with | (name, sig) => !got.any fun m => m.name == name && m.sig == sig).map (·.1)) = L
  have hne : L ≠ [] := by
    intro e
    rw [e, List.map_eq_nil_iff, List.filter_eq_nil_iff] at hL
    have := hL x hx
    obtain ⟨n, s⟩ := x
    simp at this hn
    exact absurd this (by simpa using hn)
  simp only [List.partition_eq_filter_filter]
  cases h1 : L.filter (not ∘ fun x => x.contains '.') with
  | cons y r => exact ⟨_, rfl⟩
  | nil =>
    cases h2 : L.filter (fun x => x.contains '.') with
    | cons y r => exact ⟨_, rfl⟩
    | nil =>
      cases L with
      | nil => exact absurd rfl hne
      | cons y r =>
        exfalso
        simp only [List.filter_eq_nil_iff, Function.comp_apply] at h1 h2
        have a1 := h1 y (by simp)
        have a2 := h2 y (by simp)
        simp_all
theorem pure_typeAssert {x : Operand} {s a : TypeId} {ok : Bool} (h : pureVC P E k (.typeAssert x s a ok)) (ha : Agrees E ρ) : RunsP P (.typeAssert x s a ok) ρ k := by
  replace h := ev_elim h ha
  try dsimp only at h
  have hz : ∀ z, tzeroV P a = some z → ∀ w', (zeroValue a).run P w' = .ok z w' := fun z e w' => by
    unfold tzeroV at e
    cases hi : P.info? a with
    | none => simp [hi] at e
    | some i => simp [hi] at e; simp [zeroValue, typeInfo, hi, e]
  split at h
  · rename_i t u he
    split at h
    · rename_i i hi
      refine ⟨_, fun ty w' => ?_, h⟩
      unfold tasrt at hi
      split at hi
      · rename_i want hu
        split at hi
        · rename_i inf hf
          simp only [Option.some.injEq, Prod.mk.injEq] at hi
          obtain ⟨rfl, hi⟩ := hi
          cases ok <;> simp [execOp, he, Instr.typeAssert, run_underlying hu, typeInfo, hf, missing_none hi]
        · cases hi
      · rename_i d hni hu
        simp only [Option.some.injEq, Prod.mk.injEq, beq_iff_eq] at hi
        obtain ⟨rfl, rfl⟩ := hi
        cases d <;> first | (exact absurd rfl (hni _)) | (cases ok <;> simp [execOp, he, Instr.typeAssert, run_underlying hu])
      · cases hi
    · rename_i i hi
      obtain ⟨rfl, h⟩ := h
      split at h
      · rename_i z hzz
        refine ⟨_, fun ty w' => ?_, h⟩
        unfold tasrt at hi
        split at hi
        · rename_i want hu
          split at hi
          · rename_i inf hf
            simp only [Option.some.injEq, Prod.mk.injEq] at hi
            obtain ⟨m, hm⟩ := missing_some hi.2
            simp [execOp, he, Instr.typeAssert, run_underlying hu, typeInfo, hf, hm, hz z hzz]
          · cases hi
        · rename_i d hni hu
          simp only [Option.some.injEq, Prod.mk.injEq, beq_eq_false_iff_ne] at hi
          cases d <;> first | (exact absurd rfl (hni _)) | (simp [execOp, he, Instr.typeAssert, run_underlying hu, hi.2, hz z hzz])
        · cases hi
      · exact h.elim
    · exact h.elim
  · rename_i he
    obtain ⟨hu, rfl, h⟩ := h
    split at h
    · rename_i z hzz
      obtain ⟨d, hd⟩ := Option.isSome_iff_exists.1 hu
      refine ⟨_, fun ty w' => ?_, h⟩
      cases d <;> simp [execOp, he, Instr.typeAssert, run_underlying hd, hz z hzz]
    · exact h.elim
  · exact h.elim
theorem pure_makeInterface {t : TypeId} {x : Operand} (h : pureVC P E k (.makeInterface t x)) (ha : Agrees E ρ) : RunsP P (.makeInterface t x) ρ k := by
  obtain ⟨hc, h⟩ := ev_elim h ha
  exact ⟨_, fun ty w' => by simp [execOp, run_makeInterface w' t _ hc], h⟩
theorem pure_makeFunc {fn : Fn} {a c : Array Operand} (h : pureVC P E k (.makeFunc fn a c)) (ha : Agrees E ρ) : RunsP P (.makeFunc fn a c) ρ k := by
  replace h := evs_elim ha (evs_elim ha h)
  refine ⟨_, fun ty w' => ?_, h⟩
  have e : ∀ a : Array Operand, (a.toList.map ρ).toArray = a.map ρ := fun a => by apply Array.ext'; simp
  simp [execOp, Instr.makeFunc, e]
theorem sound_makeSlice {t : TypeId} {l c : Operand} (h : opVC P E w K (.makeSlice t l c)) (ha : Agrees E ρ) (k : Weq w w') : OpSem P (.makeSlice t l c) ty ρ w' (Upto K) := by
  replace h := ev_elim (ev_elim h ha) ha
  try dsimp only at h
  split at h
  · rename_i kl l' kc c' hl hc
    split at h
    · exact h.elim
    rename_i sz z by_ ht
    obtain ⟨⟨h0, hlc, hby, h63⟩, h⟩ := h
    obtain ⟨e, i, v, hu, hi, hz, rfl, rfl, rfl, hzs⟩ := tsl_spec ht
    have hr := run_make (P := P) w' t e i v hu hi hz kl kc l' c' h0 hlc hby h63
    have hN := New.of_alloc w w' k (madeCells v.cells (c'.toNat * i.size)) e
    have hm : (madeCells v.cells (c'.toNat * i.size)).toList = reps v.cells.toList c'.toNat := by
      rw [← hzs]; exact made_reps v.cells c'.toNat
    rw [hm] at hN
    refine .val (w'' := w'.alloc (.cells (madeCells v.cells (c'.toNat * i.size)) e)) ?_ (Weq.refl _) (h _ _ hN)
    simp [execOp, hl, hc, hr]
  · exact h.elim
theorem bnd_elim {d : Int} {x : Option Operand} {k : Int → Prop} (h : bnd E d x k) (ha : Agrees E ρ) :
    (x = none ∧ k d) ∨ ∃ y j i, x = some y ∧ ρ y = .int j i ∧ k i := by
  cases x with
  | none => exact .inl ⟨rfl, h⟩
  | some y =>
    replace h := ev_elim h ha
    try dsimp only at h
    split at h
    · rename_i j i he; exact .inr ⟨y, j, i, rfl, he, h⟩
    · exact h.elim
theorem pure_slice {t : TypeId} {x : Operand} {lo hi mx : Option Operand} (h : pureVC P E k (.slice t x lo hi mx)) (ha : Agrees E ρ) : RunsP P (.slice t x lo hi mx) ρ k := by
  replace h := ev_elim h ha
  try dsimp only at h
  split at h
  · rename_i a n c he
    obtain ⟨hmx, h⟩ := h
    have hc : ∀ (l h' m : Int), ((0 ≤ l ∧ l ≤ h' ∧ h' ≤ m ∧ m ≤ (c : Int)) ∧ match tsl P t with | none => False | some (sz, _, _) => k (.slice (adv a m.toNat l.toNat sz) (h'.toNat - l.toNat) (m.toNat - l.toNat))) →
        (lo = none ∧ l = 0 ∨ ∃ y j, lo = some y ∧ ρ y = .int j l) → (hi = none ∧ h' = n ∨ ∃ y j, hi = some y ∧ ρ y = .int j h') → (mx = none ∧ m = c ∨ ∃ y j, mx = some y ∧ ρ y = .int j m) →
        RunsP P (.slice t x lo hi mx) ρ k := by
      rintro l h' m ⟨⟨h0, h1, h2, h3⟩, h⟩ hl hh hm
      split at h
      · exact h.elim
      rename_i sz z by_ ht
      have hK := h
      obtain ⟨e, i, v, hu, hi', hz, rfl, rfl, rfl, hzs⟩ := tsl_spec ht
      have hsz : tsz P e = some i.size := by simp [tsz, hi']
      refine ⟨_, fun ty w' => ?_, hK⟩
      have e1 : (Int.toNat l : Int) = l := Int.toNat_of_nonneg h0
      have e2 : (Int.toNat h' : Int) = h' := Int.toNat_of_nonneg (by omega)
      have e3 : (Int.toNat m : Int) = m := Int.toNat_of_nonneg (by omega)
      have s3 : ∀ j, (Instr.sliceBound (.int j m) c .slice3Acap).run P w' = .ok m.toNat w' := fun j => run_sliceBound w' j m c _ (by omega) h3
      have s4 : ∀ j, (Instr.sliceBound (.int j h') m.toNat .slice3B).run P w' = .ok h'.toNat w' := fun j => run_sliceBound w' j h' _ _ (by omega) (by omega)
      have s5 : ∀ j, (Instr.sliceBound (.int j l) h'.toNat .slice3C).run P w' = .ok l.toNat w' := fun j => run_sliceBound w' j l _ _ h0 (by omega)
      have s0 : m = c → ∀ j, (Instr.sliceBound (.int j h') c .sliceAcap).run P w' = .ok h'.toNat w' := fun hm j => run_sliceBound w' j h' c _ (by omega) (by omega)
      have s1 : ∀ j, (Instr.sliceBound (.int j l) h'.toNat .sliceB).run P w' = .ok l.toNat w' := fun j => run_sliceBound w' j l _ _ h0 (by omega)
      simp only [execOp, Sem.run_bind, Instr.sliceAt, run_underlying hu, Result.andThen_ok, Instr.slice, he]
      have hb : (Instr.sliceBounds true n c (lo.map ρ) (hi.map ρ) (mx.map ρ)).run P w' = .ok (l.toNat, h'.toNat, m.toNat) w' := by
        rcases hm with ⟨rfl, rfl⟩ | ⟨y3, j3, rfl, hy3⟩
        · have s0 := s0 rfl
          rcases hl with ⟨rfl, rfl⟩ | ⟨y, j, rfl, hy⟩ <;> rcases hh with ⟨rfl, rfl⟩ | ⟨y', j', rfl, hy'⟩
          · simp [Instr.sliceBounds]
          · simp [Instr.sliceBounds, hy', s0]
          · have s1' := s1 j; rw [Int.toNat_natCast] at s1'
            simp [Instr.sliceBounds, hy, s1']
          · simp [Instr.sliceBounds, hy, hy', s0, s1]
        · rcases hh with ⟨rfl, rfl⟩ | ⟨y', j', rfl, hy'⟩
          · simp at hmx
          · rcases hl with ⟨rfl, rfl⟩ | ⟨y, j, rfl, hy⟩
            · simp [Instr.sliceBounds, hy', hy3, s3, s4]
            · simp [Instr.sliceBounds, hy, hy', hy3, s3, s4, s5]
      rw [hb]
      simp only [Result.andThen_ok, sizeOf_run hsz, Sem.run_pure, adv]
    rcases bnd_elim h ha with ⟨hlo, h⟩ | ⟨y, j, l, hlo, hy, h⟩ <;> rcases bnd_elim h ha with ⟨hhi, h⟩ | ⟨y', j', h', hhi, hy', h⟩ <;> rcases bnd_elim h ha with ⟨hm, h⟩ | ⟨y3, j3, m, hm, hy3, h⟩
    all_goals refine hc _ _ _ h ?_ ?_ ?_
    all_goals first | exact .inl ⟨by assumption, rfl⟩ | exact .inr ⟨_, _, by assumption, by assumption⟩
  · rename_i s he
    obtain ⟨hu, hmx, h⟩ := h
    obtain rfl : mx = none := by cases mx <;> simp at hmx ⊢
    have hc : ∀ (l h' : Int), ((0 ≤ l ∧ l ≤ h' ∧ h' ≤ (s.size : Int)) ∧ k (.string (s.extract l.toNat h'.toNat))) →
        (lo = none ∧ l = 0 ∨ ∃ y j, lo = some y ∧ ρ y = .int j l) → (hi = none ∧ h' = s.size ∨ ∃ y j, hi = some y ∧ ρ y = .int j h') →
        RunsP P (.slice t x lo hi none) ρ k := by
      rintro l h' ⟨⟨h0, h1, h2⟩, hK⟩ hl hh
      refine ⟨_, fun ty w' => ?_, hK⟩
      have e1 : (Int.toNat l : Int) = l := Int.toNat_of_nonneg h0
      have e2 : (Int.toNat h' : Int) = h' := Int.toNat_of_nonneg (by omega)
      have s0 : ∀ j, (Instr.sliceBound (.int j h') s.size .sliceAlen).run P w' = .ok h'.toNat w' := fun j => run_sliceBound w' j h' _ _ (by omega) h2
      have s1 : ∀ j, (Instr.sliceBound (.int j l) h'.toNat .sliceB).run P w' = .ok l.toNat w' := fun j => run_sliceBound w' j l _ _ h0 (by omega)
      simp only [execOp, Sem.run_bind, Instr.sliceAt, run_underlying hu, Result.andThen_ok, Instr.slice, he]
      have hb : (Instr.sliceBounds false s.size s.size (lo.map ρ) (hi.map ρ) none).run P w' = .ok (l.toNat, h'.toNat, s.size) w' := by
        rcases hl with ⟨rfl, rfl⟩ | ⟨y, j, rfl, hy⟩ <;> rcases hh with ⟨rfl, rfl⟩ | ⟨y', j', rfl, hy'⟩
        · simp [Instr.sliceBounds]
        · simp [Instr.sliceBounds, hy', s0]
        · have s1' := s1 j; rw [Int.toNat_natCast] at s1'
          simp [Instr.sliceBounds, hy, s1']
        · simp [Instr.sliceBounds, hy, hy', s0, s1]
      simp [hb]
    rcases bnd_elim h ha with ⟨hlo, h⟩ | ⟨y, j, l, hlo, hy, h⟩ <;> rcases bnd_elim h ha with ⟨hhi, h⟩ | ⟨y', j', h', hhi, hy', h⟩
    · exact hc _ _ h (.inl ⟨hlo, rfl⟩) (.inl ⟨hhi, rfl⟩)
    · exact hc _ _ h (.inl ⟨hlo, rfl⟩) (.inr ⟨y', j', hhi, hy'⟩)
    · exact hc _ _ h (.inr ⟨y, j, hlo, hy⟩) (.inl ⟨hhi, rfl⟩)
    · exact hc _ _ h (.inr ⟨y, j, hlo, hy⟩) (.inr ⟨y', j', hhi, hy'⟩)
  · exact h.elim
theorem tfld_spec {t : TypeId} {i : Nat} {f : Field} (h : tfld P t i = some f) : ∃ fs, P.underlying t = some (.struct fs) ∧ fs[i]? = some f := by
  unfold tfld at h
  split at h
  · rename_i fs hu; exact ⟨fs, hu, h⟩
  · cases h
theorem pure_fieldAddr {t : TypeId} {x : Operand} {i : Nat} (h : pureVC P E k (.fieldAddr t x i)) (ha : Agrees E ρ) : RunsP P (.fieldAddr t x i) ρ k := by
  replace h := ev_elim h ha
  try dsimp only at h
  split at h
  · rename_i b o he
    split at h
    · exact h.elim
    rename_i off n ht
    have hK := h
    unfold toff at ht
    split at ht
    · rename_i f hf
      obtain ⟨fs, hu, hfi⟩ := tfld_spec hf
      split at ht
      · rename_i m hm
        simp at ht
        obtain ⟨rfl, rfl⟩ := ht
        refine ⟨_, fun ty w' => ?_, hK⟩
        simp [execOp, he, Instr.fieldAt, run_underlying hu, hfi, Instr.sureAddr, fieldPlace, sizeOf_run hm, addr_add]
      · cases ht
    · cases ht
  · exact h.elim
theorem pure_field {t : TypeId} {x : Operand} {i : Nat} (h : pureVC P E k (.field t x i)) (ha : Agrees E ρ) : RunsP P (.field t x i) ρ k := by
  replace h := ev_elim h ha
  try dsimp only at h
  split at h
  · rename_i cs he
    split at h
    · exact h.elim
    rename_i f hf
    obtain ⟨fs, hu, hfi⟩ := tfld_spec hf
    split at h
    · rename_i hg
      split at h
      · rename_i v hv
        refine ⟨_, fun ty w' => ?_, h⟩
        simp [execOp, he, Instr.field, run_underlying hu, hfi, asAgg, part, isAgg_run hg, hv]
      · exact h.elim
    · rename_i hg
      split at h
      · rename_i n hn
        refine ⟨_, fun ty w' => ?_, h⟩
        simp [execOp, he, Instr.field, run_underlying hu, hfi, asAgg, part, isAgg_run hg, sizeOf_run hn]
      · exact h.elim
    · exact h.elim
  · exact h.elim
theorem pure_indexAddr {t : TypeId} {x ix : Operand} (h : pureVC P E k (.indexAddr t x ix)) (ha : Agrees E ρ) : RunsP P (.indexAddr t x ix) ρ k := by
  replace h := ev_elim (ev_elim h ha) ha
  try dsimp only at h
  split at h
  · rename_i a n c kk i hx hi
    split at h
    · exact h.elim
    rename_i sz z by_ ht
    split at h
    case h_2 => exact h.elim
    rename_i b o
    obtain ⟨h0, hK⟩ := h
    obtain ⟨e, inf, v, hu, hinf, hz, rfl, rfl, rfl, hzs⟩ := tsl_spec ht
    have hsz : tsz P e = some inf.size := by simp [tsz, hinf]
    refine ⟨_, fun ty w' => ?_, hK⟩
    simp [execOp, hx, hi, Instr.indexAt, asIntOf, run_underlying hu, h0, sizeOf_run hsz, addr_add]
  · exact h.elim
theorem pure_extract {x : Operand} {i : Nat} (h : pureVC P E k (.extract x i)) (ha : Agrees E ρ) : RunsP P (.extract x i) ρ k := by
  replace h := ev_elim h ha
  try dsimp only at h
  split at h
  · rename_i vs he
    split at h
    · rename_i u hu
      exact ⟨_, fun ty w' => by simp [execOp, he, Instr.extract, hu], h⟩
    · exact h.elim
  · exact h.elim
end
end Go.Proofs.Ytlffbjchcknmfaa

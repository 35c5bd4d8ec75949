/- memory: its file keeps the contracts. -/
import Derived.Test.YtlffbjchcknmfaaMem3
import Derived.Test.YtlffbjchcknmfaaObj3
namespace Go.Proofs.Ytlffbjchcknmfaa
open Go
set_option linter.unusedVariables false
set_option linter.unusedSimpArgs false
set_option maxRecDepth 100000
set_option maxHeartbeats 1000000
/-- A span, and files over it. -/
def MemI (fs : List Nat) (s : Nat) (w : World) (F : Nat → Prop) (st : MSt) : Prop :=
  ∃ Fs ms, IsSpan w Fs s ms st.2 ∧ ms.map MP.pc = st.1 ∧ (∀ b, Fs b → F b) ∧ ∀ f ∈ fs, W w f [ptrV s] ∧ F f ∧ ¬ Fs f
theorem mem_obj (fs : List Nat) (s : Nat) : IsObj (MemI fs s) where
  fr := fun ⟨Fs, ms, h1, h2, h3, h4⟩ f hg => ⟨Fs, ms, h1.fr f (fun b hb => hg b (h3 b hb)), h2, h3, fun q hq => ⟨(h4 q hq).1.fr f (hg _ (h4 q hq).2.1), (h4 q hq).2⟩⟩
  mono := fun {w F F' st} ⟨Fs, ms, h1, h2, h3, h4⟩ hm => ⟨fun b => Fs b ∧ b < w.heap.size, ms, h1.mono (fun b hb q => ⟨q, hb⟩), h2, fun b hb => hm b hb.2 (h3 b hb.1), fun q hq => ⟨(h4 q hq).1, hm _ (h4 q hq).1.lt (h4 q hq).2.1, fun k => (h4 q hq).2.2 k.1⟩⟩
theorem MemI.left {fs : List Nat} {s : Nat} {w u : World} {F Fs G : Nat → Prop} {res : Int × MSt} {r : Value} (h3 : ∀ b, Fs b → F b) (h4 : ∀ f ∈ fs, W w f [ptrV s] ∧ F f ∧ ¬ Fs f) (hl : Left_ Fs w s res r u) :
    r = .int .i64 res.1 ∧ PostI (MemI fs s) w F G u res.2 := by
  obtain ⟨rfl, ms', h1, h2, f⟩ := hl
  have s1 := f.size
  refine ⟨rfl, fun b => b < u.heap.size ∧ (F b ∨ w.heap.size ≤ b), ⟨fun b => Fnew Fs w b ∧ b < u.heap.size, ms', h1.mono (fun b hb q => ⟨q, hb⟩), h2, fun b hb => ⟨hb.2, hb.1.imp (h3 b) id⟩, fun q hq => ?_⟩, f.mono (fun b _ q => .inl (h3 b q)), fun b hb => hb⟩
  have l1 := (h4 q hq).1.lt
  exact ⟨(h4 q hq).1.fr f (h4 q hq).2.2, ⟨by omega, .inl (h4 q hq).2.1⟩, fun k => k.1.elim (h4 q hq).2.2 (fun k => by omega)⟩
theorem PostI.refl {St : Type} {I : World → (Nat → Prop) → St → Prop} (hI : IsObj I) {w u : World} {F G : Nat → Prop} {st : St} (h : I w F st) (f : Fr Nob w u) : PostI I w F G u st :=
  ⟨fun b => F b ∧ b < w.heap.size, hI.fr (hI.mono h (fun b hb q => ⟨q, hb⟩)) f (fun _ _ q => q), f.mono (fun b _ q => q.elim), fun b hb => ⟨by have := f.size; omega, .inl hb.1⟩⟩
/-- The handle that memory makes. -/
def memH (h fb f : Nat) (can : Int) : Hn := ⟨h, fb, memV f, maskO can 1 (memO f), maskO can 2 (memO f), maskO can 4 (memO f), maskO can 8 (memO f)⟩
theorem maskO_memO {can bit : Int} {f : Nat} {p : TypeId × Value} (h : maskO can bit (memO f) = some p) : Value.iface p.1 p.2 = memV f := by
  unfold maskO memO at h
  split at h
  · cases h
  · cases h; rfl
theorem msizeC (fs : List Nat) (s f : Nat) (hf : f ∈ fs) : SizeC 1 (memV f) (MemI fs s) memM := by
  intro w F st hI
  have hI' := hI
  obtain ⟨Fs, ms, h1, h2, h3, h4⟩ := hI
  obtain ⟨lv, k1, _⟩ := h1.hd
  refine .direct (f := 177) (by kernel_rfl) (by kernel_rfl) ((msize_spec f s lv _ w (h4 f hf).1 k1).mono ?_)
  rintro v u ⟨rfl, rfl⟩
  exact ⟨rfl, PostI.refl (mem_obj _ _) hI' (Fr.refl _ _)⟩
theorem mreadC (fs : List Nat) (s f : Nat) (hf : f ∈ fs) : ReadC 1 (memV f) (MemI fs s) memM := by
  intro w F st a n ha hI
  have hI' := hI
  obtain ⟨Fs, ms, h1, h2, h3, h4⟩ := hI
  obtain ⟨al, nl, cl, hh, _⟩ := h1.hdr
  refine .direct (f := 176) (by kernel_rfl) (by kernel_rfl) ((mreadat_spec f s al nl cl _ ms a n w (h4 f hf).1 hh h1.oks).mono ?_)
  rintro r u ⟨v, rfl, ho, hb, fr⟩
  refine ⟨v, rfl, ?_, rdB_le _ _ _, fun b => F b ∧ b < w.heap.size, (mem_obj fs s).fr ((mem_obj fs s).mono hI' (fun b hb q => ⟨q, hb⟩)) fr (fun _ _ q => q), fr.nob, fun b q => ⟨by have := fr.size; omega, .inl q.1⟩, fun b k => ⟨hb b k, fun q => by have := hb b k; omega⟩⟩
  rw [h2] at ho
  exact ho
theorem mcutC (fs : List Nat) (s f : Nat) (hf : f ∈ fs) : CutC 1 (memV f) (MemI fs s) memM := by
  intro w F st a ha hI
  obtain ⟨Fs, ms, h1, h2, h3, h4⟩ := hI
  refine .direct (f := 174) (by kernel_rfl) (by kernel_rfl) ((mcut_spec f s _ Fs ms a w (h4 f hf).1 h1).mono ?_)
  intro r u hL
  rw [h2] at hL
  exact MemI.left h3 h4 hL
theorem mnextC (fs : List Nat) (s f : Nat) (hf : f ∈ fs) : NextC 1 (memV f) (MemI fs s) memM := by
  intro w F st a ha hI
  have hI' := hI
  obtain ⟨Fs, ms, h1, h2, h3, h4⟩ := hI
  obtain ⟨al, nl, cl, hh, _⟩ := h1.hdr
  refine .direct (f := 175) (by kernel_rfl) (by kernel_rfl) ((mnext_spec f s al nl cl _ ms a w (h4 f hf).1 hh).mono ?_)
  rintro r u ⟨rfl, fr⟩
  rw [h2]
  exact ⟨rfl, PostI.refl (mem_obj _ _) hI' fr⟩
theorem msyncC (fs : List Nat) (s f : Nat) (hf : f ∈ fs) : SyncC 1 (memV f) (MemI fs s) memM := by
  intro w F st hI
  refine .direct (f := 178) (by kernel_rfl) (by kernel_rfl) ((msync_spec f w).mono ?_)
  rintro r u ⟨rfl, rfl⟩
  exact ⟨rfl, PostI.refl (mem_obj _ _) hI (Fr.refl _ _)⟩
theorem mem_parts (fs : List Nat) (s h fb f : Nat) (can : Int) (hf : f ∈ fs) : Parts 1 (memH h fb f can) (MemI fs s) memM where
  size := msizeC fs s f hf
  read := mreadC fs s f hf
  cut := fun p hp => by rw [maskO_memO hp]; exact mcutC fs s f hf
  next := fun p hp => by rw [maskO_memO hp]; exact mnextC fs s f hf
  sync := fun p hp => by rw [maskO_memO hp]; exact msyncC fs s f hf
  isf := ⟨_, _, rfl⟩
end Go.Proofs.Ytlffbjchcknmfaa

/- slices.Insert and slices.Replace, of one piece: what they ask. -/
import Derived.Test.YtpdklpeojjkkaaaSpan6
import Derived.Lib.Overlaps
namespace Go.Proofs.Ytpdklpeojjkkaaa
open Go
set_option linter.unusedVariables false
set_option linter.unusedSimpArgs false
set_option maxRecDepth 100000
theorem overl_spec (bx b : Nat) (o : Nat) (l1 c1 l2 c2 : Nat) (xs ys : List Value) (w : World) (K : Value → World → Prop) (h1 : W w bx xs) (h2 : W w b ys) (hne : bx ≠ b) (hys : ys ≠ []) (hk : K (.bool false) w) :
    callV Try.prog 62 [.slice (some ⟨bx, 0, none⟩) l1 c1, .slice (some ⟨b, o, none⟩) l2 c2] w K := by
  refine .inr fun w' k => ⟨.bool false, w', ?_, w, k, hk⟩
  obtain ⟨e1, g1⟩ := h1.weq k
  obtain ⟨e2, g2⟩ := h2.weq k
  have hz : ∀ w, (sizeOf 85).run Try.prog w = .ok 2 w := fun w => sizeOf_run (by kernel_rfl) w
  have hf : ∀ o, w'.frozen? ⟨bx, o, none⟩ = false := fun o => by simp [World.frozen?, g1]
  show (callFunc 62 #[_, _]).run _ _ = _
  rw [run_callFunc_extern Try.func62 (by kernel_rfl) (by kernel_rfl) (by kernel_rfl) (e := Extern.SlicesOverlaps.overlaps #[81, 81] #[4]) (by kernel_rfl),
    Lib.run_overlaps_apart w' 81 4 85 Try.underlying81 2 hz ⟨bx, 0, none⟩ ⟨b, o, none⟩ l1 c1 l2 c2 hne e1 e2 xs.length ys.length (by simp [World.shape?, g1]) (by simp [World.shape?, g2]) (by simpa using hys) (hf _) (hf _)]
  rfl
theorem splice_mid (L M T V : List Value) (h : V.length = M.length) : splice (L ++ M ++ T) L.length V = L ++ V ++ T := by
  unfold splice
  rw [h, ← List.length_append, List.drop_left, List.append_assoc L M T, List.take_left]
/-- Elements are copied into a block. -/
theorem copyV {P : Program} {w : World} {K : Value → World → Prop} {t t' : TypeId} {b o n c m c' sz by_ : Nat} {z L M T xs : List Value} {a' : Option Addr} (htt : t = t') (ht : tsl P t = some (sz, z, by_)) (hw : W w b (L ++ M ++ T)) (ho : o = L.length) (hM : M.length = min m n * sz)
    (hr : Row w (.slice a' m c') sz xs) (h1 : ∀ u ∈ xs.take (min m n * sz), u.oneCell' = true) (hk : ∀ u, Put w b (L ++ xs.take (min m n * sz) ++ T) u → K (.int .i64 (min m n : Nat)) u) : copyVC P w K t t' (.slice (some ⟨b, o, none⟩) n c) (.slice a' m c') := by
  refine ⟨htt, ?_⟩
  rw [ht]
  have hl := hr.len
  have hm : min m n * sz ≤ m * sz := Nat.mul_le_mul_right _ (Nat.min_le_left _ _)
  refine ⟨_, n, c, xs, a', m, c', rfl, rfl, hr, h1, .inr ⟨b, o, _, rfl, hw, by subst ho; simp only [List.length_append]; omega, fun u hp => hk u ?_⟩⟩
  subst ho
  rwa [splice_mid _ _ _ _ (by rw [List.length_take]; omega)] at hp
/-- Elements of a block are cleared. -/
theorem clearV {P : Program} {w : World} {K : Value → World → Prop} {t : TypeId} {b o n c sz by_ : Nat} {z L M T : List Value} (ht : tsl P t = some (sz, z, by_)) (hw : W w b (L ++ M ++ T)) (ho : o = L.length) (hM : M.length = n * sz)
    (hz : ∀ u ∈ z, u.oneCell' = true) (hzl : z.length = sz) (hk : ∀ u Z, Z.length = M.length → Put w b (L ++ Z ++ T) u → K (.tuple #[]) u) (h0 : 0 < n) : clearVC P w K t (.slice (some ⟨b, o, none⟩) n c) := by
  unfold clearVC
  rw [ht]
  refine ⟨_, n, c, rfl, hz, .inr ⟨h0, b, o, _, rfl, hw, by subst ho; simp only [List.length_append]; omega, fun u hp => hk u (reps z n) (by rw [reps_length, hzl, hM]) ?_⟩⟩
  subst ho
  rwa [splice_mid _ _ _ _ (by rw [reps_length, hzl, hM])] at hp
end Go.Proofs.Ytpdklpeojjkkaaa

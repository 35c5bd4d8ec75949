/- The engine, part 10: methods of what is held in an interface. -/
import Derived.Test.YtlffbjchcknmfaaE9
namespace Go.Proofs.Ytlffbjchcknmfaa
open Go
set_option linter.unusedVariables false
set_option linter.unusedSimpArgs false
/-- What a method's name leads to: a function with the value itself as its receiver; or the same name of what lies in a field of that which the pointer leads to. -/
inductive MK where
  | direct (f : FuncId)
  | field (off : Nat) (ft : TypeId)
def tmeth (P : Program) (t : TypeId) (name : String) : Option MK :=
  match P.info? t with
  | none => none
  | some i => match i.methods.find? (·.name == name) with
    | none => none
    | some m => match m.path.toList, m.func with
      | [], some (f, true) => (match P.underlying t with | some (.pointer _) => some (.direct f) | _ => none)
      | [], some (f, false) => (match P.underlying t with | some (.slice _) => some (.direct f) | _ => none)
      | [s], none => (match s.deref with
        | true => (match P.underlying s.struct with
          | some (.struct fs) => (match fs[s.index]? with
            | some fd => (match tsz P fd.type with | some (n + 1) => some (.field fd.offset fd.type) | _ => none)
            | none => none)
          | _ => none)
        | false => none)
      | _, _ => none
def MethodN (P : Program) (w : World) (n : Nat) (t : TypeId) (v : Value) (name : String) (f : FuncId) (recv : Value) : Prop :=
  ∀ w', Weq w w' → (method n t v name).run P w' = .ok (f, recv) w'
theorem MethodN.direct {P : Program} {w : World} {n : Nat} {t : TypeId} {v : Value} {name : String} {f : FuncId} (h : tmeth P t name = some (.direct f)) : MethodN P w (n + 1) t v name f v := by
  intro w' k
  unfold tmeth at h
  split at h
  · cases h
  rename_i i hi
  split at h
  · cases h
  rename_i m hm
  unfold method
  split at h
  · rename_i f' hp hf
    split at h
    · rename_i e hu
      cases h
      simp [typeInfo, hi, hm, hp, hf, follow, receiverAt, run_underlying hu, Place.get]
    · cases h
  · rename_i f' hp hf
    split at h
    · rename_i e hu
      cases h
      simp [typeInfo, hi, hm, hp, hf, follow, receiverAt, run_underlying hu, Place.get]
    · cases h
  · rename_i s hp hf
    repeat' (first | cases h | split at h)
  · cases h
theorem MethodN.field {P : Program} {w : World} {n b o off : Nat} {t t' ft : TypeId} {v' recv : Value} {name : String} {f : FuncId} (h : tmeth P t name = some (.field off ft)) (hl : loadW P w ft ⟨b, o + off, none⟩ = some (.iface t' v'))
    (hm : MethodN P w n t' v' name f recv) : MethodN P w (n + 1) t (.pointer (some ⟨b, o, none⟩)) name f recv := by
  intro w' k
  unfold tmeth at h
  split at h
  · cases h
  rename_i i hi
  split at h
  · cases h
  rename_i m hmm
  unfold method
  split at h
  · repeat' (first | cases h | split at h)
  · repeat' (first | cases h | split at h)
  · rename_i s hp hf
    split at h
    · rename_i hd
      split at h
      · rename_i fs hu
        split at h
        · rename_i fd hfd
          split at h
          · rename_i q hq
            cases h
            have hload := loadW_run k hl
            simp [typeInfo, hi, hmm, hp, hf, follow, run_underlying hu, hfd, hd, asAddr, Place.get, fieldPlace, sizeOf_run hq, addr_add, hload, hm w' k]
          · cases h
        · cases h
      · cases h
    · cases h
  · cases h
theorem MethodIs.of {P : Program} {w : World} {t : TypeId} {v recv : Value} {name : String} {f : FuncId} (n : Nat) (hn : Nat.ble n P.types.size = true) (h : ∀ m, MethodN P w (n + m) t v name f recv) : MethodIs P w t v name f recv := by
  have := h (P.types.size - n + Made.depth)
  have hn := Nat.le_of_ble_eq_true hn
  intro w' k
  rw [show P.types.size + Made.depth = n + (P.types.size - n + Made.depth) by omega]
  exact this w' k
end Go.Proofs.Ytlffbjchcknmfaa

/- seal: brands, and what each function of the package does with them. -/
import Derived.Test.YtpdklpeojjkkaaaSeal0
import Derived.Test.YtpdklpeojjkkaaaFace2
import Derived.Test.YtpdklpeojjkkaaaSl1
namespace Go.Proofs.Ytpdklpeojjkkaaa
open Go
set_option linter.unusedVariables false
set_option linter.unusedSimpArgs false
/-- What a brand holds. -/
inductive Br where
  | own (o : Nat)
  | plain (s : ByteArray)
  | odd (v : Value)
def Br.ty : Br → TypeId
  | .own _ => 77
  | .plain _ => 9
  | .odd _ => 40
def Br.dat : Br → Value
  | .own o => .pointer (some ⟨o, 0, none⟩)
  | .plain s => .string s
  | .odd v => v
def Br.val (x : Br) : Value := .iface x.ty x.dat
/-- The same: just those of New that are one, those of Plain with one name. -/
def Br.same : Br → Br → Bool
  | .own o, .own o' => decide (o = o')
  | .plain s, .plain s' => s == s'
  | _, _ => false
def Br.sameO : Br → Br → Option Bool
  | .odd _, .odd _ => none
  | x, y => some (x.same y)
theorem Br.sameO_getD (x y : Br) : (x.sameO y).getD false = x.same y := by cases x <;> cases y <;> rfl
def IsBr (w : World) (b : Nat) (x : Br) : Prop := W w b [x.val] ∧ ∀ o, x = .own o → ∃ cs, W w o cs
theorem IsBr.fr {w u : World} {b : Nat} {x : Br} (h : IsBr w b x) (f : Fr Nob w u) : IsBr u b x :=
  ⟨h.1.fr f (fun q => q), fun o ho => let ⟨cs, hc⟩ := h.2 o ho; ⟨cs, hc.fr f (fun q => q)⟩⟩
theorem equal_def' (t : TypeId) (x y : Value) : Op.equal t x y = Op.equalIn (9998 + 2) t x y := rfl
theorem iface_eql (t t1 t2 : TypeId) (x1 x2 : Value) : binOp .eql t (.iface t1 x1) (.iface t2 x2) = (do pure (.bool (← Op.equal t (.iface t1 x1) (.iface t2 x2)))) := rfl
theorem eqIs (w : World) (x y : Br) (hx : ∀ o, x = .own o → ∃ cs, W w o cs) (hy : ∀ o, y = .own o → ∃ cs, W w o cs) : EqIs w x.val y.val (x.sameO y) := by
  have hi := Try.underlying20
  have differ : ∀ (u : World) (t1 t2 : TypeId) (a b : Value), t1 ≠ t2 → (binOp .eql 20 (.iface t1 a) (.iface t2 b)).run Try.prog u = .ok (.bool false) u := fun u t1 t2 a b hne => by
    have key : ∀ d : Nat, (Op.equalIn (d + 2) 20 (.iface t1 a) (.iface t2 b)).run Try.prog u = .ok false u := fun d => by simp [Op.equalIn, run_underlying hi, hne]
    have := key 9998
    rw [iface_eql, equal_def']
    simp only [Sem.run_bind, this, Result.andThen_ok, Sem.run_pure]
  intro u hu
  have keep : ∀ o cs, W w o cs → ∃ e, u.heap[o]? = some (.cells cs.toArray e (0, 0)) := fun o cs h => by
    obtain ⟨e, he⟩ := h
    exact ⟨e, by rw [hu o (Array.getElem?_eq_some_iff.1 he).1]; exact he⟩
  cases x with
  | own o =>
    cases y with
    | own o' =>
      obtain ⟨i, hi1, hi2⟩ : ∃ i, Try.prog.info? 77 = some i ∧ i.comparable = true := Option.map_eq_some_iff.1 (show (Try.prog.info? 77).map (·.comparable) = some true by kernel_rfl)
      obtain ⟨j, hj1, hj2⟩ : ∃ j, Try.prog.info? 79 = some j ∧ j.size = 1 := Option.map_eq_some_iff.1 (show (Try.prog.info? 79).map (·.size) = some 1 by kernel_rfl)
      show (binOp .eql _ _ _).run _ _ = .ok (.bool (decide (o = o'))) _
      by_cases h : o = o'
      · subst h
        rw [show decide (o = o) = true by simp]
        exact run_eql_iface_ptr_same u _ hi Try.underlying77 hi1 hi2 hj1
      · rw [show decide (o = o') = false by simp [h]]
        obtain ⟨cs, hc⟩ := hx o rfl
        obtain ⟨ds, hd⟩ := hy o' rfl
        obtain ⟨e1, hc⟩ := keep _ _ hc
        obtain ⟨e2, hd⟩ := keep _ _ hd
        exact run_eql_iface_ptr_other u hi Try.underlying77 hi1 hi2 hj1 (by rw [hj2]; decide) (by simpa using h) hc hd
    | plain s => exact differ u _ _ _ _ (by simp [Br.ty])
    | odd v => exact differ u _ _ _ _ (by simp [Br.ty])
  | plain s =>
    cases y with
    | own o => exact differ u _ _ _ _ (by simp [Br.ty])
    | plain s' =>
      obtain ⟨i, hi1, hi2⟩ : ∃ i, Try.prog.info? 9 = some i ∧ i.comparable = true := Option.map_eq_some_iff.1 (show (Try.prog.info? 9).map (·.comparable) = some true by kernel_rfl)
      have key : ∀ d : Nat, (Op.equalIn (d + 2) 20 (.iface 9 (.string s)) (.iface 9 (.string s'))).run Try.prog u = .ok (s == s') u := fun d => by
        simp [Op.equalIn, run_underlying hi, run_underlying Try.underlying9, typeInfo, hi1, hi2]
      have := key 9998
      show (binOp .eql _ _ _).run _ _ = .ok (.bool (s == s')) _
      show (binOp .eql _ (.iface 9 (.string s)) (.iface 9 (.string s'))).run _ _ = _
      rw [iface_eql, equal_def']
      simp only [Sem.run_bind, this, Result.andThen_ok, Sem.run_pure]
    | odd v => exact differ u _ _ _ _ (by simp [Br.ty])
  | odd v =>
    cases y with
    | own o => exact differ u _ _ _ _ (by simp [Br.ty])
    | plain s => exact differ u _ _ _ _ (by simp [Br.ty])
    | odd v' =>
      obtain ⟨i, hi1, hi2⟩ : ∃ i, Try.prog.info? 40 = some i ∧ i.comparable = false := Option.map_eq_some_iff.1 (show (Try.prog.info? 40).map (·.comparable) = some false by kernel_rfl)
      have hp : Try.prog.holdsPacked Try.prog.depth 40 = false := by kernel_rfl
      obtain ⟨tn, htn⟩ : ∃ s, ∀ u, (typeStr 40).run Try.prog u = .ok s u := ⟨_, fun u => by simp [typeStr]; rfl⟩
      have key : ∀ d : Nat, (Op.equalIn (d + 2) 20 (.iface 40 v) (.iface 40 v')).run Try.prog u = .halt (.panic (.iface Try.prog.rt.errorString (strVal ("comparing uncomparable type " ++ tn)))) u := fun d => by
        simp [Op.equalIn, run_underlying hi, typeInfo, hi1, hi2, hp, runtimePanic, goPanic, htn]
      have := key 9998
      refine ⟨Try.prog.rt.errorString, strVal ("comparing uncomparable type " ++ tn), ?_⟩
      show (binOp .eql _ (.iface 40 v) (.iface 40 v')).run _ _ = _
      rw [iface_eql, equal_def']
      simp only [Sem.run_bind, this, Result.andThen_halt]
end Go.Proofs.Ytpdklpeojjkkaaa

/- Methods of what lies in an interface, called. -/
import Derived.Test.YtlffbjchcknmfaaMem2
import Derived.Test.YtlffbjchcknmfaaObj0
namespace Go.Proofs.Ytlffbjchcknmfaa
open Go
set_option linter.unusedVariables false
set_option linter.unusedSimpArgs false
set_option maxRecDepth 100000
/-- The method 'name' of the value x that an interface holds, called; d: how deep it lies. -/
def InvN (d : Nat) (w : World) (x : Value) (name : String) (args : List Value) (R : Value → World → Prop) : Prop :=
  ∃ t v f recv, x = .iface t v ∧ (∀ m, MethodN Try.prog w (d + m) t v name f recv) ∧ tcall Try.prog f = true ∧ CallsE Try.prog f (recv :: args) w R
theorem InvN.direct {w : World} {t : TypeId} {v : Value} {name : String} {f : FuncId} {args : List Value} {R : Value → World → Prop} (hm : tmeth Try.prog t name = some (.direct f)) (hc : tcall Try.prog f = true) (h : CallsE Try.prog f (v :: args) w R) :
    InvN 1 w (.iface t v) name args R :=
  ⟨t, v, f, v, rfl, fun m => by rw [Nat.add_comm]; exact MethodN.direct hm, hc, h⟩
theorem InvN.field {d : Nat} {w : World} {t ft : TypeId} {b o off : Nat} {x : Value} {name : String} {args : List Value} {R : Value → World → Prop} (hm : tmeth Try.prog t name = some (.field off ft)) (hl : loadW Try.prog w ft ⟨b, o + off, none⟩ = some x)
    (h : InvN d w x name args R) : InvN (d + 1) w (.iface t (.pointer (some ⟨b, o, none⟩))) name args R := by
  obtain ⟨t', v, f, recv, rfl, hf, hc, hr⟩ := h
  exact ⟨_, _, f, recv, rfl, fun m => by rw [show d + 1 + m = d + m + 1 by omega]; exact MethodN.field hm hl (hf m), hc, hr⟩
theorem InvN.mono {d : Nat} {w : World} {x : Value} {name : String} {args : List Value} {R R' : Value → World → Prop} (h : InvN d w x name args R) (hr : ∀ v u, R v u → R' v u) : InvN d w x name args R' := by
  obtain ⟨t', v, f, recv, e, hf, hc, h⟩ := h
  exact ⟨t', v, f, recv, e, hf, hc, h.mono hr⟩
theorem InvN.call {d : Nat} {w : World} {t : TypeId} {v : Value} {name : String} {args : List Value} {R K : Value → World → Prop} (h : InvN d w (.iface t v) name args R) (hd : d ≤ 16) (hk : ∀ r u, R r u → K r u) :
    ∃ f recv, MethodIs Try.prog w t v name f recv ∧ callV Try.prog f (recv :: args) w K := by
  obtain ⟨t', v', f, recv, e, hf, hc, hr⟩ := h
  cases e
  exact ⟨f, recv, MethodIs.of d (Nat.ble_eq_true_of_le (Nat.le_trans hd (Nat.le_of_ble_eq_true (by kernel_rfl)))) hf, callC hc hr hk⟩
theorem InvN.le {d d' : Nat} {w : World} {x : Value} {name : String} {args : List Value} {R : Value → World → Prop} (h : InvN d w x name args R) (hd : d ≤ d') : InvN d' w x name args R := by
  obtain ⟨t', v, f, recv, e, hf, hc, h⟩ := h
  exact ⟨t', v, f, recv, e, fun m => by rw [show d' + m = d + (d' - d + m) by omega]; exact hf _, hc, h⟩
def Inv (w : World) (x : Value) (name : String) (args : List Value) (R : Value → World → Prop) : Prop := ∃ d, d ≤ 8 ∧ InvN d w x name args R
theorem Inv.mono {w : World} {x : Value} {name : String} {args : List Value} {R R' : Value → World → Prop} (h : Inv w x name args R) (hr : ∀ v u, R v u → R' v u) : Inv w x name args R' := by
  obtain ⟨d, hd, h⟩ := h
  exact ⟨d, hd, h.mono hr⟩
def nilS : Value := .slice none 0 0
/-- Made between two worlds. -/
def Betw (w u : World) (b : Nat) : Prop := w.heap.size ≤ b ∧ b < u.heap.size
/-- What 'Do' needs of the parts of a handle. -/
structure DoK (w : World) (f : Value) (ow oc oh os : Option (TypeId × Value)) (o : OpV) (Q : Value → World → Prop) : Prop where
  size : o.k = 0 → ∀ u, Fr Nob w u → Inv u f "Size" [] fun r u' => ∃ m, r = .int .i64 m ∧ Fr (fun b => b < w.heap.size) u u' ∧ ∀ u2, Fr (Betw w u) u' u2 → Q (Td.val ⟨0, m, 0, []⟩ nilS) u2
  read : o.k = 1 → ∀ u, Fr Nob w u → Inv u f "ReadAt" [.int .i64 o.at_, .int .i64 o.n] fun r u' => ∃ v e cs, r = .tuple #[v, .int .i64 e] ∧ Row u' v 1 (bvs cs) ∧ cs.length ≤ 70368744177664 ∧ Fr (fun b => b < w.heap.size) u u' ∧
    ∀ u2 d, Fr (Betw w u) u' u2 → Own u2 d 1 (bvs cs) → (∀ b, blk d = some b → u'.heap.size ≤ b) → Q (Td.val ⟨e, 0, 0, cs⟩ d) u2
  cut : o.k = 3 → ∀ p, oc = some p → ∀ u, Fr Nob w u → Inv u (.iface p.1 p.2) "Cut" [.int .i64 o.at_] fun r u' => ∃ e, r = .int .i64 e ∧ Fr (fun b => b < w.heap.size) u u' ∧ ∀ u2, Fr (Betw w u) u' u2 → Q (Td.val ⟨e, 0, 0, []⟩ nilS) u2
  next : o.k = 4 → ∀ p, oh = some p → ∀ u, Fr Nob w u → Inv u (.iface p.1 p.2) "Next" [.int .i64 o.at_] fun r u' => ∃ x y, r = .tuple #[.int .i64 x, .int .i64 y] ∧ Fr (fun b => b < w.heap.size) u u' ∧ ∀ u2, Fr (Betw w u) u' u2 → Q (Td.val ⟨0, x, y, []⟩ nilS) u2
  sync : o.k = 5 → ∀ p, os = some p → ∀ u, Fr Nob w u → Inv u (.iface p.1 p.2) "Sync" [] fun r u' => ∃ e, r = .int .i64 e ∧ Fr (fun b => b < w.heap.size) u u' ∧ ∀ u2, Fr (Betw w u) u' u2 → Q (Td.val ⟨e, 0, 0, []⟩ nilS) u2
  cant : (o.k = 2 ∧ ow = none) ∨ (o.k = 3 ∧ oc = none) ∨ (o.k = 4 ∧ oh = none) ∨ (o.k = 5 ∧ os = none) → ∀ u, Fr Nob w u → Q (Td.val ⟨5, 0, 0, []⟩ nilS) u
  arg : ¬ (0 ≤ o.k ∧ o.k ≤ 5) → ∀ u, Fr Nob w u → Q (Td.val ⟨2, 0, 0, []⟩ nilS) u
end Go.Proofs.Ytlffbjchcknmfaa

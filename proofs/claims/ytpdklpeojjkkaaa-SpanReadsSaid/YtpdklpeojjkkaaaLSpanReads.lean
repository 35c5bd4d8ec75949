/- 'SpanReads' answers true for every input, and each argument reads as it read. -/
import Derived.Test.YtpdklpeojjkkaaaRows
import Derived.Test.YtpdklpeojjkkaaaLaw0
import Derived.Test.YtpdklpeojjkkaaaLaw1
import Derived.Test.YtpdklpeojjkkaaaSpang
namespace Go.Proofs.Ytpdklpeojjkkaaa.spanReads
open Go Go.ChangeShapes Go.WideShapes Go.ChangeAt Go.RowKit
open Go.ChangeMaps (open_string shut_string)
set_option linter.unusedVariables false
theorem own : ownKnob Try.prog.godebug = none := by kernel_rfl
theorem laidOut : laidOutB Try.prog = true := by kernel_rfl
set_option maxRecDepth 100000 in
theorem lifted (os : Os) (started : os.Started) (H : Type) (enc : TypeId × Value → H) :
    ReturnsInHanded {} Try.checked os 8 .any (Rows.spanReadsSpec.pre6 enc Try.prog Try.f8 Rows.spanReadsRow.domain false) (Rows.spanReadsSpec.post enc Try.prog Try.f8 false true false false) := by
  refine returnsInHanded_of_change (C := Try.checked) own started (by kernel_rfl) Try.func8
    (ChangeSpec.witness6 (enc := enc) (C := Try.checked) false ⟨#[], #[.slice none 0 0, .slice none 0 0, .agg #[.int .i64 0, .int .i64 0, .int .i64 0, .slice none 0 0], .agg #[.int .i64 0, .int .i64 0, .int .i64 0, .slice none 0 0]], []⟩ 8 (by kernel_rfl) (by kernel_rfl) (by kernel_rfl) (by kernel_rfl)) ?_
  intro W base args ds gs before hval0 hW hcnd _
  have hval : ∀ (j : Nat) t v, Try.f8.params[j]? = some t → args[j]? = some v → Value.okWide Try.prog W .any base t v := hval0
  have hW' := hW
  obtain ⟨p, q, hA0, hV, rfl, hfz, hnd⟩ := hW
  have hA : DataW.TrodAll enc Try.prog W 0 (fun _ => true) true Try.f8.params.toList args.toList ds p := hA0
  rw [Try.params8] at hA hval
  obtain ⟨v0, vs0, d0, ds0, p0, q0, hargs, rfl, rfl, h0, r0⟩ := trodAll_cons hA
  obtain ⟨v1, vs1, d1, ds1, p1, q1, rfl, rfl, rfl, h1, r1⟩ := trodAll_cons r0
  obtain ⟨v2, vs2, d2, ds2, p2, q2, rfl, rfl, rfl, h2, r2⟩ := trodAll_cons r1
  obtain ⟨v3, vs3, d3, ds3, p3, q3, rfl, rfl, rfl, h3, r3⟩ := trodAll_cons r2
  obtain ⟨rfl, rfl, rfl⟩ := trodAll_nil r3
  obtain rfl : args = #[v0, v1, v2, v3] := by cases args; simp_all
  obtain ⟨rfl, rfl⟩ := trodVars_none hV
  have k0 := h0
  have lt0 : ∀ x ∈ p0, x.block < W.heap.size := by obtain ⟨m, hm⟩ := k0; exact DataW.trod_lt m _ _ _ hm
  obtain ⟨a0, n0, c0, b0, rfl, w0, _⟩ := open_bytes Try.underlying40 Try.underlying5 (by kernel_rfl) (hval 0 40 v0 rfl rfl) h0
  have k1 := h1
  have lt1 : ∀ x ∈ p1, x.block < W.heap.size := by obtain ⟨m, hm⟩ := k1; exact DataW.trod_lt m _ _ _ hm
  obtain ⟨a1, n1, c1, l1, rfl, w1⟩ := open_moves Try.underlying56 Try.underlying62 (by kernel_rfl) (by kernel_rfl) Try.underlying3 Try.underlying2 Try.underlying2 Try.underlying40 Try.underlying5 (by kernel_rfl) (hval 1 56 v1 rfl rfl) h1
  have k2 := h2
  have lt2 : ∀ x ∈ p2, x.block < W.heap.size := by obtain ⟨m, hm⟩ := k2; exact DataW.trod_lt m _ _ _ hm
  obtain ⟨cc0, cc1, cc2, cc3, y0, y1, y2, y3, m, rfl, _, _, t0, t1, t2, t3⟩ := Go.Joins.open_agg4 Try.underlying62 (by kernel_rfl) (by kernel_rfl) (hval 2 62 v2 rfl rfl) h2
  obtain ⟨a2, e0, _⟩ := DataW.trod_int Try.underlying3 t0
  obtain ⟨s2, e1, _, we2⟩ := DataW.trod_int Try.underlying2 t1
  obtain ⟨n2, e2, _⟩ := DataW.trod_int Try.underlying2 t2
  obtain ⟨av2, nv2, cv2, bv2, e3, rv2, _⟩ := open_bytes_cell Try.underlying40 Try.underlying5 (by kernel_rfl) t3
  simp at e0 e1 e2 e3
  subst e0 e1 e2 e3
  have k3 := h3
  have lt3 : ∀ x ∈ p3, x.block < W.heap.size := by obtain ⟨m, hm⟩ := k3; exact DataW.trod_lt m _ _ _ hm
  obtain ⟨cc0, cc1, cc2, cc3, y0, y1, y2, y3, m, rfl, _, _, t0, t1, t2, t3⟩ := Go.Joins.open_agg4 Try.underlying62 (by kernel_rfl) (by kernel_rfl) (hval 3 62 v3 rfl rfl) h3
  obtain ⟨a3, e0, _⟩ := DataW.trod_int Try.underlying3 t0
  obtain ⟨s3, e1, _, we3⟩ := DataW.trod_int Try.underlying2 t1
  obtain ⟨n3, e2, _⟩ := DataW.trod_int Try.underlying2 t2
  obtain ⟨av3, nv3, cv3, bv3, e3, rv3, _⟩ := open_bytes_cell Try.underlying40 Try.underlying5 (by kernel_rfl) t3
  simp at e0 e1 e2 e3
  subst e0 e1 e2 e3
  clear hA0 hval0
  refine (law_end (spanReads_spec a0 n0 c0 b0 a1 n1 c1 l1 a2 s2 n2 av2 nv2 cv2 bv2 a3 s3 n3 av3 nv3 cv3 bv3 W w0 w1 (wf64 we2) rv2 (wf64 we3) rv3)).mono fun e W' ⟨he, bel⟩ => ?_
  subst he
  exact ⟨_, rfl, _, _, _, [], _, [], hW', trodAll_mk1 (shut_bool Try.underlying4 _), (trodAll_cons_mk (Below.trod laidOut (by kernel_rfl) (of_decide_eq_true (by kernel_rfl)) k0 bel lt0) (trodAll_cons_mk (Below.trod laidOut (by kernel_rfl) (of_decide_eq_true (by kernel_rfl)) k1 bel lt1) (trodAll_cons_mk (Below.trod laidOut (by kernel_rfl) (of_decide_eq_true (by kernel_rfl)) k2 bel lt2) (trodAll_cons_mk (Below.trod laidOut (by kernel_rfl) (of_decide_eq_true (by kernel_rfl)) k3 bel lt3) trodAll_mk0)))), rfl, bel.frame _, fun h => by cases h⟩
theorem over : Rows.spanReadsRow.holds Try.pinned (OpenSpec.ofChange Rows.spanReadsSpec) :=
  OpenClaim.holds_of_wide 8 Try.f8 rfl rfl rfl rfl rfl rfl rfl ⟨rfl, rfl, rfl, rfl, rfl⟩ rfl rfl rfl rfl rfl (by kernel_rfl) Try.func8 (by kernel_rfl)
    (of_decide_eq_true (by kernel_rfl)) (by unfold Func.isWrapper; first | (rw [if_pos (by decide +kernel)]; kernel_rfl) | (rw [if_neg (by decide +kernel)]; exact ⟨rfl, rfl⟩))
    (fun os started H enc _ => lifted os started H enc)
end Go.Proofs.Ytpdklpeojjkkaaa.spanReads
namespace Go.Proofs.Ytpdklpeojjkkaaa
/-- The statement. -/
theorem spanReads_proved : Rows.SpanReadsSaid := spanReads.over
#print axioms spanReads_proved
end Go.Proofs.Ytpdklpeojjkkaaa

/- seal.Same, entered: what its frame comes to for whatever '==' answers. -/
import Derived.Test.YtpdklpeojjkkaaaGen
import Derived.Test.YtpdklpeojjkkaaaChecked
import Derived.Tactics
import Derived.Tactics2
import Derived.Defers
import Derived.Recover
import Derived.Laws.Pointers
import Derived.RegionTactic
import Derived.ChangeAlike
import Derived.LaidEql
namespace Go.Proofs.Ytpdklpeojjkkaaa
open Go
set_option linter.unusedVariables false
set_option linter.unusedSimpArgs false
theorem catch_panicking (p : Addr) (x : Bool) (u : TypeId) (pv : Value) (older : List PanicEntry) (w : World) (hc : w.cell? p = some (.bool x)) (hz : w.frozen? p = false) :
    CallsD Try.prog 40 #[.pointer (some p)] (.panicking ({ v := .iface u pv, recovered := false } :: older)) w fun e u' w' =>
      e = .returned (.tuple #[]) ∧ u' = .panicking ({ v := .iface u pv, recovered := true } :: older) ∧ w' = w.setCell p (.bool false) := by
  refine callsD_of_wpS Try.func40 rfl fun c₀ cs hu => ?_
  apply wpS_seq
  apply wpS_region
  simp [wpOpsS, go_sem, recoverD, hu, Try.ntmps40, Exit.thenS]
  refine wpS_cond (t := true) (by simp [Act.eval, Array.replicate]) ?_
  simp only [if_true]
  apply wpS_region
  simp [wpOpsS, go_sem, hc, hz, bodyPostS, results, Try.results40]
theorem catch_idle (p : Addr) (w : World) :
    CallsD Try.prog 40 #[.pointer (some p)] .returning w fun e u' w' => e = .returned (.tuple #[]) ∧ u' = .returning ∧ w' = w := by
  refine callsD_of_wpS Try.func40 rfl fun c₀ cs hu => ?_
  apply wpS_seq
  apply wpS_region
  simp [wpOpsS, go_sem, recoverD, hu, Try.ntmps40, Exit.thenS]
  refine wpS_cond (t := false) (by simp [Act.eval, Array.replicate]) ?_
  simp only [Bool.false_eq_true, if_false]
  refine wpS_of_wp (wp_skip ?_)
  cases c₀
  simp_all [bodyPostS, results, Try.results40]
theorem alt_of_cell {w : World} {b o : Nat} {v : Value} (h : w.cell? ⟨b, o, none⟩ = some v) : b < w.heap.size := by
  rcases Nat.lt_or_ge b w.heap.size with hl | hl
  · exact hl
  · simp [World.cell?, Array.getElem?_eq_none hl] at h
/-- '==' of two values held in interfaces: what it comes to; none: it panics. -/
def EqAt (va vb : Value) (r : Option Bool) (u : World) : Prop :=
    match r with
    | some c => (binOp .eql 20 va vb).run Try.prog u = .ok (.bool c) u
    | none => ∃ t pv, (binOp .eql 20 va vb).run Try.prog u = .halt (.panic (.iface t pv)) u
/-- .. in every world that keeps the blocks of w. -/
def EqIs (w : World) (va vb : Value) (r : Option Bool) : Prop :=
  ∀ u : World, (∀ b, b < w.heap.size → u.heap[b]? = w.heap[b]?) → EqAt va vb r u
theorem exec_eql {a : Act} {o : Oper} {next : Act → World → Prop} {Q : Exit → Act → World → Prop} {x y : Operand} {ty t1 t2 : TypeId} {x1 x2 : Value} {u u' : World} (ho : o.op = .binOp .eql 20 x y ty)
    (hx : a.eval x = .iface t1 x1) (hy : a.eval y = .iface t2 x2) {c : Bool} (h : EqAt (.iface t1 x1) (.iface t2 x2) (some c) u) (hn : next (a.put o.dst (.bool c)) u) : o.wp Try.prog a u next Q := by
  have hg : eqGuard .eql 20 x y (.iface t1 x1) (.iface t2 x2) = pure () := rfl
  have h : (binOp .eql 20 (.iface t1 x1) (.iface t2 x2)).run Try.prog u = .ok (.bool c) u := h
  obtain ⟨d, op, ty', ps, af, g⟩ := o
  cases ho
  have : (execOp a.eval ⟨d, .binOp .eql 20 x y ty, ty', ps, af, g⟩).run Try.prog u = .ok (.value (.bool c)) u := by
    simp only [execOp, hx, hy, Sem.run_bind, hg, Sem.run_pure, Result.andThen_ok, h]
  unfold Oper.wp
  rw [this]
  exact hn
theorem exec_eqlP {a : Act} {o : Oper} {next : Act → World → Prop} {Q : Exit → Act → World → Prop} {x y : Operand} {ty t1 t2 : TypeId} {x1 x2 : Value} {u u' : World} (ho : o.op = .binOp .eql 20 x y ty)
    (hx : a.eval x = .iface t1 x1) (hy : a.eval y = .iface t2 x2) (h : EqAt (.iface t1 x1) (.iface t2 x2) none u) (hn : ∀ t pv, Q (.panic [{ v := .iface t pv, recovered := false }]) a u) : o.wp Try.prog a u next Q := by
  have hg : eqGuard .eql 20 x y (.iface t1 x1) (.iface t2 x2) = pure () := rfl
  obtain ⟨t, pv, h⟩ : ∃ t pv, (binOp .eql 20 (.iface t1 x1) (.iface t2 x2)).run Try.prog u = .halt (.panic (.iface t pv)) u := h
  obtain ⟨d, op, ty', ps, af, g⟩ := o
  cases ho
  have : (execOp a.eval ⟨d, .binOp .eql 20 x y ty, ty', ps, af, g⟩).run Try.prog u = .halt (.panic (.iface t pv)) u := by
    simp only [execOp, hx, hy, Sem.run_bind, hg, Sem.run_pure, Result.andThen_ok, h, Result.andThen_halt]
  unfold Oper.wp
  rw [this]
  exact hn t pv
/-- What the region in which Same compares ends in: slot 4 and what was deferred are as they were. -/
def CmpQ (p : Addr) (D : List Deferred) (w : World) (r : Option Bool) : Exit → Act → World → Prop
  | .normal, a, u => a.tmps[4]? = some (.pointer (some p)) ∧ a.defers = D ∧ ∃ c, r = some c ∧ u = w.setCell p (.bool c)
  | .panic ch, a, u => a.tmps[4]? = some (.pointer (some p)) ∧ a.defers = D ∧ r = none ∧ u = w ∧ ∃ t pv, ch = [{ v := .iface t pv, recovered := false }]
  | _, _, _ => False
theorem cmpQ_put {p : Addr} {D : List Deferred} {w : World} {r : Option Bool} (d : Nat) (hd : d ≠ 4) (v : Value) (c : List PanicEntry) (a : Act) (u : World)
    (h : CmpQ p D w r (.panic c) (a.put (some d) v) u) : CmpQ p D w r (.panic c) a u := by
  obtain ⟨h1, h2⟩ := h
  refine ⟨?_, h2⟩
  simp only [Act.put] at h1
  rw [Array.getElem?_setIfInBounds_ne hd] at h1
  exact h1
theorem same_results {tmps : Array Value} {p : Addr} (h : tmps[4]? = some (.pointer (some p))) {c : Bool} {w : World} (hc : w.cell? p = some (.bool c)) :
    (results Try.f19 tmps).run Try.prog w = .ok (.bool c) w := by
  simp [results, Try.results19, h, go_sem, hc]
theorem fr_setCell (w : World) (b o : Nat) (v : Value) : Fr (Onb b) w (w.setCell ⟨b, o, none⟩ v) :=
  ⟨rfl, rfl, rfl, by simp, fun i _ hi => heap_setCell_other w _ i v (fun e => hi e)⟩
set_option maxRecDepth 100000 in
theorem same_run (a b : Nat) (t1 t2 : TypeId) (x1 x2 : Value) (w : World) (ha : w.cell? ⟨a, 0, none⟩ = some (.iface t1 x1)) (hb : w.cell? ⟨b, 0, none⟩ = some (.iface t2 x2)) (r : Option Bool) (hc : EqIs w (.iface t1 x1) (.iface t2 x2) r) :
    Calls Try.prog 19 #[.pointer (some ⟨a, 0, none⟩), .pointer (some ⟨b, 0, none⟩)] w fun e w' => e = .returned (.bool (r.getD false)) ∧ Fr Nob w w' := by
  have hmf : ∀ (fn : Fn) (first cap : Array Value) (w : World), (Instr.makeFunc fn first cap).run Try.prog w = .ok (.func fn first cap) w := fun _ _ _ _ => rfl
  have hal := alt_of_cell ha
  have hbl := alt_of_cell hb
  have hg : ∀ x y, eqGuard .eql 20 x y (.iface t1 x1) (.iface t2 x2) = pure () := fun _ _ => rfl
  go_enter_defers Try.func19, Try.ntmps19
  go_wp2
  rename_i K0 hK0
  generalize hu0 : (w.alloc (Obj.cells #[Value.bool false] 4)) = u0
  have hfr : Fr Nob w u0 := by
    subst hu0
    refine ⟨rfl, rfl, rfl, by rw [World.size_alloc]; omega, fun i hi _ => ?_⟩
    show (w.heap.push _)[i]? = _
    rw [Array.getElem?_push, if_neg (by omega)]
  have e1 : u0.drew.cell? ⟨a, 0, none⟩ = some (.iface t1 x1) := by subst hu0; simp [go_sem, ha, hal]
  have e2 : u0.drew.cell? ⟨b, 0, none⟩ = some (.iface t2 x2) := by subst hu0; simp [go_sem, hb, hbl]
  have e3 := hc u0.drew (fun i hi => hfr.same i hi (fun q => q))
  have e4 : u0.drew.cell? ⟨w.heap.size, 0, none⟩ = some (.bool false) := by subst hu0; simp [go_sem]
  have e5 : u0.drew.frozen? ⟨w.heap.size, 0, none⟩ = false := by subst hu0; simp [go_sem]
  have k1 : Weq u0 u0.drew := ⟨rfl, rfl, rfl, rfl⟩
  refine Code.wp_mono (Q := CmpQ ⟨w.heap.size, 0, none⟩ [{ target := Target.fn (Fn.func 40) #[Value.pointer (some ⟨w.heap.size, 0, none⟩)], args := #[] }] u0.drew r) ?_ (wp_region_any (by kernel_rfl) ?_)
  · rintro e act u2 hq
    cases e with
    | normal =>
      obtain ⟨h4, hd, c, rfl, rfl⟩ := hq
      refine hK0 _ _ ?_
      refine wp_ret ?_
      have hb' : u0.drew.heap[w.heap.size]? = some (.cells #[.bool false] 4 (0, 0)) := by
        subst hu0; show (w.heap.push _)[_]? = _; rw [Array.getElem?_push_size]
      show Leaves _ _ _ _ _ _ _
      rw [hd]
      refine leaves_cons (f := 40) (args := #[.pointer (some ⟨w.heap.size, 0, none⟩)]) (by simp) (by simp [go_sem]) ?_
      refine (catch_idle ⟨w.heap.size, 0, none⟩ _).mono ?_
      rintro e u' w'' ⟨rfl, rfl, rfl⟩
      refine ⟨_, same_results h4 (c := c) (by simp [go_sem, e4]), rfl, ?_⟩
      exact (hfr.weqR k1).trans2 (fr_setCell _ _ _ _) (fun _ _ q => q) (fun i hi q => by simp only [Onb] at q; omega)
    | panic ch =>
      obtain ⟨h4, hd, rfl, rfl, t, pv, rfl⟩ := hq
      simp only [Exit.then, bodyPostD, hd]
      refine leaves_cons (f := 40) (args := #[.pointer (some ⟨w.heap.size, 0, none⟩)]) (by simp) (by simp [go_sem]) ?_
      refine (catch_panicking ⟨w.heap.size, 0, none⟩ false t pv [] _ e4 e5).mono ?_
      rintro e u' w'' ⟨rfl, rfl, rfl⟩
      simp only [settle, List.dropWhile]
      refine ⟨_, same_results h4 (c := false) (by simp [go_sem, e4]), rfl, ?_⟩
      exact (hfr.weqR k1).trans2 (fr_setCell _ _ _ _) (fun _ _ q => q) (fun i hi q => by simp only [Onb] at q; omega)
    | _ => exact hq.elim
  change wpAny _ _ _ _ _ _ _ (World.drew _)
  clear hu0 ha hb hc hal hbl k1 hfr
  generalize hu1 : u0.drew = u1 at *
  refine wpAny_take (i := 0) (v := .pointer (some ⟨a, 0, none⟩)) rfl (by kernel_rfl) (by kernel_rfl) (by kernel_rfl) (fun c a w h => cmpQ_put _ (by decide) _ c a w h) (Or.inl ⟨by rfl, fun w => by simp [go_sem]⟩) ?_
  refine wpAny_take (i := 1) (v := .pointer (some ⟨a, 0, none⟩)) rfl (by kernel_rfl) (by kernel_rfl) (by kernel_rfl) (fun c a w h => cmpQ_put _ (by decide) _ c a w h) (Or.inl ⟨by rfl, fun w => by simp [go_sem]⟩) ?_
  refine wpAny_take (i := 2) (v := .pointer (some ⟨a, 0, none⟩)) rfl (by kernel_rfl) (by kernel_rfl) (by kernel_rfl) (fun c a w h => cmpQ_put _ (by decide) _ c a w h) (Or.inl ⟨by rfl, fun w => by simp [go_sem]⟩) ?_
  refine wpAny_take (i := 4) (v := .pointer (some ⟨b, 0, none⟩)) rfl (by kernel_rfl) (by kernel_rfl) (by kernel_rfl) (fun c a w h => cmpQ_put _ (by decide) _ c a w h) (Or.inl ⟨by rfl, fun w => by simp [go_sem]⟩) ?_
  refine wpAny_take (i := 5) (v := .pointer (some ⟨b, 0, none⟩)) rfl (by kernel_rfl) (by kernel_rfl) (by kernel_rfl) (fun c a w h => cmpQ_put _ (by decide) _ c a w h) (Or.inl ⟨by rfl, fun w => by simp [go_sem]⟩) ?_
  refine wpAny_take (i := 6) (v := .pointer (some ⟨b, 0, none⟩)) rfl (by kernel_rfl) (by kernel_rfl) (by kernel_rfl) (fun c a w h => cmpQ_put _ (by decide) _ c a w h) (Or.inl ⟨by rfl, fun w => by simp [go_sem]⟩) ?_
  refine wpAny_ready (rs := [3, 7]) (by kernel_rfl) (by simp) ?_
  refine AllReady.cons rfl (fun K hK => ?_) (AllReady.cons rfl (fun K hK => ?_) AllReady.nil)
  all_goals
    go_simp
    refine hK _ _ ?_; clear hK K
  · refine wpAny_ready (rs := [7]) (by kernel_rfl) (by simp) (AllReady.cons rfl (fun K hK => ?_) AllReady.nil)
    go_simp
    refine hK _ _ ?_; clear hK K
    refine wpAny_ready (rs := [8]) (by kernel_rfl) (by simp) (AllReady.cons rfl (fun K hK => ?_) AllReady.nil)
    rw [if_pos (by rfl)]
    cases r with
    | none => exact exec_eqlP (u' := u1) rfl rfl rfl e3 fun t pv => ⟨rfl, rfl, rfl, rfl, t, pv, rfl⟩
    | some c =>
      refine exec_eql (u' := u1) rfl rfl rfl e3 (hK _ _ ?_)
      clear hK K
      refine wpAny_ready (rs := [9]) (by kernel_rfl) (by simp) (AllReady.cons rfl (fun K hK => ?_) AllReady.nil)
      go_simp
      refine hK _ _ ?_; clear hK K
      refine wpAny_done (by kernel_rfl) ?_ _
      exact ⟨rfl, rfl, c, rfl, rfl⟩
  · refine wpAny_ready (rs := [3]) (by kernel_rfl) (by simp) (AllReady.cons rfl (fun K hK => ?_) AllReady.nil)
    go_simp
    refine hK _ _ ?_; clear hK K
    refine wpAny_ready (rs := [8]) (by kernel_rfl) (by simp) (AllReady.cons rfl (fun K hK => ?_) AllReady.nil)
    rw [if_pos (by rfl)]
    cases r with
    | none => exact exec_eqlP (u' := u1) rfl rfl rfl e3 fun t pv => ⟨rfl, rfl, rfl, rfl, t, pv, rfl⟩
    | some c =>
      refine exec_eql (u' := u1) rfl rfl rfl e3 (hK _ _ ?_)
      clear hK K
      refine wpAny_ready (rs := [9]) (by kernel_rfl) (by simp) (AllReady.cons rfl (fun K hK => ?_) AllReady.nil)
      go_simp
      refine hK _ _ ?_; clear hK K
      refine wpAny_done (by kernel_rfl) ?_ _
      exact ⟨rfl, rfl, c, rfl, rfl⟩
end Go.Proofs.Ytpdklpeojjkkaaa

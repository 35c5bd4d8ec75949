/- The engine, part 6: regions in the order of the text; statements; the way into a function and out of it. -/
import Derived.Test.YtlffbjchcknmfaaE5
namespace Go.Proofs.Ytlffbjchcknmfaa
open Go
set_option linter.unusedVariables false
set_option linter.unusedSimpArgs false
section
variable {P : Program}

/-- The frame holds what 'E' says, has n slots and no deferred calls. -/
def Fits (n : Nat) (E : Env) (a : Act) : Prop := a.tmps.size = n ∧ a.defers = [] ∧ ∀ t v, eget E t = some v → a.tmps[t]? = some v
theorem Fits.agrees {n : Nat} {E : Env} {a : Act} (h : Fits n E a) : Agrees E a.eval := by
  intro x v hx
  cases x with
  | tmp t =>
    have := h.2.2 t v hx
    simp [Act.eval, Array.getD_eq_getD_getElem?, this]
  | const c => simp [eval] at hx; exact hx
  | global g => simp [eval] at hx; exact hx
  | func f => simp [eval] at hx; exact hx

/-- An operation, without what only the order of evaluation is about; a guard by its slot. -/
structure Slim where
  dst : Option Nat
  op : Op
  guard : Option (Nat × Bool)
def slim (n : Nat) (ops : Array Oper) (o : Oper) : Option Slim :=
  match o.dst.any (fun d => !Nat.blt d n) with
  | true => none
  | false => match o.guard with
    | none => some ⟨o.dst, o.op, none⟩
    | some (j, want) => match (ops[j]?).bind (·.dst) with
      | some d => some ⟨o.dst, o.op, some (d, want)⟩
      | none => none
def slims (n : Nat) (ops : Array Oper) : List Oper → Option (List Slim)
  | [] => some []
  | o :: r => match slim n ops o, slims n ops r with
    | some s, some l => some (s :: l)
    | _, _ => none
def putE (d : Option Nat) (v : Value) (E : Env) : Env := match d with | some t => (t, v) :: E | none => E
/-- One operation, under its guard. -/
def stepVC (P : Program) (s : Slim) (E : Env) (w : World) (K : Value → World → Prop) : Prop :=
  match s.guard with
  | none => opVC P E w K s.op
  | some (g, want) => match eget E g with
    | some (.bool b) => (match b == want with | true => opVC P E w K s.op | false => K undef w)
    | some (.tuple _) => K undef w
    | _ => False
def opsVC (P : Program) : List Slim → Env → World → (Env → World → Prop) → Prop
  | [], E, w, K => K E w
  | s :: r, E, w, K => stepVC P s E w fun v u => opsVC P r (putE s.dst v E) u K

/-- A guarded operation and what comes behind it: the walk stands here until the guard is known. -/
def grdVC (P : Program) (gv : Option Value) (want : Bool) (d : Option Nat) (op : Op) (r : List Slim) (E : Env) (w : World) (K : Env → World → Prop) : Prop :=
  match gv with
  | some (.bool b) => (match b == want with | true => opVC P E w (fun v u => opsVC P r (putE d v E) u K) op | false => opsVC P r (putE d undef E) w K)
  | some (.tuple _) => opsVC P r (putE d undef E) w K
  | _ => False
theorem opsVC_nil (P : Program) (E : Env) (w : World) (K : Env → World → Prop) : opsVC P [] E w K = K E w := (rfl)
theorem opsVC_un (P : Program) (d : Option Nat) (op : Op) (r : List Slim) (E : Env) (w : World) (K : Env → World → Prop) : opsVC P (⟨d, op, none⟩ :: r) E w K = opVC P E w (fun v u => opsVC P r (putE d v E) u K) op := (rfl)
theorem opsVC_gd (P : Program) (d : Option Nat) (op : Op) (g : Nat) (want : Bool) (r : List Slim) (E : Env) (w : World) (K : Env → World → Prop) : opsVC P (⟨d, op, some (g, want)⟩ :: r) E w K = grdVC P (eget E g) want d op r E w K := (rfl)
theorem grd_un (P : Program) (want : Bool) (d : Option Nat) (op : Op) (r : List Slim) (E : Env) (w : World) (K : Env → World → Prop) : grdVC P (some undef) want d op r E w K = opsVC P r (putE d undef E) w K := (rfl)
theorem grd_tt (P : Program) (d : Option Nat) (op : Op) (r : List Slim) (E : Env) (w : World) (K : Env → World → Prop) : grdVC P (some (.bool true)) true d op r E w K = opVC P E w (fun v u => opsVC P r (putE d v E) u K) op := (rfl)
theorem grd_ff (P : Program) (d : Option Nat) (op : Op) (r : List Slim) (E : Env) (w : World) (K : Env → World → Prop) : grdVC P (some (.bool false)) false d op r E w K = opVC P E w (fun v u => opsVC P r (putE d v E) u K) op := (rfl)
theorem grd_tf (P : Program) (d : Option Nat) (op : Op) (r : List Slim) (E : Env) (w : World) (K : Env → World → Prop) : grdVC P (some (.bool true)) false d op r E w K = opsVC P r (putE d undef E) w K := (rfl)
theorem grd_ft (P : Program) (d : Option Nat) (op : Op) (r : List Slim) (E : Env) (w : World) (K : Env → World → Prop) : grdVC P (some (.bool false)) true d op r E w K = opsVC P r (putE d undef E) w K := (rfl)
/-- A guard that is not known: both. -/
theorem grd_split {P : Program} {d : Option Nat} {op : Op} {r : List Slim} {E : Env} {w : World} {K : Env → World → Prop} {b want : Bool}
    (ht : b = true → grdVC P (some (.bool b)) want d op r E w K) (hf : b = false → grdVC P (some (.bool b)) want d op r E w K) : grdVC P (some (.bool b)) want d op r E w K := by
  cases h : b with
  | true => subst h; exact ht rfl
  | false => subst h; exact hf rfl

theorem Fits.put {n : Nat} {E : Env} {a : Act} (h : Fits n E a) {d : Option Nat} (hd : d.any (fun d => !Nat.blt d n) = false) (v : Value) : Fits n (putE d v E) (a.put d v) := by
  cases d with
  | none => exact h
  | some t =>
    have ht : t < n := by simpa using hd
    refine ⟨by simp [Act.put, h.1], h.2.1, fun t' v' hv => ?_⟩
    simp only [putE, eget] at hv
    by_cases hk : t = t'
    · subst hk
      simp at hv
      simp [Act.put, hv, h.1, ht]
    · have : (t == t') = false := by simpa using hk
      simp only [this] at hv
      have := h.2.2 t' v' hv
      simp [Act.put, hk, this]
theorem Fits.defers {n : Nat} {E : Env} {a : Act} (h : Fits n E a) : a.defers = [] := h.2.1

theorem execOp_slim (ρ : Operand → Value) (o : Oper) : execOp ρ o = execOp ρ ⟨none, o.op, o.type, "", #[], none⟩ := by
  cases o with
  | mk dst op type pos after guard => cases op <;> rfl
/-- The operation in its frame. -/
theorem oper_wp {n : Nat} {E : Env} {a : Act} {w w' : World} {o : Oper} {K : Value → World → Prop} {next : Act → World → Prop} {Q : Exit → Act → World → Prop}
    (hf : Fits n E a) (k : Weq w w') (h : opVC P E w K o.op) (hn : ∀ v u w'', Weq u w'' → K v u → next (a.put o.dst v) w'') : o.wp P a w' next Q := by
  have hs := op_sound (ty := o.type) h hf.agrees k
  unfold Oper.wp
  rw [execOp_slim]
  rcases hs with ⟨v, w'', hr, u, hu, hK⟩ | ⟨w'', hr, u, hu, hK⟩ | ⟨f, args, w'', hr, hc⟩
  · rw [hr]; exact hn v u w'' hu hK
  · rw [hr]; exact hn _ u w'' hu hK
  · rw [hr]
    refine Calls.mono hc fun e w3 ⟨v, he, u, hu, hK⟩ => ?_
    subst he
    exact hn v u w3 hu hK
theorem wanted_spec {n : Nat} {E : Env} {a : Act} (hf : Fits n E a) {ops : Array Oper} {o : Oper} {s : Slim} (hs : slim n ops o = some s) :
    s.dst = o.dst ∧ s.op = o.op ∧ o.dst.any (fun d => !Nat.blt d n) = false ∧
    (s.guard = none ∧ Region.wanted o (yielded ops a.tmps) = true ∨
     ∃ g want, s.guard = some (g, want) ∧ (∀ b, eget E g = some (.bool b) → Region.wanted o (yielded ops a.tmps) = (b == want)) ∧ ∀ vs, eget E g = some (.tuple vs) → Region.wanted o (yielded ops a.tmps) = false) := by
  unfold slim at hs
  split at hs
  · cases hs
  · rename_i hd
    split at hs
    · rename_i hg
      cases hs
      exact ⟨rfl, rfl, hd, .inl ⟨rfl, by simp [Region.wanted, hg]⟩⟩
    · rename_i j want hg
      split at hs
      · rename_i d hj
        cases hs
        refine ⟨rfl, rfl, hd, .inr ⟨d, want, rfl, fun b hb => ?_, fun vs hb => ?_⟩⟩
        · have := hf.2.2 d _ hb
          simp only [Region.wanted, hg, yielded, hj, Option.bind_some, this]
          cases b <;> cases want <;> rfl
        · have := hf.2.2 d _ hb
          simp only [Region.wanted, hg, yielded, hj, Option.bind_some, this]
          cases want <;> rfl
      · cases hs
theorem ops_sound {n : Nat} {ops : Array Oper} {Q : Exit → Act → World → Prop} {K : Env → World → Prop}
    (hK : ∀ E a w w', Fits n E a → Weq w w' → K E w → Q .normal a w') : ∀ (l : List Oper) (sl : List Slim), slims n ops l = some sl →
    ∀ (E : Env) (a : Act) (w w' : World), Fits n E a → Weq w w' → opsVC P sl E w K → wpList P ops Q l a w'
  | [], sl, hs, E, a, w, w', hf, k, h => by
    simp [slims] at hs; subst hs
    exact hK E a w w' hf k h
  | o :: r, sl, hs, E, a, w, w', hf, k, h => by
    simp only [slims] at hs
    split at hs
    · rename_i s l h1 h2
      cases hs
      obtain ⟨hd, ho, hb, hw⟩ := wanted_spec hf h1
      have go : (opVC P E w (fun v u => opsVC P l (putE s.dst v E) u K) s.op) → o.wp P a w' (wpList P ops Q r) Q := fun hv => by
        rw [ho] at hv
        refine oper_wp hf k hv fun v u w'' hu hh => ?_
        rw [hd] at hh
        exact ops_sound hK r l h2 _ _ u w'' (hf.put hb v) hu hh
      unfold wpList
      unfold opsVC stepVC at h
      rcases hw with ⟨hg, hwt⟩ | ⟨g, want, hg, hwt, hwu⟩
      · rw [if_pos hwt]
        rw [hg] at h
        exact .inl (go h)
      · rw [hg] at h
        dsimp only at h
        split at h
        · rename_i b hb'
          have := hwt b hb'
          split at h
          · rename_i hbw
            rw [if_pos (by rw [this]; exact hbw)]
            exact .inl (go h)
          · rename_i hbw
            rw [if_neg (by rw [this, hbw]; simp)]
            rw [hd] at h
            exact ops_sound hK r l h2 _ _ w w' (hf.put hb undef) k h
        · rename_i vs hb'
          rw [if_neg (by rw [hwu vs hb']; simp)]
          rw [hd] at h
          exact ops_sound hK r l h2 _ _ w w' (hf.put hb undef) k h
        · exact h.elim
    · cases hs

/-! ### Statements -/
def Post (n : Nat) (Q : Exit → Env → World → Prop) : Exit → Act → World → Prop := fun e a w => ∃ E u, Fits n E a ∧ Weq u w ∧ Q e E u
def thenE (k : Env → World → Prop) (Q : Exit → Env → World → Prop) : Exit → Env → World → Prop
  | .normal, E, w => k E w
  | e, E, w => Q e E w
def HoldsC (P : Program) (n : Nat) (c : Code) (Q : Exit → Env → World → Prop) (E : Env) (w : World) : Prop :=
  ∀ a w', Fits n E a → Weq w w' → c.wp P (Post n Q) a w'
/-- From this frame and world the statements end in 'Q'. -/
def Holds (P : Program) (n : Nat) : List Code → (Exit → Env → World → Prop) → Env → World → Prop
  | [], Q, E, w => Q .normal E w
  | c :: cs, Q, E, w => HoldsC P n c (thenE (Holds P n cs Q) Q) E w

variable {n : Nat} {cs : List Code} {Q : Exit → Env → World → Prop} {E : Env} {w : World}
theorem thenE_normal {k : Env → World → Prop} (h : k E w) : thenE k Q .normal E w := h
theorem holds_cons {c : Code} (h : ∀ a w', Fits n E a → Weq w w' → c.wp P (Post n (thenE (Holds P n cs Q) Q)) a w') : Holds P n (c :: cs) Q E w := h
theorem H_nil (h : Q .normal E w) : Holds P n [] Q E w := h
theorem post_then {k : Env → World → Prop} {e : Exit} {a : Act} {w : World} (h : Post n (thenE k Q) e a w) (he : e ≠ .normal) : Post n Q e a w := by
  obtain ⟨E', u, hf, hu, hq⟩ := h
  cases e <;> first | exact absurd rfl he | exact ⟨E', u, hf, hu, hq⟩
/-- A statement, and what stands behind it: a join of the ways through it. -/
theorem H_cut {c : Code} (T : Env → World → Prop) (h1 : Holds P n [c] (thenE T Q) E w) (h2 : ∀ E w, T E w → Holds P n cs Q E w) : Holds P n (c :: cs) Q E w := by
  intro a w' hf k
  refine Code.wp_mono (fun e a₁ w₁ hq => ?_) (h1 a w' hf k)
  obtain ⟨E', u, h3, h4, h5⟩ := hq
  refine ⟨E', u, h3, h4, ?_⟩
  cases e <;> first | exact h2 _ _ h5 | exact h5
theorem H_seq {x y : Code} (h : Holds P n (x :: y :: cs) Q E w) : Holds P n (.seq x y :: cs) Q E w := by
  intro a w' hf k
  refine wp_seq (Code.wp_mono (fun e a₁ w₁ hq => ?_) (h a w' hf k))
  cases e with
  | normal =>
    obtain ⟨E', u, hf', hu, hh⟩ := hq
    exact hh a₁ w₁ hf' hu
  | _ =>
    obtain ⟨E', u, hf', hu, hh⟩ := hq
    exact ⟨E', u, hf', hu, hh⟩
theorem H_skip (h : Holds P n cs Q E w) : Holds P n (.skip :: cs) Q E w :=
  fun a w' hf k => wp_skip ⟨E, w, hf, k, h⟩
theorem H_exit {i : Nat} (h : Q (.exit i) E w) : Holds P n (.exit i :: cs) Q E w :=
  fun a w' hf k => wp_exit ⟨E, w, hf, k, h⟩
theorem H_ret (h : Q .ret E w) : Holds P n (.ret :: cs) Q E w :=
  fun a w' hf k => wp_ret ⟨E, w, hf, k, h⟩
def blockE (id : Nat) (k : Env → World → Prop) (Q : Exit → Env → World → Prop) : Exit → Env → World → Prop
  | .normal, E, w => k E w
  | .exit i, E, w => if i = id then k E w else Q (.exit i) E w
  | e, E, w => Q e E w
theorem H_block {id : Nat} {c : Code} (h : Holds P n [c] (blockE id (Holds P n cs Q) Q) E w) : Holds P n (.block id c :: cs) Q E w := by
  intro a w' hf k
  refine wp_block (Code.wp_mono (fun e a₁ w₁ hq => ?_) (h a w' hf k))
  obtain ⟨E', u, hf', hu, hh⟩ := hq
  cases e with
  | normal => exact ⟨E', u, hf', hu, hh⟩
  | exit i =>
    simp only [Exit.inBlock]
    simp only [thenE, blockE] at hh
    split
    · rename_i hi; rw [if_pos hi] at hh; exact ⟨E', u, hf', hu, hh⟩
    · rename_i hi; rw [if_neg hi] at hh; exact ⟨E', u, hf', hu, hh⟩
  | goto l => exact ⟨E', u, hf', hu, hh⟩
  | ret => exact ⟨E', u, hf', hu, hh⟩
  | panic c => exact ⟨E', u, hf', hu, hh⟩
  | outgrown => exact ⟨E', u, hf', hu, hh⟩
theorem B_normal {id : Nat} {k : Env → World → Prop} (h : k E w) : blockE id k Q .normal E w := h
theorem B_same {id : Nat} {k : Env → World → Prop} (h : k E w) : blockE id k Q (.exit id) E w := by simp only [blockE, if_true]; exact h
theorem B_other {id i : Nat} {k : Env → World → Prop} (hi : (i == id) = false) (h : Q (.exit i) E w) : blockE id k Q (.exit i) E w := by
  simp only [blockE]; rw [if_neg (by simpa using hi)]; exact h
theorem B_ret {id : Nat} {k : Env → World → Prop} (h : Q .ret E w) : blockE id k Q .ret E w := h

theorem H_cond {c : Operand} {x y : Code} {b : Bool} (hc : eval E c = some (.bool b)) (ht : b = true → Holds P n (x :: cs) Q E w) (hf : b = false → Holds P n (y :: cs) Q E w) :
    Holds P n (.cond c x y :: cs) Q E w := by
  intro a w' hfit k
  refine wp_cond_split (t := b) (hfit.agrees c _ hc) (fun h => ht h a w' hfit k) (fun h => hf h a w' hfit k)
theorem H_condT {c : Operand} {x y : Code} {b : Bool} (hc : eval E c = some (.bool b)) (hb : b = true) (h : Holds P n (x :: cs) Q E w) : Holds P n (.cond c x y :: cs) Q E w :=
  H_cond hc (fun _ => h) (fun h' => by rw [hb] at h'; cases h')
theorem H_condF {c : Operand} {x y : Code} {b : Bool} (hc : eval E c = some (.bool b)) (hb : b = false) (h : Holds P n (y :: cs) Q E w) : Holds P n (.cond c x y :: cs) Q E w :=
  H_cond hc (fun h' => by rw [hb] at h'; cases h') (fun _ => h)

/-- The slots of V hold in E what V says. -/
def hasE (E : Env) : Env → Prop
  | [] => True
  | (t, v) :: r => eget E t = some v ∧ hasE E r
theorem hasE_get {E : Env} : ∀ {V : Env}, hasE E V → ∀ t v, eget V t = some v → eget E t = some v
  | [], _, t, v, h => by cases h
  | (s, u) :: r, hh, t, v, h => by
    simp only [eget] at h
    by_cases hs : s = t
    · subst hs; simp at h; rw [← h]; exact hh.1
    · have : (s == t) = false := by simpa using hs
      simp only [this] at h
      exact hasE_get hh.2 t v h
theorem Fits.sub {E V : Env} {a : Act} (h : Fits n E a) (hv : hasE E V) : Fits n V a := ⟨h.1, h.2.1, fun t v ht => h.2.2 t v (hasE_get hv t v ht)⟩
theorem H_sub {c : Code} {V : Env} (hv : hasE E V) (h : Holds P n (c :: cs) Q V w) : Holds P n (c :: cs) Q E w := fun a w' hf k => h a w' (hf.sub hv) k

def loopE (I : Env → World → Prop) (Q : Exit → Env → World → Prop) : Exit → Env → World → Prop
  | .normal, E, w => I E w
  | e, E, w => Q e E w
theorem L_normal {I : Env → World → Prop} (h : I E w) : loopE I Q .normal E w := h
theorem L_exit {I : Env → World → Prop} {i : Nat} (h : Q (.exit i) E w) : loopE I Q (.exit i) E w := h
theorem L_ret {I : Env → World → Prop} (h : Q .ret E w) : loopE I Q .ret E w := h
/-- A loop: 'vars x': what the slots hold in state x; 'I x': what else holds there; 'm': what every round lowers. -/
theorem H_loop {α : Type} (vars : α → Env) (I : α → World → Prop) (m : α → Nat) (x₀ : α) {c : Code} (hv : hasE E (vars x₀)) (h₀ : I x₀ w)
    (round : ∀ x w, I x w → Holds P n [c] (loopE (fun E' w' => ∃ x', hasE E' (vars x') ∧ I x' w' ∧ m x' < m x) Q) (vars x) w) : Holds P n (.loop c :: cs) Q E w := by
  intro a w' hf k
  refine Code.wp_mono (Q := Post n (fun e E w => e ≠ .normal ∧ Q e E w)) ?_ ?_
  · rintro e a₁ w₁ ⟨E', u, h1, h2, h3, h4⟩
    refine ⟨E', u, h1, h2, ?_⟩
    cases e <;> first | exact absurd rfl h3 | exact h4
  -- the state of the act, chosen
  have key : ∀ (j : Nat) (x : α) (a : Act) (w w' : World), m x = j → Fits n (vars x) a → Weq w w' → I x w →
      ∀ (b : Frame) (kk : List Item) (cs' : List Frame), ∃ e a' w₁, Post n (fun e E w => e ≠ .normal ∧ Q e E w) e a' w₁ ∧
        Arrives P (lone (b.at a (.code c :: .inLoop c :: kk)) cs' w') b kk cs' e a' w₁ := by
    intro j
    induction j using Nat.strongRecOn with
    | _ j ih =>
      intro x a w w' hj hf k hI b kk cs'
      obtain ⟨e, a₁, w₁, hq, harr⟩ := round x w hI a w' hf k b (.inLoop c :: kk) cs'
      cases e with
      | normal =>
        obtain ⟨E₁, u, hf₁, hu, x', hx', hI', hm⟩ := hq
        obtain ⟨e₂, a₂, w₂, hq₂, harr₂⟩ := ih (m x') (hj ▸ hm) x' a₁ u w₁ rfl (hf₁.sub hx') hu hI' b kk cs'
        exact ⟨e₂, a₂, w₂, hq₂, .of_steps (Steps.trans harr (.one step_inLoop)) harr₂⟩
      | exit i =>
        obtain ⟨E₁, u, hf₁, hu, hh⟩ := hq
        exact ⟨.exit i, a₁, w₁, ⟨E₁, u, hf₁, hu, by simp, hh⟩, .pass (x := .inLoop c) rfl (fun _ _ => .inl (by simp)) harr⟩
      | goto l =>
        obtain ⟨E₁, u, hf₁, hu, hh⟩ := hq
        exact ⟨.goto l, a₁, w₁, ⟨E₁, u, hf₁, hu, by simp, hh⟩, .pass (x := .inLoop c) rfl (fun _ _ => .inl (by simp)) harr⟩
      | ret =>
        obtain ⟨E₁, u, hf₁, hu, hh⟩ := hq
        exact ⟨.ret, a₁, w₁, ⟨E₁, u, hf₁, hu, by simp, hh⟩, .pass (x := .inLoop c) rfl (fun _ _ => .inl (by simp)) harr⟩
      | panic ch =>
        obtain ⟨E₁, u, hf₁, hu, hh⟩ := hq
        exact ⟨.panic ch, a₁, w₁, ⟨E₁, u, hf₁, hu, by simp, hh⟩, .pass (x := .inLoop c) rfl (fun _ _ => .inl (by simp)) harr⟩
      | outgrown =>
        obtain ⟨E₁, u, hf₁, hu, hh⟩ := hq
        exact ⟨.outgrown, a₁, w₁, ⟨E₁, u, hf₁, hu, by simp, hh⟩, .pass (x := .inLoop c) rfl (fun _ _ => .inl (by simp)) harr⟩
  intro b kk cs'
  obtain ⟨e, a', w₁, hq, harr⟩ := key _ x₀ a w w' rfl (hf.sub hv) k h₀ b kk cs'
  exact ⟨e, a', w₁, hq, .of_steps (.one step_loop) harr⟩

/-- What is still known of the frame: these slots. -/
def keepE : List Nat → Env → Env
  | [], _ => []
  | t :: r, E => match eget E t with
    | some v => (t, v) :: keepE r E
    | none => keepE r E
theorem hasE_keep (E : Env) : ∀ ks, hasE E (keepE ks E)
  | [] => trivial
  | t :: r => by
    simp only [keepE]
    split
    · rename_i v hv; exact ⟨hv, hasE_keep E r⟩
    · exact hasE_keep E r
/-- A region in the order of the text. ks: the slots that are still wanted behind it. -/
theorem H_region {id : Nat} {ops : Array Oper} (ks : List Nat) (sl : List Slim) (hs : slims n ops ops.toList = some sl)
    (h : ∀ K : Env → World → Prop, (∀ E w, Holds P n cs Q E w → K E w) → opsVC P sl E w fun E' w' => K (keepE ks E') w') : Holds P n (.region id ops false :: cs) Q E w := by
  intro a w' hf k
  have h := h (fun E w => Holds P n cs Q E w) (fun _ _ q => q)
  refine wp_region_list (ops_sound (K := fun E' w' => Holds P n cs Q (keepE ks E') w') (fun E' a₁ w₁ w₂ hf₁ k₁ hh => ?_) _ sl hs E a w w' hf k h)
  exact ⟨keepE ks E', w₁, hf₁.sub (hasE_keep E' ks), k₁, hh⟩

/-! ### Into a function, and out of it -/
def resE (P : Program) (E : Env) (w : World) : List ResultVar → (List Value → Prop) → Prop
  | [], k => k []
  | .tmp t :: r, k => match eget E t with
    | some v => resE P E w r fun vs => k (v :: vs)
    | none => False
  | .cell t ty :: r, k => match eget E t with
    | some (.pointer (some a)) => ∃ v, loadW P w ty a = some v ∧ resE P E w r fun vs => k (v :: vs)
    | _ => False
def ret1 : List Value → Value
  | [v] => v
  | vs => .tuple vs.toArray
def finE (P : Program) (rs : List ResultVar) (R : Value → World → Prop) : Exit → Env → World → Prop
  | .normal, E, w | .ret, E, w => resE P E w rs fun vs => R (ret1 vs) w
  | _, _, _ => False
theorem F_ret {rs : List ResultVar} {R : Value → World → Prop} (h : resE P E w rs fun vs => R (ret1 vs) w) : finE P rs R .ret E w := h
theorem F_normal {rs : List ResultVar} {R : Value → World → Prop} (h : resE P E w rs fun vs => R (ret1 vs) w) : finE P rs R .normal E w := h
def argE : Nat → List Value → Env
  | _, [] => []
  | i, v :: r => (i, v) :: argE (i + 1) r
def resV (a : Act) : ResultVar → Sem Value
  | .tmp t => pure (a.tmps.getD t undef)
  | .cell c t => do loadVar t (← asAddr (a.tmps.getD c undef))
theorem resE_run {w w' : World} {a : Act} (hf : Fits n E a) (k : Weq w w') : ∀ (rs : List ResultVar) (kk : List Value → Prop), resE P E w rs kk →
    ∃ vs, (rs.mapM (resV a) : Sem (List Value)).run P w' = .ok vs w' ∧ kk vs
  | [], kk, h => ⟨[], by simp, h⟩
  | .tmp t :: r, kk, h => by
    simp only [resE] at h
    split at h
    · rename_i v hv
      obtain ⟨vs, hr, hk⟩ := resE_run hf k r _ h
      refine ⟨v :: vs, ?_, hk⟩
      have hg : a.tmps.getD t undef = v := by rw [Array.getD_eq_getD_getElem?, hf.2.2 t v hv]; rfl
      simp only [List.mapM_cons, resV, Sem.run_bind, Sem.run_pure, Result.andThen_ok, hr, hg]
    · exact h.elim
  | .cell c t :: r, kk, h => by
    simp only [resE] at h
    split at h
    · rename_i ad hv
      obtain ⟨v, hl, h⟩ := h
      obtain ⟨vs, hr, hk⟩ := resE_run hf k r _ h
      refine ⟨v :: vs, ?_, hk⟩
      have hg : a.tmps.getD c undef = .pointer (some ad) := by rw [Array.getD_eq_getD_getElem?, hf.2.2 c _ hv]; rfl
      simp only [List.mapM_cons, resV, Sem.run_bind, Sem.run_pure, Result.andThen_ok, hr, hg, asAddr, loadW_run k hl]
    · exact h.elim
theorem results_run {fn : Func} {rs : List ResultVar} (hrs : fn.results = rs.toArray) {a : Act} {w w' : World} (hf : Fits n E a) (k : Weq w w') {R : Value → World → Prop}
    (h : resE P E w rs fun vs => R (ret1 vs) w) : ∃ v, (results fn a.tmps).run P w' = .ok v w' ∧ R v w := by
  obtain ⟨vs, hr, hR⟩ := resE_run hf k rs _ h
  refine ⟨ret1 vs, ?_, hR⟩
  have e : results fn a.tmps = (do let vs ← fn.results.mapM (resV a); pure (if h : vs.size = 1 then vs[0] else .tuple vs)) := rfl
  rw [e, hrs, List.mapM_toArray]
  simp only [Sem.run_bind, Sem.run_map, hr, Result.andThen_ok, Sem.run_pure]
  congr 1
  match vs with
  | [] => rfl
  | [v] => rfl
  | v :: v' :: r => rfl
theorem argE_get : ∀ (args : List Value) (i t : Nat) (v : Value), eget (argE i args) t = some v → i ≤ t ∧ args[t - i]? = some v
  | [], i, t, v, h => by cases h
  | u :: r, i, t, v, h => by
    simp only [argE, eget] at h
    by_cases hi : i = t
    · subst hi; simp at h; simp [h]
    · have : (i == t) = false := by simpa using hi
      simp only [this] at h
      obtain ⟨h1, h2⟩ := argE_get r (i + 1) t v h
      refine ⟨by omega, ?_⟩
      rw [show t - i = (t - (i + 1)) + 1 by omega]
      simpa using h2
/-- **The way into a function.** -/
theorem enter {f : FuncId} {fn : Func} {c : Code} (hf : P.funcs[f]? = some fn) (hb : fn.body = some c) {rs : List ResultVar} (hr : fn.results = rs.toArray) (hn : fn.ntmps = n)
    {args : List Value} (ha : Nat.ble args.length n = true) {R : Value → World → Prop} (h : Holds P n [c] (finE P rs R) (argE 0 args) w) : CallsE P f args w R := by
  refine callsE_mk fun w' k => ?_
  have hle : args.length ≤ n := Nat.le_of_ble_eq_true ha
  refine calls_of_wp hf hb ?_
  have hfit : Fits n (argE 0 args) { tmps := args.toArray ++ Array.replicate (fn.ntmps - args.toArray.size) undef, defers := [] } := by
    refine ⟨by simp [hn]; omega, rfl, fun t v ht => ?_⟩
    obtain ⟨_, h2⟩ := argE_get args 0 t v ht
    simp only [Nat.sub_zero] at h2
    have hl := (List.getElem?_eq_some_iff.1 h2).1
    rw [Array.getElem?_append_left (by simpa using hl)]
    simpa using h2
  refine Code.wp_mono (fun e a₁ w₁ hq => ?_) (h _ w' hfit k)
  obtain ⟨E', u, hf', hu, hh⟩ := hq
  have fin : resE P E' u rs (fun vs => R (ret1 vs) u) → a₁.defers = [] ∧ ∃ v, (results fn a₁.tmps).run P w₁ = .ok v w₁ ∧ ∃ v' u', Ending.returned v = .returned v' ∧ Weq u' w₁ ∧ R v' u' := fun hres => by
    obtain ⟨v, hv, hR⟩ := results_run hr hf' hu hres
    exact ⟨hf'.defers, v, hv, v, u, rfl, hu, hR⟩
  cases e with
  | normal => exact fin hh
  | ret => exact fin hh
  | exit i => exact (show False from hh).elim
  | goto l => exact (show False from hh).elim
  | panic ch => exact (show False from hh).elim
  | outgrown => exact (show False from hh).elim
end
/-- What is known may be let go. -/
theorem H_weak {P : Program} {n : Nat} {c : Code} {cs : List Code} {Q : Exit → Env → World → Prop} {E : Env} {w : World} (E' : Env) (hv : hasE E E') (h : Holds P n (c :: cs) Q E' w) : Holds P n (c :: cs) Q E w := by
  intro a w' hf k
  exact h a w' (hf.sub hv) k
attribute [irreducible] Holds HoldsC blockE loopE finE thenE
end Go.Proofs.Ytlffbjchcknmfaa

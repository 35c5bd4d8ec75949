/- The engine, part 7: regions that draw their order: a plan of the walk; what need not hang on the order is taken first. -/
import Derived.Test.YtlffbjchcknmfaaE6
namespace Go.Proofs.Ytlffbjchcknmfaa
open Go
set_option linter.unusedVariables false
set_option linter.unusedSimpArgs false

/-- How a region that draws its order is walked: 'take': an operation that yields the same whenever it comes up; 'eff': one that comes up now (f: some load that was taken may come behind it); 'both': any of these may come up. -/
inductive Plan where
  | nil
  | take (i : Nat) (p : Plan)
  | eff (i : Nat) (f : Bool) (p : Plan)
  | both (p q : Plan)
def getS : List Slim → Nat → Option Slim
  | [], _ => none
  | s :: _, 0 => some s
  | _ :: r, i + 1 => getS r i
/-- An operation that yields the same whenever it comes up: no memory is asked, or only such as nothing in the region turns ('G': what may turn). -/
def quietVC (P : Program) (G : Nat → Prop) (E : Env) (w : World) (k : Value → Prop) : Op → Prop
  | .load t a => ev E a fun v => match v with | .pointer (some a) => (match loadW P w t a with | some x => ¬ G a.block ∧ k x | none => False) | _ => False
  | op => pureVC P E k op
def gdV (want : Bool) : Option Value → Option Bool
  | some (.bool b) => some (b == want)
  | some (.tuple _) => some false
  | _ => none
theorem gdV_bool (want b : Bool) : gdV want (some (.bool b)) = some (b == want) := (rfl)
theorem gdV_undef (want : Bool) : gdV want (some undef) = some false := (rfl)
def guardS (E : Env) (s : Slim) : Option Bool :=
  match s.guard with
  | none => some true
  | some (g, want) => gdV want (eget E g)
def flagFr (f : Bool) (G : Nat → Prop) (w u : World) : Prop := match f with | true => Fr G w u | false => True
def planVC (P : Program) (sl : List Slim) (G : Nat → Prop) (w₀ : World) : Plan → Env → World → (Env → World → Prop) → Prop
  | .nil, E, w, K => K E w
  | .take i p, E, w, K => match getS sl i with
    | some s => match guardS E s with
      | some true => quietVC P G E w₀ (fun v => planVC P sl G w₀ p (putE s.dst v E) w K) s.op
      | some false => planVC P sl G w₀ p (putE s.dst undef E) w K
      | none => False
    | none => False
  | .eff i f p, E, w, K => match getS sl i with
    | some s => match guardS E s with
      | some true => opVC P E w (fun v u => flagFr f G w u ∧ planVC P sl G w₀ p (putE s.dst v E) u K) s.op
      | some false => planVC P sl G w₀ p (putE s.dst undef E) w K
      | none => False
    | none => False
  | .both p q, E, w, K => planVC P sl G w₀ p E w K ∧ planVC P sl G w₀ q E w K

/-- What is taken, or comes up, under a guard: the walk stands here until the guard is known. -/
def gvOf (E : Env) : Option Slim → Option Bool
  | some s => guardS E s
  | none => none
def tkVC (P : Program) (sl : List Slim) (G : Nat → Prop) (w₀ : World) (p : Plan) (E : Env) (w : World) (K : Env → World → Prop) (s : Option Slim) (g : Option Bool) : Prop :=
  match s with
  | some s => match g with
    | some true => quietVC P G E w₀ (fun v => planVC P sl G w₀ p (putE s.dst v E) w K) s.op
    | some false => planVC P sl G w₀ p (putE s.dst undef E) w K
    | none => False
  | none => False
def efVC (P : Program) (sl : List Slim) (G : Nat → Prop) (w₀ : World) (p : Plan) (f : Bool) (E : Env) (w : World) (K : Env → World → Prop) (s : Option Slim) (g : Option Bool) : Prop :=
  match s with
  | some s => match g with
    | some true => opVC P E w (fun v u => flagFr f G w u ∧ planVC P sl G w₀ p (putE s.dst v E) u K) s.op
    | some false => planVC P sl G w₀ p (putE s.dst undef E) w K
    | none => False
  | none => False
section
variable (P : Program) (sl : List Slim) (G : Nat → Prop) (w₀ : World) (p q : Plan) (f : Bool) (i : Nat) (E : Env) (w : World) (K : Env → World → Prop) (s : Slim)
theorem planVC_nil : planVC P sl G w₀ .nil E w K = K E w := (rfl)
theorem planVC_take : planVC P sl G w₀ (.take i p) E w K = tkVC P sl G w₀ p E w K (getS sl i) (gvOf E (getS sl i)) := by
  simp only [planVC, tkVC, gvOf]
  cases getS sl i <;> rfl
theorem planVC_eff : planVC P sl G w₀ (.eff i f p) E w K = efVC P sl G w₀ p f E w K (getS sl i) (gvOf E (getS sl i)) := by
  simp only [planVC, efVC, gvOf]
  cases getS sl i <;> rfl
theorem planVC_both : planVC P sl G w₀ (.both p q) E w K = (planVC P sl G w₀ p E w K ∧ planVC P sl G w₀ q E w K) := (rfl)
theorem tk_t : tkVC P sl G w₀ p E w K (some s) (some true) = quietVC P G E w₀ (fun v => planVC P sl G w₀ p (putE s.dst v E) w K) s.op := (rfl)
theorem tk_f : tkVC P sl G w₀ p E w K (some s) (some false) = planVC P sl G w₀ p (putE s.dst undef E) w K := (rfl)
theorem ef_t : efVC P sl G w₀ p f E w K (some s) (some true) = opVC P E w (fun v u => flagFr f G w u ∧ planVC P sl G w₀ p (putE s.dst v E) u K) s.op := (rfl)
theorem ef_f : efVC P sl G w₀ p f E w K (some s) (some false) = planVC P sl G w₀ p (putE s.dst undef E) w K := (rfl)
end
theorem tk_split {P : Program} {sl : List Slim} {G : Nat → Prop} {w₀ : World} {p : Plan} {E : Env} {w : World} {K : Env → World → Prop} {s : Option Slim} {b : Bool}
    (ht : b = true → tkVC P sl G w₀ p E w K s (some b)) (hf : b = false → tkVC P sl G w₀ p E w K s (some b)) : tkVC P sl G w₀ p E w K s (some b) := by
  cases h : b with
  | true => subst h; exact ht rfl
  | false => subst h; exact hf rfl
theorem ef_split {P : Program} {sl : List Slim} {G : Nat → Prop} {w₀ : World} {p : Plan} {f : Bool} {E : Env} {w : World} {K : Env → World → Prop} {s : Option Slim} {b : Bool}
    (ht : b = true → efVC P sl G w₀ p f E w K s (some b)) (hf : b = false → efVC P sl G w₀ p f E w K s (some b)) : efVC P sl G w₀ p f E w K s (some b) := by
  cases h : b with
  | true => subst h; exact ht rfl
  | false => subst h; exact hf rfl

def Plan.heads : Plan → List Nat
  | .eff i _ _ => [i]
  | .both p q => p.heads ++ q.heads
  | _ => []
def isLoad : Op → Bool
  | .load _ _ => true
  | _ => false
/-- Does number j wait for number i? -/
def ancB (ops : Array Oper) (i : Nat) : Nat → Nat → Bool
  | 0, _ => false
  | f + 1, j => match ops[j]? with
    | some o => o.after.toList.any fun e => Region.binds .any e && (e.on == i || ancB ops i f e.on)
    | none => false
def Plan.taken : Plan → List Nat
  | .nil => []
  | .take i p => i :: p.taken
  | .eff _ _ p => p.taken
  | .both p q => p.taken ++ q.taken
def Plan.flags : Plan → List Nat
  | .nil => []
  | .take _ p => p.flags
  | .eff i f p => match f with | true => i :: p.flags | false => p.flags
  | .both p q => p.flags ++ q.flags
def loadAt (ops : Array Oper) (i : Nat) : Bool := match ops[i]? with | some o => isLoad o.op | none => false
/-- The plan leaves no order out. qt: what is taken; fl: what may come up ahead of a load that is taken. -/
def Plan.ok (ops : Array Oper) (qt fl : List Nat) : Nat → Bool → Array Bool → Plan → Bool
  | 0, br, listed, p => match p with
    | .nil => !br && (Region.ready .any ops listed).isEmpty
    | _ => false
  | f + 1, br, listed, p => match p with
    | .nil => !br && (Region.ready .any ops listed).isEmpty
    | .take i q => !br && (Region.ready .any ops listed).contains i && Region.free .any ops listed i && qt.contains i && !fl.contains i &&
        Plan.ok ops qt fl f false (listed.setIfInBounds i true) q
    | .eff i g q => (br || (Region.ready .any ops listed).all (fun j => j == i)) && (Region.ready .any ops listed).contains i && (g == fl.contains i) && !qt.contains i &&
        Plan.ok ops qt fl f false (listed.setIfInBounds i true) q
    | .both p q => (br || ((Region.ready .any ops listed).all (fun j => (p.heads ++ q.heads).contains j) && !(Region.ready .any ops listed).isEmpty)) && Plan.ok ops qt fl f true listed p && Plan.ok ops qt fl f true listed q
/-- .. and the loads that are taken are ahead of all that neither is taken nor is in 'fl'. -/
def Plan.chk (ops : Array Oper) (p : Plan) : Bool :=
  Region.noSelect ops && (p.taken.all fun i => !loadAt ops i || (List.range ops.size).all fun j => j == i || p.flags.contains j || p.taken.contains j || ancB ops i ops.size j) &&
    Plan.ok ops p.taken p.flags (3 * ops.size + 3) false (Array.replicate ops.size false) p

section
variable {P : Program} {ops : Array Oper} {Q : Exit → Act → World → Prop} {S T : World → Prop} {fl qt : List Nat}

def Closed (ops : Array Oper) (listed : Array Bool) : Prop := ∀ j o, ops[j]? = some o → listed.getD j false = true → ∀ e ∈ o.after, Region.binds .any e = true → listed.getD e.on false = true
theorem Closed.start : Closed ops (Array.replicate ops.size false) := by
  intro j o hj h
  rw [Array.getD_eq_getD_getElem?] at h
  by_cases hlt : j < ops.size
  · simp [hlt] at h
  · simp [hlt] at h
theorem Closed.add {listed : Array Bool} (h : Closed ops listed) {i : Nat} (hi : i ∈ Region.ready .any ops listed) : Closed ops (listed.setIfInBounds i true) := by
  intro j o hj hl e he hb
  refine getD_set_true ?_
  by_cases hji : i = j
  · subst hji
    obtain ⟨_, o', ho', hall⟩ := mem_ready.1 hi
    rw [hj] at ho'; cases ho'
    exact hall e he hb
  · rw [getD_set_ne false hji] at hl
    exact h j o hj hl e he hb
theorem anc_listed {listed : Array Bool} (hc : Closed ops listed) {i : Nat} : ∀ (f j : Nat), ancB ops i f j = true → (∀ o, ops[j]? = some o → ∀ e ∈ o.after, Region.binds .any e = true → listed.getD e.on false = true) → listed.getD i false = true
  | 0, j, h, _ => by simp [ancB] at h
  | f + 1, j, h, hd => by
    simp only [ancB] at h
    cases ho : ops[j]? with
    | none => simp [ho] at h
    | some o =>
      simp only [ho, List.any_eq_true, Bool.and_eq_true, Bool.or_eq_true, beq_iff_eq] at h
      obtain ⟨e, he, hb, h⟩ := h
      have he' := hd o ho e (by simpa using he) hb
      rcases h with h | h
      · rw [← h]; exact he'
      · exact anc_listed hc f e.on h fun o' ho' e' hm hb' => hc e.on o' ho' he' e' hm hb'

/-- Whatever order is picked from here on; behind what is in 'fl', S holds; what is in 'qt' leaves the world as it is. -/
def wpAnyF (P : Program) (ops : Array Oper) (Q : Exit → Act → World → Prop) (S : World → Prop) (fl qt : List Nat) : Nat → Array Bool → Act → World → Prop
  | 0, listed, a, w => Region.ready .any ops listed = [] ∧ Q .normal a w
  | fuel + 1, listed, a, w =>
    (Region.ready .any ops listed = [] → Q .normal a w) ∧
    ∀ i ∈ Region.ready .any ops listed, wpOp P ops Q i (fun a' w' => ((fl.contains i = true → S w → S w') ∧ (qt.contains i = true → w' = w)) ∧ wpAnyF P ops Q S fl qt fuel (listed.setIfInBounds i true) a' w') a w
theorem wpAny_of_F : ∀ (fuel : Nat) (listed : Array Bool) (a : Act) (w : World), wpAnyF P ops Q S fl qt fuel listed a w → wpAny P .any ops Q fuel listed a w
  | 0, _, _, _, h => h
  | fuel + 1, _, _, _, h => ⟨h.1, fun i hi => wpOp_mono (fun a' w' h' => wpAny_of_F fuel _ a' w' h'.2) (h.2 i hi)⟩
theorem wpAnyF_done {listed : Array Bool} {a : Act} {w : World} (hr : Region.ready .any ops listed = []) (h : Q .normal a w) : ∀ fuel, wpAnyF P ops Q S fl qt fuel listed a w
  | 0 => ⟨hr, h⟩
  | _ + 1 => ⟨fun _ => h, by rw [hr]; simp⟩
/-- What may come up now and yields the same in every world that meets T may be taken first. -/
theorem wpAnyF_first {i : Nat} {oi : Oper} {v : Value} (hi : ops[i]? = some oi) (hsel : Region.noSelect ops = true)
    (hQ : ∀ c a w, Q (.panic c) (a.put oi.dst v) w → Q (.panic c) a w) (hfi : fl.contains i = false)
    (hT : ∀ (listed : Array Bool) (j : Nat), Closed ops listed → listed.getD i true = false → j ≠ i → j ∈ Region.ready .any ops listed →
      ∀ w w', T w → (fl.contains j = true → S w → S w') → (qt.contains j = true → w' = w) → T w') :
    ∀ (fuel : Nat) (listed : Array Bool) (a : Act) (w : World), Closed ops listed →
      (∀ j oj, ops[j]? = some oj → j ≠ i → listed.getD j true = false → (∀ e ∈ oj.after, Region.binds .any e = true → e.on ≠ i) → oi.apart ops oj = true) →
      i ∈ Region.ready .any ops listed → YieldsIf P ops T oi v a → T w →
      wpAnyF P ops Q S fl qt fuel (listed.setIfInBounds i true) (a.put oi.dst v) w → wpAnyF P ops Q S fl qt (fuel + 1) listed a w := by
  have hfi' : ∀ w, fl.contains i = true → S w → S w := fun w _ h => h
  intro fuel
  induction fuel with
  | zero =>
    intro listed a w _ _ hr hy hS H
    refine ⟨fun h => (by rw [h] at hr; cases hr), fun j hj => ?_⟩
    by_cases hji : j = i
    · subst hji; exact hy.wpOp hi hS ⟨⟨hfi' w, fun _ => rfl⟩, H⟩
    · have := ready_mono hj hji
      rw [H.1] at this
      cases this
  | succ fuel ih =>
    intro listed a w hcl hfree hr hy hS H
    refine ⟨fun h => (by rw [h] at hr; cases hr), fun j hj => ?_⟩
    by_cases hji : j = i
    · subst hji; exact hy.wpOp hi hS ⟨⟨hfi' w, fun _ => rfl⟩, H⟩
    · have h1 := H.2 j (ready_mono hj hji)
      obtain ⟨hjun, oj, hoj, hall⟩ := mem_ready.1 hj
      have hiun : listed.getD i true = false := (mem_ready.1 hr).1
      have hnot : ∀ e ∈ oj.after, Region.binds .any e = true → e.on ≠ i := fun e he hb heq => by
        have h1 := hall e he hb
        have h0 := hiun
        rw [heq] at h1
        rcases Nat.lt_or_ge i listed.size with h' | h'
        · simp [h'] at h0 h1; rw [h0] at h1; cases h1
        · simp [Array.getElem?_eq_none h'] at h1
      have h2 := wpOp_putIf hoj (hfree j oj hoj hji hjun hnot) (fun cs b => Region.noSelect_spec hsel i oi cs b hi) (fun cs b => Region.noSelect_spec hsel j oj cs b hoj) hQ hy h1
      have hfree' : ∀ k ok, ops[k]? = some ok → k ≠ i → (listed.setIfInBounds j true).getD k true = false →
          (∀ e ∈ ok.after, Region.binds .any e = true → e.on ≠ i) → oi.apart ops ok = true := fun k ok hk hki hun hno => by
        refine hfree k ok hk hki ?_ hno
        by_cases hjk : j = k
        · subst hjk; exact hjun
        · rw [getD_set_ne true hjk] at hun; exact hun
      refine wpOp_mono (fun a' w' h3 => ⟨h3.2.1, ih (listed.setIfInBounds j true) a' w' (hcl.add hj) hfree' (ready_mono hr (Ne.symm hji)) h3.1
        (hT listed j hcl hiun hji hj w w' hS h3.2.1.1 h3.2.1.2) ?_⟩) h2
      rw [Array.setIfInBounds_comm _ _ hji]
      exact h3.2.2

/-! ### The plan's walk -/
theorem quiet_sound {G : Nat → Prop} {E : Env} {w₀ : World} {k : Value → Prop} {o : Oper} {ρ : Operand → Value} (h : quietVC P G E w₀ k o.op) (ha : Agrees E ρ) :
    ∃ v, k v ∧ ((isLoad o.op = false ∧ ∀ w, (execOp ρ o).run P w = .ok (.value v) w) ∨ ∀ w, (∃ u, Weq u w ∧ Fr G w₀ u) → (execOp ρ o).run P w = .ok (.value v) w) := by
  have pu : pureVC P E k o.op → isLoad o.op = false → ∃ v, k v ∧ ((isLoad o.op = false ∧ ∀ w, (execOp ρ o).run P w = .ok (.value v) w) ∨ ∀ w, (∃ u, Weq u w ∧ Fr G w₀ u) → (execOp ρ o).run P w = .ok (.value v) w) := fun h hl => by
    obtain ⟨v, hr, hk⟩ := pure_sound h ha
    exact ⟨v, hk, .inl ⟨hl, fun w => by rw [execOp_slim]; exact hr o.type w⟩⟩
  cases hop : o.op with
  | load t x =>
    rw [hop] at h
    replace h := ev_elim h ha
    split at h
    · rename_i a he
      split at h
      case h_2 => exact h.elim
      rename_i v hl
      obtain ⟨hg, hk⟩ := h
      refine ⟨v, hk, .inr fun w ⟨u, hu, hfr⟩ => ?_⟩
      have hlt : ∀ (n i : Nat), (∃ cs, cellsFrom w₀ a i n = some cs) → cellsFrom u a i n = cellsFrom w₀ a i n := by
        intro n
        induction n with
        | zero => intro i _; rfl
        | succ n ih =>
          rintro i ⟨cs, hc⟩
          simp only [cellsFrom] at hc ⊢
          cases hcell : w₀.cell? (a.add i) with
          | none => simp [hcell] at hc
          | some c =>
            have hb : (a.add i).block = a.block := by unfold Addr.add; split <;> rfl
            have := World.cell?_of_block (w := w₀) (w' := u) (a := a.add i) (hfr.same _ (World.block_lt_of_cell? _ _ hcell) (by rw [hb]; exact hg))
            simp only [hcell, Option.map_eq_some_iff] at hc
            obtain ⟨r, hr, _⟩ := hc
            simp only [this, hcell, ih (i + 1) ⟨r, hr⟩]
      have hl' : loadW P u t a = some v := by
        unfold loadW at hl ⊢
        cases ht : tagg P t with
        | none => simp [ht] at hl
        | some b =>
          cases b with
          | false =>
            simp only [ht] at hl ⊢
            have := World.cell?_of_block (w := w₀) (w' := u) (a := a) (hfr.same _ (World.block_lt_of_cell? _ _ hl) hg)
            rw [this]; exact hl
          | true =>
            simp only [ht] at hl ⊢
            cases hn : tsz P t with
            | none => simp [hn] at hl
            | some n =>
              simp only [hn, Option.map_eq_some_iff] at hl ⊢
              obtain ⟨cs, hcs, hv⟩ := hl
              exact ⟨cs, by rw [hlt n 0 ⟨cs, hcs⟩]; exact hcs, hv⟩
      rw [execOp_slim, hop]
      simp [execOp, Instr.loadAt, Instr.sureAddr, he, loadW_run hu hl']
    · exact h.elim
  | _ => rw [hop] at h; have := pu (by rw [hop]; exact h) (by rw [hop]; rfl); rw [hop] at this; exact this

theorem getS_slims {n : Nat} : ∀ (l : List Oper) (sl : List Slim) (i : Nat) (s : Slim), slims n ops l = some sl → getS sl i = some s → ∃ o, l[i]? = some o ∧ slim n ops o = some s
  | [], sl, i, s, hs, hg => by simp [slims] at hs; subst hs; cases hg
  | o :: r, sl, i, s, hs, hg => by
    simp only [slims] at hs
    split at hs
    · rename_i s' l h1 h2
      cases hs
      cases i with
      | zero => simp only [getS] at hg; cases hg; exact ⟨o, rfl, h1⟩
      | succ i => simp only [getS] at hg; simpa using getS_slims r l i s h2 hg
    · cases hs

theorem guard_spec {n : Nat} {E : Env} {a : Act} (hf : Fits n E a) {o : Oper} {s : Slim} (hs : slim n ops o = some s) {b : Bool} (hg : guardS E s = some b) :
    Region.wanted o (yielded ops a.tmps) = b := by
  obtain ⟨hd, ho, hb, hw⟩ := wanted_spec hf hs
  unfold guardS at hg
  rcases hw with ⟨h1, h2⟩ | ⟨g, want, h1, h2, h3⟩
  · rw [h1] at hg; cases hg; exact h2
  · rw [h1] at hg
    dsimp only at hg
    unfold gdV at hg
    split at hg
    · rename_i b' hb'
      cases hg
      exact h2 b' hb'
    · rename_i vs hb'
      cases hg
      exact h3 vs hb'
    · cases hg

/-- How many have not come up. -/
def cnt (ops : Array Oper) (listed : Array Bool) : Nat := (List.range ops.size).countP fun i => !listed.getD i true
theorem countP_drop {p q : Nat → Bool} {i : Nat} (hp : p i = true) (hq : q i = false) (hpq : ∀ j, j ≠ i → q j = p j) : ∀ (l : List Nat), l.Nodup → i ∈ l → l.countP q + 1 = l.countP p
  | [], _, h => by cases h
  | x :: r, hn, h => by
    have hn' := List.nodup_cons.1 hn
    by_cases hx : x = i
    · subst hx
      have : r.countP q = r.countP p := List.countP_congr (fun j hj => by rw [hpq j (fun e => hn'.1 (e ▸ hj))])
      simp [hp, hq, this]
    · have hr : i ∈ r := by simpa [Ne.symm hx] using h
      have ih := countP_drop hp hq hpq r hn'.2 hr
      have := hpq x hx
      by_cases hb : p x = true
      · simp [this, hb]; omega
      · simp [this, hb]; omega
theorem cnt_set {listed : Array Bool} {i : Nat} (hi : i ∈ Region.ready .any ops listed) : cnt ops (listed.setIfInBounds i true) + 1 = cnt ops listed := by
  obtain ⟨h0, o, ho, _⟩ := mem_ready.1 hi
  have hlt : i < ops.size := (Array.getElem?_eq_some_iff.1 ho).1
  have hl : i < listed.size := by
    rcases Nat.lt_or_ge i listed.size with h | h
    · exact h
    · simp [Array.getElem?_eq_none h] at h0
  refine countP_drop (i := i) (by simpa using h0) ?_ (fun j hj => by rw [getD_set_ne true (Ne.symm hj)]) _ List.nodup_range (List.mem_range.2 hlt)
  simp [hl]

/-- **A plan that is in order.** -/
theorem plan_sound {n : Nat} {sl : List Slim} (hsl : slims n ops ops.toList = some sl) (hsel : Region.noSelect ops = true) {G : Nat → Prop} {w₀ : World} {K : Env → World → Prop}
    (hanc : ∀ i, qt.contains i = true → loadAt ops i = true → ∀ j, j < ops.size → j ≠ i → fl.contains j = false → qt.contains j = false → ancB ops i ops.size j = true)
    {S : World → Prop} (hSdef : S = fun w => ∃ u, Weq u w ∧ Fr G w₀ u)
    {Q : Exit → Act → World → Prop} (hQdef : Q = fun e a w => match e with | .normal => ∃ E u, Fits n E a ∧ Weq u w ∧ K E u | _ => False) :
    ∀ (f : Nat) (br : Bool) (listed : Array Bool) (p : Plan), Plan.ok ops qt fl f br listed p = true → Closed ops listed →
    ∀ (E : Env) (a : Act) (w w' : World), Fits n E a → Weq w w' → (Fr G w₀ w ∨ ∀ i, qt.contains i = true → loadAt ops i = true → listed.getD i false = true) →
    planVC P sl G w₀ p E w K → (br = false → ∀ g, cnt ops listed ≤ g → wpAnyF P ops Q S fl qt g listed a w') ∧
      (br = true → ∀ i ∈ p.heads, i ∈ Region.ready .any ops listed → ∀ g, cnt ops listed ≤ g + 1 →
        wpOp P ops Q i (fun a' w'' => ((fl.contains i = true → S w' → S w'') ∧ (qt.contains i = true → w'' = w')) ∧ wpAnyF P ops Q S fl qt g (listed.setIfInBounds i true) a' w'') a w') := by
  have hpan : ∀ (c : List PanicEntry) (a : Act) (d : Option Tmp) (v : Value) (w : World), Q (.panic c) (a.put d v) w → Q (.panic c) a w := fun c a d v w h => by rw [hQdef] at h; exact h.elim
  have done : ∀ {listed : Array Bool} {E : Env} {a : Act} {w w' : World}, (Region.ready .any ops listed).isEmpty = true → Fits n E a → Weq w w' → K E w → ∀ g, wpAnyF P ops Q S fl qt g listed a w' :=
    fun hr hf k hK g => wpAnyF_done (by simpa using hr) (by rw [hQdef]; exact ⟨_, _, hf, k, hK⟩) g
  intro f
  induction f with
  | zero =>
    intro br listed p hok hcl E a w w' hf k hS h
    cases p <;> simp only [Plan.ok, Bool.and_eq_true, Bool.not_eq_true', Bool.false_eq_true] at hok
    exact ⟨fun _ g _ => done hok.2 hf k h g, fun hb => by rw [hok.1] at hb; cases hb⟩
  | succ f ih =>
    intro br listed p hok hcl E a w w' hf k hS h
    have effstep : ∀ (i : Nat) (g : Bool) (q : Plan), i ∈ Region.ready .any ops listed → (g == fl.contains i) = true → qt.contains i = false → Plan.ok ops qt fl f false (listed.setIfInBounds i true) q = true →
        planVC P sl G w₀ (.eff i g q) E w K → ∀ m, cnt ops listed ≤ m + 1 →
        wpOp P ops Q i (fun a' w'' => ((fl.contains i = true → S w' → S w'') ∧ (qt.contains i = true → w'' = w')) ∧ wpAnyF P ops Q S fl qt m (listed.setIfInBounds i true) a' w'') a w' := by
      intro i g q hi hg hqt hokq hvc m hm
      have hcnt := cnt_set hi
      have hcl' := hcl.add hi
      have hlt : i < ops.size := by obtain ⟨_, o, ho, _⟩ := mem_ready.1 hi; exact (Array.getElem?_eq_some_iff.1 ho).1
      have hnx : ∀ u, (fl.contains i = true → Fr G w u) → (Fr G w₀ u ∨ ∀ l, qt.contains l = true → loadAt ops l = true → (listed.setIfInBounds i true).getD l false = true) := fun u hu => by
        cases hfl : fl.contains i with
        | true =>
          rcases hS with hS | hS
          · exact .inl (hS.trans (hu hfl))
          · exact .inr fun l h1 h2 => getD_set_true (hS l h1 h2)
        | false =>
          refine .inr fun l h1 h2 => getD_set_true ?_
          have hne : i ≠ l := fun e => by rw [e, h1] at hqt; cases hqt
          exact anc_listed hcl _ _ (hanc l h1 h2 i hlt hne hfl hqt) (fun o ho e he hb => by
            obtain ⟨_, o', ho', hall⟩ := mem_ready.1 hi
            rw [ho] at ho'; cases ho'
            exact hall e he hb)
      simp only [planVC] at hvc
      split at hvc
      · rename_i s hs
        obtain ⟨o, ho, hslim⟩ := getS_slims _ _ _ _ hsl hs
        have ho' : ops[i]? = some o := by simpa using ho
        obtain ⟨hd, hop, hdb, _⟩ := wanted_spec hf hslim
        unfold wpOp
        simp only [ho']
        split at hvc
        · rename_i hgd
          rw [if_pos (guard_spec hf hslim hgd)]
          refine .inl (oper_wp hf k (by rw [hop] at hvc; exact hvc) fun v u w'' hu hh => ?_)
          obtain ⟨hfr, hp⟩ := hh
          have hfr' : fl.contains i = true → Fr G w u := fun hfl => by
            rw [hfl] at hg
            cases g
            · simp at hg
            · exact hfr
          refine ⟨⟨fun hfl hSw => ?_, fun hq => by rw [hqt] at hq; cases hq⟩, ?_⟩
          · rw [hSdef] at hSw ⊢
            obtain ⟨u₀, hu₀, hfr₀⟩ := hSw
            exact ⟨u, hu, (hfr₀.weqR hu₀).trans (Fr.weqL k.symm (hfr' hfl))⟩
          · rw [hd] at hp
            exact (ih false _ q hokq hcl' _ _ u w'' (hf.put hdb v) hu (hnx u hfr') hp).1 rfl m (by omega)
        · rename_i hgd
          rw [if_neg (by rw [guard_spec hf hslim hgd]; simp)]
          refine ⟨⟨fun _ h => h, by intros; first | rfl | trivial⟩, ?_⟩
          rw [hd] at hvc
          exact (ih false _ q hokq hcl' _ _ w w' (hf.put hdb undef) k (hnx w (fun _ => Fr.refl _ _)) hvc).1 rfl m (by omega)
        · exact hvc.elim
      · exact hvc.elim
    cases p with
    | nil =>
      simp only [Plan.ok, Bool.and_eq_true, Bool.not_eq_true'] at hok
      exact ⟨fun _ g _ => done hok.2 hf k h g, fun hb => by rw [hok.1] at hb; cases hb⟩
    | take i q =>
      simp only [Plan.ok, Bool.and_eq_true, Bool.not_eq_true'] at hok
      obtain ⟨⟨⟨⟨⟨hbr, hrd⟩, hfree⟩, hqt⟩, hfl⟩, hokq⟩ := hok
      refine ⟨fun _ g hg => ?_, fun hb => by rw [hbr] at hb; cases hb⟩
      have hi : i ∈ Region.ready .any ops listed := by simpa using hrd
      have hcnt := cnt_set hi
      obtain ⟨g, rfl⟩ : ∃ g', g = g' + 1 := ⟨g - 1, by omega⟩
      simp only [planVC] at h
      split at h
      · rename_i s hs
        obtain ⟨o, ho, hslim⟩ := getS_slims _ _ _ _ hsl hs
        have ho' : ops[i]? = some o := by simpa using ho
        obtain ⟨hd, hop, hdb, _⟩ := wanted_spec hf hslim
        have hSn : (Fr G w₀ w ∨ ∀ l, qt.contains l = true → loadAt ops l = true → (listed.setIfInBounds i true).getD l false = true) := hS.imp id fun hh l h1 h2 => getD_set_true (hh l h1 h2)
        have triv : ∀ v, YieldsIf P ops (fun _ => True) o v a → wpAnyF P ops Q S fl qt g (listed.setIfInBounds i true) (a.put o.dst v) w' → wpAnyF P ops Q S fl qt (g + 1) listed a w' := fun v hy H =>
          wpAnyF_first ho' hsel (fun c a w => hpan c a _ _ w) hfl (fun _ _ _ _ _ _ _ _ _ _ _ => trivial) g listed a w' hcl (fun j oj hj hne hun hno => Region.free_spec ho' hfree j oj hj hne hun hno) hi hy trivial H
        split at h
        · rename_i hgd
          have hwt := guard_spec hf hslim hgd
          rw [hop] at h
          obtain ⟨v, hp, hq⟩ := quiet_sound (P := P) h hf.agrees
          rw [hd] at hp
          have H := (ih false _ q hokq (hcl.add hi) _ _ w w' (hf.put hdb v) k hSn hp).1 rfl g (by omega)
          rcases hq with ⟨_, hq⟩ | hq
          · exact triv v (.inl ⟨hwt, fun w _ => hq w⟩) H
          · cases hld : isLoad o.op with
            | false =>
              rename_i hh
              -- not a load: it is pure
              have hpu : pureVC P E (fun v => planVC P sl G w₀ q (putE s.dst v E) w K) o.op := by
                cases hop' : o.op <;> rw [hop'] at h hld <;> first | exact h | (simp [isLoad] at hld)
              obtain ⟨v, hr, hp⟩ := pure_sound (P := P) hpu hf.agrees
              rw [hd] at hp
              have H := (ih false _ q hokq (hcl.add hi) _ _ w w' (hf.put hdb v) k hSn hp).1 rfl g (by omega)
              exact triv v (.inl ⟨hwt, fun w _ => by rw [execOp_slim]; exact hr o.type w⟩) H
            | true =>
              have hla : loadAt ops i = true := by simp [loadAt, ho', hld]
              have hSw : S w' := by
                rw [hSdef]
                rcases hS with hS | hS
                · exact ⟨w, k, hS⟩
                · have h1 := hS i hqt hla
                  have h0 := (mem_ready.1 hi).1
                  rcases Nat.lt_or_ge i listed.size with h' | h'
                  · simp [h'] at h0 h1; rw [h0] at h1; cases h1
                  · simp [Array.getElem?_eq_none h'] at h1
              refine wpAnyF_first (T := S) ho' hsel (fun c a w => hpan c a _ _ w) hfl (fun lst j hclj hiun hne hj w₁ w₂ hT hfj hqj => ?_) g listed a w' hcl (fun j oj hj hne hun hno => Region.free_spec ho' hfree j oj hj hne hun hno) hi
                (.inl ⟨hwt, fun w hS => hq w (by rw [hSdef] at hS; exact hS)⟩) hSw H
              cases hfc : fl.contains j with
              | true => exact hfj hfc hT
              | false =>
                cases hqc : qt.contains j with
                | true => rw [hqj hqc]; exact hT
                | false =>
                  have hlt : j < ops.size := by obtain ⟨_, o, ho, _⟩ := mem_ready.1 hj; exact (Array.getElem?_eq_some_iff.1 ho).1
                  have h1 := anc_listed hclj _ _ (hanc i hqt hla j hlt hne hfc hqc) (fun o ho e he hb => by
                    obtain ⟨_, o', ho', hall⟩ := mem_ready.1 hj
                    rw [ho] at ho'; cases ho'
                    exact hall e he hb)
                  rcases Nat.lt_or_ge i lst.size with h' | h'
                  · simp [h'] at hiun h1; rw [hiun] at h1; cases h1
                  · simp [Array.getElem?_eq_none h'] at h1
        · rename_i hgd
          have hwt := guard_spec hf hslim hgd
          rw [hd] at h
          have H := (ih false _ q hokq (hcl.add hi) _ _ w w' (hf.put hdb undef) k hSn h).1 rfl g (by omega)
          exact triv undef (.inr ⟨hwt, rfl⟩) H
        · exact h.elim
      · exact h.elim
    | eff i g q =>
      simp only [Plan.ok, Bool.and_eq_true, Bool.not_eq_true', Bool.or_eq_true] at hok
      obtain ⟨⟨⟨⟨hbr, hrd⟩, hg⟩, hqt⟩, hokq⟩ := hok
      have hi : i ∈ Region.ready .any ops listed := by simpa using hrd
      refine ⟨fun hb m hm => ?_, fun _ j hj hjr m hm => ?_⟩
      · have hcnt := cnt_set hi
        obtain ⟨m, rfl⟩ : ∃ m', m = m' + 1 := ⟨m - 1, by omega⟩
        have hall := hbr.resolve_left (by rw [hb]; simp)
        refine ⟨fun h0 => (by rw [h0] at hi; cases hi), fun j hj => ?_⟩
        have : j = i := by have := List.all_eq_true.1 hall j hj; simpa using this
        subst this
        exact effstep j g q hi hg hqt hokq h m hm
      · have : j = i := by simpa [Plan.heads] using hj
        subst this
        exact effstep j g q hi hg hqt hokq h m hm
    | both p q =>
      simp only [Plan.ok, Bool.and_eq_true, Bool.not_eq_true', Bool.or_eq_true] at hok
      obtain ⟨⟨hbr, hokp⟩, hokq⟩ := hok
      have hp := (ih true listed p hokp hcl E a w w' hf k hS h.1).2 rfl
      have hq := (ih true listed q hokq hcl E a w w' hf k hS h.2).2 rfl
      have both : ∀ i ∈ (Plan.both p q).heads, i ∈ Region.ready .any ops listed → ∀ m, cnt ops listed ≤ m + 1 →
          wpOp P ops Q i (fun a' w'' => ((fl.contains i = true → S w' → S w'') ∧ (qt.contains i = true → w'' = w')) ∧ wpAnyF P ops Q S fl qt m (listed.setIfInBounds i true) a' w'') a w' := fun i hi hr m hm => by
        rcases List.mem_append.1 hi with hi | hi
        · exact hp i hi hr m hm
        · exact hq i hi hr m hm
      refine ⟨fun hb m hm => ?_, fun _ => both⟩
      obtain ⟨hall, hne⟩ := hbr.resolve_left (by rw [hb]; simp)
      have hne' : Region.ready .any ops listed ≠ [] := fun e => by rw [e] at hne; cases hne
      obtain ⟨x, hx⟩ := List.exists_mem_of_ne_nil _ hne'
      have hcnt := cnt_set hx
      obtain ⟨m, rfl⟩ : ∃ m', m = m' + 1 := ⟨m - 1, by omega⟩
      refine ⟨fun h0 => absurd h0 hne', fun j hj => ?_⟩
      have := List.all_eq_true.1 hall j hj
      exact both j (by simpa [Plan.heads] using this) hj m hm
end

section
variable {P : Program} {n : Nat} {cs : List Code} {Q : Exit → Env → World → Prop} {E : Env} {w : World}
/-- **A region that draws its order, by a plan.** G: what may turn while it runs, of what was there. -/
theorem H_drawn {id : Nat} {ops : Array Oper} (ks : List Nat) (sl : List Slim) (p : Plan) (G : Nat → Prop) (hs : slims n ops ops.toList = some sl) (hm : P.follows .mixedOrders = true) (hc : p.chk ops = true)
    (h : ∀ K : Env → World → Prop, (∀ E w, Holds P n cs Q E w → K E w) → planVC P sl G w p E w fun E' w' => K (keepE ks E') w') : Holds P n (.region id ops true :: cs) Q E w := by
  refine holds_cons fun a w' hf k => ?_
  have h := h (fun E w => Holds P n cs Q E w) (fun _ _ q => q)
  simp only [Plan.chk, Bool.and_eq_true, List.all_eq_true, Bool.or_eq_true, Bool.not_eq_true'] at hc
  obtain ⟨⟨hsel, hanc⟩, hok⟩ := hc
  have hs0 := plan_sound (P := P) (qt := p.taken) (fl := p.flags) hs hsel (G := G) (w₀ := w) (K := fun E' w' => Holds P n cs Q (keepE ks E') w')
    (fun i hi hl j hj hne hf hq => by
      rcases hanc i (by simpa using hi) with h0 | h0
      · rw [hl] at h0; cases h0
      · rcases h0 j (List.mem_range.2 hj) with ((h1 | h1) | h1) | h1
        · exact absurd (by simpa using h1) hne
        · rw [hf] at h1; cases h1
        · rw [hq] at h1; cases h1
        · exact h1) rfl rfl (3 * ops.size + 3) false _ p hok Closed.start E a w { w' with drawn := w'.drawn + 1 } hf k.drew (.inl (Fr.refl _ _)) h
  have hcnt : cnt ops (Array.replicate ops.size false) ≤ ops.size := by
    unfold cnt
    exact Nat.le_trans (List.countP_le_length) (by simp)
  refine Code.wp_mono (fun e a₁ w₁ hq => ?_) (wp_region_any hm (wpAny_of_F _ _ _ _ (hs0.1 rfl ops.size hcnt)))
  cases e with
  | normal =>
    obtain ⟨E', u, hf', hu, hh⟩ := hq
    exact ⟨keepE ks E', u, hf'.sub (hasE_keep E' ks), hu, thenE_normal hh⟩
  | _ => exact (show False from hq).elim
end
end Go.Proofs.Ytlffbjchcknmfaa

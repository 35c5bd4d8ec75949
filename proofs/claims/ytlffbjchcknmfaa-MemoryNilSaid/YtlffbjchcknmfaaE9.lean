/- The engine, part 9: a plan's rest does not hang on the order in which the frame was filled: ways that meet are walked on once. -/
import Derived.Test.YtlffbjchcknmfaaE8
namespace Go.Proofs.Ytlffbjchcknmfaa
open Go
set_option linter.unusedVariables false
set_option linter.unusedSimpArgs false
/-- Two frames hold the same. -/
def EqE (E E' : Env) : Prop := ∀ t, eget E t = eget E' t
theorem eval_congr {E E' : Env} (h : EqE E E') : eval E = eval E' := by
  funext x
  cases x with
  | tmp t => exact h t
  | _ => rfl
theorem ev_congr {E E' : Env} (h : EqE E E') : ev E = ev E' := by
  funext x k
  unfold ev
  rw [eval_congr h]
theorem evs_congr {E E' : Env} (h : EqE E E') : evs E = evs E' := by
  funext l
  induction l with
  | nil => rfl
  | cons x r ih =>
    funext k
    simp only [evs, ev_congr h, ih]
theorem evp_congr {E E' : Env} (h : EqE E E') : evp E = evp E' := by
  funext l
  induction l with
  | nil => rfl
  | cons x r ih =>
    funext k
    obtain ⟨i, x⟩ := x
    simp only [evp, ev_congr h, ih]
theorem bnd_congr {E E' : Env} (h : EqE E E') : bnd E = bnd E' := by
  funext d o k
  cases o with
  | none => rfl
  | some x => simp only [bnd, ev_congr h]
theorem agrees_congr {E E' : Env} (h : EqE E E') : Agrees E = Agrees E' := by
  funext ρ
  unfold Agrees
  rw [eval_congr h]
theorem pureVC_congr {P : Program} {E E' : Env} (h : EqE E E') (k : Value → Prop) (op : Op) : pureVC P E k op = pureVC P E' k op := by
  cases op <;> simp only [pureVC, ev_congr h, evs_congr h, evp_congr h, bnd_congr h]
theorem opVC_congr {P : Program} {E E' : Env} (h : EqE E E') (w : World) (K : Value → World → Prop) (op : Op) : opVC P E w K op = opVC P E' w K op := by
  cases op <;> simp only [opVC, ev_congr h, evs_congr h, evp_congr h, pureVC_congr h, agrees_congr h]
theorem quietVC_congr {P : Program} {G : Nat → Prop} {E E' : Env} (h : EqE E E') (w : World) (k : Value → Prop) (op : Op) : quietVC P G E w k op = quietVC P G E' w k op := by
  cases op <;> simp only [quietVC, ev_congr h, pureVC_congr h]
theorem EqE.put {E E' : Env} (h : EqE E E') (d : Option Nat) (v : Value) : EqE (putE d v E) (putE d v E') := by
  intro t
  cases d with
  | none => exact h t
  | some d =>
    simp only [putE, eget]
    split
    · rfl
    · exact h t
theorem keepE_congr {E E' : Env} (h : EqE E E') : ∀ ks, keepE ks E = keepE ks E'
  | [] => rfl
  | t :: r => by simp only [keepE, h t, keepE_congr h r]
theorem guardS_congr {E E' : Env} (h : EqE E E') (s : Slim) : guardS E s = guardS E' s := by
  unfold guardS
  split
  · rfl
  · rw [h _]
theorem planVC_congr {P : Program} {sl : List Slim} {G : Nat → Prop} {w₀ : World} {K : Env → World → Prop} (hK : ∀ E E' w, EqE E E' → K E w = K E' w) :
    ∀ (p : Plan) {E E' : Env} (w : World), EqE E E' → planVC P sl G w₀ p E w K = planVC P sl G w₀ p E' w K
  | .nil, E, E', w, h => hK E E' w h
  | .take i p, E, E', w, h => by
    simp only [planVC]
    cases getS sl i with
    | none => rfl
    | some s =>
      simp only [guardS_congr h s]
      have e1 : ∀ v, planVC P sl G w₀ p (putE s.dst v E) w K = planVC P sl G w₀ p (putE s.dst v E') w K := fun v => planVC_congr hK p w (h.put _ v)
      simp only [e1, quietVC_congr h]
  | .eff i f p, E, E', w, h => by
    simp only [planVC]
    cases getS sl i with
    | none => rfl
    | some s =>
      simp only [guardS_congr h s]
      have e1 : ∀ v u, planVC P sl G w₀ p (putE s.dst v E) u K = planVC P sl G w₀ p (putE s.dst v E') u K := fun v u => planVC_congr hK p u (h.put _ v)
      simp only [e1, opVC_congr h]
  | .both p q, E, E', w, h => by
    simp only [planVC, planVC_congr hK p w h, planVC_congr hK q w h]
theorem eqE_of {E E' : Env} (h1 : hasE E E') (h2 : hasE E' E) : EqE E E' := by
  intro t
  cases h : eget E' t with
  | some v => rw [hasE_get h1 _ _ h]
  | none =>
    cases h' : eget E t with
    | none => rfl
    | some v => rw [hasE_get h2 _ _ h'] at h; cases h
/-- Ways that meet: what was shown for one order of the frame serves any other. -/
theorem plan_join {P : Program} {sl : List Slim} {G : Nat → Prop} {w₀ : World} {K : Env → World → Prop} {ks : List Nat} {p : Plan} {E E' : Env} {w : World} (h1 : hasE E E') (h2 : hasE E' E)
    (h : planVC P sl G w₀ p E w fun E' w' => K (keepE ks E') w') : planVC P sl G w₀ p E' w fun E' w' => K (keepE ks E') w' := by
  rw [← planVC_congr (fun E E' w he => by rw [keepE_congr he]) p w (eqE_of h1 h2)]
  exact h
theorem eget_append (A T : Env) (t : Nat) : eget (A ++ T) t = match eget A t with | some v => some v | none => eget T t := by
  induction A with
  | nil => rfl
  | cons x r ih =>
    obtain ⟨k, v⟩ := x
    simp only [List.cons_append, eget]
    split
    · rfl
    · exact ih
/-- .. where only the newest slots stand in another order. -/
theorem plan_joinP {P : Program} {sl : List Slim} {G : Nat → Prop} {w₀ : World} {K : Env → World → Prop} {ks : List Nat} {p : Plan} {A B T : Env} {w : World} (h1 : hasE A B) (h2 : hasE B A)
    (h : planVC P sl G w₀ p (A ++ T) w fun E' w' => K (keepE ks E') w') : planVC P sl G w₀ p (B ++ T) w fun E' w' => K (keepE ks E') w' := by
  have he : EqE (A ++ T) (B ++ T) := fun t => by rw [eget_append, eget_append, eqE_of h1 h2 t]
  rw [← planVC_congr (fun E E' w he => by rw [keepE_congr he]) p w he]
  exact h
/-! ### Plans whose ways meet: the check of each named rest once -/
inductive PlanH where
  | nil
  | take (i : Nat) (p : PlanH)
  | eff (i : Nat) (f : Bool) (p : PlanH)
  | both (p q : PlanH)
  | hole (k : Nat)
/-- A named rest: what is listed there, its text with holes for other names, the plan. -/
abbrev Node := List Bool × PlanH × Plan
def nodeP (T : List Node) (k : Nat) : Plan := match T[k]? with | some x => x.2.2 | none => .nil
def PlanH.fill (T : List Node) : PlanH → Plan
  | .nil => .nil
  | .take i p => .take i (p.fill T)
  | .eff i f p => .eff i f (p.fill T)
  | .both p q => .both (p.fill T) (q.fill T)
  | .hole k => nodeP T k
def PlanH.heads : PlanH → List Nat
  | .eff i _ _ => [i]
  | .both p q => p.heads ++ q.heads
  | _ => []
def PlanH.ok (ops : Array Oper) (qt fl : List Nat) (T : List Node) : Bool → Array Bool → PlanH → Bool
  | br, listed, .nil => !br && (Region.ready .any ops listed).isEmpty
  | br, listed, .take i q => !br && (Region.ready .any ops listed).contains i && Region.free .any ops listed i && qt.contains i && !fl.contains i && q.ok ops qt fl T false (listed.setIfInBounds i true)
  | br, listed, .eff i g q => (br || (Region.ready .any ops listed).all (fun j => j == i)) && (Region.ready .any ops listed).contains i && (g == fl.contains i) && !qt.contains i && q.ok ops qt fl T false (listed.setIfInBounds i true)
  | br, listed, .both p q => (br || ((Region.ready .any ops listed).all (fun j => (p.heads ++ q.heads).contains j) && !(Region.ready .any ops listed).isEmpty)) && p.ok ops qt fl T true listed && q.ok ops qt fl T true listed
  | br, listed, .hole k => !br && (match T[k]? with | some x => x.1 == listed.toList | none => false)
theorem fill_heads (T : List Node) : ∀ (h : PlanH) {ops : Array Oper} {qt fl : List Nat} {listed : Array Bool}, h.ok ops qt fl T true listed = true → (h.fill T).heads = h.heads
  | .nil, _, _, _, _, h => rfl
  | .take i p, _, _, _, _, h => rfl
  | .eff i f p, _, _, _, _, h => rfl
  | .both p q, _, _, _, _, h => by
    simp only [PlanH.ok, Bool.and_eq_true] at h
    simp only [PlanH.fill, Plan.heads, PlanH.heads, fill_heads T p h.1.2, fill_heads T q h.2]
  | .hole k, _, _, _, _, h => by simp [PlanH.ok] at h
theorem plan_ok_succ {ops : Array Oper} {qt fl : List Nat} : ∀ (f : Nat) {br : Bool} {listed : Array Bool} {p : Plan}, Plan.ok ops qt fl f br listed p = true → Plan.ok ops qt fl (f + 1) br listed p = true
  | 0, br, listed, .nil, h => h
  | 0, br, listed, .take i p, h => by simp [Plan.ok] at h
  | 0, br, listed, .eff i g p, h => by simp [Plan.ok] at h
  | 0, br, listed, .both p q, h => by simp [Plan.ok] at h
  | f + 1, br, listed, .nil, h => h
  | f + 1, br, listed, .take i p, h => by
    unfold Plan.ok at h ⊢
    simp only [Bool.and_eq_true] at h ⊢
    exact ⟨h.1, plan_ok_succ f h.2⟩
  | f + 1, br, listed, .eff i g p, h => by
    unfold Plan.ok at h ⊢
    simp only [Bool.and_eq_true] at h ⊢
    exact ⟨h.1, plan_ok_succ f h.2⟩
  | f + 1, br, listed, .both p q, h => by
    unfold Plan.ok at h ⊢
    simp only [Bool.and_eq_true] at h ⊢
    exact ⟨⟨h.1.1, plan_ok_succ f h.1.2⟩, plan_ok_succ f h.2⟩
theorem plan_ok_le {ops : Array Oper} {qt fl : List Nat} {f g : Nat} (hfg : f ≤ g) {br : Bool} {listed : Array Bool} {p : Plan} (h : Plan.ok ops qt fl f br listed p = true) : Plan.ok ops qt fl g br listed p = true := by
  induction hfg with
  | refl => exact h
  | step _ ih => exact plan_ok_succ _ ih
def Plan.good (ops : Array Oper) (qt fl : List Nat) (br : Bool) (listed : Array Bool) (p : Plan) : Prop := ∃ f, Plan.ok ops qt fl f br listed p = true
theorem fill_good {ops : Array Oper} {qt fl : List Nat} {T : List Node} : ∀ (h : PlanH) {br : Bool} {listed : Array Bool},
    (∀ (k : Nat) (x : Node), T[k]? = some x → Plan.good ops qt fl false x.1.toArray x.2.2) → h.ok ops qt fl T br listed = true → Plan.good ops qt fl br listed (h.fill T)
  | .nil, br, listed, _, h => ⟨1, h⟩
  | .take i p, br, listed, hT, h => by
    simp only [PlanH.ok, Bool.and_eq_true] at h
    obtain ⟨f, hf⟩ := fill_good p hT h.2
    refine ⟨f + 1, ?_⟩
    simp only [PlanH.fill]
    unfold Plan.ok
    simp only [Bool.and_eq_true]
    exact ⟨h.1, hf⟩
  | .eff i g p, br, listed, hT, h => by
    simp only [PlanH.ok, Bool.and_eq_true] at h
    obtain ⟨f, hf⟩ := fill_good p hT h.2
    refine ⟨f + 1, ?_⟩
    simp only [PlanH.fill]
    unfold Plan.ok
    simp only [Bool.and_eq_true]
    exact ⟨h.1, hf⟩
  | .both p q, br, listed, hT, h => by
    simp only [PlanH.ok, Bool.and_eq_true] at h
    obtain ⟨f, hf⟩ := fill_good p hT h.1.2
    obtain ⟨g, hg⟩ := fill_good q hT h.2
    refine ⟨max f g + 1, ?_⟩
    simp only [PlanH.fill]
    unfold Plan.ok
    simp only [Bool.and_eq_true]
    refine ⟨⟨?_, plan_ok_le (Nat.le_max_left _ _) hf⟩, plan_ok_le (Nat.le_max_right _ _) hg⟩
    rw [fill_heads T p h.1.2, fill_heads T q h.2]
    exact h.1.1
  | .hole k, br, listed, hT, h => by
    simp only [PlanH.ok, Bool.and_eq_true] at h
    obtain ⟨hb, h⟩ := h
    have hb : br = false := by simpa using hb
    subst hb
    cases hx : T[k]? with
    | none => rw [hx] at h; cases h
    | some x =>
      rw [hx] at h
      have e : x.1 = listed.toList := by simpa using h
      have := hT k x hx
      rw [e] at this
      simpa [PlanH.fill, nodeP, hx] using this
/-- Each node by what stands ahead of it in the table. -/
def nodesOk (ops : Array Oper) (qt fl : List Nat) : List Node → List Node → Bool
  | _, [] => true
  | T, x :: r => x.2.1.ok ops qt fl T false x.1.toArray && nodesOk ops qt fl (T ++ [x]) r
def nodesFill : List Node → List Node → Prop
  | _, [] => True
  | T, x :: r => x.2.2 = x.2.1.fill T ∧ nodesFill (T ++ [x]) r
theorem nodes_good {ops : Array Oper} {qt fl : List Nat} : ∀ (r T : List Node), (∀ (k : Nat) (x : Node), T[k]? = some x → Plan.good ops qt fl false x.1.toArray x.2.2) → nodesOk ops qt fl T r = true → nodesFill T r →
    ∀ x ∈ r, Plan.good ops qt fl false x.1.toArray x.2.2
  | [], T, hT, h, hf, x, hx => by cases hx
  | y :: r, T, hT, h, hf, x, hx => by
    simp only [nodesOk, Bool.and_eq_true] at h
    have hy : Plan.good ops qt fl false y.1.toArray y.2.2 := by rw [hf.1]; exact fill_good _ hT h.1
    rcases List.mem_cons.1 hx with rfl | hx
    · exact hy
    · refine nodes_good r (T ++ [y]) (fun k z hz => ?_) h.2 hf.2 x hx
      rcases Nat.lt_or_ge k T.length with hk | hk
      · rw [List.getElem?_append_left hk] at hz; exact hT k z hz
      · rw [List.getElem?_append_right hk] at hz
        have : k - T.length = 0 := by
          have := (List.getElem?_eq_some_iff.1 hz).1
          simp at this; omega
        rw [this] at hz
        simp at hz
        rw [← hz]; exact hy
/-- The loads that are taken are ahead of all that neither is taken nor is in 'fl'. -/
def takenOk (ops : Array Oper) (qt fl : List Nat) : Bool :=
  Region.noSelect ops && (qt.all fun i => !loadAt ops i || (List.range ops.size).all fun j => j == i || fl.contains j || qt.contains j || ancB ops i ops.size j)
/-- **A region that draws its order, by a plan whose ways meet.** -/
theorem H_drawnT {P : Program} {n : Nat} {cs : List Code} {Q : Exit → Env → World → Prop} {E : Env} {w : World} {id : Nat} {ops : Array Oper} (ks : List Nat) (sl : List Slim) (qt fl : List Nat) (T : List Node) (p : Plan) (G : Nat → Prop) (hs : slims n ops ops.toList = some sl) (hm : P.follows .mixedOrders = true)
    (ht : takenOk ops qt fl = true) (hn : nodesOk ops qt fl [] T = true) (hf : nodesFill [] T) (k0 : Nat) (hh : PlanH) (hp : T[k0]? = some (List.replicate ops.size false, hh, p))
    (h : ∀ K : Env → World → Prop, (∀ E w, Holds P n cs Q E w → K E w) → planVC P sl G w p E w fun E' w' => K (keepE ks E') w') : Holds P n (.region id ops true :: cs) Q E w := by
  refine holds_cons fun a w' hf' k => ?_
  have h := h (fun E w => Holds P n cs Q E w) (fun _ _ q => q)
  simp only [takenOk, Bool.and_eq_true, List.all_eq_true, Bool.or_eq_true, Bool.not_eq_true'] at ht
  obtain ⟨hsel, hanc⟩ := ht
  have hg := nodes_good T [] (fun k x h => by simp at h) hn hf _ (List.mem_of_getElem? hp)
  obtain ⟨f, hok⟩ := hg
  simp only at hok
  rw [show (List.replicate ops.size false).toArray = Array.replicate ops.size false by simp] at hok
  have hs0 := plan_sound (P := P) (qt := qt) (fl := fl) hs hsel (G := G) (w₀ := w) (K := fun E' w' => Holds P n cs Q (keepE ks E') w')
    (fun i hi hl j hj hne hf hq => by
      rcases hanc i (by simpa using hi) with h0 | h0
      · rw [hl] at h0; cases h0
      · rcases h0 j (List.mem_range.2 hj) with ((h1 | h1) | h1) | h1
        · exact absurd (by simpa using h1) hne
        · rw [hf] at h1; cases h1
        · rw [hq] at h1; cases h1
        · exact h1) rfl rfl f false _ p hok Closed.start E a w { w' with drawn := w'.drawn + 1 } hf' k.drew (.inl (Fr.refl _ _)) h
  have hcnt : cnt ops (Array.replicate ops.size false) ≤ ops.size := by
    unfold cnt
    exact Nat.le_trans (List.countP_le_length) (by simp)
  refine Code.wp_mono (fun e a₁ w₁ hq => ?_) (wp_region_any hm (wpAny_of_F _ _ _ _ (hs0.1 rfl ops.size hcnt)))
  cases e with
  | normal =>
    obtain ⟨E', u, hf', hu, hh⟩ := hq
    exact ⟨keepE ks E', u, hf'.sub (hasE_keep E' ks), hu, thenE_normal hh⟩
  | _ => exact (show False from hq).elim
end Go.Proofs.Ytlffbjchcknmfaa

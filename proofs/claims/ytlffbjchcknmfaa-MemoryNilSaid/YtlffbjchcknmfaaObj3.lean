/- Files and handles: contracts of their calls; Do of a handle over what keeps them; the file of a handle; two things side by side. -/
import Derived.Test.YtlffbjchcknmfaaObj2
namespace Go.Proofs.Ytlffbjchcknmfaa
open Go
set_option linter.unusedVariables false
set_option linter.unusedSimpArgs false
set_option maxRecDepth 100000
set_option maxHeartbeats 1000000
section
variable {St : Type} (d : Nat) (x : Value) (I : World → (Nat → Prop) → St → Prop) (M : Mo St)
def SizeC : Prop := ∀ w F st, I w F st → InvN d w x "Size" [] fun r u => r = .int .i64 (M.size st).1 ∧ PostI I w F Nob u (M.size st).2
def ReadC : Prop := ∀ w F st (a n : Int), -9223372036854775808 ≤ a ∧ a ≤ 9223372036854775807 ∧ -9223372036854775808 ≤ n ∧ n ≤ 9223372036854775807 → I w F st → InvN d w x "ReadAt" [.int .i64 a, .int .i64 n] fun r u => ∃ v,
  r = .tuple #[v, .int .i64 (M.read st a n).1.1] ∧ Own u v 1 (bvs (M.read st a n).1.2) ∧ (M.read st a n).1.2.length ≤ 65536 ∧ Steps I w F u v (M.read st a n).2
def CutC : Prop := ∀ w F st (a : Int), -9223372036854775808 ≤ a ∧ a ≤ 9223372036854775807 → I w F st → InvN d w x "Cut" [.int .i64 a] fun r u => r = .int .i64 (M.cut st a).1 ∧ PostI I w F Nob u (M.cut st a).2
def NextC : Prop := ∀ w F st (a : Int), -9223372036854775808 ≤ a ∧ a ≤ 9223372036854775807 → I w F st → InvN d w x "Next" [.int .i64 a] fun r u => r = .tuple #[.int .i64 (M.next st a).1.1, .int .i64 (M.next st a).1.2] ∧ PostI I w F Nob u (M.next st a).2
def SyncC : Prop := ∀ w F st, I w F st → InvN d w x "Sync" [] fun r u => r = .int .i64 (M.sync st).1 ∧ PostI I w F Nob u (M.sync st).2
end
/-- A handle in memory, with its parts. -/
structure Hn where
  h : Nat
  fb : Nat
  f : Value
  ow : Option (TypeId × Value)
  oc : Option (TypeId × Value)
  oh : Option (TypeId × Value)
  os : Option (TypeId × Value)
def Hn.is (q : Hn) (w : World) : Prop := IsHandle w q.h q.fb q.f q.ow q.oc q.oh q.os
theorem IsHandle.frG {G : Nat → Prop} {w u : World} {h fb : Nat} {f : Value} {ow oc oh os : Option (TypeId × Value)} (k : IsHandle w h fb f ow oc oh os) (fr : Fr G w u) (h1 : ¬ G h) (h2 : ¬ G fb) : IsHandle u h fb f ow oc oh os :=
  ⟨k.1.fr fr h1, k.2.1.fr fr h2, k.2.2⟩
/-- What I holds, and handles over it. -/
def HI {St : Type} (I : World → (Nat → Prop) → St → Prop) (L : List Hn) (w : World) (F : Nat → Prop) (st : St) : Prop :=
  ∃ Fi, I w Fi st ∧ (∀ b, Fi b → F b) ∧ ∀ q ∈ L, q.is w ∧ F q.h ∧ F q.fb ∧ ¬ Fi q.h ∧ ¬ Fi q.fb
/-- The contracts of a handle's parts. -/
structure Parts {St : Type} (d : Nat) (q : Hn) (I : World → (Nat → Prop) → St → Prop) (M : Mo St) : Prop where
  size : SizeC d q.f I M
  read : ReadC d q.f I M
  cut : ∀ p, q.oc = some p → CutC d (.iface p.1 p.2) I M
  next : ∀ p, q.oh = some p → NextC d (.iface p.1 p.2) I M
  sync : ∀ p, q.os = some p → SyncC d (.iface p.1 p.2) I M
  isf : ∃ ft fv, q.f = .iface ft fv
section
variable {St : Type} {I : World → (Nat → Prop) → St → Prop} {M : Mo St} {L : List Hn}
theorem HI.obj (hI : IsObj I) : IsObj (HI I L) where
  fr := fun ⟨Fi, h1, h2, h3⟩ f hg => ⟨Fi, hI.fr h1 f (fun b hb => hg b (h2 b hb)), h2, fun q hq => ⟨(h3 q hq).1.frG f (hg _ (h3 q hq).2.1) (hg _ (h3 q hq).2.2.1), (h3 q hq).2⟩⟩
  mono := fun {w F F' st} ⟨Fi, h1, h2, h3⟩ hm => ⟨fun b => Fi b ∧ b < w.heap.size, hI.mono h1 (fun b hb q => ⟨q, hb⟩), fun b hb => hm b hb.2 (h2 b hb.1), fun q hq =>
    ⟨(h3 q hq).1, hm _ (h3 q hq).1.1.lt (h3 q hq).2.1, hm _ (h3 q hq).1.2.1.lt (h3 q hq).2.2.1, fun k => (h3 q hq).2.2.2.1 k.1, fun k => (h3 q hq).2.2.2.2 k.1⟩⟩
theorem HI.lift (hI : IsObj I) {w u u' u2 : World} {F Fi Fi' : Nat → Prop} {st' : St} {d : Value} (hL : ∀ q ∈ L, q.is w ∧ F q.h ∧ F q.fb ∧ ¬ Fi q.h ∧ ¬ Fi q.fb) (hsub : ∀ b, Fi b → F b) (hFi : ∀ b, Fi b → b < w.heap.size) (f1 : Fr Nob w u)
    (hi : I u' Fi' st') (fi : Fr Fi u u') (hi' : ∀ b, Fi' b → b < u'.heap.size ∧ (Fi b ∨ u.heap.size ≤ b)) (f2 : Fr (Betw w u) u' u2) (hd : ∀ b, blk d = some b → u.heap.size ≤ b ∧ ¬ Fi' b) :
    Steps (HI I L) w F u2 d st' := by
  have s1 := f1.size
  have s2 := fi.size
  have s3 := f2.size
  have fr : Fr F w u2 := (f1.trans2 fi (H := F) (fun _ _ q => q.elim) (fun b hb q => hsub b q)).trans2 f2 (fun _ _ q => q) (fun b hb q => by simp only [Betw] at q; omega)
  refine ⟨fun b => (b < u'.heap.size ∧ (F b ∨ w.heap.size ≤ b)) ∧ blk d ≠ some b, ⟨Fi', hI.fr hi f2 (fun b hb q => ?_), fun b hb => ?_, fun q hq => ?_⟩, fr, fun b k => ⟨by omega, k.1.2⟩, fun b hb => ⟨by have := (hd b hb).1; omega, fun k => k.2 hb⟩⟩
  · simp only [Betw] at q
    rcases (hi' b hb).2 with k | k
    · have := hFi b k; omega
    · omega
  · refine ⟨⟨(hi' b hb).1, ?_⟩, fun k => (hd b k).2 hb⟩
    rcases (hi' b hb).2 with k | k
    · exact .inl (hsub b k)
    · exact .inr (by omega)
  · obtain ⟨h1, h2, h3, h4, h5⟩ := hL q hq
    have l1 := h1.1.lt
    have l2 := h1.2.1.lt
    have n2 : ∀ b, b < w.heap.size → ¬ Fi b → ¬ Fi' b := fun b hb hn k => by
      rcases (hi' b k).2 with k | k
      · exact hn k
      · omega
    exact ⟨((h1.frG f1 (fun q => q) (fun q => q)).frG fi h4 h5).frG f2 (fun q => by simp only [Betw] at q; omega) (fun q => by simp only [Betw] at q; omega), ⟨⟨by omega, .inl h2⟩, fun k => by have := (hd _ k).1; omega⟩, ⟨⟨by omega, .inl h3⟩, fun k => by have := (hd _ k).1; omega⟩, n2 _ l1 h4, n2 _ l2 h5⟩
/-- 'Do' of a handle whose parts keep their contracts (not: a write where the handle can write: see NOTES.md). -/
theorem do_gen {dp : Nat} (hI : IsObj I) (q : Hn) (hq : q ∈ L) (hp : Parts dp q I M) (hdp : dp ≤ 8) (w : World) (F : Nat → Prop) (st : St) (o : OpV) (hH : HI I L w F st) (ho : o.ok w) (hw : o.k = 2 → q.ow = none) :
    CallsE Try.prog 33 [ptrV q.h, o.val] w fun r u => ∃ d, r = (doG M q.ow.isSome q.oc.isSome q.oh.isSome q.os.isSome st o).1.val d ∧ Own u d 1 (bvs (doG M q.ow.isSome q.oc.isSome q.oh.isSome q.os.isSome st o).1.d) ∧ Steps (HI I L) w F u d (doG M q.ow.isSome q.oc.isSome q.oh.isSome q.os.isSome st o).2 := by
  obtain ⟨Fj, hj, hsubj, hLj⟩ := hH
  obtain ⟨ft, fv, hf⟩ := hp.isf
  have hh := (hLj q hq).1
  have hnil : ∀ b, blk nilS = some b → False := fun b hb => by cases hb
  have hi : I w (fun b => Fj b ∧ b < w.heap.size) st := hI.mono hj (fun b hb q => ⟨q, hb⟩)
  have hsub : ∀ b, Fj b ∧ b < w.heap.size → F b := fun b q => hsubj b q.1
  have hL : ∀ q ∈ L, q.is w ∧ F q.h ∧ F q.fb ∧ ¬ (Fj q.h ∧ q.h < w.heap.size) ∧ ¬ (Fj q.fb ∧ q.fb < w.heap.size) := fun q hq => ⟨(hLj q hq).1, (hLj q hq).2.1, (hLj q hq).2.2.1, fun k => (hLj q hq).2.2.2.1 k.1, fun k => (hLj q hq).2.2.2.2 k.1⟩
  generalize hFi : (fun b => Fj b ∧ b < w.heap.size) = Fi at hi
  have hlt : ∀ b, Fi b → b < w.heap.size := fun b k => by rw [← hFi] at k; exact k.2
  replace hsub : ∀ b, Fi b → F b := fun b k => by rw [← hFi] at k; exact hsub b k
  replace hL : ∀ q ∈ L, q.is w ∧ F q.h ∧ F q.fb ∧ ¬ Fi q.h ∧ ¬ Fi q.fb := fun q hq => by rw [← hFi]; exact hL q hq
  clear hj hsubj hLj
  -- behind a call whose bytes are none
  have fin : ∀ {t : Td} {st' : St} {u u' u2 : World}, Fr Nob w u → PostI I u Fi Nob u' st' → Fr (Betw w u) u' u2 → t.d = [] →
      ∃ d, t.val nilS = t.val d ∧ Own u2 d 1 (bvs t.d) ∧ Steps (HI I L) w F u2 d st' := by
    rintro t st' u u' u2 f1 ⟨Fi', h1, h2, h3⟩ f2 hd
    exact ⟨nilS, rfl, by rw [hd]; exact Own.nil _ _, HI.lift (d := nilS) hI hL hsub hlt f1 h1 (h2.mono (fun _ _ q => q.elim id (fun q => q.elim))) h3 f2 (fun b hb => (hnil b hb).elim)⟩
  have old : ∀ {u u' : World} {st' : St}, PostI I u Fi Nob u' st' → Fr (fun b => b < w.heap.size) u u' := fun ⟨Fi', h1, h2, h3⟩ => h2.mono (fun b _ q => q.elim (hlt b) (fun q => q.elim))
  have same : ∀ {t : Td} {u : World}, Fr Nob w u → t.d = [] →
      ∃ d, t.val nilS = t.val d ∧ Own u d 1 (bvs t.d) ∧ Steps (HI I L) w F u d st := by
    rintro t u f1 hd
    exact fin (u := w) (u' := w) (Fr.refl _ _) ⟨Fi, hi, Fr.refl _ _, fun b hb => ⟨hlt b hb, .inl hb⟩⟩ f1.nob hd
  refine do_spec q.h q.fb q.f q.ow q.oc q.oh q.os o w hh ⟨ft, fv, hf⟩ ho hw _ ⟨?_, ?_, ?_, ?_, ?_, ?_, ?_⟩
  · intro hk u f
    refine ⟨dp, hdp, (hp.size u Fi st (hI.fr hi f (fun _ _ q => q))).mono ?_⟩
    rintro r u' ⟨rfl, hP⟩
    refine ⟨_, rfl, old hP, fun u2 f2 => ?_⟩
    rw [show doG M q.ow.isSome q.oc.isSome q.oh.isSome q.os.isSome st o = (⟨0, (M.size st).1, 0, []⟩, (M.size st).2) by unfold doG; rw [if_pos hk]]
    exact fin f hP f2 rfl
  · intro hk u f
    refine ⟨dp, hdp, (hp.read u Fi st o.at_ o.n ⟨ho.a1, ho.a2, ho.n1, ho.n2⟩ (hI.fr hi f (fun _ _ q => q))).mono ?_⟩
    rintro r u' ⟨v, rfl, hv, hl, F', h1, h2, h3, hb⟩
    refine ⟨v, _, _, rfl, hv.row, by omega, h2.mono (fun b _ q => hlt b q), fun u2 d f2 hd hdb => ?_⟩
    rw [show doG M q.ow.isSome q.oc.isSome q.oh.isSome q.os.isSome st o = (⟨(M.read st o.at_ o.n).1.1, 0, 0, (M.read st o.at_ o.n).1.2⟩, (M.read st o.at_ o.n).2) by unfold doG; rw [if_neg (by omega), if_pos hk]]
    have s2 := h2.size
    exact ⟨d, rfl, hd, HI.lift (d := d) hI hL hsub hlt f h1 h2 h3 f2 (fun b hb => ⟨by have := hdb b hb; omega, fun k => by have := hdb b hb; have := (h3 b k).1; omega⟩)⟩
  · intro hk p hpw u f
    refine ⟨dp, hdp, (hp.cut p hpw u Fi st o.at_ ⟨ho.a1, ho.a2⟩ (hI.fr hi f (fun _ _ q => q))).mono ?_⟩
    rintro r u' ⟨rfl, hP⟩
    refine ⟨_, rfl, old hP, fun u2 f2 => ?_⟩
    rw [show doG M q.ow.isSome q.oc.isSome q.oh.isSome q.os.isSome st o = (⟨(M.cut st o.at_).1, 0, 0, []⟩, (M.cut st o.at_).2) by unfold doG; rw [if_neg (by omega), if_neg (by omega), if_neg (by omega), if_pos hk, hpw]; rfl]
    exact fin f hP f2 rfl
  · intro hk p hpw u f
    refine ⟨dp, hdp, (hp.next p hpw u Fi st o.at_ ⟨ho.a1, ho.a2⟩ (hI.fr hi f (fun _ _ q => q))).mono ?_⟩
    rintro r u' ⟨rfl, hP⟩
    refine ⟨_, _, rfl, old hP, fun u2 f2 => ?_⟩
    rw [show doG M q.ow.isSome q.oc.isSome q.oh.isSome q.os.isSome st o = (⟨0, (M.next st o.at_).1.1, (M.next st o.at_).1.2, []⟩, (M.next st o.at_).2) by unfold doG; rw [if_neg (by omega), if_neg (by omega), if_neg (by omega), if_neg (by omega), if_pos hk, hpw]; rfl]
    exact fin f hP f2 rfl
  · intro hk p hpw u f
    refine ⟨dp, hdp, (hp.sync p hpw u Fi st (hI.fr hi f (fun _ _ q => q))).mono ?_⟩
    rintro r u' ⟨rfl, hP⟩
    refine ⟨_, rfl, old hP, fun u2 f2 => ?_⟩
    rw [show doG M q.ow.isSome q.oc.isSome q.oh.isSome q.os.isSome st o = (⟨(M.sync st).1, 0, 0, []⟩, (M.sync st).2) by unfold doG; rw [if_neg (by omega), if_neg (by omega), if_neg (by omega), if_neg (by omega), if_neg (by omega), if_pos hk, hpw]; rfl]
    exact fin f hP f2 rfl
  · intro hk u f
    rw [show doG M q.ow.isSome q.oc.isSome q.oh.isSome q.os.isSome st o = (⟨5, 0, 0, []⟩, st) by
      unfold doG
      rcases hk with ⟨hk, hn⟩ | ⟨hk, hn⟩ | ⟨hk, hn⟩ | ⟨hk, hn⟩ <;> rw [hn, hk] <;> rfl]
    exact same f rfl
  · intro hk u f
    rw [show doG M q.ow.isSome q.oc.isSome q.oh.isSome q.os.isSome st o = (⟨2, 0, 0, []⟩, st) by
      unfold doG; rw [if_neg (by omega), if_neg (by omega), if_neg (by omega), if_neg (by omega), if_neg (by omega), if_neg (by omega)]]
    exact same f rfl
end
/-- What File answers. -/
def Hn.file (q : Hn) : Value := .iface (facT q.ow.isSome q.oc.isSome q.oh.isSome q.os.isSome) (ptrV q.fb)
def fileCells (q : Hn) : List Value := [q.f] ++ optc q.ow ++ optc q.oc ++ optc q.oh ++ optc q.os
section
variable {St : Type} {I : World → (Nat → Prop) → St → Prop} {M : Mo St} {L : List Hn}
theorem HI.post {w u : World} {F Fi G : Nat → Prop} {st' : St} (hL : ∀ q ∈ L, q.is w ∧ F q.h ∧ F q.fb ∧ ¬ Fi q.h ∧ ¬ Fi q.fb) (hsub : ∀ b, Fi b → F b) (hp : PostI I w Fi G u st') (hG : ∀ b, G b → ¬ F b) : PostI (HI I L) w F G u st' := by
  obtain ⟨Fi', h1, h2, h3⟩ := hp
  have s2 := h2.size
  refine ⟨fun b => b < u.heap.size ∧ (F b ∨ w.heap.size ≤ b), ⟨Fi', h1, fun b hb => ⟨(h3 b hb).1, (h3 b hb).2.imp (hsub b) id⟩, fun q hq => ?_⟩, h2.mono (fun b _ q => q.imp (hsub b) id), fun b hb => hb⟩
  obtain ⟨k1, k2, k3, k4, k5⟩ := hL q hq
  have l1 := k1.1.lt
  have l2 := k1.2.1.lt
  exact ⟨k1.frG h2 (fun k => k.elim k4 (fun k => hG _ k k2)) (fun k => k.elim k5 (fun k => hG _ k k3)), ⟨by omega, .inl k2⟩, ⟨by omega, .inl k3⟩, fun k => (h3 _ k).2.elim k4 (fun k => by omega), fun k => (h3 _ k).2.elim k5 (fun k => by omega)⟩
theorem file_size {d : Nat} (q : Hn) (hq : q ∈ L) (hp : Parts d q I M) : SizeC (d + 1) q.file (HI I L) M := by
  rintro w F st ⟨Fi, hi, hsub, hL⟩
  have hc := (hL q hq).1.2.1
  refine (InvN.field (meSize _ _ _ _) (x := q.f) ?_ (hp.size w Fi st hi)).mono ?_
  · exact loadI 127 (by kernel_rfl) (by rw [hc.cell]; rfl)
  · rintro r u ⟨rfl, hP⟩
    exact ⟨rfl, HI.post hL hsub hP (fun b hb => hb.elim)⟩
theorem file_read {d : Nat} (q : Hn) (hq : q ∈ L) (hp : Parts d q I M) : ReadC (d + 1) q.file (HI I L) M := by
  rintro w F st a n ha ⟨Fi, hi, hsub, hL⟩
  have hc := (hL q hq).1.2.1
  refine (InvN.field (meReadAt _ _ _ _) (x := q.f) ?_ (hp.read w Fi st a n ha hi)).mono ?_
  · exact loadI 127 (by kernel_rfl) (by rw [hc.cell]; rfl)
  · rintro r u ⟨v, rfl, hv, hl, F', h1, h2, h3, h4⟩
    refine ⟨v, rfl, hv, hl, fun b => (b < u.heap.size ∧ (F b ∨ w.heap.size ≤ b)) ∧ blk v ≠ some b, ⟨F', h1, fun b hb => ⟨⟨(h3 b hb).1, (h3 b hb).2.imp (hsub b) id⟩, fun k => (h4 b k).2 hb⟩, fun q hq => ?_⟩, h2.mono (fun b _ q => hsub b q), fun b k => k.1, fun b k => ⟨(h4 b k).1, fun q => q.2 k⟩⟩
    obtain ⟨k1, k2, k3, k4, k5⟩ := hL q hq
    have s2 := h2.size
    have l1 := k1.1.lt
    have l2 := k1.2.1.lt
    exact ⟨k1.frG h2 k4 k5, ⟨⟨by omega, .inl k2⟩, fun k => by have := (h4 _ k).1; omega⟩, ⟨⟨by omega, .inl k3⟩, fun k => by have := (h4 _ k).1; omega⟩, fun k => (h3 _ k).2.elim k4 (fun k => by omega), fun k => (h3 _ k).2.elim k5 (fun k => by omega)⟩
end
def PI {A B : Type} (I : World → (Nat → Prop) → A → Prop) (J : World → (Nat → Prop) → B → Prop) (w : World) (F : Nat → Prop) (st : A × B) : Prop :=
  ∃ F1 F2, I w F1 st.1 ∧ J w F2 st.2 ∧ (∀ b, F1 b → F b) ∧ (∀ b, F2 b → F b) ∧ ∀ b, F1 b → ¬ F2 b
section
variable {A B : Type} {I : World → (Nat → Prop) → A → Prop} {J : World → (Nat → Prop) → B → Prop}
theorem PI.obj (hI : IsObj I) (hJ : IsObj J) : IsObj (PI I J) where
  fr := fun ⟨F1, F2, h1, h2, h3, h4, h5⟩ f hg => ⟨F1, F2, hI.fr h1 f (fun b hb => hg b (h3 b hb)), hJ.fr h2 f (fun b hb => hg b (h4 b hb)), h3, h4, h5⟩
  mono := fun {w F F' st} ⟨F1, F2, h1, h2, h3, h4, h5⟩ hm => ⟨fun b => F1 b ∧ b < w.heap.size, fun b => F2 b ∧ b < w.heap.size, hI.mono h1 (fun b hb q => ⟨q, hb⟩), hJ.mono h2 (fun b hb q => ⟨q, hb⟩),
    fun b hb => hm b hb.2 (h3 b hb.1), fun b hb => hm b hb.2 (h4 b hb.1), fun b k q => h5 b k.1 q.1⟩
theorem Steps.left (hJ : IsObj J) {w u : World} {F F1 F2 : Nat → Prop} {d : Value} {a' : A} {b' : B} (h2 : J w F2 b') (h3 : ∀ b, F1 b → F b) (h4 : ∀ b, F2 b → F b) (h5 : ∀ b, F1 b → ¬ F2 b) (h : Steps I w F1 u d a') : Steps (PI I J) w F u d (a', b') := by
  obtain ⟨F1', k1, k2, k3, k4⟩ := h
  have s := k2.size
  refine ⟨fun b => F1' b ∨ (F2 b ∧ b < w.heap.size), ⟨F1', fun b => F2 b ∧ b < w.heap.size, k1, hJ.fr (hJ.mono h2 (fun b hb q => ⟨q, hb⟩)) k2 (fun b hb q => h5 b q hb.1), fun b q => .inl q, fun b q => .inr q, fun b q k => ?_⟩, k2.mono (fun b _ q => h3 b q), fun b q => ?_, fun b q => ?_⟩
  · rcases (k3 b q).2 with k' | k'
    · exact h5 b k' k.1
    · omega
  · rcases q with q | q
    · exact ⟨(k3 b q).1, (k3 b q).2.imp (h3 b) id⟩
    · exact ⟨by omega, .inl (h4 b q.1)⟩
  · have := k4 b q
    exact ⟨this.1, fun k => k.elim this.2 (fun k => by omega)⟩
theorem Steps.right (hI : IsObj I) {w u : World} {F F1 F2 : Nat → Prop} {d : Value} {a' : A} {b' : B} (h1 : I w F1 a') (h3 : ∀ b, F1 b → F b) (h4 : ∀ b, F2 b → F b) (h5 : ∀ b, F1 b → ¬ F2 b) (h : Steps J w F2 u d b') : Steps (PI I J) w F u d (a', b') := by
  obtain ⟨F1', k1, k2, k3, k4⟩ := h
  have s := k2.size
  refine ⟨fun b => (F1 b ∧ b < w.heap.size) ∨ F1' b, ⟨fun b => F1 b ∧ b < w.heap.size, F1', hI.fr (hI.mono h1 (fun b hb q => ⟨q, hb⟩)) k2 (fun b hb q => h5 b hb.1 q), k1, fun b q => .inl q, fun b q => .inr q, fun b q k => ?_⟩, k2.mono (fun b _ q => h4 b q), fun b q => ?_, fun b q => ?_⟩
  · rcases (k3 b k).2 with k' | k'
    · exact h5 b q.1 k'
    · omega
  · rcases q with q | q
    · exact ⟨by omega, .inl (h3 b q.1)⟩
    · exact ⟨(k3 b q).1, (k3 b q).2.imp (h4 b) id⟩
  · have := k4 b q
    exact ⟨this.1, fun k => k.elim (fun k => by omega) this.2⟩
theorem DoC.left {P : Program} {f : FuncId} {hv : Value} {D : A → OpV → Td × A} (hJ : IsObj J) (h : DoC P f hv I D) : DoC P f hv (PI I J) (fun st o => ((D st.1 o).1, ((D st.1 o).2, st.2))) := by
  rintro w F ⟨a, b⟩ o ⟨F1, F2, h1, h2, h3, h4, h5⟩ ho
  refine (h w F1 a o h1 ho).mono ?_
  rintro r u ⟨d, hr, hd, hs⟩
  exact ⟨d, hr, hd, hs.left hJ h2 h3 h4 h5⟩
theorem DoC.right {P : Program} {f : FuncId} {hv : Value} {D : B → OpV → Td × B} (hI : IsObj I) (h : DoC P f hv J D) : DoC P f hv (PI I J) (fun st o => ((D st.2 o).1, (st.1, (D st.2 o).2))) := by
  rintro w F ⟨a, b⟩ o ⟨F1, F2, h1, h2, h3, h4, h5⟩ ho
  refine (h w F2 b o h2 ho).mono ?_
  rintro r u ⟨d, hr, hd, hs⟩
  exact ⟨d, hr, hd, hs.right hI h1 h3 h4 h5⟩
end
/-- From PostI to Steps, with no bytes. -/
theorem PostI.steps {St : Type} {I : World → (Nat → Prop) → St → Prop} {w u : World} {F : Nat → Prop} {st : St} (h : PostI I w F Nob u st) : Steps I w F u (.slice none 0 0) st := by
  obtain ⟨F', h1, h2, h3⟩ := h
  exact ⟨F', h1, h2.mono (fun b _ q => q.elim id (fun q => q.elim)), h3, fun b hb => (by cases hb)⟩
theorem Steps.of_fr {St : Type} {I : World → (Nat → Prop) → St → Prop} (hI : IsObj I) {w u : World} {F : Nat → Prop} {st : St} {d : Value} (h : I w F st) (f : Fr Nob w u) (hd : ∀ b, blk d = some b → w.heap.size ≤ b) : Steps I w F u d st :=
  ⟨fun b => F b ∧ b < w.heap.size, hI.fr (hI.mono h (fun b hb q => ⟨q, hb⟩)) f (fun _ _ q => q), f.nob, fun b q => ⟨by have := f.size; omega, .inl q.1⟩, fun b k => ⟨hd b k, fun q => by have := hd b k; omega⟩⟩
end Go.Proofs.Ytlffbjchcknmfaa

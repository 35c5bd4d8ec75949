/- What is done to a file, what is told of it; what a file of memory tells, as data; contracts of what does it. -/
import Derived.Test.YtlffbjchcknmfaaSpan0
import Derived.Test.YtlffbjchcknmfaaPc3
import Derived.Test.YtlffbjchcknmfaaPc2
namespace Go.Proofs.Ytlffbjchcknmfaa
open Go
set_option linter.unusedVariables false
set_option linter.unusedSimpArgs false
/-- An op, and where its bytes lie. -/
structure OpV where
  k : Int
  at_ : Int
  n : Int
  a : Option Addr
  l : Nat
  c : Nat
  bs : List UInt8
def OpV.cells (o : OpV) : List Value := [.int .i8 o.k, .int .i64 o.at_, .int .i64 o.n, .slice o.a o.l o.c]
def OpV.val (o : OpV) : Value := .agg #[.int .i8 o.k, .int .i64 o.at_, .int .i64 o.n, .slice o.a o.l o.c]
structure OpV.ok (w : World) (o : OpV) : Prop where
  row : Row w (.slice o.a o.l o.c) 1 (bvs o.bs)
  lc : o.l ≤ o.c
  cm : o.c ≤ maxLen
  lr : o.l ≤ 70368744177664
  a1 : -9223372036854775808 ≤ o.at_
  a2 : o.at_ ≤ 9223372036854775807
  n1 : -9223372036854775808 ≤ o.n
  n2 : o.n ≤ 9223372036854775807
theorem OpV.ok.frG {G : Nat → Prop} {w u : World} {o : OpV} (h : o.ok w) (f : Fr G w u) (hg : ∀ b, b < w.heap.size → ¬ G b) : o.ok u :=
  ⟨h.row.fr (f.mono (G' := Nob) (fun b hb q => hg b hb q)) (fun _ _ q => q), h.lc, h.cm, h.lr, h.a1, h.a2, h.n1, h.n2⟩
theorem OpV.ok.fr {w u : World} {o : OpV} (h : o.ok w) (f : Fr Nob w u) : o.ok u := h.frG f (fun _ _ q => q)
theorem OpV.ok.len {w : World} {o : OpV} (h : o.ok w) : o.bs.length = o.l := by have := h.row.len; rw [bvs_len] at this; omega
theorem OpV.ok.lm {w : World} {o : OpV} (h : o.ok w) : o.l ≤ maxLen := Nat.le_trans h.lc h.cm
/-- What is told: an error, two numbers, bytes. -/
structure Td where
  e : Int
  n : Int
  m : Int
  d : List UInt8
def Td.val (t : Td) (d : Value) : Value := .agg #[.int .i64 t.e, .int .i64 t.n, .int .i64 t.m, d]
/-- Of what is held in the world w, in the blocks F, with the state st. -/
structure IsObj {St : Type} (I : World → (Nat → Prop) → St → Prop) : Prop where
  fr : ∀ {w u : World} {G F : Nat → Prop} {st : St}, I w F st → Fr G w u → (∀ b, F b → ¬ G b) → I u F st
  mono : ∀ {w : World} {F F' : Nat → Prop} {st : St}, I w F st → (∀ b, b < w.heap.size → F b → F' b) → I w F' st
/-- From w to u: what is held now; what was turned; the block of d is new and is not held. -/
def Steps {St : Type} (I : World → (Nat → Prop) → St → Prop) (w : World) (F : Nat → Prop) (u : World) (d : Value) (st : St) : Prop :=
  ∃ F', I u F' st ∧ Fr F w u ∧ (∀ b, F' b → b < u.heap.size ∧ (F b ∨ w.heap.size ≤ b)) ∧ ∀ b, blk d = some b → w.heap.size ≤ b ∧ ¬ F' b
/-- f, handed hv and an op, tells what D says, and leaves what D says. -/
def DoC (P : Program) (f : FuncId) (hv : Value) {St : Type} (I : World → (Nat → Prop) → St → Prop) (D : St → OpV → Td × St) : Prop :=
  ∀ (w : World) (F : Nat → Prop) (st : St) (o : OpV), I w F st → o.ok w → CallsE P f [hv, o.val] w fun r u => ∃ d, r = (D st o).1.val d ∧ Own u d 1 (bvs (D st o).1.d) ∧ Steps I w F u d (D st o).2
/-- What the calls of a file tell and leave, as data. -/
structure Mo (St : Type) where
  size : St → Int × St
  read : St → Int → Int → (Int × List UInt8) × St
  write : St → Int → List UInt8 → Int × St
  cut : St → Int → Int × St
  next : St → Int → (Int × Int) × St
  sync : St → Int × St
/-- What a handle tells of an op, and leaves. -/
def doG {St : Type} (M : Mo St) (ow oc oh os : Bool) (st : St) (o : OpV) : Td × St :=
  if o.k = 0 then (⟨0, (M.size st).1, 0, []⟩, (M.size st).2)
  else if o.k = 1 then (⟨(M.read st o.at_ o.n).1.1, 0, 0, (M.read st o.at_ o.n).1.2⟩, (M.read st o.at_ o.n).2)
  else if o.k = 2 then (match ow with | true => (⟨(M.write st o.at_ o.bs).1, 0, 0, []⟩, (M.write st o.at_ o.bs).2) | false => (⟨5, 0, 0, []⟩, st))
  else if o.k = 3 then (match oc with | true => (⟨(M.cut st o.at_).1, 0, 0, []⟩, (M.cut st o.at_).2) | false => (⟨5, 0, 0, []⟩, st))
  else if o.k = 4 then (match oh with | true => (⟨0, (M.next st o.at_).1.1, (M.next st o.at_).1.2, []⟩, (M.next st o.at_).2) | false => (⟨5, 0, 0, []⟩, st))
  else if o.k = 5 then (match os with | true => (⟨(M.sync st).1, 0, 0, []⟩, (M.sync st).2) | false => (⟨5, 0, 0, []⟩, st))
  else (⟨2, 0, 0, []⟩, st)
/-- Pieces and a size. -/
abbrev MSt := List Pc × Nat
def rdE (at_ n : Int) : Int := if at_ < 0 ∨ n < 0 then 2 else if 65536 < n then 3 else 0
def rdB (st : MSt) (at_ n : Int) : List UInt8 := if at_ < 0 ∨ n < 0 ∨ 65536 < n then [] else getM st.1 st.2 at_ n
def wrM (st : MSt) (at_ : Int) (bs : List UInt8) : Int × MSt :=
  if at_ < 0 then (2, st) else if 65536 < bs.length ∨ 1073741824 - (bs.length : Int) < at_ then (3, st) else putM st.1 st.2 at_ bs
/-- A file of memory. -/
def memM : Mo MSt where
  size st := (st.2, st)
  read st a n := ((rdE a n, rdB st a n), st)
  write st a bs := wrM st a bs
  cut st n := cutM st.1 st.2 n
  next st a := (nextP st.1 st.2 (max a 0), st)
  sync st := (0, st)
/-- Behind a call: what is held now; what was turned. -/
def PostI {St : Type} (I : World → (Nat → Prop) → St → Prop) (w : World) (F G : Nat → Prop) (u : World) (st : St) : Prop :=
  ∃ F', I u F' st ∧ Fr (fun b => F b ∨ G b) w u ∧ ∀ b, F' b → b < u.heap.size ∧ (F b ∨ w.heap.size ≤ b)
theorem getM_le (ps : List Pc) (size : Nat) (a n : Int) : (getM ps size a n).length ≤ 65536 := by
  unfold getM
  split
  · simp
  · rw [getP_len]; omega
theorem rdB_le (st : MSt) (a n : Int) : (rdB st a n).length ≤ 65536 := by
  unfold rdB
  split
  · simp
  · exact getM_le _ _ _ _
end Go.Proofs.Ytlffbjchcknmfaa

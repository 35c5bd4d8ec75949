/- The engine, part 2: frames as lists of slots; what each operation asks and gives ('opVC'), and that this is so. Over any program. -/
import Derived.Test.YtlffbjchcknmfaaE1
import Derived.Laws.Build
namespace Go.Proofs.Ytlffbjchcknmfaa
open Go
set_option linter.unusedVariables false
set_option linter.unusedSimpArgs false

/-- A frame, as far as it is known: slots and what they hold, the newest first. -/
abbrev Env := List (Nat × Value)
def eget : Env → Nat → Option Value
  | [], _ => none
  | (k, v) :: r, t => match k == t with | true => some v | false => eget r t
def eval (E : Env) : Operand → Option Value
  | .tmp t => eget E t
  | .const v => some v
  | .global g => some (.pointer (some ⟨g, 0, none⟩))
  | .func f => some (.func (.func f) #[] #[])
/-- Go on with what an operand holds. -/
def ev (E : Env) (x : Operand) (k : Value → Prop) : Prop := match eval E x with | some v => k v | none => False
def evs (E : Env) : List Operand → (List Value → Prop) → Prop
  | [], k => k []
  | x :: r, k => ev E x fun v => evs E r fun vs => k (v :: vs)
def evp (E : Env) : List (Nat × Operand) → (List (Nat × Value) → Prop) → Prop
  | [], k => k []
  | (i, x) :: r, k => ev E x fun v => evp E r fun vs => k ((i, v) :: vs)

/-- The frame 'ρ' holds what 'E' says. -/
def Agrees (E : Env) (ρ : Operand → Value) : Prop := ∀ x v, eval E x = some v → ρ x = v

theorem ev_elim {E : Env} {x : Operand} {k : Value → Prop} (h : ev E x k) {ρ : Operand → Value} (ha : Agrees E ρ) : k (ρ x) := by
  unfold ev at h
  split at h
  · rename_i v hv; rw [ha x v hv]; exact h
  · exact h.elim
theorem evs_elim {E : Env} {ρ : Operand → Value} (ha : Agrees E ρ) : ∀ {l : List Operand} {k : List Value → Prop}, evs E l k → k (l.map ρ)
  | [], _, h => h
  | x :: r, k, h => evs_elim ha (k := fun vs => k (ρ x :: vs)) (ev_elim (k := fun v => evs E r fun vs => k (v :: vs)) h ha)
theorem evp_elim {E : Env} {ρ : Operand → Value} (ha : Agrees E ρ) : ∀ {l : List (Nat × Operand)} {k : List (Nat × Value) → Prop}, evp E l k → k (l.map fun p => (p.1, ρ p.2))
  | [], _, h => h
  | (i, x) :: r, k, h => evp_elim ha (k := fun vs => k ((i, ρ x) :: vs)) (ev_elim (k := fun v => evp E r fun vs => k ((i, v) :: vs)) h ha)

/-! ### What the program's tables say of a type -/
def tsz (P : Program) (t : TypeId) : Option Nat := (P.info? t).map (·.size)
def tagg (P : Program) (t : TypeId) : Option Bool := (P.underlying t).map fun | .struct _ | .array _ _ => true | _ => false
def tfld (P : Program) (t : TypeId) (i : Nat) : Option Field := match P.underlying t with | some (.struct fs) => fs[i]? | _ => none
/-- Where a field lies, and how many cells it has (none, if it has none). -/
def toff (P : Program) (t : TypeId) (i : Nat) : Option (Nat × Nat) :=
  match tfld P t i with
  | some f => match tsz P f.type with | some (n + 1) => some (f.offset, n + 1) | _ => none
  | none => none
/-- A slice's element: its size in cells, its zero cells, its bytes. -/
def tsl (P : Program) (t : TypeId) : Option (Nat × List Value × Nat) :=
  match P.underlying t with
  | some (.slice e) => match P.info? e with
    | some i => match i.zero with
      | some z => if z.cells.size = i.size then some (i.size, z.cells.toList, i.bytes) else none
      | none => none
    | none => none
  | _ => none
def tzero (P : Program) (t : TypeId) : Option (List Value) := ((P.info? t).bind (·.zero)).map (·.cells.toList)
def tplaces (P : Program) (t : TypeId) : Option (List (Nat × Nat)) :=
  match P.underlying t with
  | some (.struct fs) => fs.toList.mapM fun f => (tsz P f.type).map fun n => (f.offset, n)
  | _ => none
/-- A conversion of one value: to which kind of integer. -/
def tint (P : Program) (t : TypeId) : Option IntKind := match P.underlying t with | some (.int k) => some k | _ => none
/-- A type assertion: is the asserted type an interface; does it hold. -/
def tasrt (P : Program) (t a : TypeId) : Option (Bool × Bool) :=
  match P.underlying a with
  | some (.interface want) => match P.info? t with
    | some i => some (true, want.toList.all fun x => i.methods.any fun m => m.name == x.1 && m.sig == x.2)
    | none => none
  | some _ => some (false, t == a)
  | none => none
def tzeroV (P : Program) (t : TypeId) : Option Value := (P.info? t).bind (·.zero)
def tconc (P : Program) (t : TypeId) : Bool := P.concrete t
def tcall (P : Program) (f : FuncId) : Bool := match P.funcs[f]? with | some fn => fn.name != "runtime.NumGoroutine" && fn.body.isSome | none => false

def vcells : Value → List Value
  | .agg cs => cs.toList
  | v => [v]
theorem vcells_eq (v : Value) : vcells v = v.cells.toList := by cases v <;> rfl

/-! ### Loads and stores -/
def cellsFrom (w : World) (a : Addr) : Nat → Nat → Option (List Value)
  | _, 0 => some []
  | i, n + 1 => match w.cell? (a.add i) with
    | some v => (cellsFrom w a (i + 1) n).map (v :: ·)
    | none => none
def loadW (P : Program) (w : World) (t : TypeId) (a : Addr) : Option Value :=
  match tagg P t with
  | some false => w.cell? a
  | some true => match tsz P t with
    | some n => (cellsFrom w a 0 n).map fun cs => .agg cs.toArray
    | none => none
  | none => none

theorem cellsFrom_run {P : Program} {w w' : World} (k : Weq w w') (a : Addr) : ∀ (n i : Nat) (acc : Array Value) (cs : List Value),
    cellsFrom w a i n = some cs → (loadCellsFrom a i n acc).run P w' = .ok (acc ++ cs.toArray) w'
  | 0, i, acc, cs, h => by simp [cellsFrom] at h; subst h; simp [loadCellsFrom]
  | n + 1, i, acc, cs, h => by
    simp only [cellsFrom] at h
    cases hc : w.cell? (a.add i) with
    | none => simp [hc] at h
    | some v =>
      simp only [hc, Option.map_eq_some_iff] at h
      obtain ⟨r, hr, rfl⟩ := h
      have ih := cellsFrom_run (P := P) k a n (i + 1) (acc.push v) r hr
      simp [loadCellsFrom, k.cell, hc, ih]
theorem isAgg_run {P : Program} {t : TypeId} {b : Bool} (h : tagg P t = some b) (w : World) : (isAgg t).run P w = .ok b w := by
  unfold tagg at h
  cases hd : P.underlying t with
  | none => simp [hd] at h
  | some d => cases d <;> simp [hd] at h <;> subst h <;> simp [isAgg, run_underlying hd]
theorem sizeOf_run {P : Program} {t : TypeId} {n : Nat} (h : tsz P t = some n) (w : World) : (sizeOf t).run P w = .ok n w := by
  unfold tsz at h
  cases hi : P.info? t with
  | none => simp [hi] at h
  | some i => simp [hi] at h; subst h; simp [sizeOf, typeInfo, hi]
theorem zeroValue_run {P : Program} {t : TypeId} {zs : List Value} (h : tzero P t = some zs) : ∃ v : Value, v.cells.toList = zs ∧ ∀ w, (zeroValue t).run P w = .ok v w := by
  unfold tzero at h
  cases hi : P.info? t with
  | none => simp [hi] at h
  | some i =>
    cases hz : i.zero with
    | none => simp [hi, hz] at h
    | some z => simp [hi, hz] at h; exact ⟨z, h, fun w => by simp [zeroValue, typeInfo, hi, hz]⟩
theorem loadW_run {P : Program} {w w' : World} (k : Weq w w') {t : TypeId} {a : Addr} {v : Value} (h : loadW P w t a = some v) :
    (loadVar t a).run P w' = .ok v w' := by
  unfold loadW at h
  split at h
  · rename_i ha
    have hc : w'.cell? a = some v := by rw [k.cell]; exact h
    simp [loadVar, isAgg_run ha, hc]
  · rename_i ha
    split at h
    · rename_i n hn
      simp only [Option.map_eq_some_iff] at h
      obtain ⟨cs, hcs, rfl⟩ := h
      have := cellsFrom_run (P := P) k a n 0 #[] cs hcs
      simp [loadVar, isAgg_run ha, sizeOf_run hn, loadCells, this]
    · cases h
  · cases h

theorem storeVar_run {P : Program} {w w' : World} (k : Weq w w') {t : TypeId} {b o : Nat} {v : Value} {cs : List Value}
    (hn : tsz P t = some (vcells v).length) (hw : W w b cs) (hfit : o + (vcells v).length ≤ cs.length) (h1 : ∀ u ∈ vcells v, u.oneCell' = true) :
    ∃ w'', (storeVar t ⟨b, o, none⟩ v).run P w' = .ok () w'' ∧ Put w b (splice cs o (vcells v)) w'' := by
  obtain ⟨e, hg⟩ := hw.weq k
  have hst := run_storeCells_at P b o e (vcells v) 0 cs.toArray w' hg (by simpa using hfit) h1
  refine ⟨_, ?_, Put.of_setRow k hg _⟩
  simp only [vcells_eq] at hst hn ⊢
  have hn' : tsz P t = some v.cells.size := by simpa using hn
  simp only [storeVar, Sem.run_bind, sizeOf_run hn', Result.andThen_ok]
  simpa [splice, vcells_eq] using hst

/-! ### Values -/
/-- Where a slice begins behind '[l:]': an empty rest of the capacity keeps the old beginning. -/
def adv (a : Option Addr) (m l s : Nat) : Option Addr := if m = l then a else a.map (·.add (l * s))
theorem adv_zero (a : Option Addr) (m s : Nat) : adv a m 0 s = a := by
  unfold adv
  split
  · rfl
  · cases a <;> simp [Addr.add]
theorem adv_some {m l : Nat} (b o s : Nat) (h : l < m) : adv (some ⟨b, o, none⟩) m l s = some ⟨b, o + l * s, none⟩ := by
  unfold adv
  rw [if_neg (by omega)]
  simp [addr_add]
def pickV (t : Bool) (u v : Value) : Value :=
  match u, v with
  | .bool x, .bool y => .bool (bif t then x else y)
  | _, _ => bif t then u else v
theorem pickV_eq (t : Bool) (u v : Value) : pickV t u v = if t then u else v := by
  cases t <;> cases u <;> cases v <;> rfl
/-- The low bound, the high bound and the capacity of a slice expression: 'high' with no bound is the length. -/
def bnd (E : Env) (d : Int) : Option Operand → (Int → Prop) → Prop
  | none, k => k d
  | some x, k => ev E x fun v => match v with | .int _ i => k i | _ => False
def buildL (pl : List (Nat × Nat)) (cells : List Value) : List (Nat × Value) → Option (List Value)
  | [] => some cells
  | (i, v) :: r => match pl[i]? with
    | some (off, sz) => if (vcells v).length = sz ∧ off + sz ≤ cells.length then buildL pl (splice cells off (vcells v)) r else none
    | none => none
def buildS (sz : Nat) (cells : List Value) : List (Nat × Value) → Option (List Value)
  | [] => some cells
  | (i, v) :: r => if (vcells v).length = sz ∧ i * sz + sz ≤ cells.length then buildS sz (splice cells (i * sz) (vcells v)) r else none
def reps (zs : List Value) : Nat → List Value
  | 0 => []
  | n + 1 => zs ++ reps zs n
def binV (op : BinOp) (u v : Value) (k : Value → Prop) : Prop :=
  match op, u, v with
  | .add, .int j a, .int j' b => j = j' ∧ k (.int j (j.wrap (a + b)))
  | .sub, .int j a, .int j' b => j = j' ∧ k (.int j (j.wrap (a - b)))
  | .mul, .int j a, .int j' b => j = j' ∧ k (.int j (j.wrap (a * b)))
  | .quo, .int j a, .int j' b => j = j' ∧ b ≠ 0 ∧ k (.int j (j.wrap (a.tdiv b)))
  | .rem, .int j a, .int j' b => j = j' ∧ b ≠ 0 ∧ k (.int j (a.tmod b))
  | .and, .int j a, .int j' b => j = j' ∧ k (.int j (bits .and j a b))
  | .or, .int j a, .int j' b => j = j' ∧ k (.int j (bits .or j a b))
  | .xor, .int j a, .int j' b => j = j' ∧ k (.int j (bits .xor j a b))
  | .shr, .int j a, .int _ b => 0 ≤ b ∧ b ≤ j.bits ∧ k (.int j (a / 2 ^ b.toNat))
  | .shl, .int j a, .int _ b => 0 ≤ b ∧ b ≤ j.bits ∧ k (.int j (j.wrap (a * 2 ^ b.toNat)))
  | .eql, .int j a, .int j' b => j = j' ∧ k (.bool (decide (a = b)))
  | .neq, .int j a, .int j' b => j = j' ∧ k (.bool (!decide (a = b)))
  | .lss, .int j a, .int j' b => j = j' ∧ k (.bool (decide (a < b)))
  | .leq, .int j a, .int j' b => j = j' ∧ k (.bool (decide (a ≤ b)))
  | .gtr, .int j a, .int j' b => j = j' ∧ k (.bool (decide (b < a)))
  | .geq, .int j a, .int j' b => j = j' ∧ k (.bool (decide (b ≤ a)))
  | .eql, .string a, .string b => k (.bool (decide (a.data.toList = b.data.toList)))
  | .neq, .string a, .string b => k (.bool (!decide (a.data.toList = b.data.toList)))
  | _, _, _ => False
/-- '==' against the literal nil. -/
def nilV (u : Value) : Option Bool :=
  match u with
  | .pointer a => some a.isNone
  | .slice a _ _ => some a.isNone
  | .iface _ _ => some false
  | .nilIface => some true
  | .nilFunc => some true
  | .func _ _ _ => some false
  | .map r => some r.isNone
  | _ => none
def isNil : Value → Bool
  | .pointer none | .slice none _ _ | .nilIface | .nilFunc | .map none => true
  | _ => false
/-- Is the type one whose values are held against nil as 'nilV' says? u: what is held against it. -/
def tnil (P : Program) (t : TypeId) (u c : Value) : Bool :=
  match P.underlying t, u, c with
  | some (.pointer _), .pointer _, .pointer none => true
  | some (.slice _), .slice _ _ _, .slice none _ _ => true
  | some (.interface _), .iface _ _, .nilIface => true
  | some (.interface _), .nilIface, .nilIface => true
  | some (.func _ _ _), .nilFunc, .nilFunc => true
  | some (.func _ _ _), .func _ _ _, .nilFunc => true
  | some (.map _ _), .map _, .map none => true
  | _, _, _ => false
def isConst : Operand → Bool
  | .const _ => true
  | _ => false
/-- Two pointers to variables of a type with cells, in blocks that no string shares. -/
def ptrEq (P : Program) (w : World) (t : TypeId) (u v : Value) : Option Bool :=
  match u, v with
  | .pointer none, .pointer b => if (P.underlying t matches some (.pointer _)) then some b.isNone else none
  | .pointer (some _), .pointer none => if (P.underlying t matches some (.pointer _)) then some false else none
  | .pointer (some a), .pointer (some b) =>
    match P.underlying t with
    | some (.pointer e) => match tsz P e with
      | some (_ + 1) =>
        if a.block = b.block then some (decide (a = b))
        else match w.heap[a.block]?, w.heap[b.block]? with
          | some (.cells _ _ (0, 0)), some (.cells _ _ (0, 0)) => some false
          | _, _ => none
      | _ => none
    | _ => none
  | _, _ => none

/-! ### Calls -/
/-- The call of f returns, and 'R' holds of its value and of the world behind it, draws apart. -/
def CallsE (P : Program) (f : FuncId) (args : List Value) (w : World) (R : Value → World → Prop) : Prop :=
  ∀ w', Weq w w' → Calls P f args.toArray w' fun e w'' => ∃ v u, e = .returned v ∧ Weq u w'' ∧ R v u
theorem CallsE.mono {P : Program} {f : FuncId} {args : List Value} {w : World} {R R' : Value → World → Prop} (h : CallsE P f args w R)
    (hr : ∀ v u, R v u → R' v u) : CallsE P f args w R' :=
  fun w' k => (h w' k).mono fun e w'' ⟨v, u, he, hu, hR⟩ => ⟨v, u, he, hu, hr v u hR⟩
theorem callsE_use {P : Program} {f : FuncId} {args : List Value} {w w' : World} {R : Value → World → Prop} (h : CallsE P f args w R) (k : Weq w w') :
    Calls P f args.toArray w' fun e w'' => ∃ v u, e = .returned v ∧ Weq u w'' ∧ R v u := h w' k
theorem callsE_mk {P : Program} {f : FuncId} {args : List Value} {w : World} {R : Value → World → Prop} (h : ∀ w', Weq w w' → Calls P f args.toArray w' fun e w'' => ∃ v u, e = .returned v ∧ Weq u w'' ∧ R v u) :
    CallsE P f args w R := h
/-- Pure: the value hangs on the operands alone. -/
def RunsP (P : Program) (op : Op) (ρ : Operand → Value) (k : Value → Prop) : Prop :=
  ∃ v, (∀ ty w', (execOp ρ ⟨none, op, ty, "", #[], none⟩).run P w' = .ok (.value v) w') ∧ k v
def callV (P : Program) (f : FuncId) (args : List Value) (w : World) (K : Value → World → Prop) : Prop :=
  (tcall P f = true ∧ CallsE P f args w K) ∨ ∀ w', Weq w w' → ∃ v w'', (callFunc f args.toArray).run P w' = .ok (.value v) w'' ∧ ∃ u, Weq u w'' ∧ K v u
/-- The method 'name' of a value held in an interface: the function and its receiver. -/
def MethodIs (P : Program) (w : World) (t : TypeId) (v : Value) (name : String) (f : FuncId) (recv : Value) : Prop :=
  ∀ w', Weq w w' → (method (P.types.size + Made.depth) t v name).run P w' = .ok (f, recv) w'

/-- What the operation comes to, in the model. -/
def OpSem (P : Program) (op : Op) (ty : TypeId) (ρ : Operand → Value) (w' : World) (K : Value → World → Prop) : Prop :=
  (∃ v w'', (execOp ρ ⟨none, op, ty, "", #[], none⟩).run P w' = .ok (.value v) w'' ∧ K v w'') ∨
  (∃ w'', (execOp ρ ⟨none, op, ty, "", #[], none⟩).run P w' = .ok .skip w'' ∧ K undef w'') ∨
  (∃ f args w'', (execOp ρ ⟨none, op, ty, "", #[], none⟩).run P w' = .ok (.enter f args) w'' ∧
    Calls P f args w'' fun e w3 => ∃ v, e = .returned v ∧ K v w3)
/-- .. up to draws. -/
def Upto (K : Value → World → Prop) : Value → World → Prop := fun v w'' => ∃ u, Weq u w'' ∧ K v u

/-- '==' and '!=' (n: is it '!=') of two values, memory not asked. -/
def eqlP (P : Program) (n : Bool) (t : TypeId) (y : Operand) (u v : Value) (k : Value → Prop) : Prop :=
  match isConst y && isNil v with
  | true => tnil P t u v = true ∧ (match nilV u with | some c => k (.bool (n ^^ c)) | none => False)
  | false => match u, v with
    | .bool a, .bool b => P.underlying t = some .bool ∧ k (.bool (n ^^ (a == b)))
    | u, v => binV (match n with | true => .neq | false => .eql) u v k
/-- The operators, where memory is not asked. -/
def binP (P : Program) (op : BinOp) (t : TypeId) (y : Operand) (u v : Value) (k : Value → Prop) : Prop :=
  match op with
  | .eql => eqlP P false t y u v k
  | .neq => eqlP P true t y u v k
  | op => binV op u v k
def isPtr : Value → Bool
  | .pointer _ => true
  | _ => false
def builtinP (P : Program) (k : Value → Prop) (b : Builtin) (ts : List TypeId) (vs : List Value) : Prop :=
  match b, ts, vs with
  | .len, [t], [v] => match v with
    | .slice _ n _ => (tsl P t).isSome = true ∧ k (.int .i64 n)
    | .string s => P.underlying t = some .string ∧ k (.int .i64 s.size)
    | _ => False
  | .cap, [t], [v] => match v with
    | .slice _ _ n => (tsl P t).isSome = true ∧ k (.int .i64 n)
    | _ => False
  | .min, _, [.int j a, .int j' b] => k (.int j (min a b))
  | .max, _, [.int j a, .int j' b] => k (.int j (max a b))
  | _, _, _ => False
def tbyte (P : Program) (s : TypeId) : Bool := match P.underlying s with | some (.slice e) => (match P.underlying e with | some (.int .u8) => true | _ => false) | _ => false

/-- The operations that neither ask nor turn memory. -/
def pureVC (P : Program) (E : Env) (k : Value → Prop) : Op → Prop
  | .move x => ev E x k
  | .assign x => ev E x k
  | .pick c a b => ev E c fun c => ev E a fun u => ev E b fun v => match c with | .bool t => k (pickV t u v) | _ => False
  | .build t ps => evp E ps.toList fun vs => match tzero P t with | none => False | some zs => match tplaces P t with | none => False | some pl => match buildL pl zs vs with | none => False | some cs => k (.agg cs.toArray)
  | .nilCheck x => ev E x fun v => match v with
    | .pointer (some a) => k (.pointer (some a))
    | .iface t u => k (.iface t u)
    | .func (.func f) a b => k (.func (.func f) a b)
    | _ => False
  | .binOp op t x y _ => ev E x fun u => ev E y fun v => binP P op t y u v k
  | .unOp op _ x => ev E x fun v => match op, v with
    | .not, .bool b => k (.bool (!b))
    | .neg, .int j n => k (.int j (j.wrap (0 - n)))
    | _, _ => False
  | .convert s t x => ev E x fun v => match v with
    | .int _ n => (P.underlying s).isSome = true ∧ (match tint P t with | none => False | some j => k (.int j (j.wrap n)))
    | _ => False
  | .makeInterface t x => ev E x fun v => tconc P t = true ∧ k (.iface t v)
  | .typeAssert x _ a ok => ev E x fun v => match v with
    | .iface t u => (match tasrt P t a with
      | some (i, true) => k (match ok with | true => .tuple #[match i with | true => .iface t u | false => u, .bool true] | false => match i with | true => .iface t u | false => u)
      | some (_, false) => ok = true ∧ (match tzeroV P a with | some z => k (.tuple #[z, .bool false]) | none => False)
      | none => False)
    | .nilIface => (P.underlying a).isSome = true ∧ ok = true ∧ (match tzeroV P a with | some z => k (.tuple #[z, .bool false]) | none => False)
    | _ => False
  | .makeFunc fn first cap => evs E first.toList fun a => evs E cap.toList fun c => k (.func fn a.toArray c.toArray)
  | .slice t x lo hi mx => ev E x fun v => match v with
    | .slice a n c => (mx.isNone || hi.isSome) = true ∧ bnd E 0 lo fun l => bnd E n hi fun h => bnd E c mx fun m =>
        (0 ≤ l ∧ l ≤ h ∧ h ≤ m ∧ m ≤ c) ∧ (match tsl P t with | none => False | some (sz, _, _) => k (.slice (adv a m.toNat l.toNat sz) (h.toNat - l.toNat) (m.toNat - l.toNat)))
    | .string s => P.underlying t = some .string ∧ mx.isNone = true ∧ bnd E 0 lo fun l => bnd E s.size hi fun h =>
        (0 ≤ l ∧ l ≤ h ∧ h ≤ s.size) ∧ k (.string (s.extract l.toNat h.toNat))
    | _ => False
  | .fieldAddr t x i => ev E x fun v => match v with
    | .pointer (some ⟨b, o, none⟩) => (match toff P t i with | none => False | some (off, _) => k (.pointer (some ⟨b, o + off, none⟩)))
    | _ => False
  | .field t x i => ev E x fun v => match v with
    | .agg cs => (match tfld P t i with
      | none => False
      | some f => match tagg P f.type with
        | some false => (match cs[f.offset]? with | some v => k v | none => False)
        | some true => (match tsz P f.type with | some n => k (.agg (cs.extract f.offset (f.offset + n))) | none => False)
        | none => False)
    | _ => False
  | .indexAddr t x ix => ev E x fun v => ev E ix fun i => match v, i with
    | .slice a n c, .int _ i => (match tsl P t with | none => False | some (sz, _, _) => (match a with | some ⟨b, o, none⟩ => (0 ≤ i ∧ i < n) ∧ k (.pointer (some ⟨b, o + i.toNat * sz, none⟩)) | _ => False))
    | _, _ => False
  | .extract x i => ev E x fun v => match v with
    | .tuple vs => (match vs[i]? with | some u => k u | none => False)
    | _ => False
  | .call c => match c.callee with
    | .builtin b => evs E c.args.toList fun vs => builtinP P k b c.argTypes.toList vs
    | _ => False
  | _ => False

def appendVC (P : Program) (w : World) (K : Value → World → Prop) (t t' : TypeId) (s x : Value) : Prop :=
  t = t' ∧ match tsl P t with
    | none => False
    | some (sz, z, by_) => ∃ xs ys, Own w s sz xs ∧ Row w x sz ys ∧ (∀ u ∈ ys, u.oneCell' = true) ∧
      (∀ a n c a' m c', s = .slice a n c → x = .slice a' m c' → (n + m) * by_ ≤ 140737488355328 ∧ n + m ≤ maxLen) ∧
      ∀ v u, Own u v sz (xs ++ ys) → Fr (fun b => blk s = some b) w u → (blk v = blk s ∨ ∃ b, blk v = some b ∧ w.heap.size ≤ b) → (∀ a n c a' m c', s = .slice a n c → x = .slice a' m c' → c < n + m → Fr Nob w u ∧ ∃ b, blk v = some b ∧ w.heap.size ≤ b) →
        (∀ b o n c a' m c' cs, s = .slice (some ⟨b, o, none⟩) n c → x = .slice a' m c' → n + m ≤ c → W w b cs → v = .slice (some ⟨b, o, none⟩) (n + m) c ∧ Put w b (splice cs (o + n * sz) ys) u) → K v u
def copyVC (P : Program) (w : World) (K : Value → World → Prop) (t t' : TypeId) (d s : Value) : Prop :=
  t = t' ∧ match tsl P t with
    | none => False
    | some (sz, z, by_) => ∃ a n c xs a' m c', d = .slice a n c ∧ s = .slice a' m c' ∧ Row w s sz xs ∧ (∀ u ∈ xs.take (min m n * sz), u.oneCell' = true) ∧
      ((min m n = 0 ∧ K (.int .i64 0) w) ∨
       ∃ b o cs, a = some ⟨b, o, none⟩ ∧ W w b cs ∧ o + min m n * sz ≤ cs.length ∧ ∀ u, Put w b (splice cs o (xs.take (min m n * sz))) u → K (.int .i64 (min m n : Nat)) u)
/-- append of n zero elements ('append(s, make(S, n)...)'). -/
def appendZVC (P : Program) (w : World) (K : Value → World → Prop) (t t' : TypeId) (s : Value) (n : Int) : Prop :=
  (tint P t').isSome = true ∧ match tsl P t with
    | none => False
    | some (sz, z, by_) => 0 < by_ ∧ ∃ xs, Own w s sz xs ∧ 0 ≤ n ∧ (∀ u ∈ z, u.oneCell' = true) ∧
      (∀ a m c, s = .slice a m c → (m + n.toNat) * by_ ≤ 140737488355328 ∧ m + n.toNat ≤ maxLen) ∧
      ∀ v u, Own u v sz (xs ++ reps z n.toNat) → Fr (fun b => blk s = some b) w u → (blk v = blk s ∨ ∃ b, blk v = some b ∧ w.heap.size ≤ b) → (∀ a m c, s = .slice a m c → c < m + n.toNat → Fr Nob w u ∧ ∃ b, blk v = some b ∧ w.heap.size ≤ b) → K v u
def clearVC (P : Program) (w : World) (K : Value → World → Prop) (t : TypeId) (s : Value) : Prop :=
  match tsl P t with
    | none => False
    | some (sz, z, by_) => ∃ a n c, s = .slice a n c ∧ (∀ u ∈ z, u.oneCell' = true) ∧
      ((n = 0 ∧ K (.tuple #[]) w) ∨ (0 < n ∧ ∃ b o cs, a = some ⟨b, o, none⟩ ∧ W w b cs ∧ o + n * sz ≤ cs.length ∧ ∀ u, Put w b (splice cs o (reps z n)) u → K (.tuple #[]) u))
def builtinVC (P : Program) (w : World) (K : Value → World → Prop) (b : Builtin) (ts : List TypeId) (vs : List Value) : Prop :=
  match b, ts, vs with
  | .append, [t, t'], [s, x] => (match x with | .int _ n => appendZVC P w K t t' s n | x => appendVC P w K t t' s x)
  | .clear, [t], [s] => clearVC P w K t s
  | .copy, [t, t'], [d, s] => copyVC P w K t t' d s
  | .len, ts, vs => builtinP P (fun v => K v w) .len ts vs
  | .cap, ts, vs => builtinP P (fun v => K v w) .cap ts vs
  | .min, ts, vs => builtinP P (fun v => K v w) .min ts vs
  | .max, ts, vs => builtinP P (fun v => K v w) .max ts vs
  | _, _, _ => False

/-- What an operation asks and gives. -/
def opVC (P : Program) (E : Env) (w : World) (K : Value → World → Prop) : Op → Prop
  | .move x => ev E x fun v => K v w
  | .assign x => ev E x fun v => K v w
  | .pick c a b => pureVC P E (fun v => K v w) (.pick c a b)
  | .build t ps => pureVC P E (fun v => K v w) (.build t ps)
  | .nilCheck x => pureVC P E (fun v => K v w) (.nilCheck x)
  | .unOp op t x => pureVC P E (fun v => K v w) (.unOp op t x)
  | .makeInterface t x => pureVC P E (fun v => K v w) (.makeInterface t x)
  | .makeFunc fn a c => pureVC P E (fun v => K v w) (.makeFunc fn a c)
  | .typeAssert x s a ok => pureVC P E (fun v => K v w) (.typeAssert x s a ok)
  | .slice t x lo hi mx => pureVC P E (fun v => K v w) (.slice t x lo hi mx)
  | .fieldAddr t x i => pureVC P E (fun v => K v w) (.fieldAddr t x i)
  | .field t x i => pureVC P E (fun v => K v w) (.field t x i)
  | .indexAddr t x i => pureVC P E (fun v => K v w) (.indexAddr t x i)
  | .extract x i => pureVC P E (fun v => K v w) (.extract x i)
  | .binOp op t x y _ => ev E x fun u => ev E y fun v =>
      match isPtr u && !(isConst y && isNil v) with
      | true => (match op with
        | .eql => (match ptrEq P w t u v with | some c => K (.bool c) w | none => False)
        | .neq => (match ptrEq P w t u v with | some c => K (.bool (!c)) w | none => False)
        | _ => False)
      | false => binP P op t y u v fun r => K r w
  | .convert s t x => ev E x fun v => match v with
    | .int _ n => (P.underlying s).isSome = true ∧ (match tint P t with | none => False | some j => K (.int j (j.wrap n)) w)
    | .string bs => P.underlying s = some .string ∧ tbyte P t = true ∧ ∀ b c xs u, b = w.heap.size → R u b ((bs.data.toList.map fun c => .int .u8 c.toNat) ++ xs) → Fr Nob w u → u.heap.size = w.heap.size + 1 → bs.size + xs.length = c → K (.slice (some ⟨b, 0, none⟩) bs.size c) u
    | .slice a n c => match s == t with
      | true => (match a with
        | some ⟨b, o, none⟩ => tbyte P t = true ∧ ∃ cs, W w b cs ∧ ∀ u, Fr (Onb b) w u → u.heap.size = w.heap.size → R u b cs → K (.slice (some ⟨b, o, none⟩) n c) u
        | _ => False)
      | false => P.underlying t = some .string ∧ tbyte P s = true ∧ ∃ bs : List UInt8, Row w (.slice a n c) 1 (bs.map fun c => .int .u8 c.toNat) ∧ K (.string ⟨bs.toArray⟩) w
    | _ => False
  | .alloc t => match tzero P t with | none => False | some zs => ∀ b u, New w b zs u → K (.pointer (some ⟨b, 0, none⟩)) u
  | .box _ x => ev E x fun v => ∀ b u, New w b (vcells v) u → K (.pointer (some ⟨b, 0, none⟩)) u
  | .buildSlice t len ps => evp E ps.toList fun vs => match tsl P t with
    | none => False
    | some (sz, z, _) => len * sz ≤ 16777216 ∧ match buildS sz (reps z len) vs with
      | none => False
      | some cs => ∀ b u, New w b cs u → K (.slice (some ⟨b, 0, none⟩) len len) u
  | .load t a => ev E a fun v => match v with | .pointer (some a) => (match loadW P w t a with | some x => K x w | none => False) | _ => False
  | .store t a x => ev E a fun p => ev E x fun v => match p with
    | .pointer (some ⟨b, o, none⟩) => tsz P t = some (vcells v).length ∧ ∃ cs, W w b cs ∧ o + (vcells v).length ≤ cs.length ∧ (∀ u ∈ vcells v, u.oneCell' = true) ∧
        ∀ u, Put w b (splice cs o (vcells v)) u → K undef u
    | _ => False
  | .makeSlice t l c => ev E l fun l => ev E c fun c => match l, c with
    | .int _ l, .int _ c => (match tsl P t with
      | none => False
      | some (sz, z, by_) => (0 ≤ l ∧ l ≤ c ∧ (by_ : Int) * c ≤ 281474976710656 ∧ c ≤ 9223372036854775807) ∧
        ∀ b u, New w b (reps z c.toNat) u → K (.slice (some ⟨b, 0, none⟩) l.toNat c.toNat) u)
    | _, _ => False
  | .call c => match c.callee with
    | .builtin b => evs E c.args.toList fun vs => builtinVC P w K b c.argTypes.toList vs
    | .value f => evs E c.args.toList fun vs => ev E f fun fv => match fv with
      | .func (.func g) first cap => callV P g (first.toList ++ vs ++ cap.toList) w K
      | _ => False
    | .invoke r name => evs E c.args.toList fun vs => ev E r fun rv => match rv with
      | .iface t x => ∃ f recv, MethodIs P w t x name f recv ∧ callV P f (recv :: vs) w K
      | _ => False
  | op => ∀ ρ w' ty, Agrees E ρ → Weq w w' → OpSem P op ty ρ w' (Upto K)
attribute [irreducible] CallsE
end Go.Proofs.Ytlffbjchcknmfaa

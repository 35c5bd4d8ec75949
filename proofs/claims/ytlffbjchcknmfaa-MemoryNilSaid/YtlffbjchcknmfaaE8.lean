/- The engine, part 8: the rewrite set of a walk. -/
import Derived.Test.YtlffbjchcknmfaaE7
namespace Go.Proofs.Ytlffbjchcknmfaa
open Go
set_option linter.unusedVariables false

attribute [go_sem ↓] opsVC_nil opsVC_un opsVC_gd opVC pureVC quietVC planVC_nil planVC_take planVC_eff planVC_both ev evs evp bnd eqlP binP binV builtinVC builtinP resE
attribute [go_sem] eget eval putE isPtr isConst isNil nilV tnil cellsFrom loadW getS guardS flagFr isLoad buildL buildS reps ret1 argE
attribute [go_sem] Option.some.injEq true_and and_true List.length_cons List.length_nil Option.isSome_some Option.isNone_none Option.isNone_some Bool.and_false Bool.and_true Bool.false_and Bool.true_and Bool.not_false Bool.not_true Bool.or_self Bool.or_true Bool.true_or Bool.or_false Bool.false_or Int.le_refl Nat.le_refl
attribute [go_sem] List.getElem?_cons_zero List.getElem?_cons_succ List.getElem?_nil Nat.zero_add Nat.add_zero Int.toNat_natCast Bool.false_xor Bool.true_xor Option.map_some Option.map_none ne_eq not_true_eq_false not_false_eq_true forall_const
attribute [go_sem] List.nil_append List.cons_append List.append_nil List.map_cons List.map_nil addr_add adv_zero Int.sub_zero Nat.sub_zero
attribute [go_sem] List.getElem?_toArray
attribute [go_sem] gdV_bool gdV_undef grd_un grd_tt grd_ff grd_tf grd_ft tk_t tk_f ef_t ef_f gvOf
@[go_sem] theorem pickT (u v : Value) : pickV true u v = u := by rw [pickV_eq]; rfl
@[go_sem] theorem pickF (u v : Value) : pickV false u v = v := by rw [pickV_eq]; rfl
@[go_sem] theorem pickB (t x y : Bool) : pickV t (.bool x) (.bool y) = .bool (bif t then x else y) := rfl
@[go_sem] theorem beqTT : (true == true) = true := rfl
@[go_sem] theorem beqFF : (false == false) = true := rfl
@[go_sem] theorem beqTF : (true == false) = false := rfl
@[go_sem] theorem beqFT : (false == true) = false := rfl
@[go_sem] theorem beqT (b : Bool) : (b == true) = b := by cases b <;> rfl
@[go_sem] theorem beqF (b : Bool) : (b == false) = !b := by cases b <;> rfl
@[go_sem] theorem keepE_nil (E : Env) : keepE [] E = [] := rfl
@[go_sem] theorem keepE_cons (t : Nat) (r : List Nat) (p : Nat × Value) (E : Env) : keepE (t :: r) (p :: E) = match eget (p :: E) t with | some v => (t, v) :: keepE r (p :: E) | none => keepE r (p :: E) := rfl
@[go_sem] theorem vcells_agg (cs : Array Value) : vcells (.agg cs) = cs.toList := rfl
@[go_sem] theorem vcells_int (k : IntKind) (n : Int) : vcells (.int k n) = [.int k n] := rfl
@[go_sem] theorem vcells_bool (b : Bool) : vcells (.bool b) = [.bool b] := rfl
@[go_sem] theorem vcells_string (s : ByteArray) : vcells (.string s) = [.string s] := rfl
@[go_sem] theorem vcells_pointer (a : Option Addr) : vcells (.pointer a) = [.pointer a] := rfl
@[go_sem] theorem vcells_slice (a : Option Addr) (n c : Nat) : vcells (.slice a n c) = [.slice a n c] := rfl
@[go_sem] theorem vcells_map (r : Option Nat) : vcells (.map r) = [.map r] := rfl
@[go_sem] theorem vcells_iface (t : TypeId) (v : Value) : vcells (.iface t v) = [.iface t v] := rfl
@[go_sem] theorem vcells_nilIface : vcells .nilIface = [.nilIface] := rfl
@[go_sem] theorem vcells_nilFunc : vcells .nilFunc = [.nilFunc] := rfl
@[go_sem] theorem vcells_func (f : Fn) (a c : Array Value) : vcells (.func f a c) = [.func f a c] := rfl
@[go_sem] theorem toList_arr (l : List Value) : l.toArray.toList = l := rfl
@[go_sem] theorem toList_arrO (l : List Operand) : l.toArray.toList = l := rfl
@[go_sem] theorem toList_arrP (l : List (Nat × Operand)) : l.toArray.toList = l := rfl
@[go_sem] theorem toList_arrT (l : List TypeId) : l.toArray.toList = l := rfl
@[go_sem] theorem splice_zero (c : Value) (cs : List Value) (v : Value) (vs : List Value) : splice (c :: cs) 0 (v :: vs) = v :: splice cs 0 vs := by
  simp [splice]
@[go_sem] theorem splice_zero_nil (cs : List Value) : splice cs 0 [] = cs := by simp [splice]
@[go_sem] theorem splice_succ (c : Value) (cs : List Value) (o : Nat) (vs : List Value) : splice (c :: cs) (o + 1) vs = c :: splice cs o vs := by
  simp only [splice, List.take_succ_cons, List.cons_append, List.cons.injEq, true_and]
  rw [show o + 1 + vs.length = (o + vs.length) + 1 by omega, List.drop_succ_cons]
@[go_sem] theorem oneCell_all_nil : (∀ u ∈ ([] : List Value), u.oneCell' = true) = True := by simp
@[go_sem] theorem oneCell_all_cons (v : Value) (vs : List Value) : (∀ u ∈ v :: vs, u.oneCell' = true) = (v.oneCell' = true ∧ ∀ u ∈ vs, u.oneCell' = true) := by simp
@[go_sem] theorem oneCell_int (k : IntKind) (n : Int) : Value.oneCell' (.int k n) = true := rfl
@[go_sem] theorem oneCell_bool (b : Bool) : Value.oneCell' (.bool b) = true := rfl
@[go_sem] theorem oneCell_string (b : ByteArray) : Value.oneCell' (.string b) = true := rfl
@[go_sem] theorem oneCell_pointer (a : Option Addr) : Value.oneCell' (.pointer a) = true := rfl
@[go_sem] theorem oneCell_slice (a : Option Addr) (n c : Nat) : Value.oneCell' (.slice a n c) = true := rfl
@[go_sem] theorem oneCell_iface (t : TypeId) (v : Value) : Value.oneCell' (.iface t v) = true := rfl
@[go_sem] theorem oneCell_nilIface : Value.oneCell' .nilIface = true := rfl
@[go_sem] theorem oneCell_map (r : Option Nat) : Value.oneCell' (.map r) = true := rfl
@[go_sem] theorem oneCell_func (f : Fn) (a c : Array Value) : Value.oneCell' (.func f a c) = true := rfl
@[go_sem] theorem oneCell_nilFunc : Value.oneCell' .nilFunc = true := rfl
/-- A call by its contract. -/
theorem callC {P : Program} {f : FuncId} {args : List Value} {w : World} {R K : Value → World → Prop} (hc : tcall P f = true) (h : CallsE P f args w R) (hk : ∀ v u, R v u → K v u) : callV P f args w K :=
  .inl ⟨hc, h.mono hk⟩
/-- 'append' of one row to a slice of the program's own. -/
theorem appendC' {P : Program} {w : World} {K : Value → World → Prop} {t : TypeId} {s x : Value} {sz by_ : Nat} {z xs ys : List Value} (ht : tsl P t = some (sz, z, by_)) (hsz : Nat.ble 1 sz = true) (hby : Nat.ble 1 by_ = true)
    (hs : Own w s sz xs) (hx : Row w x sz ys) (h1 : ∀ u ∈ ys, u.oneCell' = true) (hb : (xs.length + ys.length) * by_ ≤ 140737488355328)
    (hk : ∀ v u, Own u v sz (xs ++ ys) → Fr (fun b => blk s = some b) w u → (blk v = blk s ∨ ∃ b, blk v = some b ∧ w.heap.size ≤ b) → (∀ a n c a' m c', s = .slice a n c → x = .slice a' m c' → c < n + m → Fr Nob w u ∧ ∃ b, blk v = some b ∧ w.heap.size ≤ b) →
      (∀ b o n c a' m c' cs, s = .slice (some ⟨b, o, none⟩) n c → x = .slice a' m c' → n + m ≤ c → W w b cs → v = .slice (some ⟨b, o, none⟩) (n + m) c ∧ Put w b (splice cs (o + n * sz) ys) u) → K v u) : appendVC P w K t t s x := by
  refine ⟨rfl, ?_⟩
  rw [ht]
  refine ⟨xs, ys, hs, hx, h1, fun a n c a' m c' e1 e2 => ?_, hk⟩
  obtain ⟨_, _, _, rfl, hlx, _⟩ := hs
  obtain ⟨_, _, _, rfl, hly, _⟩ := hx
  cases e1; cases e2
  have h1 : 1 ≤ sz := Nat.le_of_ble_eq_true hsz
  have h2 : 1 ≤ by_ := Nat.le_of_ble_eq_true hby
  have e1 := Nat.le_mul_of_pos_right n h1
  have e2 := Nat.le_mul_of_pos_right m h1
  have h3 : (n + m) * by_ ≤ (xs.length + ys.length) * by_ := Nat.mul_le_mul_right _ (by omega)
  have h4 := Nat.le_mul_of_pos_right (n + m) h2
  refine ⟨by omega, ?_⟩
  simp only [maxLen]; omega
theorem appendC {P : Program} {w : World} {K : Value → World → Prop} {t : TypeId} {s x : Value} {sz by_ : Nat} {z xs ys : List Value} (ht : tsl P t = some (sz, z, by_)) (hsz : Nat.ble 1 sz = true) (hby : Nat.ble 1 by_ = true)
    (hs : Own w s sz xs) (hx : Row w x sz ys) (h1 : ∀ u ∈ ys, u.oneCell' = true) (hb : (xs.length + ys.length) * by_ ≤ 140737488355328)
    (hk : ∀ v u, Own u v sz (xs ++ ys) → Fr (fun b => blk s = some b) w u → (blk v = blk s ∨ ∃ b, blk v = some b ∧ w.heap.size ≤ b) → K v u) : appendVC P w K t t s x :=
  appendC' ht hsz hby hs hx h1 hb fun v u a b c _ _ => hk v u a b c
/-- No wrap where the sum is an int. -/
theorem wrapI {n : Int} (h : -9223372036854775808 ≤ n ∧ n ≤ 9223372036854775807) : IntKind.i64.wrap n = n := by
  rw [IntKind.wrap_i64]; omega
/-- Pointers to two blocks that may be written. -/
theorem ptrEqW {P : Program} {w : World} {t e : TypeId} {n : Nat} {a b : Nat} {cs ds : List Value} (ht : P.underlying t = some (.pointer e)) (he : tsz P e = some (n + 1)) (ha : W w a cs) (hb : W w b ds) :
    ptrEq P w t (.pointer (some ⟨a, 0, none⟩)) (.pointer (some ⟨b, 0, none⟩)) = some (decide (a = b)) := by
  obtain ⟨e1, ha⟩ := ha
  obtain ⟨e2, hb⟩ := hb
  unfold ptrEq
  simp only [ht, he, ha, hb]
  by_cases h : a = b <;> simp [h]
/-- .. and of a block to itself. -/
theorem ptrEqS {P : Program} {w : World} {t e : TypeId} {n : Nat} (a : Nat) (ht : P.underlying t = some (.pointer e)) (he : tsz P e = some (n + 1)) :
    ptrEq P w t (.pointer (some ⟨a, 0, none⟩)) (.pointer (some ⟨a, 0, none⟩)) = some true := by
  unfold ptrEq
  simp only [ht, he]
  simp
end Go.Proofs.Ytlffbjchcknmfaa

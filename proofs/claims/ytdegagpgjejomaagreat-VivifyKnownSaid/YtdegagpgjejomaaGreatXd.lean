/- How X's values and heap stand to the machine's. -/
import Derived.Test.YtdegagpgjejomaaGreatXc
import Derived.Laws.Sem
import Derived.Laws.World
import Derived.Laws.Cells
import Derived.Laws.Entries
namespace Go.Xr
open Go.RowKit

/-! ## The tree -/
namespace Tr
variable {α : Type}

theorem get_lf (m : Nat) : (Tr.lf : Tr α).get m = none := by unfold get; rfl
theorem get_nd_zero (l r : Tr α) (v : Option α) : (Tr.nd l v r).get 0 = v := by unfold get; rfl
theorem get_nd_succ (l r : Tr α) (v : Option α) (k : Nat) : (Tr.nd l v r).get (k + 1) = if k % 2 = 0 then l.get (k / 2) else r.get (k / 2) := by
  rw [get]
  show (match Nat.beq (k % 2) 0 with | true => l.get (k / 2) | false => r.get (k / 2)) = _
  by_cases h : k % 2 = 0
  · have : Nat.beq (k % 2) 0 = true := by rw [Nat.beq_eq]; exact h
    rw [if_pos h, this]
  · have : Nat.beq (k % 2) 0 = false := by
      cases hb : Nat.beq (k % 2) 0 with
      | false => rfl
      | true => exact absurd (Nat.eq_of_beq_eq_true hb) h
    rw [if_neg h, this]

theorem parity (k : Nat) : (k % 2 = 0 ∧ Nat.beq (Nat.mod k 2) 0 = true) ∨ (k % 2 ≠ 0 ∧ Nat.beq (Nat.mod k 2) 0 = false) := by
  show (k % 2 = 0 ∧ Nat.beq (k % 2) 0 = true) ∨ (k % 2 ≠ 0 ∧ Nat.beq (k % 2) 0 = false)
  by_cases h : k % 2 = 0
  · exact .inl ⟨h, by rw [Nat.beq_eq]; exact h⟩
  · refine .inr ⟨h, ?_⟩
    cases hb : Nat.beq (k % 2) 0 with
    | false => rfl
    | true => exact absurd (Nat.eq_of_beq_eq_true hb) h

theorem get_setF (x : α) : ∀ (f n : Nat) (t : Tr α) (m : Nat), n < f → (setF f t n x).get m = if m = n then some x else t.get m := by
  intro f
  induction f with
  | zero => intro n t m h; omega
  | succ f ih =>
    intro n t m h
    cases t with
    | lf =>
      cases n with
      | zero =>
        simp only [setF]
        cases m with
        | zero => simp [get_nd_zero]
        | succ m => simp [get_nd_succ, get_lf]
      | succ k =>
        simp only [setF]
        cases m with
        | zero => rcases parity k with ⟨_, hb⟩ | ⟨_, hb⟩ <;> simp [hb, get_nd_zero, get_lf]
        | succ m =>
          rcases parity k with ⟨hk, hb⟩ | ⟨hk, hb⟩ <;> simp only [hb]
          · rw [get_nd_succ, ih _ _ _ (by show k / 2 < f; omega)]
            simp only [get_lf]
            by_cases hm : m % 2 = 0
            · rw [if_pos hm]
              by_cases e : m + 1 = k + 1
              · rw [if_pos e, if_pos (by show m / 2 = k / 2; omega)]
              · rw [if_neg e, if_neg (by show ¬ m / 2 = k / 2; omega)]
            · rw [if_neg hm, if_neg (by omega)]
          · rw [get_nd_succ, ih _ _ _ (by show k / 2 < f; omega)]
            simp only [get_lf]
            by_cases hm : m % 2 = 0
            · rw [if_pos hm, if_neg (by omega)]
            · rw [if_neg hm]
              by_cases e : m + 1 = k + 1
              · rw [if_pos e, if_pos (by show m / 2 = k / 2; omega)]
              · rw [if_neg e, if_neg (by show ¬ m / 2 = k / 2; omega)]
    | nd l v r =>
      cases n with
      | zero =>
        simp only [setF]
        cases m with
        | zero => simp [get_nd_zero]
        | succ m => simp [get_nd_succ]
      | succ k =>
        simp only [setF]
        cases m with
        | zero => rcases parity k with ⟨_, hb⟩ | ⟨_, hb⟩ <;> simp [hb, get_nd_zero]
        | succ m =>
          rcases parity k with ⟨hk, hb⟩ | ⟨hk, hb⟩ <;> simp only [hb]
          · rw [get_nd_succ, get_nd_succ, ih _ _ _ (by show k / 2 < f; omega)]
            by_cases hm : m % 2 = 0
            · rw [if_pos hm, if_pos hm]
              by_cases e : m + 1 = k + 1
              · rw [if_pos e, if_pos (by show m / 2 = k / 2; omega)]
              · rw [if_neg e, if_neg (by show ¬ m / 2 = k / 2; omega)]
            · rw [if_neg hm, if_neg hm, if_neg (by omega)]
          · rw [get_nd_succ, get_nd_succ, ih _ _ _ (by show k / 2 < f; omega)]
            by_cases hm : m % 2 = 0
            · rw [if_pos hm, if_pos hm, if_neg (by omega)]
            · rw [if_neg hm, if_neg hm]
              by_cases e : m + 1 = k + 1
              · rw [if_pos e, if_pos (by show m / 2 = k / 2; omega)]
              · rw [if_neg e, if_neg (by show ¬ m / 2 = k / 2; omega)]

theorem get_set (t : Tr α) (n m : Nat) (x : α) : (t.set n x).get m = if m = n then some x else t.get m := get_setF x _ _ _ _ (Nat.lt_succ_self n)
end Tr

theorem Heap.get_put (h : Heap) (o o' : Nat) (x : XObj) : (h.put o x).get o' = if o' = o then some x else h.get o' := Tr.get_set _ _ _ _
theorem Heap.get_push (h : Heap) (o' : Nat) (x : XObj) : (h.push x).get o' = if o' = h.next then some x else h.get o' := Tr.get_set _ _ _ _
@[simp] theorem Heap.next_put (h : Heap) (o : Nat) (x : XObj) : (h.put o x).next = h.next := rfl
@[simp] theorem Heap.next_push (h : Heap) (x : XObj) : (h.push x).next = h.next + 1 := rfl

theorem slotOf_set (t : Tr V) (i j : Nat) (v : V) : slotOf (t.set i v) j = if j = i then v else slotOf t j := by
  unfold slotOf
  rw [Tr.get_set]
  by_cases h : j = i
  · rw [if_pos h, if_pos h]
  · rw [if_neg h, if_neg h]

/-! ## Values -/
structure Loc where
  blk : Nat
  base : Nat
  kap : Nat
  esz : Nat

/-- Below which block what is only read may lie. -/
class RoLim where
  lim : Nat

abbrev Mu := Nat → Nat → Option Loc
def Mu.le (μ μ' : Mu) : Prop := ∀ o g l, μ o g = some l → μ' o g = some l
theorem Mu.le_refl (μ : Mu) : μ.le μ := fun _ _ _ h => h
theorem Mu.le_trans {a b c : Mu} (h : a.le b) (h' : b.le c) : a.le c := fun _ _ _ x => h' _ _ _ (h _ _ _ x)
def Mu.put (μ : Mu) (o g : Nat) (l : Loc) : Mu := fun o' g' => if o' = o ∧ g' = g then some l else μ o' g'
theorem Mu.put_same (μ : Mu) (o g : Nat) (l : Loc) : (μ.put o g l) o g = some l := if_pos ⟨rfl, rfl⟩
theorem Mu.put_other (μ : Mu) {o g o' g' : Nat} (l : Loc) (h : ¬ (o' = o ∧ g' = g)) : (μ.put o g l) o' g' = μ o' g' := if_neg h
theorem Mu.le_put {μ : Mu} {o g : Nat} (l : Loc) (h : μ o g = none) : μ.le (μ.put o g l) := fun o' g' l' h' => by
  rw [Mu.put_other]
  · exact h'
  · rintro ⟨rfl, rfl⟩
    rw [h] at h'
    cases h'

mutual
inductive VR (μ : Mu) : V → Value → Prop
  | int (k : IntKind) (n : Int) : VR μ (.int k n) (.int k n)
  | bool (b : Bool) : VR μ (.bool b) (.bool b)
  | str (s : ByteArray) : VR μ (.str s) (.string s)
  | nilp : VR μ .nilp (.pointer none)
  | ptr {o g off : Nat} {l : Loc} (h : μ o g = some l) : VR μ (.ptr o g off) (.pointer (some ⟨l.blk, l.base + off, none⟩))
  | nils : VR μ .nils (.slice none 0 0)
  | exact {o g off len c : Nat} {l : Loc} (h : μ o g = some l) (a : Addr) (ha : a = ⟨l.blk, l.base + off, none⟩ ∨ (len = 0 ∧ c = 0)) (hc : len ≤ c) : VR μ (.slice o g off len (.exact c)) (.slice (some a) len c)
  | rest {o g off len n e : Nat} {l : Loc} (h : μ o g = some l) (a : Addr) (ha : a = ⟨l.blk, l.base + off, none⟩ ∨ (len = 0 ∧ l.kap = n)) (hn : len + n ≤ l.kap) (ho : off = n * l.esz) (he : l.esz = e) :
      VR μ (.slice o g off len (.rest n e)) (.slice (some a) len (l.kap - n))
  | nilm : VR μ .nilm (.map none)
  | map {o : Nat} {l : Loc} (h : μ o 0 = some l) : VR μ (.map o) (.map (some l.blk))
  | nilf : VR μ .nilf .nilFunc
  | func {f : Nat} {a b : List V} {a' b' : List Value} (h : VRs μ a a') (h' : VRs μ b b') : VR μ (.func f a b) (.func (.func f) a'.toArray b'.toArray)
  | yield {o : Nat} {l : Loc} (h : μ o 0 = some l) : VR μ (.yield o) (.func (.yield l.blk) #[] #[])
  | nili : VR μ .nili .nilIface
  | iface {t : Nat} {v : V} {v' : Value} (h : VR μ v v') : VR μ (.iface t v) (.iface t v')
  | iter {o : Nat} {l : Loc} (h : μ o 0 = some l) : VR μ (.iter o) (.pointer (some ⟨l.blk, 0, none⟩))
  | agg {a : List V} {a' : List Value} (h : VRs μ a a') : VR μ (.agg a) (.agg a'.toArray)
  | tup {a : List V} {a' : List Value} (h : VRs μ a a') : VR μ (.tup a) (.tuple a'.toArray)
  | any {x : Value} (h : x.cells = #[x]) : VR μ .any x
  | hole {o : Nat} {x : Value} (h : x.cells = #[x]) : VR μ (.hole o) x
  | stamp {o : Nat} {l : Loc} (h : μ o 0 = some l) : VR μ (.stamp o) (.int .i64 (l.base : Int))
inductive VRs (μ : Mu) : List V → List Value → Prop
  | nil : VRs μ [] []
  | cons {v : V} {v' : Value} {a : List V} {a' : List Value} (h : VR μ v v') (h' : VRs μ a a') : VRs μ (v :: a) (v' :: a')
end

mutual
theorem VR.mono {μ μ' : Mu} (hm : μ.le μ') : ∀ {v : V} {x : Value}, VR μ v x → VR μ' v x
  | _, _, .int k n => .int k n
  | _, _, .bool b => .bool b
  | _, _, .str s => .str s
  | _, _, .nilp => .nilp
  | _, _, .ptr h => .ptr (hm _ _ _ h)
  | _, _, .nils => .nils
  | _, _, .exact h a ha hc => .exact (hm _ _ _ h) a ha hc
  | _, _, .rest h a ha hn ho he => .rest (hm _ _ _ h) a ha hn ho he
  | _, _, .nilm => .nilm
  | _, _, .map h => .map (hm _ _ _ h)
  | _, _, .nilf => .nilf
  | _, _, .func h h' => .func (VRs.mono hm h) (VRs.mono hm h')
  | _, _, .yield h => .yield (hm _ _ _ h)
  | _, _, .nili => .nili
  | _, _, .iface h => .iface (VR.mono hm h)
  | _, _, .iter h => .iter (hm _ _ _ h)
  | _, _, .agg h => .agg (VRs.mono hm h)
  | _, _, .tup h => .tup (VRs.mono hm h)
  | _, _, .any h => .any h
  | _, _, .hole h => .hole h
  | _, _, .stamp h => .stamp (hm _ _ _ h)
theorem VRs.mono {μ μ' : Mu} (hm : μ.le μ') : ∀ {v : List V} {x : List Value}, VRs μ v x → VRs μ' v x
  | _, _, .nil => .nil
  | _, _, .cons h h' => .cons (VR.mono hm h) (VRs.mono hm h')
end

theorem VRs.length {μ : Mu} : ∀ {a : List V} {b : List Value}, VRs μ a b → a.length = b.length
  | _, _, .nil => rfl
  | _, _, .cons _ h => by simp [VRs.length h]

theorem VRs.get {μ : Mu} : ∀ {a : List V} {b : List Value}, VRs μ a b → ∀ {i : Nat} {v : V}, a[i]? = some v → ∃ x, b[i]? = some x ∧ VR μ v x
  | _, _, .nil, i, v, h => by simp at h
  | _, _, .cons h h', 0, v, e => by simp at e; subst e; exact ⟨_, rfl, h⟩
  | _, _, .cons h h', i + 1, v, e => by simp at e ⊢; exact VRs.get h' e

theorem VRs.append {μ : Mu} : ∀ {a : List V} {b : List Value}, VRs μ a b → ∀ {c : List V} {d : List Value}, VRs μ c d → VRs μ (a ++ c) (b ++ d)
  | _, _, .nil, _, _, h => h
  | _, _, .cons h h', _, _, k => .cons h (VRs.append h' k)

theorem VRs.take {μ : Mu} (n : Nat) : ∀ {a : List V} {b : List Value}, VRs μ a b → VRs μ (a.take n) (b.take n) := by
  induction n with
  | zero => intro a b _; simp; exact .nil
  | succ n ih => intro a b h; cases h with
    | nil => simp; exact .nil
    | cons h h' => simp; exact .cons h (ih h')

theorem VRs.drop {μ : Mu} (n : Nat) : ∀ {a : List V} {b : List Value}, VRs μ a b → VRs μ (a.drop n) (b.drop n) := by
  induction n with
  | zero => intro a b h; simpa using h
  | succ n ih => intro a b h; cases h with
    | nil => simp; exact .nil
    | cons h h' => simp; exact ih h'

theorem VRs.of_get {μ : Mu} : ∀ (a : List V) (b : List Value), a.length = b.length → (∀ (i : Nat) (v : V) (x : Value), a[i]? = some v → b[i]? = some x → VR μ v x) → VRs μ a b
  | [], [], _, _ => .nil
  | v :: a, x :: b, hl, h => .cons (h 0 v x rfl rfl) (VRs.of_get a b (by simpa using hl) fun i v x e e' => h (i + 1) v x (by simpa using e) (by simpa using e'))
  | [], _ :: _, hl, _ => by simp at hl
  | _ :: _, [], hl, _ => by simp at hl

theorem VRs.replicate {μ : Mu} {v : V} {x : Value} (h : VR μ v x) (n : Nat) : VRs μ (List.replicate n v) (List.replicate n x) := by
  induction n with
  | zero => exact .nil
  | succ n ih => simp only [List.replicate_succ]; exact .cons h ih

theorem VRs.repl {μ : Mu} {a : List V} {b : List Value} (h : VRs μ a b) (n : Nat) : VRs μ (Xr.repl n a) ((List.replicate n b).flatten) := by
  unfold Xr.repl
  induction n with
  | zero => exact .nil
  | succ n ih => simp only [List.replicate_succ, List.flatten_cons]; exact h.append ih

/-- The cells of a value. -/
theorem VR.cells {μ : Mu} {v : V} {x : Value} (h : VR μ v x) : VRs μ v.cellsOf x.cells.toList := by
  cases h with
  | agg h => simpa [V.cellsOf, Value.cells] using h
  | any h => rw [h]; exact .cons (.any h) .nil
  | hole h => rw [h]; exact .cons (.hole h) .nil
  | _ => simp only [V.cellsOf, Value.cells]; exact .cons (by constructor <;> assumption) .nil

theorem VR.one {μ : Mu} {v : V} {x : Value} (h : VR μ v x) (ho : v.one = true) : x.oneCell' = true := by
  cases h <;> first | rfl | (simp [V.one] at ho)

theorem VR.undef (μ : Mu) : VR μ V.undef Go.undef := .tup .nil

end Go.Xr

/- X's executor once more, by recursors, as the kernel reckons it quickly: the same function. -/
import Derived.Test.YtdegagpgjejomaaGreatYk
namespace Go.Xr
open Go.RowKit

/-! ## Trees -/
section
variable {α : Type}
noncomputable def getR (t : Tr α) : Nat → Option α :=
  Tr.rec (motive := fun _ => Nat → Option α) (fun _ => none) (fun _ v _ il ir n => Nat.rec v (fun k _ => Bool.rec (ir (Nat.div k 2)) (il (Nat.div k 2)) (Nat.beq (Nat.mod k 2) 0)) n) t
noncomputable def freshR (x : α) (f : Nat) : Nat → Tr α :=
  Nat.rec (motive := fun _ => Nat → Tr α) (fun _ => .lf) (fun _ ih n => Nat.rec (.nd .lf (some x) .lf) (fun k _ => Bool.rec (.nd .lf none (ih (Nat.div k 2))) (.nd (ih (Nat.div k 2)) none .lf) (Nat.beq (Nat.mod k 2) 0)) n) f
noncomputable def setR (t : Tr α) (n : Nat) (x : α) : Tr α :=
  Tr.rec (motive := fun _ => Nat → Tr α) (fun n => freshR x (Nat.succ n) n) (fun l v r il ir n => Nat.rec (.nd l (some x) r) (fun k _ => Bool.rec (.nd l v (ir (Nat.div k 2))) (.nd (il (Nat.div k 2)) v r) (Nat.beq (Nat.mod k 2) 0)) n) t n

theorem getR_eq : ∀ (t : Tr α) (n : Nat), getR t n = t.get n
  | .lf, n => by rw [Tr.get_lf]; rfl
  | .nd l v r, 0 => by rw [Tr.get_nd_zero]; rfl
  | .nd l v r, k + 1 => by
    show (Bool.rec (getR r (Nat.div k 2)) (getR l (Nat.div k 2)) (Nat.beq (Nat.mod k 2) 0) : Option α) = _
    rw [getR_eq l, getR_eq r, Tr.get]
    cases Nat.beq (Nat.mod k 2) 0 <;> rfl

theorem freshR_eq (x : α) : ∀ (f n : Nat), freshR x f n = Tr.setF f .lf n x
  | 0, n => rfl
  | f + 1, 0 => rfl
  | f + 1, k + 1 => by
    show (Bool.rec (.nd .lf none (freshR x f (Nat.div k 2))) (.nd (freshR x f (Nat.div k 2)) none .lf) (Nat.beq (Nat.mod k 2) 0) : Tr α) = _
    rw [freshR_eq x f, Tr.setF]
    cases Nat.beq (Nat.mod k 2) 0 <;> rfl

theorem setF_fuel (x : α) : ∀ (f g n : Nat) (t : Tr α), n < f → n < g → Tr.setF f t n x = Tr.setF g t n x
  | 0, _, n, _, h, _ => by omega
  | _, 0, n, _, _, h => by omega
  | f + 1, g + 1, n, t, h1, h2 => by
    cases t with
    | lf => cases n with
      | zero => rfl
      | succ k =>
        have e := setF_fuel x f g (Nat.div k 2) .lf (by show k / 2 < f; omega) (by show k / 2 < g; omega)
        simp only [Tr.setF, e]
    | nd l v r => cases n with
      | zero => rfl
      | succ k =>
        have e1 := setF_fuel x f g (Nat.div k 2) l (by show k / 2 < f; omega) (by show k / 2 < g; omega)
        have e2 := setF_fuel x f g (Nat.div k 2) r (by show k / 2 < f; omega) (by show k / 2 < g; omega)
        simp only [Tr.setF, e1, e2]

theorem setR_eq (x : α) : ∀ (t : Tr α) (n : Nat), setR t n x = t.set n x
  | .lf, n => freshR_eq x (n + 1) n
  | .nd l v r, 0 => rfl
  | .nd l v r, k + 1 => by
    show (Bool.rec (.nd l v (setR r (Nat.div k 2) x)) (.nd (setR l (Nat.div k 2) x) v r) (Nat.beq (Nat.mod k 2) 0) : Tr α) = _
    rw [setR_eq x l, setR_eq x r]
    unfold Tr.set
    have e1 := setF_fuel x (Nat.div k 2 + 1) (k + 1) (Nat.div k 2) l (Nat.lt_succ_self _) (by show k / 2 < k + 1; omega)
    have e2 := setF_fuel x (Nat.div k 2 + 1) (k + 1) (Nat.div k 2) r (Nat.lt_succ_self _) (by show k / 2 < k + 1; omega)
    rw [e1, e2]
    show _ = Tr.setF (k + 1 + 1) (.nd l v r) (k + 1) x
    rw [Tr.setF]
    cases Nat.beq (Nat.mod k 2) 0 <;> rfl
end

noncomputable def slotR (t : Tr V) (i : Nat) : V := Option.rec .undef (fun v => v) (getR t i)
theorem slotR_eq (t : Tr V) (i : Nat) : slotR t i = slotOf t i := by
  unfold slotR slotOf
  rw [getR_eq]
  cases t.get i <;> rfl

noncomputable def rdR (t : Tr V) (x : Opd) : V := Opd.rec (fun i => slotR t i) (fun v => v) x
theorem rdR_eq (t : Tr V) : rdR t = rd t := by
  funext x
  cases x with
  | slot i => exact slotR_eq t i
  | const v => rfl

noncomputable def putR (t : Tr V) (o : Option Nat) (v : V) : Tr V := Option.rec t (fun i => setR t i v) o
theorem putR_eq (t : Tr V) (o : Option Nat) (v : V) : putR t o v = putOpt t o v := by
  cases o with
  | none => rfl
  | some i => exact setR_eq v t i

noncomputable def hgetR (h : Heap) (o : Nat) : Option XObj := getR h.objs o
noncomputable def hputR (h : Heap) (o : Nat) (x : XObj) : Heap := ⟨setR h.objs o x, h.next⟩
noncomputable def hpushR (h : Heap) (x : XObj) : Heap := ⟨setR h.objs h.next x, Nat.succ h.next⟩
theorem hgetR_eq (h : Heap) (o : Nat) : hgetR h o = h.get o := getR_eq _ _
theorem hputR_eq (h : Heap) (o : Nat) (x : XObj) : hputR h o x = h.put o x := by unfold hputR Heap.put; rw [setR_eq]
theorem hpushR_eq (h : Heap) (x : XObj) : hpushR h x = h.push x := by unfold hpushR Heap.push; rw [setR_eq]

/-! ## Lists -/
section
variable {α : Type}
noncomputable def dropR (n : Nat) : List α → List α := Nat.rec (motive := fun _ => List α → List α) (fun l => l) (fun _ ih l => List.rec [] (fun _ r _ => ih r) l) n
noncomputable def takeR (n : Nat) : List α → List α := Nat.rec (motive := fun _ => List α → List α) (fun _ => []) (fun _ ih l => List.rec [] (fun a r _ => a :: ih r) l) n
noncomputable def appR (a b : List α) : List α := List.rec b (fun x _ ih => x :: ih) a
noncomputable def lenR (a : List α) : Nat := List.rec 0 (fun _ _ ih => Nat.succ ih) a

theorem dropR_eq : ∀ (n : Nat) (l : List α), dropR n l = l.drop n
  | 0, _ => rfl
  | _ + 1, [] => rfl
  | n + 1, _ :: l => dropR_eq n l
theorem takeR_eq : ∀ (n : Nat) (l : List α), takeR n l = l.take n
  | 0, l => by show ([] : List α) = _; simp
  | n + 1, [] => rfl
  | n + 1, a :: l => by show a :: takeR n l = _; rw [takeR_eq n l]; rfl
theorem appR_eq : ∀ (a b : List α), appR a b = a ++ b
  | [], b => rfl
  | x :: a, b => by show x :: appR a b = _; rw [appR_eq a b]; rfl
theorem lenR_eq : ∀ (a : List α), lenR a = a.length
  | [] => rfl
  | x :: a => by show Nat.succ (lenR a) = _; rw [lenR_eq a]; rfl
end

noncomputable def overR (i : Nat) (vs : List V) : List V → List V :=
  Nat.rec (motive := fun _ => List V → List V) (fun cs => List.rec (motive := fun _ => List V → List V) (fun cs => cs) (fun v _ ih cs => List.rec [] (fun _ r _ => v :: ih r) cs) vs cs) (fun _ ih cs => List.rec [] (fun a r _ => a :: ih r) cs) i
theorem overR_eq : ∀ (i : Nat) (vs cs : List V), overR i vs cs = over cs i vs
  | 0, [], cs => (over_nil cs 0).symm
  | 0, v :: vs, [] => by show ([] : List V) = _; simp [over]
  | 0, v :: vs, c :: cs => by
    show v :: overR 0 vs cs = _
    rw [overR_eq 0 vs cs]
    simp [over]
  | i + 1, vs, [] => by show ([] : List V) = _; cases vs <;> simp [over]
  | i + 1, vs, c :: cs => by
    show c :: overR i vs cs = _
    rw [overR_eq i vs cs]
    cases vs with
    | nil => rw [over_nil, over_nil]
    | cons v vs => simp [over]

/-! ## Values -/
noncomputable def boolK (v : V) (yes no : Option Out) : Option Out :=
  V.rec (motive_1 := fun _ => Option Out) (motive_2 := fun _ => Unit) (fun _ _ => none) (fun b => Bool.rec no yes b) (fun _ => none) none (fun _ _ _ => none) none (fun _ _ _ _ _ => none) none (fun _ => none) none (fun _ _ _ _ _ => none) (fun _ => none) none (fun _ _ _ => none) (fun _ => none) (fun _ _ => none) (fun _ _ => none) none (fun _ => none) (fun _ => none) () (fun _ _ _ _ => ()) v
noncomputable def ptrK (v : V) (k : Nat → Nat → Nat → Option Out) : Option Out :=
  V.rec (motive_1 := fun _ => Option Out) (motive_2 := fun _ => Unit) (fun _ _ => none) (fun _ => none) (fun _ => none) none k none (fun _ _ _ _ _ => none) none (fun _ => none) none (fun _ _ _ _ _ => none) (fun _ => none) none (fun _ _ _ => none) (fun _ => none) (fun _ _ => none) (fun _ _ => none) none (fun _ => none) (fun _ => none) () (fun _ _ _ _ => ()) v
noncomputable def sliceK (v : V) (k : Nat → Nat → Nat → Nat → Option Out) : Option Out :=
  V.rec (motive_1 := fun _ => Option Out) (motive_2 := fun _ => Unit) (fun _ _ => none) (fun _ => none) (fun _ => none) none (fun _ _ _ => none) none (fun o g off len _ => k o g off len) none (fun _ => none) none (fun _ _ _ _ _ => none) (fun _ => none) none (fun _ _ _ => none) (fun _ => none) (fun _ _ => none) (fun _ _ => none) none (fun _ => none) (fun _ => none) () (fun _ _ _ _ => ()) v
noncomputable def intK (v : V) (k : IntKind → Int → Option Out) : Option Out :=
  V.rec (motive_1 := fun _ => Option Out) (motive_2 := fun _ => Unit) k (fun _ => none) (fun _ => none) none (fun _ _ _ => none) none (fun _ _ _ _ _ => none) none (fun _ => none) none (fun _ _ _ _ _ => none) (fun _ => none) none (fun _ _ _ => none) (fun _ => none) (fun _ _ => none) (fun _ _ => none) none (fun _ => none) (fun _ => none) () (fun _ _ _ _ => ()) v
noncomputable def intOr (v : V) (k : IntKind → Int → Option Out) (slow : Option Out) : Option Out :=
  V.rec (motive_1 := fun _ => Option Out) (motive_2 := fun _ => Unit) k (fun _ => slow) (fun _ => slow) slow (fun _ _ _ => slow) slow (fun _ _ _ _ _ => slow) slow (fun _ => slow) slow (fun _ _ _ _ _ => slow) (fun _ => slow) slow (fun _ _ _ => slow) (fun _ => slow) (fun _ _ => slow) (fun _ _ => slow) slow (fun _ => slow) (fun _ => slow) () (fun _ _ _ _ => ()) v
noncomputable def boolOr (v : V) (k : Bool → Option Out) (slow : Option Out) : Option Out :=
  V.rec (motive_1 := fun _ => Option Out) (motive_2 := fun _ => Unit) (fun _ _ => slow) k (fun _ => slow) slow (fun _ _ _ => slow) slow (fun _ _ _ _ _ => slow) slow (fun _ => slow) slow (fun _ _ _ _ _ => slow) (fun _ => slow) slow (fun _ _ _ => slow) (fun _ => slow) (fun _ _ => slow) (fun _ _ => slow) slow (fun _ => slow) (fun _ => slow) () (fun _ _ _ _ => ()) v
noncomputable def natK (v : V) (k : Nat → Option Out) : Option Out := intK v fun _ n => Int.rec k (fun _ => none) n
noncomputable def tupK (v : V) (k : List V → Option Out) : Option Out :=
  V.rec (motive_1 := fun _ => Option Out) (motive_2 := fun _ => Unit) (fun _ _ => none) (fun _ => none) (fun _ => none) none (fun _ _ _ => none) none (fun _ _ _ _ _ => none) none (fun _ => none) none (fun _ _ _ _ _ => none) (fun _ => none) none (fun _ _ _ => none) (fun _ => none) (fun _ _ => none) (fun vs _ => k vs) none (fun _ => none) (fun _ => none) () (fun _ _ _ _ => ()) v
noncomputable def rowK (v : V) (nil : Option Out) (k : Nat → Option Out) : Option Out :=
  V.rec (motive_1 := fun _ => Option Out) (motive_2 := fun _ => Unit) (fun _ _ => none) (fun _ => none) (fun _ => none) none (fun _ _ _ => none) nil (fun _ _ _ n _ => k n) none (fun _ => none) none (fun _ _ _ _ _ => none) (fun _ => none) none (fun _ _ _ => none) (fun _ => none) (fun _ _ => none) (fun _ _ => none) none (fun _ => none) (fun _ => none) () (fun _ _ _ _ => ()) v
noncomputable def thereK (v : V) (k : Option Out) : Option Out :=
  V.rec (motive_1 := fun _ => Option Out) (motive_2 := fun _ => Unit) (fun _ _ => k) (fun _ => k) (fun _ => k) none (fun _ _ _ => k) k (fun _ _ _ _ _ => k) k (fun _ => k) none (fun _ _ _ _ _ => k) (fun _ => k) none (fun _ _ _ => k) (fun _ => k) (fun _ _ => k) (fun _ _ => none) none (fun _ => none) (fun _ => none) () (fun _ _ _ _ => ()) v
noncomputable def funK (v : V) (k : Nat → List V → List V → Option Out) (y : Nat → Option Out) : Option Out :=
  V.rec (motive_1 := fun _ => Option Out) (motive_2 := fun _ => Unit) (fun _ _ => none) (fun _ => none) (fun _ => none) none (fun _ _ _ => none) none (fun _ _ _ _ _ => none) none (fun _ => none) none (fun f a b _ _ => k f a b) y none (fun _ _ _ => none) (fun _ => none) (fun _ _ => none) (fun _ _ => none) none (fun _ => none) (fun _ => none) () (fun _ _ _ _ => ()) v
noncomputable def wantK (v : V) (skip : Option Out) (any : Option Out) (k : Bool → Option Out) : Option Out :=
  V.rec (motive_1 := fun _ => Option Out) (motive_2 := fun _ => Unit) (fun _ _ => skip) k (fun _ => skip) skip (fun _ _ _ => skip) skip (fun _ _ _ _ _ => skip) skip (fun _ => skip) skip (fun _ _ _ _ _ => skip) (fun _ => skip) skip (fun _ _ _ => skip) (fun _ => skip) (fun _ _ => skip) (fun _ _ => skip) any (fun _ => any) (fun _ => skip) () (fun _ _ _ _ => ()) v
noncomputable def cellsK (v : V) (k : List V → Option Out) : Option Out :=
  V.rec (motive_1 := fun _ => Option Out) (motive_2 := fun _ => Unit) (fun a0 a1 => k [.int a0 a1]) (fun a0 => k [.bool a0]) (fun a0 => k [.str a0]) (k [.nilp]) (fun a0 a1 a2 => k [.ptr a0 a1 a2]) (k [.nils]) (fun a0 a1 a2 a3 a4 => k [.slice a0 a1 a2 a3 a4]) (k [.nilm]) (fun a0 => k [.map a0]) (k [.nilf]) (fun a0 a1 a2 _ _ => k [.func a0 a1 a2]) (fun a0 => k [.yield a0]) (k [.nili]) (fun a0 a1 _ => k [.iface a0 a1]) (fun a0 => k [.iter a0]) (fun vs _ => k vs) (fun a0 _ => k [.tup a0]) (k [.any]) (fun a0 => k [.hole a0]) (fun a0 => k [.stamp a0]) () (fun _ _ _ _ => ()) v
noncomputable def oneR (v : V) : Bool :=
  V.rec (motive_1 := fun _ => Bool) (motive_2 := fun _ => Unit) (fun _ _ => true) (fun _ => true) (fun _ => true) true (fun _ _ _ => true) true (fun _ _ _ _ _ => true) true (fun _ => true) true (fun _ _ _ _ _ => true) (fun _ => true) true (fun _ _ _ => true) (fun _ => true) (fun _ _ => false) (fun _ _ => false) false (fun _ => false) (fun _ => true) () (fun _ _ _ _ => ()) v
theorem oneR_eq (v : V) : oneR v = v.one := by cases v <;> rfl
noncomputable def allOneR (vs : List V) : Bool := List.rec true (fun v _ ih => Bool.rec false ih (oneR v)) vs
theorem allOneR_eq : ∀ vs : List V, allOneR vs = vs.all V.one
  | [] => rfl
  | v :: vs => by
    show (Bool.rec false (allOneR vs) (oneR v) : Bool) = _
    rw [allOneR_eq vs, oneR_eq]
    cases h : v.one <;> simp [h]
end Go.Xr

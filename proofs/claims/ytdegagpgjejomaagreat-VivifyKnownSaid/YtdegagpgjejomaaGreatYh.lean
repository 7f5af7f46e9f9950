/- A heap, and slots, of which less is told. -/
import Derived.Test.YtdegagpgjejomaaGreatYg
namespace Go.Xr
open Go.RowKit

/-! ## What is reckoned -/
def natsSame : List Nat → List Nat → Bool
  | [], [] => true
  | a :: x, b :: y => Nat.beq a b && natsSame x y
  | _, _ => false

def entriesSame : List (Int × V) → List (Int × V) → Bool
  | [], [] => true
  | (a, v) :: x, (b, w) :: y => decide (a = b) && (V.same v w && entriesSame x y)
  | _, _ => false

def XObj.same : XObj → XObj → Bool
  | .cells c, .cells c' => V.sames c.cs c'.cs && (Nat.beq c.g c'.g && (natsSame c.lens c'.lens && ((c.ro == c'.ro) && (Nat.beq c.esz c'.esz && (c.spare == c'.spare)))))
  | .map kd es ins, .map kd' es' ins' => kindEq kd kd' && (Nat.beq ins ins' && entriesSame es es')
  | .miter m ins seen cur, .miter m' ins' seen' cur' => decide (m = m') && (Nat.beq ins ins' && (decide (seen = seen') && decide (cur = cur')))
  | .deferred a, .deferred b => a == b
  | .dead a, .dead b => a == b
  | _, _ => false

def XDef.same : XDef → XDef → Bool
  | .call f a, .call g b => Nat.beq f g && V.sames a b
  | .collected a, .collected b => Nat.beq a b
  | _, _ => false

def defsSame : List XDef → List XDef → Bool
  | [], [] => true
  | a :: x, b :: y => XDef.same a b && defsSame x y
  | _, _ => false

def exitSame : XExit → XExit → Bool
  | .normal, .normal => true
  | .ret, .ret => true
  | .exit a, .exit b => Nat.beq a b
  | _, _ => false

/-- Two trees, place by place. -/
def Tr.allLf {α : Type} (p : Option α → Option α → Bool) : Tr α → Bool
  | .lf => true
  | .nd l v r => p v none && (Tr.allLf p l && Tr.allLf p r)
def Tr.lfAll {α : Type} (p : Option α → Option α → Bool) : Tr α → Bool
  | .lf => true
  | .nd l v r => p none v && (Tr.lfAll p l && Tr.lfAll p r)
def Tr.all2 {α : Type} (p : Option α → Option α → Bool) : Tr α → Tr α → Bool
  | .lf, b => Tr.lfAll p b
  | .nd l v r, b => match b with
    | .lf => p v none && (Tr.allLf p l && Tr.allLf p r)
    | .nd l' v' r' => p v v' && (Tr.all2 p l l' && Tr.all2 p r r')

/-- Two trees made one, place by place. -/
def Tr.map1 {α : Type} (f : Option α → Option α) : Tr α → Tr α
  | .lf => .lf
  | .nd l v r => .nd (Tr.map1 f l) (f v) (Tr.map1 f r)
def Tr.join {α : Type} (f : Option α → Option α → Option α) : Tr α → Tr α → Tr α
  | .lf, b => Tr.map1 (f none) b
  | .nd l v r, b => match b with
    | .lf => .nd (Tr.map1 (fun x => f x none) l) (f v none) (Tr.map1 (fun x => f x none) r)
    | .nd l' v' r' => .nd (Tr.join f l l') (f v v') (Tr.join f r r')

/-- The second value tells no more than the first one. -/
def vFits (v : V) : V → Bool
  | .any => match v with
    | .agg _ => false
    | _ => true
  | w => V.same v w
def vOf : Option V → V
  | some v => v
  | none => .undef
def oFits (v w : Option V) : Bool := vFits (vOf v) (vOf w)
def tFits (t t' : Tr V) : Bool := Tr.all2 oFits t t'
def hFit1 : Option XObj → Option XObj → Bool
  | _, none => true
  | none, some _ => false
  | some x, some y => match y with
    | .dead true => true
    | y => XObj.same x y
def hFits (h h' : Heap) : Bool := Nat.ble h.next h'.next && Tr.all2 hFit1 h.objs h'.objs

def vJoin (v w : V) : V :=
  match V.same v w with
  | true => v
  | false => .any
def oJoin : Option V → Option V → Option V
  | none, none => none
  | v, w => some (vJoin (vOf v) (vOf w))
def tJoin (t t' : Tr V) : Tr V := Tr.join oJoin t t'
def hJoin1 : Option XObj → Option XObj → Option XObj
  | some x, some y => match XObj.same x y with
    | true => some x
    | false => some (.dead true)
  | _, _ => none
def hJoin (h h' : Heap) : Heap := ⟨Tr.join hJoin1 h.objs h'.objs, Nat.max h.next h'.next⟩

/-! ## What it means -/
theorem natsSame_eq : ∀ {a b : List Nat}, natsSame a b = true → a = b
  | [], [], _ => rfl
  | [], _ :: _, h => by simp [natsSame] at h
  | _ :: _, [], h => by simp [natsSame] at h
  | x :: a, y :: b, h => by
    simp [natsSame] at h
    rw [h.1, natsSame_eq h.2]

theorem entriesSame_eq : ∀ {a b : List (Int × V)}, entriesSame a b = true → a = b
  | [], [], _ => rfl
  | [], _ :: _, h => by simp [entriesSame] at h
  | _ :: _, [], h => by simp [entriesSame] at h
  | (x, v) :: a, (y, w) :: b, h => by
    simp [entriesSame] at h
    rw [h.1, V.same_eq _ _ h.2.1, entriesSame_eq h.2.2]

theorem XObj.same_eq {x y : XObj} (h : XObj.same x y = true) : x = y := by
  cases x <;> cases y <;> simp [XObj.same] at h
  case cells.cells a b =>
    cases a; cases b
    simp only at h
    obtain ⟨h1, h2, h3, h4, h5, h6⟩ := h
    rw [V.sames_eq _ _ h1, h2, natsSame_eq h3, h4, h5, h6]
  case map.map =>
    obtain ⟨h1, h2, h3⟩ := h
    rw [kindEq_eq h1, h2, entriesSame_eq h3]
  case miter.miter =>
    obtain ⟨h1, h2, h3, h4⟩ := h
    rw [h1, h2, h3, h4]
  case deferred.deferred => rw [h]
  case dead.dead => rw [h]

theorem XDef.same_eq {x y : XDef} (h : XDef.same x y = true) : x = y := by
  cases x <;> cases y <;> simp [XDef.same] at h
  · rw [h.1, V.sames_eq _ _ h.2]
  · rw [h]

theorem defsSame_eq : ∀ {a b : List XDef}, defsSame a b = true → a = b
  | [], [], _ => rfl
  | [], _ :: _, h => by simp [defsSame] at h
  | _ :: _, [], h => by simp [defsSame] at h
  | x :: a, y :: b, h => by
    simp [defsSame] at h
    rw [XDef.same_eq h.1, defsSame_eq h.2]

theorem exitSame_eq {a b : XExit} (h : exitSame a b = true) : a = b := by
  cases a <;> cases b <;> simp [exitSame] at h <;> first | rfl | rw [h]

section
variable {α : Type} {p : Option α → Option α → Bool}

theorem Tr.allLf_get : ∀ {a : Tr α}, Tr.allLf p a = true → p none none = true → ∀ i, p (a.get i) none = true
  | .lf, _, h0, i => by rw [Tr.get_lf]; exact h0
  | .nd l v r, h, h0, i => by
    simp [Tr.allLf] at h
    cases i with
    | zero => rw [Tr.get_nd_zero]; exact h.1
    | succ k => rw [Tr.get_nd_succ]; split; exact Tr.allLf_get h.2.1 h0 _; exact Tr.allLf_get h.2.2 h0 _

theorem Tr.lfAll_get : ∀ {a : Tr α}, Tr.lfAll p a = true → p none none = true → ∀ i, p none (a.get i) = true
  | .lf, _, h0, i => by rw [Tr.get_lf]; exact h0
  | .nd l v r, h, h0, i => by
    simp [Tr.lfAll] at h
    cases i with
    | zero => rw [Tr.get_nd_zero]; exact h.1
    | succ k => rw [Tr.get_nd_succ]; split; exact Tr.lfAll_get h.2.1 h0 _; exact Tr.lfAll_get h.2.2 h0 _

theorem Tr.all2_get : ∀ {a b : Tr α}, Tr.all2 p a b = true → p none none = true → ∀ i, p (a.get i) (b.get i) = true
  | .lf, b, h, h0, i => by rw [Tr.get_lf]; exact Tr.lfAll_get (by simpa [Tr.all2] using h) h0 i
  | .nd l v r, .lf, h, h0, i => by
    rw [Tr.get_lf]
    refine Tr.allLf_get ?_ h0 i
    simpa [Tr.all2, Tr.allLf] using h
  | .nd l v r, .nd l' v' r', h, h0, i => by
    simp [Tr.all2] at h
    cases i with
    | zero => rw [Tr.get_nd_zero, Tr.get_nd_zero]; exact h.1
    | succ k => rw [Tr.get_nd_succ, Tr.get_nd_succ]; split; exact Tr.all2_get h.2.1 h0 _; exact Tr.all2_get h.2.2 h0 _
end

theorem VR.loose {μ : Mu} {v w : V} {x : Value} (hv : VR μ v x) (hf : vFits v w = true) : VR μ w x := by
  have main : V.same v w = true → VR μ w x := fun e => by rw [← V.same_eq _ _ e]; exact hv
  cases w with
  | any =>
    refine .any ?_
    cases hv <;> first | rfl | (simp [vFits] at hf; done) | assumption
  | _ => exact main hf

/-- Slots of which less is told. -/
def TFits (t t' : Tr V) : Prop := ∀ i, vFits (slotOf t i) (slotOf t' i) = true

theorem vFits_refl_undef : vFits .undef .undef = true := by simp [vFits, V.undef, V.same, V.sames]

theorem tFits_sound {t t' : Tr V} (h : tFits t t' = true) : TFits t t' := fun i => by
  have := Tr.all2_get h (by simp [oFits, vOf, vFits_refl_undef]) i
  unfold oFits at this
  have e : ∀ t : Tr V, slotOf t i = vOf (t.get i) := fun t => by unfold slotOf vOf; cases t.get i <;> rfl
  rw [e, e]
  exact this

theorem SR.loose {μ : Mu} {t t' : Tr V} {tmps : Array Value} (hs : SR μ t tmps) (hf : TFits t t') : SR μ t' tmps := fun i => (hs i).loose (hf i)

mutual
theorem V.same_refl : ∀ v : V, V.same v v = true
  | .int k n => by simp [V.same]; cases k <;> rfl
  | .bool a => by simp [V.same]
  | .str a => by simp [V.same]
  | .nilp => by simp [V.same]
  | .ptr a b c => by simp [V.same]
  | .nils => by simp [V.same]
  | .slice a b c d e => by simp [V.same]
  | .nilm => by simp [V.same]
  | .map a => by simp [V.same]
  | .nilf => by simp [V.same]
  | .func f x y => by simp [V.same, V.sames_refl]
  | .yield a => by simp [V.same]
  | .nili => by simp [V.same]
  | .iface t v => by simp [V.same, V.same_refl]
  | .iter a => by simp [V.same]
  | .agg a => by simp [V.same, V.sames_refl]
  | .tup a => by simp [V.same, V.sames_refl]
  | .any => by simp [V.same]
  | .hole a => by simp [V.same]
  | .stamp a => by simp [V.same]
theorem V.sames_refl : ∀ v : List V, V.sames v v = true
  | [] => by simp [V.sames]
  | v :: x => by simp [V.sames, V.same_refl, V.sames_refl]
end

theorem vFits_refl (v : V) : vFits v v = true := by
  cases v <;> first | (simp [vFits]; done) | (simp only [vFits]; exact V.same_refl _)
theorem TFits.refl (t : Tr V) : TFits t t := fun _ => vFits_refl _

/-- What is so of one heap is so of the other one. -/
def HeapW [RoLim] (P : Program) (h h' : Heap) : Prop := ∀ (K : Nat → Prop) (w0 : World) (μ : Mu) (w : World), Rel P K w0 μ h w → Rel P K w0 μ h' w

section
variable [RoLim] {P : Program}
theorem HeapW.refl (h : Heap) : HeapW P h h := fun _ _ _ _ R => R
theorem HeapW.trans {a b c : Heap} (h : HeapW P a b) (h' : HeapW P b c) : HeapW P a c := fun _ _ _ _ R => h' _ _ _ _ (h _ _ _ _ R)

/-- Objects told as they are, or no more. -/
theorem HeapW.of {h h' : Heap} (hn : h.next ≤ h'.next) (hg : ∀ o, h'.get o = h.get o ∨ h'.get o = none ∨ (h'.get o = some (.dead true) ∧ o < h'.next)) : HeapW P h h' := by
  intro K w0 μ w R
  have hlive : ∀ o g, Live h' o g → Live h o g ∧ h'.get o = h.get o := by
    intro o g ⟨x, hx, hl⟩
    rcases hg o with e | e | ⟨e, _⟩
    · exact ⟨⟨x, e ▸ hx, hl⟩, e⟩
    · rw [e] at hx; cases hx
    · rw [e] at hx; cases hx; exact hl.elim
  have hsome : ∀ o x, h'.get o = some x → (∀ b, x ≠ .dead b) → h.get o = some x := by
    intro o x hx hd
    rcases hg o with e | e | ⟨e, _⟩
    · exact e ▸ hx
    · rw [e] at hx; cases hx
    · rw [e] at hx; cases hx; exact (hd _ rfl).elim
  refine ⟨fun o g l hm => ⟨Nat.lt_of_lt_of_le (R.dom o g l hm).1 hn, (R.dom o g l hm).2⟩, fun o g l x hm hx => ?_, fun o x hx => ?_, fun o mo ins seen cur kd es ins' h1 h2 => ?_, fun o g l o' g' l' hl hl' hm hm' e => ?_, fun o g l hl hm => ?_, R.kept, R.os, R.tape, R.output, R.size, R.low⟩
  · rcases hg o with e | e | ⟨e, _⟩
    · exact R.gens o g l x hm (e ▸ hx)
    · rw [e] at hx; cases hx
    · rw [e] at hx; cases hx; trivial
  · rcases hg o with e | e | ⟨e, hlt⟩
    · have := R.obj o x (e ▸ hx)
      exact ⟨Nat.lt_of_lt_of_le this.1 hn, this.2⟩
    · rw [e] at hx; cases hx
    · rw [e] at hx; cases hx; exact ⟨hlt, trivial⟩
  · exact R.iters o mo ins seen cur kd es ins' (hsome _ _ h1 (fun b e => by cases e)) (hsome _ _ h2 (fun b e => by cases e))
  · obtain ⟨a1, a2⟩ := hlive _ _ hl
    obtain ⟨b1, b2⟩ := hlive _ _ hl'
    unfold isRo
    rw [a2, b2]
    exact R.apart o g l o' g' l' a1 b1 hm hm' e
  · obtain ⟨a1, a2⟩ := hlive _ _ hl
    unfold isRo
    rw [a2]
    exact R.own o g l a1 hm

theorem HeapW.of_get {h h' : Heap} (hn : h'.next = h.next) (hg : ∀ o, h'.get o = h.get o) : HeapW P h h' := HeapW.of (Nat.le_of_eq hn.symm) fun o => .inl (hg o)

theorem hFits_sound {h h' : Heap} (hf : hFits h h' = true) : HeapW P h h' := by
  intro K w0 μ w R
  simp [hFits] at hf
  obtain ⟨f1, f2⟩ := hf
  refine HeapW.of f1 (fun o => ?_) K w0 μ w R
  have := Tr.all2_get f2 rfl o
  show h'.objs.get o = h.objs.get o ∨ _
  cases e : h'.objs.get o with
  | none => exact .inr (.inl e)
  | some y =>
    rw [e] at this
    cases e0 : h.objs.get o with
    | none => rw [e0] at this; simp [hFit1] at this
    | some x =>
      rw [e0] at this
      have hlt : o < h'.next := Nat.lt_of_lt_of_le (R.obj o x e0).1 f1
      have main : XObj.same x y = true → some y = some x ∨ h'.get o = none ∨ h'.get o = some (XObj.dead true) ∧ o < h'.next := fun q => .inl (by rw [XObj.same_eq q])
      unfold hFit1 at this
      simp only at this
      split at this
      · exact .inr (.inr ⟨e, hlt⟩)
      · exact main this

theorem HeapW.forget {h : Heap} {o : Nat} {x : XObj} (hg : h.get o = some x) : HeapW P h (h.put o (.dead true)) := fun _ _ _ _ R => R.forget hg true (by simp)

theorem HeapW.bump {h : Heap} {o ins ins2 : Nat} {kd : IntKind} {es : List (Int × V)} (hg : h.get o = some (.map kd es ins)) (hlt : ins < ins2) : HeapW P h (h.put o (.map kd es ins2)) := by
  intro K w0 μ w R
  have hl : Live h o 0 := ⟨_, hg, rfl⟩
  have hro : ¬ isRo h o := fun ⟨x, hx, hr⟩ => by rw [hg] at hx; cases hx; exact hr
  refine R.step o (.map kd es ins2) (Mu.le_refl μ) (fun o' => Heap.get_put ..) (Nat.le_refl _) (R.obj o _ hg).1 (Nat.le_refl _) (fun b _ => .inl rfl) (fun o' g l hm => .inl hm) (fun g l hl' hm => ?_) (fun g l hm => (R.gens o g l (.map kd es ins) hm hg : g = 0)) (R.obj o _ hg).2
    (fun oi mo ins1 seen cur kd' es' ins' e1 e2 e3 => ?_) rfl rfl rfl
  · cases hl'
    exact R.mine_live hl hm hro
  · rw [Heap.get_put] at e1 e2
    by_cases f1 : oi = o
    · rw [if_pos f1] at e1; cases e1
    · rw [if_neg f1] at e1
      have f2 : mo = o := e3.resolve_left f1
      subst f2
      rw [if_pos rfl] at e2
      cases e2
      have := (R.iters oi mo ins1 seen cur kd es ins e1 hg).1
      exact ⟨by omega, fun e => by omega⟩

variable {rnd : Option Nat} {t t2 : Tr V} {d : List XDef} {h h2 : Heap} {c : XCode} {Q Q' : XExit → Tr V → List XDef → Heap → Prop}

theorem CodeWP.weak (hw : CodeWP P c rnd t d h Q) (hq : ∀ e t1 d1 h1, Q e t1 d1 h1 → ∃ t2 h2, TFits t1 t2 ∧ HeapW P h1 h2 ∧ Q' e t2 d1 h2) : CodeWP P c rnd t d h Q' := by
  intro K w0 μ w b a k cs n c' hc hn hr R hs hd
  obtain ⟨e, t', d', h', μ', a', w', q, r1, r2⟩ := hw K w0 μ w b a k cs n c' hc hn hr R hs hd
  obtain ⟨t2, h2, f1, f2, q2⟩ := hq _ _ _ _ q
  exact ⟨e, t2, d', h2, μ', a', w', q2, ⟨r1.le, f2 _ _ _ _ r1.rel, r1.sr.loose f1, r1.dr, r1.size⟩, r2⟩

theorem CodeWP.pre (hw : CodeWP P c rnd t2 d h2 Q) (ht : TFits t t2) (hh : HeapW P h h2) : CodeWP P c rnd t d h Q := by
  intro K w0 μ w b a k cs n c' hc hn hr R hs hd
  exact hw K w0 μ w b a k cs n c' hc hn hr (hh _ _ _ _ R) (hs.loose ht) hd

theorem CallWP.weak {dk : Bool} {f : Nat} {args : List V} {Q Q' : V → Heap → Prop} (hw : CallWP P dk f args h Q) (hq : ∀ v h, Q v h → ∃ v2 h2, vFits v v2 = true ∧ HeapW P h h2 ∧ Q' v2 h2) : CallWP P dk f args h Q' := by
  obtain ⟨fn, h1, h2, h3⟩ := hw
  refine ⟨fn, h1, h2, fun K w0 μ w args' cs R hv => ?_⟩
  obtain ⟨v, h', μ', w', fr, x, q, r1, r2⟩ := h3 K w0 μ w args' cs R hv
  obtain ⟨v2, h2, f1, f2, q2⟩ := hq _ _ q
  exact ⟨v2, h2, μ', w', fr, x, q2, ⟨r1.le, f2 _ _ _ _ r1.rel, r1.val.loose f1⟩, r2⟩

theorem CallWP.pre {dk : Bool} {f : Nat} {args : List V} {Q : V → Heap → Prop} (hw : CallWP P dk f args h2 Q) (hh : HeapW P h h2) : CallWP P dk f args h Q := by
  obtain ⟨fn, h1, h2, h3⟩ := hw
  exact ⟨fn, h1, h2, fun K w0 μ w args' cs R hv => h3 K w0 μ w args' cs (hh _ _ _ _ R) hv⟩

/-- What code does while a map under a range, and the range's place, are put aside: they are there behind it as ahead. -/
theorem code_hide {oi mo ins : Nat} {seen : List Int} {cur : Option Int} {kd : IntKind} {es : List (Int × V)} {q : XExit → Tr V → List XDef → Prop} (hgi : h.get oi = some (.miter (some mo) ins seen cur)) (hgm : h.get mo = some (.map kd es ins))
    (hw : CodeWP P c rnd t d ((h.put oi (.dead false)).put mo (.dead false)) fun e t1 d1 h1 => q e t1 d1 ∧ h1 = (h.put oi (.dead false)).put mo (.dead false)) :
    CodeWP P c rnd t d h fun e t1 d1 h1 => q e t1 d1 ∧ h1 = (((h.put oi (.dead false)).put mo (.dead false)).put oi (.miter (some mo) (ins + 1) seen cur)).put mo (.map kd es (ins + 1)) := by
  intro K w0 μ w b a k cs n c' hc hn hr R hs hd
  obtain ⟨li, hli⟩ := R.loc (o := oi) (g := 0) ⟨_, hgi, rfl⟩
  obtain ⟨lm, hlm⟩ := R.loc (o := mo) (g := 0) ⟨_, hgm, rfl⟩
  have hne : mo ≠ oi := fun e => by rw [e, hgi] at hgm; cases hgm
  have hgm1 : (h.put oi (.dead false)).get mo = some (.map kd es ins) := by rw [Heap.get_put, if_neg hne]; exact hgm
  have Rh := (R.forget hgi false (fun _ g hg => hg)).forget hgm1 false (fun _ g hg => hg)
  have hgH : ∀ o, ((h.put oi (.dead false)).put mo (.dead false)).get o = if o = mo then some (.dead false) else if o = oi then some (.dead false) else h.get o := fun o => by rw [Heap.get_put, Heap.get_put]
  have nro : ∀ o x, h.get o = some x → ¬ roX x → ¬ isRo h o := fun o x hx hn ⟨y, hy, hr⟩ => by rw [hx] at hy; cases hy; exact hn hr
  have Rk := Rh.keep (fun b => K b ∨ b = li.blk ∨ b = lm.blk) (fun b hb => by
    rcases hb with hb | rfl | rfl
    · have := (R.kept b hb).1; have := R.size; omega
    · exact (R.dom _ _ _ hli).2
    · exact (R.dom _ _ _ hlm).2) (fun o g l hl hm => by
    obtain ⟨x, hx, hlx⟩ := hl
    rw [hgH] at hx
    by_cases e1 : o = mo
    · rw [if_pos e1] at hx; cases hx; exact hlx.elim
    · rw [if_neg e1] at hx
      by_cases e2 : o = oi
      · rw [if_pos e2] at hx; cases hx; exact hlx.elim
      · rw [if_neg e2] at hx
        have hro : isRo h o ↔ isRo ((h.put oi (.dead false)).put mo (.dead false)) o := by unfold isRo; rw [hgH, if_neg e1, if_neg e2]
        rw [← hro]
        rcases R.own o g l ⟨x, hx, hlx⟩ hm with hr | hk
        · exact .inl hr
        · refine .inr fun hb => ?_
          rcases hb with hb | hb | hb
          · exact hk hb
          · rcases R.apart o g l oi 0 li ⟨x, hx, hlx⟩ ⟨_, hgi, rfl⟩ hm hli hb with e | ⟨_, e⟩
            · exact e2 e
            · exact nro oi _ hgi (fun q => q) e
          · rcases R.apart o g l mo 0 lm ⟨x, hx, hlx⟩ ⟨_, hgm, rfl⟩ hm hlm hb with e | ⟨_, e⟩
            · exact e1 e
            · exact nro mo _ hgm (fun q => q) e)
  obtain ⟨e, t1, d1, h1, μ1, a1, w1, ⟨q1, q2⟩, r1, r2⟩ := hw _ w μ w b a k cs n c' hc hn hr Rk hs hd
  subst q2
  refine ⟨e, t1, d1, _, μ1, a1, w1, ⟨q1, rfl⟩, ⟨r1.le, ?_, r1.sr, r1.dr, r1.size⟩, r2⟩
  refine Rel.unhide R hgi hgm hli hlm r1.rel r1.le ?_ ?_ ?_
  · rw [hgH]; by_cases e : oi = mo
    · rw [if_pos e]
    · rw [if_neg e, if_pos rfl]
  · rw [hgH, if_pos rfl]
  · intro o i1 s1 c1 ho
    rw [hgH] at ho
    by_cases e1 : o = mo
    · rw [if_pos e1] at ho; cases ho
    · rw [if_neg e1] at ho
      by_cases e2 : o = oi
      · rw [if_pos e2] at ho; cases ho
      · rw [if_neg e2] at ho
        have := (R.iters o mo i1 s1 c1 kd es ins ho hgm).1
        omega
end
end Go.Xr

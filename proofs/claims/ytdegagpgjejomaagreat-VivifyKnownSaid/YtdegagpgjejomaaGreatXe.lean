/- X's heap and the machine's world: the relation, and how it is kept. -/
import Derived.Test.YtdegagpgjejomaaGreatXd
namespace Go.Xr
open Go.RowKit

def LiveX : XObj → Nat → Prop
  | .cells c, g => ∃ L, c.lenOf g = some L
  | .dead _, _ => False
  | _, g => g = 0

def Live (h : Heap) (o g : Nat) : Prop := ∃ x, h.get o = some x ∧ LiveX x g

/-- Objects that several may share: there are none. -/
def roX : XObj → Prop
  | .cells c => c.ro = true
  | _ => False

def isRo (h : Heap) (o : Nat) : Prop := ∃ x, h.get o = some x ∧ roX x

def genX : XObj → Nat → Prop
  | .cells c, g => g ≤ c.g
  | .dead true, _ => True
  | _, g => g = 0

def CellsAt (μ : Mu) (w : World) (c : Cells) (o g L : Nat) : Prop :=
  ∃ l arr et fz, μ o g = some l ∧ l.esz = c.esz ∧ w.heap[l.blk]? = some (.cells arr et fz) ∧ (c.ro = false → fz = (0, 0)) ∧
    L ≤ c.cs.length ∧ (∀ (i : Nat) (v : V), i < L → c.cs[i]? = some v → ∃ x, arr[l.base + i]? = some x ∧ VR μ v x) ∧
    (g = c.g → c.spare = true → L ≤ l.kap * l.esz ∧ l.base + l.kap * l.esz ≤ arr.size ∧ 0 < l.esz) ∧ (c.spare = false → l.base = 0)

/-- Generations in one block begin at one place. -/
def SameBase (μ : Mu) (c : Cells) (o : Nat) : Prop :=
  ∀ g g' L L' l l', c.lenOf g = some L → c.lenOf g' = some L' → μ o g = some l → μ o g' = some l' → l.blk = l'.blk → l.base = l'.base

structure MR (μ : Mu) (kd : IntKind) (es : List (Int × V)) (es' : List MapEntry) (clock : Nat) : Prop where
  there : ∀ e ∈ es', ∃ n v, e.key = .int kd n ∧ hasKey n es = some v ∧ VR μ v e.val
  back : ∀ n v, hasKey n es = some v → ∃ e ∈ es', e.key = .int kd n
  size : es.length = es'.length
  keys : es'.Pairwise fun a b => a.key ≠ b.key
  stamps : es'.Pairwise fun a b => a.born ≠ b.born
  young : ∀ e ∈ es', e.born < clock
  sorted : es.Pairwise fun a b => a.1 < b.1
  open_ : ∀ e ∈ es', ∀ n o, e.key = .int kd n → hasKey n es = some (.hole o) → ∃ l, μ o 0 = some l ∧ l.base = e.born

def jumpR : Option (Option Nat) → Option Code → Prop
  | none, none => True
  | some none, some .ret => True
  | some (some id), some (.exit id') => id = id'
  | _, _ => False

/-- Slots and what a frame has in them. -/
def SR (μ : Mu) (t : Tr V) (tmps : Array Value) : Prop := ∀ i, VR μ (slotOf t i) (tmps.getD i undef)

structure LoopR (P : Program) (μ : Mu) (s : LoopState) (jump : Option (Option Nat)) (t : Tr V) (ps : List Nat) (as bo : XCode) (k : Nat) (r : Loop) : Prop where
  state : r.state = s
  jump : jumpR jump r.pending
  tmps : SR μ t r.tmps
  code : ∃ n, n ≤ r.tmps.size ∧ compCode P n r.assign = some as ∧ compCode P n r.body = some bo ∧ ∀ p ∈ ps, p < n
  params : r.params.toList = ps
  defers : ∃ lk, μ k 0 = some lk ∧ r.defers = lk.blk

def OR (P : Program) (μ : Mu) (w : World) (o : Nat) : XObj → Prop
  | .cells c => (∀ g L, c.lenOf g = some L → CellsAt μ w c o g L) ∧ c.lens.Pairwise (fun a b => b ≤ a) ∧ SameBase μ c o
  | .map kd es _ => ∃ l es' clock, μ o 0 = some l ∧ w.heap[l.blk]? = some (.map es' clock) ∧ MR μ kd es es'.toList clock
  | .miter none _ _ _ => ∃ l, μ o 0 = some l ∧ ∃ s se st, w.heap[l.blk]? = some (.mapIter none s se st)
  | .miter (some m) _ _ _ => ∃ l, μ o 0 = some l ∧ ∃ lm, μ m 0 = some lm ∧ ∃ s se st, w.heap[l.blk]? = some (.mapIter (some lm.blk) s se st)
  | .loop s jump t ps as bo k => ∃ l, μ o 0 = some l ∧ ∃ r, w.heap[l.blk]? = some (.loop r) ∧ LoopR P μ s jump t ps as bo k r
  | .deferred taken => ∃ l, μ o 0 = some l ∧ w.heap[l.blk]? = some (.deferred (match taken with | true => none | false => some []))
  | .dead _ => True

def IterOk (μ : Mu) (w : World) (kd : IntKind) (mo o : Nat) (seen : List Int) (cur : Option Int) : Prop :=
  ∀ lm l es' clock, μ mo 0 = some lm → μ o 0 = some l → w.heap[lm.blk]? = some (.map es' clock) →
    ∃ seen', w.heap[l.blk]? = some (.mapIter (some lm.blk) clock seen' clock) ∧
      (∀ e ∈ es'.toList, ∀ n, e.key = .int kd n → (seen'.contains e.born = true ↔ n ∈ seen)) ∧
      (∀ k, cur = some k → ∃ st, seen'.back? = some st ∧ ∀ e ∈ es'.toList, (e.born = st ↔ e.key = .int kd k))

structure Rel [RoLim] (P : Program) (K : Nat → Prop) (w0 : World) (μ : Mu) (h : Heap) (w : World) : Prop where
  dom : ∀ o g l, μ o g = some l → o < h.next ∧ l.blk < w.heap.size
  gens : ∀ o g l x, μ o g = some l → h.get o = some x → genX x g
  obj : ∀ o x, h.get o = some x → o < h.next ∧ OR P μ w o x
  iters : ∀ o mo ins seen cur kd es ins', h.get o = some (.miter (some mo) ins seen cur) → h.get mo = some (.map kd es ins') → ins ≤ ins' ∧ (ins = ins' → IterOk μ w kd mo o seen cur)
  apart : ∀ o g l o' g' l', Live h o g → Live h o' g' → μ o g = some l → μ o' g' = some l' → l.blk = l'.blk → o = o' ∨ (isRo h o ∧ isRo h o')
  own : ∀ o g l, Live h o g → μ o g = some l → (isRo h o ∧ l.blk < RoLim.lim) ∨ ¬ K l.blk
  kept : ∀ b, K b → b < w0.heap.size ∧ w.heap[b]? = w0.heap[b]?
  os : w.os = w0.os
  tape : w.tape = w0.tape
  output : w.output = w0.output
  size : w0.heap.size ≤ w.heap.size
  low : RoLim.lim ≤ w0.heap.size

/-- A block that no other live object lies in, and that need not be kept. -/
def Mine (K : Nat → Prop) (μ : Mu) (h : Heap) (o b : Nat) : Prop :=
  ¬ K b ∧ ∀ o' g' l', o' ≠ o → Live h o' g' → μ o' g' = some l' → l'.blk ≠ b

section
variable [RoLim] {P : Program} {K : Nat → Prop} {w0 : World} {μ μ' : Mu} {h h' : Heap} {w w' : World}

theorem Rel.mine_fresh (R : Rel P K w0 μ h w) (o : Nat) {b : Nat} (hb : w.heap.size ≤ b) : Mine K μ h o b := by
  refine ⟨fun hk => ?_, fun o' g' l' _ _ hm e => ?_⟩
  · have := (R.kept b hk).1; have := R.size; omega
  · have := (R.dom o' g' l' hm).2; omega

theorem Rel.mine_live (R : Rel P K w0 μ h w) {o g : Nat} {l : Loc} (hl : Live h o g) (hm : μ o g = some l) (hro : ¬ isRo h o) : Mine K μ h o l.blk := by
  refine ⟨(R.own o g l hl hm).resolve_left fun q => hro q.1, fun o' g' l' hne hl' hm' e => ?_⟩
  rcases R.apart o' g' l' o g l hl' hl hm' hm e with h | h
  · exact hne h
  · exact hro h.2

omit [RoLim] in
theorem CellsAt.frame {c : Cells} {o g L : Nat} (hc : CellsAt μ w c o g L) (hle : μ.le μ') (hb : ∀ l, μ o g = some l → w'.heap[l.blk]? = w.heap[l.blk]?) : CellsAt μ' w' c o g L := by
  obtain ⟨l, arr, et, fz, h1, h2, h3, h4, h5, h6, h7⟩ := hc
  exact ⟨l, arr, et, fz, hle _ _ _ h1, h2, (hb l h1).trans h3, h4, h5, fun i v hi hv => let ⟨x, hx, hr⟩ := h6 i v hi hv; ⟨x, hx, hr.mono hle⟩, h7⟩

omit [RoLim] in
theorem MR.mono {kd : IntKind} {es : List (Int × V)} {es' : List MapEntry} {clock : Nat} (hr : MR μ kd es es' clock) (hle : μ.le μ') : MR μ' kd es es' clock :=
  ⟨fun e he => let ⟨n, v, a, b, c⟩ := hr.there e he; ⟨n, v, a, b, c.mono hle⟩, hr.back, hr.size, hr.keys, hr.stamps, hr.young, hr.sorted, fun e he n o a b => let ⟨l, c, d⟩ := hr.open_ e he n o a b; ⟨l, hle _ _ _ c, d⟩⟩

omit [RoLim] in
theorem SR.mono {t : Tr V} {tmps : Array Value} (hs : SR μ t tmps) (hle : μ.le μ') : SR μ' t tmps := fun i => (hs i).mono hle

omit [RoLim] in
theorem LoopR.mono {s : LoopState} {jump : Option (Option Nat)} {t : Tr V} {ps : List Nat} {as bo : XCode} {k : Nat} {r : Loop} (hr : LoopR P μ s jump t ps as bo k r) (hle : μ.le μ') : LoopR P μ' s jump t ps as bo k r :=
  ⟨hr.state, hr.jump, hr.tmps.mono hle, hr.code, hr.params, let ⟨lk, a, b⟩ := hr.defers; ⟨lk, hle _ _ _ a, b⟩⟩

omit [RoLim] in
theorem OR.frame {o : Nat} {x : XObj} (hx : OR P μ w o x) (hle : μ.le μ') (hb : ∀ g l, LiveX x g → μ o g = some l → w'.heap[l.blk]? = w.heap[l.blk]?) : OR P μ' w' o x := by
  cases x with
  | cells c =>
    obtain ⟨h1, h2, h3⟩ := hx
    refine ⟨fun g L hL => (h1 g L hL).frame hle fun l hl => hb g l ⟨L, hL⟩ hl, h2, fun g g' L L' l l' hL hL' hm hm' => ?_⟩
    obtain ⟨l0, _, _, _, e0, _⟩ := h1 g L hL
    obtain ⟨l1, _, _, _, e1, _⟩ := h1 g' L' hL'
    have q0 := hle _ _ _ e0
    have q1 := hle _ _ _ e1
    rw [hm] at q0
    rw [hm'] at q1
    cases q0
    cases q1
    exact h3 g g' L L' l l' hL hL' e0 e1
  | map kd es ins =>
    obtain ⟨l, es', clock, h1, h2, h3⟩ := hx
    exact ⟨l, es', clock, hle _ _ _ h1, (hb 0 l rfl h1).trans h2, h3.mono hle⟩
  | miter m ins seen cur =>
    cases m with
    | none =>
      obtain ⟨l, h1, s, se, st, h2⟩ := hx
      exact ⟨l, hle _ _ _ h1, s, se, st, (hb 0 l rfl h1).trans h2⟩
    | some m =>
      obtain ⟨l, h1, lm, h3, s, se, st, h2⟩ := hx
      exact ⟨l, hle _ _ _ h1, lm, hle _ _ _ h3, s, se, st, (hb 0 l rfl h1).trans h2⟩
  | loop s jump t ps as bo k =>
    obtain ⟨l, h1, r, h2, h3⟩ := hx
    exact ⟨l, hle _ _ _ h1, r, (hb 0 l rfl h1).trans h2, h3.mono hle⟩
  | deferred taken =>
    obtain ⟨l, h1, h2⟩ := hx
    exact ⟨l, hle _ _ _ h1, (hb 0 l rfl h1).trans h2⟩
  | dead many => trivial

omit [RoLim] in
theorem OR.loc {o g : Nat} {x : XObj} (hx : OR P μ w o x) (hl : LiveX x g) : ∃ l, μ o g = some l := by
  cases x with
  | cells c => obtain ⟨L, hL⟩ := hl; obtain ⟨l, _, _, _, h1, _⟩ := hx.1 g L hL; exact ⟨l, h1⟩
  | map kd es ins => obtain ⟨l, _, _, h1, _⟩ := hx; cases hl; exact ⟨l, h1⟩
  | miter m ins seen cur => cases m <;> (obtain ⟨l, h1, _⟩ := hx; cases hl; exact ⟨l, h1⟩)
  | loop s jump t ps as bo k => obtain ⟨l, h1, _⟩ := hx; cases hl; exact ⟨l, h1⟩
  | deferred taken => obtain ⟨l, h1, _⟩ := hx; cases hl; exact ⟨l, h1⟩
  | dead many => exact hl.elim

/-- ONE OBJECT TURNS, or comes. -/
theorem Rel.step (R : Rel P K w0 μ h w) (o : Nat) (x1 : XObj)
    (hle : μ.le μ') (hget : ∀ o', h'.get o' = if o' = o then some x1 else h.get o') (hnext : h.next ≤ h'.next) (ho : o < h'.next)
    (hsz : w.heap.size ≤ w'.heap.size) (hblk : ∀ b, b < w.heap.size → w'.heap[b]? = w.heap[b]? ∨ Mine K μ h o b)
    (hnew : ∀ o' g l, μ' o' g = some l → μ o' g = some l ∨ (o' = o ∧ l.blk < w'.heap.size))
    (hlive : ∀ g l, LiveX x1 g → μ' o g = some l → Mine K μ h o l.blk)
    (hgen : ∀ g l, μ' o g = some l → genX x1 g) (hor : OR P μ' w' o x1)
    (hit : ∀ oi mo ins seen cur kd es ins', h'.get oi = some (.miter (some mo) ins seen cur) → h'.get mo = some (.map kd es ins') → oi = o ∨ mo = o → ins ≤ ins' ∧ (ins = ins' → IterOk μ' w' kd mo oi seen cur))
    (hos : w'.os = w.os) (htape : w'.tape = w.tape) (hout : w'.output = w.output) : Rel P K w0 μ' h' w' := by
  have hother : ∀ o' g l, o' ≠ o → μ' o' g = some l → μ o' g = some l := fun o' g l hne hm => (hnew o' g l hm).resolve_right fun h => hne h.1
  have hliveo : ∀ o' g, o' ≠ o → Live h' o' g → Live h o' g := fun o' g hne ⟨x, hx, hl⟩ => ⟨x, by rw [hget, if_neg hne] at hx; exact hx, hl⟩
  have hlivex : ∀ g, Live h' o g → LiveX x1 g := fun g ⟨x, hx, hl⟩ => by rw [hget, if_pos rfl] at hx; cases hx; exact hl
  have hsame : ∀ o' g l, o' ≠ o → Live h o' g → μ o' g = some l → w'.heap[l.blk]? = w.heap[l.blk]? := fun o' g l hne hl hm =>
    (hblk l.blk (R.dom o' g l hm).2).resolve_right fun hmine => hmine.2 o' g l hne hl hm rfl
  have hroo : ∀ o', o' ≠ o → (isRo h' o' ↔ isRo h o') := fun o' hne => by unfold isRo; rw [hget, if_neg hne]
  refine ⟨fun o' g l hm => ?_, fun o' g l x hm hx => ?_, fun o' x hx => ?_, fun oi mo ins seen cur kd es ins' h1 h2 => ?_, fun oa ga la ob gb lb hla hlb hma hmb e => ?_,
    fun o' g l hl hm => ?_, fun b hb => ?_, hos.trans R.os, htape.trans R.tape, hout.trans R.output, Nat.le_trans R.size hsz, R.low⟩
  · rcases hnew o' g l hm with h1 | ⟨rfl, h2⟩
    · have := R.dom o' g l h1; omega
    · exact ⟨ho, h2⟩
  · by_cases e : o' = o
    · subst e
      rw [hget, if_pos rfl] at hx
      cases hx
      exact hgen g l hm
    · rw [hget, if_neg e] at hx
      exact R.gens o' g l x (hother o' g l e hm) hx
  · by_cases e : o' = o
    · subst e
      rw [hget, if_pos rfl] at hx
      cases hx
      exact ⟨ho, hor⟩
    · rw [hget, if_neg e] at hx
      exact ⟨Nat.lt_of_lt_of_le (R.obj o' x hx).1 hnext, (R.obj o' x hx).2.frame hle fun g l hl hm => hsame o' g l e ⟨x, hx, hl⟩ hm⟩
  · by_cases e : oi = o ∨ mo = o
    · exact hit oi mo ins seen cur kd es ins' h1 h2 e
    · have e1 : oi ≠ o := fun x => e (.inl x)
      have e2 : mo ≠ o := fun x => e (.inr x)
      rw [hget, if_neg e1] at h1
      rw [hget, if_neg e2] at h2
      obtain ⟨hi0, hi⟩ := R.iters oi mo ins seen cur kd es ins' h1 h2
      refine ⟨hi0, fun hins => ?_⟩
      have hi := hi hins
      intro lm l es' clock hm hl hw
      have hm' := hother _ _ _ e2 hm
      have hl' := hother _ _ _ e1 hl
      rw [hsame mo 0 lm e2 ⟨_, h2, rfl⟩ hm'] at hw
      obtain ⟨seen', a, b⟩ := hi lm l es' clock hm' hl' hw
      exact ⟨seen', (hsame oi 0 l e1 ⟨_, h1, rfl⟩ hl').trans a, b⟩
  · by_cases ea : oa = o
    · by_cases eb : ob = o
      · exact .inl (ea.trans eb.symm)
      · subst ea
        exact absurd e.symm ((hlive ga la (hlivex ga hla) hma).2 ob gb lb eb (hliveo ob gb eb hlb) (hother ob gb lb eb hmb))
    · by_cases eb : ob = o
      · subst eb
        exact absurd e ((hlive gb lb (hlivex gb hlb) hmb).2 oa ga la ea (hliveo oa ga ea hla) (hother oa ga la ea hma))
      · rw [hroo _ ea, hroo _ eb]
        exact R.apart oa ga la ob gb lb (hliveo oa ga ea hla) (hliveo ob gb eb hlb) (hother oa ga la ea hma) (hother ob gb lb eb hmb) e
  · by_cases e : o' = o
    · subst e
      exact .inr (hlive g l (hlivex g hl) hm).1
    · rw [hroo _ e]
      exact R.own o' g l (hliveo o' g e hl) (hother o' g l e hm)
  · obtain ⟨h1, h2⟩ := R.kept b hb
    refine ⟨h1, ?_⟩
    rw [← h2]
    exact (hblk b (Nat.lt_of_lt_of_le h1 R.size)).resolve_right fun hm => hm.1 hb

theorem Rel.drawn (R : Rel P K w0 μ h w) {w' : World} (hh : w'.heap = w.heap) (hos : w'.os = w.os) (htape : w'.tape = w.tape) (hout : w'.output = w.output) : Rel P K w0 μ h w' := by
  refine ⟨fun o g l hm => by rw [hh]; exact R.dom o g l hm, R.gens, fun o x hx => ⟨(R.obj o x hx).1, (R.obj o x hx).2.frame (Mu.le_refl μ) fun _ _ _ _ => by rw [hh]⟩,
    fun o mo ins seen cur kd es ins' h1 h2 => ?_, R.apart, R.own, fun b hb => by rw [hh]; exact R.kept b hb, hos.trans R.os, htape.trans R.tape, hout.trans R.output, by rw [hh]; exact R.size, R.low⟩
  have := R.iters o mo ins seen cur kd es ins' h1 h2
  unfold IterOk at *
  rw [hh]
  exact this

/-- Other blocks to be kept. -/
theorem Rel.keep (R : Rel P K w0 μ h w) (K' : Nat → Prop) (hK : ∀ b, K' b → b < w.heap.size) (hown : ∀ o g l, Live h o g → μ o g = some l → (isRo h o ∧ l.blk < RoLim.lim) ∨ ¬ K' l.blk) : Rel P K' w μ h w :=
  ⟨R.dom, R.gens, R.obj, R.iters, R.apart, hown, fun b hb => ⟨hK b hb, rfl⟩, rfl, rfl, rfl, Nat.le_refl _, Nat.le_trans R.low R.size⟩

theorem Rel.loc (R : Rel P K w0 μ h w) {o g : Nat} (hl : Live h o g) : ∃ l, μ o g = some l :=
  let ⟨x, hx, hl⟩ := hl
  (R.obj o x hx).2.loc hl
end
end Go.Xr

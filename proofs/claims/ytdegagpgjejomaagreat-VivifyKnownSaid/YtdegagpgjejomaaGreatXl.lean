/- X's maps are the machine's. -/
import Derived.Test.YtdegagpgjejomaaGreatXk
namespace Go.Xr
open Go.RowKit

/-! ### Rows of keys -/
theorem hasKey_mem {k : Int} {v : V} : ∀ {es : List (Int × V)}, hasKey k es = some v → (k, v) ∈ es
  | [], h => by simp [hasKey] at h
  | (a, x) :: r, h => by
    simp only [hasKey] at h
    by_cases e : a = k
    · simp [e] at h; subst h; subst e; exact List.mem_cons_self ..
    · simp [e] at h; exact List.mem_cons_of_mem _ (hasKey_mem h)

theorem hasKey_of_mem {k : Int} {v : V} : ∀ {es : List (Int × V)}, es.Pairwise (fun a b => a.1 < b.1) → (k, v) ∈ es → hasKey k es = some v
  | [], _, h => by cases h
  | (a, x) :: r, hp, h => by
    rw [List.pairwise_cons] at hp
    simp only [hasKey]
    cases h with
    | head => simp
    | tail _ h =>
      have := hp.1 _ h
      simp only at this
      have e : ¬ a = k := by omega
      simp [e]
      exact hasKey_of_mem hp.2 h

theorem hasKey_none {k : Int} : ∀ {es : List (Int × V)}, hasKey k es = none → ∀ v, (k, v) ∉ es
  | [], _, v, h => by cases h
  | (a, x) :: r, hn, v, h => by
    simp only [hasKey] at hn
    by_cases e : a = k
    · simp [e] at hn
    · simp [e] at hn
      cases h with
      | head => exact e rfl
      | tail _ h => exact hasKey_none hn v h

theorem mem_addKey {k : Int} {v : V} {p : Int × V} : ∀ {es : List (Int × V)}, es.Pairwise (fun a b => a.1 < b.1) → (p ∈ addKey k v es ↔ p = (k, v) ∨ (p ∈ es ∧ p.1 ≠ k))
  | [], _ => by simp [addKey]
  | (a, x) :: r, hp => by
    rw [List.pairwise_cons] at hp
    simp only [addKey]
    by_cases h1 : k < a
    · simp only [h1, decide_true]
      constructor
      · intro h
        cases h with
        | head => exact .inl rfl
        | tail _ h =>
          refine .inr ⟨h, ?_⟩
          cases h with
          | head => simp only; omega
          | tail _ h => have := hp.1 _ h; simp only at this; omega
      · rintro (rfl | ⟨h, _⟩)
        · exact List.mem_cons_self ..
        · exact List.mem_cons_of_mem _ h
    · by_cases h2 : a < k
      · simp only [h1, h2, decide_true, decide_false, List.mem_cons, mem_addKey hp.2]
        constructor
        · rintro (rfl | rfl | ⟨h, h3⟩)
          · exact .inr ⟨.inl rfl, by simp only; omega⟩
          · exact .inl rfl
          · exact .inr ⟨.inr h, h3⟩
        · rintro (rfl | ⟨rfl | h, h3⟩)
          · exact .inr (.inl rfl)
          · exact .inl rfl
          · exact .inr (.inr ⟨h, h3⟩)
      · have e : a = k := by omega
        subst e
        simp only [h1, decide_false, List.mem_cons]
        constructor
        · rintro (rfl | h)
          · exact .inl rfl
          · have := hp.1 _ h
            exact .inr ⟨.inr h, by omega⟩
        · rintro (rfl | ⟨rfl | h, h3⟩)
          · exact .inl rfl
          · exact absurd rfl h3
          · exact .inr h

theorem addKey_sorted {k : Int} {v : V} : ∀ {es : List (Int × V)}, es.Pairwise (fun a b => a.1 < b.1) → (addKey k v es).Pairwise (fun a b => a.1 < b.1)
  | [], _ => by simp [addKey]
  | (a, x) :: r, hp => by
    have hp0 := hp
    rw [List.pairwise_cons] at hp
    simp only [addKey]
    by_cases h1 : k < a
    · simp only [h1, decide_true]
      rw [List.pairwise_cons]
      refine ⟨fun p hpm => ?_, hp0⟩
      cases hpm with
      | head => exact h1
      | tail _ h => have := hp.1 _ h; simp only at this ⊢; omega
    · by_cases h2 : a < k
      · simp only [h1, h2, decide_true, decide_false]
        rw [List.pairwise_cons]
        refine ⟨fun p hpm => ?_, addKey_sorted hp.2⟩
        rcases (mem_addKey hp.2).1 hpm with rfl | ⟨h, _⟩
        · exact h2
        · exact hp.1 _ h
      · have e : a = k := by omega
        subst e
        simp only [h1, decide_false]
        rw [List.pairwise_cons]
        exact ⟨fun p h => hp.1 p h, hp.2⟩

theorem addKey_length {k : Int} {v : V} : ∀ {es : List (Int × V)}, es.Pairwise (fun a b => a.1 < b.1) → (addKey k v es).length = match hasKey k es with | some _ => es.length | none => es.length + 1
  | [], _ => by simp [addKey, hasKey]
  | (a, x) :: r, hp => by
    rw [List.pairwise_cons] at hp
    simp only [addKey, hasKey]
    by_cases h1 : k < a
    · have e : ¬ a = k := by omega
      have hn : hasKey k r = none := by
        cases hk : hasKey k r with
        | none => rfl
        | some y => have := hp.1 _ (hasKey_mem hk); simp only at this; omega
      simp [h1, e, hn]
    · by_cases h2 : a < k
      · have e : ¬ a = k := by omega
        simp only [h1, h2, e, decide_true, decide_false, List.length_cons, addKey_length hp.2]
        cases hasKey k r <;> rfl
      · have e : a = k := by omega
        subst e
        simp

theorem mem_dropKey {k : Int} {p : Int × V} : ∀ {es : List (Int × V)}, es.Pairwise (fun a b => a.1 < b.1) → (p ∈ dropKey k es ↔ p ∈ es ∧ p.1 ≠ k)
  | [], _ => by simp [dropKey]
  | (a, x) :: r, hp => by
    rw [List.pairwise_cons] at hp
    simp only [dropKey]
    by_cases e : a = k
    · subst e
      simp only [decide_true, List.mem_cons]
      constructor
      · intro h; have := hp.1 _ h; exact ⟨.inr h, by omega⟩
      · rintro ⟨rfl | h, h2⟩
        · exact absurd rfl h2
        · exact h
    · simp only [e, decide_false, List.mem_cons, mem_dropKey hp.2]
      constructor
      · rintro (rfl | ⟨h, h2⟩)
        · exact ⟨.inl rfl, e⟩
        · exact ⟨.inr h, h2⟩
      · rintro ⟨rfl | h, h2⟩
        · exact .inl rfl
        · exact .inr ⟨h, h2⟩

theorem dropKey_sorted {k : Int} : ∀ {es : List (Int × V)}, es.Pairwise (fun a b => a.1 < b.1) → (dropKey k es).Pairwise (fun a b => a.1 < b.1)
  | [], _ => by simp [dropKey]
  | (a, x) :: r, hp => by
    rw [List.pairwise_cons] at hp
    simp only [dropKey]
    by_cases e : a = k
    · simp only [e, decide_true]; exact hp.2
    · simp only [e, decide_false]
      rw [List.pairwise_cons]
      exact ⟨fun p h => hp.1 p ((mem_dropKey hp.2).1 h).1, dropKey_sorted hp.2⟩

theorem dropKey_length {k : Int} : ∀ {es : List (Int × V)}, (dropKey k es).length = match hasKey k es with | some _ => es.length - 1 | none => es.length
  | [] => by simp [dropKey, hasKey]
  | (a, x) :: r => by
    simp only [dropKey, hasKey]
    by_cases e : a = k
    · simp [e]
    · simp only [e, decide_false, List.length_cons, dropKey_length]
      cases hk : hasKey k r with
      | none => rfl
      | some y =>
        have := List.length_pos_of_mem (hasKey_mem hk)
        simp only
        omega

theorem hasKey_addKey {k m : Int} {v : V} {es : List (Int × V)} (hp : es.Pairwise (fun a b => a.1 < b.1)) : hasKey m (addKey k v es) = if m = k then some v else hasKey m es := by
  by_cases e : m = k
  · subst e
    rw [if_pos rfl]
    exact hasKey_of_mem (addKey_sorted hp) ((mem_addKey hp).2 (.inl rfl))
  · rw [if_neg e]
    cases hk : hasKey m es with
    | some y => exact hasKey_of_mem (addKey_sorted hp) ((mem_addKey hp).2 (.inr ⟨hasKey_mem hk, e⟩))
    | none =>
      cases hk2 : hasKey m (addKey k v es) with
      | none => rfl
      | some y =>
        rcases (mem_addKey hp).1 (hasKey_mem hk2) with h | ⟨h, _⟩
        · cases h; exact absurd rfl e
        · exact absurd h (hasKey_none hk y)

theorem hasKey_dropKey {k m : Int} {es : List (Int × V)} (hp : es.Pairwise (fun a b => a.1 < b.1)) : hasKey m (dropKey k es) = if m = k then none else hasKey m es := by
  by_cases e : m = k
  · subst e
    rw [if_pos rfl]
    cases hk2 : hasKey m (dropKey m es) with
    | none => rfl
    | some y => exact absurd rfl ((mem_dropKey hp).1 (hasKey_mem hk2)).2
  · rw [if_neg e]
    cases hk : hasKey m es with
    | some y => exact hasKey_of_mem (dropKey_sorted hp) ((mem_dropKey hp).2 ⟨hasKey_mem hk, e⟩)
    | none =>
      cases hk2 : hasKey m (dropKey k es) with
      | none => rfl
      | some y => exact absurd ((mem_dropKey hp).1 (hasKey_mem hk2)).1 (hasKey_none hk y)

/-! ### The machine's search -/
theorem findNow_int {kd k0 : IntKind} {m : Int} : ∀ (es : List MapEntry) (i : Nat), (∀ e ∈ es, ∃ n, e.key = .int kd n) →
    (∃ j e, es[j]? = some e ∧ e.key = .int kd m ∧ Instr.findNow (.int k0) (.int kd m) es i = some (some (i + j, e.val))) ∨ ((∀ e ∈ es, e.key ≠ .int kd m) ∧ Instr.findNow (.int k0) (.int kd m) es i = some none)
  | [], i, _ => .inr ⟨fun e he => (by cases he), rfl⟩
  | e :: es, i, h => by
    obtain ⟨n, hn⟩ := h e (List.mem_cons_self ..)
    by_cases he : m = n
    · subst he
      exact .inl ⟨0, e, rfl, hn, by simp [Instr.findNow, hn, Instr.sameNow]⟩
    · have hb : (m == n) = false := by simpa using he
      have hs : Instr.findNow (.int k0) (.int kd m) (e :: es) i = Instr.findNow (.int k0) (.int kd m) es (i + 1) := by
        simp [Instr.findNow, hn, Instr.sameNow, hb]
      rcases findNow_int es (i + 1) (fun e' he' => h e' (List.mem_cons_of_mem _ he')) with ⟨j, e', h1, h2, h3⟩ | ⟨h1, h2⟩
      · exact .inl ⟨j + 1, e', by simpa using h1, h2, by rw [hs, h3]; congr 3; omega⟩
      · refine .inr ⟨fun e' he' => ?_, by rw [hs, h2]⟩
        cases he' with
        | head => rw [hn]; intro q; injection q with _ q; exact he q.symm
        | tail _ he' => exact h1 e' he'

section
variable [RoLim] {P : Program} {K : Nat → Prop} {w0 : World} {μ μ' : Mu} {h h' : Heap} {w w' : World} {ρ : Rd} {ρ' : Operand → Value}

omit [RoLim] in
theorem run_checkKey_succ {n : Nat} {b : Bool} {t : TypeId} {kd : IntKind} (ht : P.underlying t = some (.int kd)) (x : Value) : (Instr.checkKey b (n + 1) t x).run P w = .ok () w := by
  simp [Instr.checkKey, run_und ht]

omit [RoLim] in
theorem run_checkKey {b : Bool} {t : TypeId} {kd : IntKind} (ht : P.underlying t = some (.int kd)) (x : Value) : (Instr.checkKey b 10000 t x).run P w = .ok () w := run_checkKey_succ (n := 9999) ht x

omit [RoLim] in
theorem run_findKey {t : TypeId} {k0 kd : IntKind} {m : Int} {es : List MapEntry} (ht : P.underlying t = some (.int k0)) (hk : ∀ e ∈ es, ∃ n, e.key = .int kd n) :
    (∃ j e, es[j]? = some e ∧ e.key = .int kd m ∧ (Instr.findKey t (.int kd m) es).run P w = .ok (some (j, e.val)) w) ∨ ((∀ e ∈ es, e.key ≠ .int kd m) ∧ (Instr.findKey t (.int kd m) es).run P w = .ok none w) := by
  rcases findNow_int (k0 := k0) (m := m) es 0 hk with ⟨j, e, h1, h2, h3⟩ | ⟨h1, h2⟩
  · exact .inl ⟨j, e, h1, h2, by simp [Instr.findKey, run_und ht, h3]⟩
  · exact .inr ⟨h1, by simp [Instr.findKey, run_und ht, h2]⟩

omit [RoLim] in
theorem MR.key {kd : IntKind} {es : List (Int × V)} {es' : List MapEntry} {clock : Nat} (hr : MR μ kd es es' clock) : ∀ e ∈ es', ∃ n, e.key = .int kd n := fun e he => let ⟨n, _, h, _⟩ := hr.there e he; ⟨n, h⟩

omit [RoLim] in
/-- What X and the machine find under a key. -/
theorem MR.find {kd : IntKind} {es : List (Int × V)} {es' : List MapEntry} {clock : Nat} (hr : MR μ kd es es' clock) {t : TypeId} {k0 : IntKind} (ht : P.underlying t = some (.int k0)) (m : Int) :
    (∃ j e v, es'[j]? = some e ∧ e.key = .int kd m ∧ hasKey m es = some v ∧ VR μ v e.val ∧ (Instr.findKey t (.int kd m) es').run P w = .ok (some (j, e.val)) w) ∨
      (hasKey m es = none ∧ (∀ e ∈ es', e.key ≠ .int kd m) ∧ (Instr.findKey t (.int kd m) es').run P w = .ok none w) := by
  rcases run_findKey (P := P) (w := w) (m := m) ht hr.key with ⟨j, e, h1, h2, h3⟩ | ⟨h1, h2⟩
  · obtain ⟨n, v, h4, h5, h6⟩ := hr.there e (List.mem_of_getElem? h1)
    rw [h2] at h4
    cases h4
    exact .inl ⟨j, e, v, h1, h2, h5, h6, h3⟩
  · refine .inr ⟨?_, h1, h2⟩
    cases hk : hasKey m es with
    | none => rfl
    | some v =>
      obtain ⟨e, h3, h4⟩ := hr.back m v hk
      exact absurd h4 (h1 e h3)

omit [RoLim] in
theorem run_getObj {r : Nat} {o : Obj} (ho : w.heap[r]? = some o) (hn : ∀ c e f, o ≠ .cells c e f) : (getObj r).run P w = .ok o w := by
  cases o <;> first | (exact absurd rfl (hn _ _ _)) | simp [getObj, Sem.run, ho]

omit [RoLim] in
theorem run_setObj {r : Nat} {o o' : Obj} (ho : w.heap[r]? = some o) (hn : ∀ c e f, o ≠ .cells c e f) : (setObj r o').run P w = .ok () { w with heap := w.heap.setIfInBounds r o' } := by
  cases o <;> first | (exact absurd rfl (hn _ _ _)) | simp [setObj, Sem.run, ho]

theorem Rel.mapAt (R : Rel P K w0 μ h w) {o : Nat} {kd : IntKind} {es : List (Int × V)} {ins : Nat} (hg : h.get o = some (.map kd es ins)) :
    ∃ l es' clock, μ o 0 = some l ∧ w.heap[l.blk]? = some (.map es' clock) ∧ MR μ kd es es'.toList clock := (R.obj o _ hg).2

/-- An object turned in its block. -/
theorem Rel.turn (R : Rel P K w0 μ h w) {o : Nat} {x0 x1 : XObj} {l : Loc} {obj : Obj} (hg : h.get o = some x0) (hl : LiveX x0 0) (hro : ¬ roX x0) (hl1 : ∀ g, LiveX x1 g → g = 0) (hgen : ∀ g, genX x0 g → genX x1 g) (hm : μ o 0 = some l)
    (hor : OR P μ { w with heap := w.heap.setIfInBounds l.blk obj } o x1)
    (hit : ∀ oi mo ins seen cur kd es ins', (h.put o x1).get oi = some (.miter (some mo) ins seen cur) → (h.put o x1).get mo = some (.map kd es ins') → oi = o ∨ mo = o → ins ≤ ins' ∧ (ins = ins' → IterOk μ { w with heap := w.heap.setIfInBounds l.blk obj } kd mo oi seen cur)) :
    Rel P K w0 μ (h.put o x1) { w with heap := w.heap.setIfInBounds l.blk obj } := by
  have hnro : ¬ isRo h o := by rintro ⟨x, hx, hr⟩; rw [hg] at hx; cases hx; exact hro hr
  have hmine := R.mine_live ⟨_, hg, hl⟩ hm hnro
  refine R.step o x1 (Mu.le_refl μ) (fun o' => Heap.get_put ..) (Nat.le_refl _) (R.obj o _ hg).1 (by simp) (fun b _ => ?_) (fun o' g l' hm' => .inl hm') (fun g l' hl' hm' => ?_) (fun g l' hm' => hgen g (R.gens o g l' _ hm' hg)) hor hit rfl rfl rfl
  · by_cases e : b = l.blk
    · exact .inr (e ▸ hmine)
    · left
      show (w.heap.setIfInBounds l.blk obj)[b]? = _
      rw [Array.getElem?_setIfInBounds, if_neg (fun q => e q.symm)]
  · have := hl1 g hl'
    subst this
    rw [hm] at hm'
    cases hm'
    exact hmine

omit [RoLim] in
theorem set_at {l : Loc} {obj : Obj} (hlt : l.blk < w.heap.size) : ({ w with heap := w.heap.setIfInBounds l.blk obj } : World).heap[l.blk]? = some obj := by
  show (w.heap.setIfInBounds l.blk obj)[l.blk]? = _
  simp [hlt]

omit [RoLim] in
theorem set_other {b b' : Nat} {obj : Obj} (hne : b' ≠ b) : ({ w with heap := w.heap.setIfInBounds b obj } : World).heap[b']? = w.heap[b']? := by
  show (w.heap.setIfInBounds b obj)[b']? = _
  rw [Array.getElem?_setIfInBounds, if_neg (fun q => hne q.symm)]

/-- A map turned: where no key came, the iterators over it stay right if what is left was there. -/
theorem Rel.turnMap (R : Rel P K w0 μ h w) {o : Nat} {kd : IntKind} {es es1 : List (Int × V)} {ins ins1 : Nat} {l : Loc} {es' es1' : Array MapEntry} {clock clock1 : Nat} (hg : h.get o = some (.map kd es ins)) (hm : μ o 0 = some l) (hb : w.heap[l.blk]? = some (.map es' clock))
    (hr : MR μ kd es1 es1'.toList clock1) (hins : ins < ins1 ∨ (ins1 = ins ∧ clock1 = clock ∧ ∀ e ∈ es1'.toList, ∃ e0 ∈ es'.toList, e0.key = e.key ∧ e0.born = e.born)) :
    Rel P K w0 μ (h.put o (.map kd es1 ins1)) { w with heap := w.heap.setIfInBounds l.blk (.map es1' clock1) } := by
  have hlt := (R.dom o 0 l hm).2
  refine R.turn hg rfl (by simp [roX]) (fun g q => q) (fun g q => q) hm ⟨l, es1', clock1, hm, set_at hlt, hr⟩ (fun oi mo ins2 seen cur kd2 es2 ins3 q1 q2 q3 => ?_)
  rw [Heap.get_put] at q1 q2
  have hoi : oi ≠ o := by
    intro e
    rw [if_pos e] at q1
    cases q1
  have hmo : mo = o := q3.resolve_left hoi
  rw [if_neg hoi] at q1
  rw [if_pos hmo] at q2
  cases q2
  subst hmo
  obtain ⟨i1, i2⟩ := R.iters oi mo ins2 seen cur _ _ ins q1 hg
  rcases hins with hlt2 | ⟨rfl, rfl, hsub⟩
  · exact ⟨by omega, fun e => by omega⟩
  · refine ⟨i1, fun e => ?_⟩
    intro lm li es'' clock'' hlm hli hw
    rw [hm] at hlm
    cases hlm
    rw [set_at hlt] at hw
    cases hw
    obtain ⟨seen', s1, s2, s3⟩ := i2 e l li es' clock1 hm hli hb
    have hne : li.blk ≠ l.blk := by
      intro q
      rw [q, hb] at s1
      cases s1
    refine ⟨seen', (set_other hne).trans s1, fun e1 he1 n hn => ?_, fun k hk => ?_⟩
    · obtain ⟨e0, h1, h2, h3⟩ := hsub e1 he1
      rw [← h3]
      exact s2 e0 h1 n (h2.trans hn)
    · obtain ⟨st, t1, t2⟩ := s3 k hk
      refine ⟨st, t1, fun e1 he1 => ?_⟩
      obtain ⟨e0, h1, h2, h3⟩ := hsub e1 he1
      rw [← h3, ← h2]
      exact t2 e0 h1
end
end Go.Xr

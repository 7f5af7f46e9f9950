/- A drawn region comes to what X comes to, in whatever order it goes. -/
import Derived.Test.YtdegagpgjejomaaGreatXy
namespace Go.Xr
open Go.RowKit

def appl (t : Tr V) (L : List (Info × V)) : Tr V := L.foldl (fun t p => putOpt t p.1.dst p.2) t
def look (x : Nat) (v : V) (L : List (Info × V)) : V := L.foldl (fun v p => if p.1.dst = some x then p.2 else v) v

theorem slot_putOpt (t : Tr V) (i : Option Nat) (v : V) (x : Nat) : slotOf (putOpt t i v) x = if i = some x then v else slotOf t x := by
  cases i with
  | none => rfl
  | some i =>
    show slotOf (t.set i v) x = _
    rw [slotOf_set]
    by_cases e : x = i
    · rw [if_pos e, if_pos (by rw [e])]
    · rw [if_neg e, if_neg (fun q => e (Option.some.inj q).symm)]

theorem slot_appl : ∀ (L : List (Info × V)) (t : Tr V) (x : Nat), slotOf (appl t L) x = look x (slotOf t x) L
  | [], _, _ => rfl
  | p :: L, t, x => by
    show slotOf (appl (putOpt t p.1.dst p.2) L) x = look x (if p.1.dst = some x then p.2 else slotOf t x) L
    rw [slot_appl L, slot_putOpt]

theorem look_filter (x : Nat) : ∀ (L : List (Info × V)) (v : V), look x v L = look x v (L.filter fun p => decide (p.1.dst = some x))
  | [], _ => rfl
  | p :: L, v => by
    show look x (if p.1.dst = some x then p.2 else v) L = _
    rw [List.filter_cons]
    by_cases e : p.1.dst = some x
    · rw [if_pos e, if_pos (by simpa using e)]
      show _ = look x (if p.1.dst = some x then p.2 else v) _
      rw [if_pos e]
      exact look_filter x L _
    · rw [if_neg e, if_neg (by simpa using e)]
      exact look_filter x L _

theorem look_append (x : Nat) (A B : List (Info × V)) (v : V) : look x v (A ++ B) = look x (look x v A) B := List.foldl_append

theorem appl_append (t : Tr V) (A B : List (Info × V)) : appl t (A ++ B) = appl (appl t A) B := List.foldl_append

theorem look_none (x : Nat) : ∀ (L : List (Info × V)) (v : V), (∀ p ∈ L, p.1.dst ≠ some x) → look x v L = v
  | [], _, _ => rfl
  | p :: L, v, h => by
    show look x (if p.1.dst = some x then p.2 else v) L = v
    rw [if_neg (h p (List.mem_cons_self ..))]
    exact look_none x L v fun q hq => h q (List.mem_cons_of_mem _ hq)

theorem look_all (x : Nat) (q : Info × V → Bool) (L : List (Info × V)) (v : V) (h : ∀ p ∈ L, p.1.dst = some x → q p = true) : look x v (L.filter q) = look x v L := by
  rw [look_filter x (L.filter q), look_filter x L, List.filter_filter]
  congr 1
  refine List.filter_congr fun p hp => ?_
  by_cases e : p.1.dst = some x
  · simp [e, h p hp e]
  · simp [e]

theorem look_some_none (x : Nat) (q : Info × V → Bool) (L : List (Info × V)) (v : V) (h : ∀ p ∈ L, p.1.dst = some x → q p = false) : look x v (L.filter q) = v :=
  look_none x _ v fun p hp e => by
    obtain ⟨h1, h2⟩ := List.mem_filter.1 hp
    rw [h p h1 e] at h2
    cases h2

def Stays1 (t : Tr V) (h : Heap) (s : XStep) : Prop :=
  wantedV t s.guard = some false ∨ (wantedV t s.guard = some true ∧ ∃ i v h', s.dst = some i ∧ opEv s.op (rd t) h = some (v, h') ∧ v = slotOf t i)

theorem stays_spec {t : Tr V} {h : Heap} : ∀ {ss : List XStep}, stays t h ss = true → ∀ s ∈ ss, Stays1 t h s
  | [], _, s, hs => by cases hs
  | x :: ss, hst, s, hs => by
    simp only [stays, Bool.and_eq_true] at hst
    rcases List.mem_cons.1 hs with rfl | hs
    · have h1 := hst.1
      cases hw : wantedV t s.guard with
      | none => rw [hw] at h1; cases h1
      | some b => cases b with
       | false => exact .inl hw
       | true =>
        refine .inr ⟨hw, ?_⟩
        rw [hw] at h1
        simp only at h1
        split at h1
        · rename_i i v h' e1 e2
          exact ⟨i, v, h', e1, e2, V.same_eq _ _ h1⟩
        · cases h1
    · exact stays_spec hst.2 s hs

/-- How X goes through a region. -/
inductive Tra (ih : Task → Option Out) (rnd : Option Nat) (b : List Nat) : List Info → List (Info × V) → Tr V → List XDef → Heap → Tr V → List XDef → Heap → Prop
  | nil {done : List Info} {t : Tr V} {d : List XDef} {h : Heap} : Tra ih rnd b done [] t d h t d h
  | cons {done : List Info} {i : Info} {v : V} {T : List (Info × V)} {t t2 : Tr V} {d d1 d2 : List XDef} {h h1 h2 : Heap} (hs : runStep ih i.step rnd t d h = some (v, d1, h1))
      (hst : loud i.sort = true → ∀ r ∈ done, r.sort = .reads → aheadOf b r.n i.n = false → Stays1 (putOpt t i.dst v) h1 r.step)
      (hr : Tra ih rnd b (done ++ [i]) T (putOpt t i.dst v) d1 h1 t2 d2 h2) : Tra ih rnd b done ((i, v) :: T) t d h t2 d2 h2

section
variable {ih : Task → Option Out} {rnd : Option Nat} {b : List Nat}

theorem tra_of_lines : ∀ {o done : List Info} {t t2 : Tr V} {d d2 : List XDef} {h h2 : Heap}, (∀ I ∈ o, I.step.dst = I.dst) → runLines ih rnd (linesOf b done o) t d h = some (t2, d2, h2) →
    ∃ T, T.map (·.1) = o ∧ Tra ih rnd b done T t d h t2 d2 h2
  | [], done, t, t2, d, d2, h, h2, _, hr => by
    simp only [linesOf, runLines, Option.some.injEq, Prod.mk.injEq] at hr
    obtain ⟨rfl, rfl, rfl⟩ := hr
    exact ⟨[], rfl, .nil⟩
  | i :: o, done, t, t2, d, d2, h, h2, hd, hr => by
    simp only [linesOf, runLines] at hr
    split at hr <;> try (cases hr; done)
    rename_i v d1 h1 hs
    rw [hd i (List.mem_cons_self ..)] at hr
    split at hr <;> try (cases hr; done)
    rename_i hst
    obtain ⟨T, e, hT⟩ := tra_of_lines (fun I hI => hd I (List.mem_cons_of_mem _ hI)) hr
    refine ⟨(i, v) :: T, by simp [e], .cons hs (fun hl r hr1 hr2 hr3 => ?_) hT⟩
    rw [hl] at hst
    refine stays_spec hst r.step (List.mem_map.2 ⟨r, List.mem_filter.2 ⟨hr1, ?_⟩, rfl⟩)
    simp [hr2, hr3]

theorem tra_appl {done : List Info} {T : List (Info × V)} {t t2 : Tr V} {d d2 : List XDef} {h h2 : Heap} (hT : Tra ih rnd b done T t d h t2 d2 h2) : t2 = appl t T := by
  induction hT with
  | nil => rfl
  | cons _ _ _ ih1 => exact ih1

theorem tra_append : ∀ {A B : List (Info × V)} {done : List Info} {t t2 : Tr V} {d d2 : List XDef} {h h2 : Heap}, Tra ih rnd b done (A ++ B) t d h t2 d2 h2 →
    ∃ dm hm, Tra ih rnd b done A t d h (appl t A) dm hm ∧ Tra ih rnd b (done ++ A.map (·.1)) B (appl t A) dm hm t2 d2 h2
  | [], B, done, t, t2, d, d2, h, h2, hT => ⟨d, h, .nil, by rw [show done ++ ([] : List (Info × V)).map (·.1) = done by simp]; exact hT⟩
  | p :: A, B, done, t, t2, d, d2, h, h2, hT => by
    cases hT with
    | cons hs hst hr =>
      obtain ⟨dm, hm, q1, q2⟩ := tra_append hr
      refine ⟨dm, hm, .cons hs hst q1, ?_⟩
      rw [List.append_assoc] at q2
      exact q2

/-- What only looks. -/
def LookV (s : XStep) (t : Tr V) (h : Heap) (v : V) : Prop := (wantedV t s.guard = some false ∧ v = V.undef) ∨ (wantedV t s.guard = some true ∧ opEv s.op (rd t) h = some (v, h))

theorem looks_heap {op : XOp} {ρ : Rd} {h h' : Heap} {v : V} (hs : loud op.sort = false) (he : opEv op ρ h = some (v, h')) : h' = h := by
  cases op <;> simp only [XOp.sort, loud] at hs <;> try (cases hs; done)
  all_goals (simp only [opEv] at he; (repeat' (split at he)) <;> first | (simp at he; done) | (simp only [Option.some.injEq, Prod.mk.injEq] at he; exact he.2.symm))

theorem quiet_any {op : XOp} {ρ : Rd} {h : Heap} {v : V} (hs : op.sort = .quiet) (he : opEv op ρ h = some (v, h)) (h2 : Heap) : opEv op ρ h2 = some (v, h2) := by
  cases op <;> simp only [XOp.sort] at hs <;> try (cases hs; done)
  all_goals (simp only [opEv] at he ⊢; (repeat' (split at he)) <;> first | (simp at he; done) | (simp only [Option.some.injEq, Prod.mk.injEq] at he; obtain ⟨he, _⟩ := he; subst he; first | rfl | (simp [*]; done)))

theorem quiet_step {s : XStep} {t : Tr V} {d d1 : List XDef} {h h1 : Heap} {v : V} (hs : loud s.op.sort = false) (hr : runStep ih s rnd t d h = some (v, d1, h1)) : d1 = d ∧ h1 = h ∧ LookV s t h v := by
  unfold runStep at hr
  split at hr
  · cases hr
  · rename_i hw
    simp only [Option.some.injEq, Prod.mk.injEq] at hr
    obtain ⟨rfl, rfl, rfl⟩ := hr
    exact ⟨rfl, rfl, .inl ⟨hw, rfl⟩⟩
  · rename_i hw
    have main : (match opEv s.op (rd t) h with | some (v, h) => some (v, d, h) | none => none) = some (v, d1, h1) → d1 = d ∧ h1 = h ∧ LookV s t h v := by
      intro hr
      split at hr <;> simp at hr
      rename_i v' h' he
      obtain ⟨rfl, rfl, rfl⟩ := hr
      have := looks_heap hs he
      subst this
      exact ⟨rfl, rfl, .inr ⟨hw, he⟩⟩
    simp only at hr
    split at hr
    · rename_i f args e; rw [e] at hs; simp [XOp.sort, loud] at hs
    · rename_i f args e; rw [e] at hs; simp [XOp.sort, loud] at hs
    · rename_i it e; rw [e] at hs; simp [XOp.sort, loud] at hs
    · rename_i x rows args e; rw [e] at hs; simp [XOp.sort, loud] at hs
    · exact main hr
end
end Go.Xr

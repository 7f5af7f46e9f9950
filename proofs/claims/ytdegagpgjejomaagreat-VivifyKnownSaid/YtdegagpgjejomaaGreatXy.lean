/- Of regions that are drawn: what stands ahead of what, and in which order X goes. -/
import Derived.Test.YtdegagpgjejomaaGreatXx
import Derived.Orders
namespace Go.Xr
open Go.RowKit

mutual
theorem V.same_eq : ∀ (a b : V), V.same a b = true → a = b
  | .int k n, b, h => by
    cases b <;> simp [V.same] at h
    rw [kindEq_eq h.1, h.2]
  | .bool a, b, h => by cases b <;> simp [V.same] at h; rw [h]
  | .str a, b, h => by cases b <;> simp [V.same] at h; rw [h]
  | .nilp, b, h => by cases b <;> simp [V.same] at h; rfl
  | .ptr o g off, b, h => by
    cases b <;> simp [V.same] at h
    rw [h.1.1, h.1.2, h.2]
  | .nils, b, h => by cases b <;> simp [V.same] at h; rfl
  | .slice o g off len c, b, h => by
    cases b <;> simp [V.same] at h
    obtain ⟨⟨⟨⟨h1, h2⟩, h3⟩, h4⟩, h5⟩ := h
    rw [h1, h2, h3, h4, h5]
  | .nilm, b, h => by cases b <;> simp [V.same] at h; rfl
  | .map o, b, h => by cases b <;> simp [V.same] at h; rw [h]
  | .nilf, b, h => by cases b <;> simp [V.same] at h; rfl
  | .func f x y, b, h => by
    cases b <;> simp [V.same] at h
    rw [h.1.1, V.sames_eq _ _ h.1.2, V.sames_eq _ _ h.2]
  | .yield o, b, h => by cases b <;> simp [V.same] at h; rw [h]
  | .nili, b, h => by cases b <;> simp [V.same] at h; rfl
  | .iface t v, b, h => by
    cases b <;> simp [V.same] at h
    rw [h.1, V.same_eq _ _ h.2]
  | .iter o, b, h => by cases b <;> simp [V.same] at h; rw [h]
  | .agg x, b, h => by cases b <;> simp [V.same] at h; rw [V.sames_eq _ _ h]
  | .tup x, b, h => by cases b <;> simp [V.same] at h; rw [V.sames_eq _ _ h]
  | .any, b, h => by cases b <;> simp [V.same] at h; rfl
  | .hole o, b, h => by cases b <;> simp [V.same] at h; rw [h]
  | .stamp o, b, h => by cases b <;> simp [V.same] at h; rw [h]
theorem V.sames_eq : ∀ (a b : List V), V.sames a b = true → a = b
  | [], b, h => by cases b <;> simp [V.sames] at h; rfl
  | v :: a, b, h => by
    cases b <;> simp [V.sames] at h
    rw [V.same_eq _ _ h.1, V.sames_eq _ _ h.2]
end

section
variable [RoLim] {P : Program} {n : Nat} {ops : Array Oper}

/-! ### The operations' notes -/
omit [RoLim] in
theorem compSteps_len : ∀ {os : List Oper} {ss : List XStep}, compSteps P n ops os = some ss → ss.length = os.length
  | [], ss, h => by simp [compSteps] at h; subst h; rfl
  | o :: os, ss, h => by
    simp only [compSteps] at h
    split at h <;> simp at h
    rename_i s ss' h1 h2
    subst h
    simp [compSteps_len h2]

/-- What a note is of. -/
structure Of (P : Program) (n : Nat) (ops : Array Oper) (I : Info) (o : Oper) : Prop where
  at_ : ops[I.n]? = some o
  comp : compStep P n ops o = some I.step
  sort : I.sort = I.step.op.sort
  names : I.names = names ops o
  dst : I.dst = o.dst

omit [RoLim] in
theorem infos_spec : ∀ {os : List Oper} {ss : List XStep} (j : Nat), compSteps P n ops os = some ss → (∀ i o, os[i]? = some o → ops[j + i]? = some o) →
    (∀ I ∈ infos ops j os ss, j ≤ I.n ∧ ∃ o, Of P n ops I o) ∧ (infos ops j os ss).Pairwise (fun x y => x.n ≠ y.n) ∧ (∀ i, j ≤ i → i < j + os.length → ∃ I ∈ infos ops j os ss, I.n = i) ∧ (infos ops j os ss).length = os.length
  | [], ss, j, h, _ => by
    simp [compSteps] at h
    subst h
    refine ⟨by simp [infos], by simp [infos], fun i h1 h2 => ?_, by simp [infos]⟩
    simp at h2
    omega
  | o :: os, ss, j, h, hi => by
    simp only [compSteps] at h
    split at h <;> simp at h
    rename_i s ss' h1 h2
    subst h
    have ho : ops[j]? = some o := by simpa using hi 0 o rfl
    obtain ⟨a1, a2, a3, a4⟩ := infos_spec (j + 1) h2 (fun i o' ho' => by have := hi (i + 1) o' (by simpa using ho'); rwa [Nat.add_assoc, Nat.add_comm 1 i])
    refine ⟨fun I hI => ?_, ?_, fun i hji hlt => ?_, by simp [infos, a4]⟩
    · simp only [infos, List.mem_cons] at hI
      rcases hI with rfl | hI
      · exact ⟨Nat.le_refl _, o, ho, h1, rfl, rfl, rfl⟩
      · exact ⟨by have := (a1 I hI).1; omega, (a1 I hI).2⟩
    · simp only [infos, List.pairwise_cons]
      exact ⟨fun I hI => by have := (a1 I hI).1; simp; omega, a2⟩
    · by_cases e : i = j
      · exact ⟨_, by simp only [infos]; exact List.mem_cons_self .., e.symm⟩
      · obtain ⟨I, hI, e2⟩ := a3 i (by omega) (by simp only [List.length_cons] at hlt; omega)
        exact ⟨I, by simp only [infos]; exact List.mem_cons_of_mem _ hI, e2⟩

/-! ### What stands ahead -/
omit [RoLim] in
theorem bits_fold (g : Nat → Nat) (q : Edge → Bool) (i : Nat) : ∀ (es : List Edge) (s : Nat), (es.foldl (fun s e => if q e then s ||| 2 ^ e.on ||| g e.on else s) s).testBit i = true →
    s.testBit i = true ∨ ∃ e ∈ es, q e = true ∧ (i = e.on ∨ (g e.on).testBit i = true)
  | [], s, h => .inl h
  | e :: es, s, h => by
    rcases bits_fold g q i es _ h with h | ⟨e', h1, h2⟩
    · by_cases hq : q e = true
      · simp only [if_pos hq] at h
        simp only [Nat.testBit_or, Bool.or_eq_true, Nat.testBit_two_pow, decide_eq_true_eq] at h
        rcases h with (h | h) | h
        · exact .inl h
        · exact .inr ⟨e, List.mem_cons_self .., hq, .inl h.symm⟩
        · exact .inr ⟨e, List.mem_cons_self .., hq, .inr h⟩
      · simp only [if_neg hq] at h
        exact .inl h
    · exact .inr ⟨e', List.mem_cons_of_mem _ h1, h2⟩

omit [RoLim] in
theorem bits_fold_back (g : Nat → Nat) (q : Edge → Bool) (e : Edge) (hq : q e = true) : ∀ (es : List Edge) (s : Nat), (e ∈ es ∨ s.testBit e.on = true) → (es.foldl (fun s e => if q e then s ||| 2 ^ e.on ||| g e.on else s) s).testBit e.on = true
  | [], s, h => by rcases h with h | h; cases h; exact h
  | e' :: es, s, h => by
    refine bits_fold_back g q e hq es _ ?_
    rcases h with h | h
    · rcases List.mem_cons.1 h with rfl | h
      · right; simp only [if_pos hq]; simp [Nat.testBit_or]
      · exact .inl h
    · right
      by_cases hq' : q e' = true
      · simp only [if_pos hq']; simp [Nat.testBit_or, h]
      · simp only [if_neg hq']; exact h

def beforeF (acc : Array Nat) (o : Oper) : Nat := o.after.foldl (fun s e => if Region.binds .any e then s ||| 2 ^ e.on ||| acc.getD e.on 0 else s) 0

omit [RoLim] in
theorem before_get : ∀ (os : List Oper) (acc : Array Nat) (j : Nat),
    (∀ m, m < acc.size → (os.foldl (fun acc o => acc.push (beforeF acc o)) acc)[m]? = acc[m]?) ∧
    (∀ o, os[j]? = some o → ∃ acc' : Array Nat, (os.foldl (fun acc o => acc.push (beforeF acc o)) acc)[acc.size + j]? = some (beforeF acc' o) ∧
      ∀ m, acc'.getD m 0 = 0 ∨ acc'.getD m 0 = (os.foldl (fun acc o => acc.push (beforeF acc o)) acc).getD m 0)
  | [], acc, j => ⟨fun m _ => rfl, fun o h => by simp at h⟩
  | o :: os, acc, j => by
    have ih0 := before_get os (acc.push (beforeF acc o))
    refine ⟨fun m hm => ?_, fun o' ho' => ?_⟩
    · have := (ih0 0).1 m (by simp; omega)
      simp only [List.foldl_cons]
      rw [this, Array.getElem?_push]
      rw [if_neg (by omega)]
    · cases j with
      | zero =>
        simp at ho'
        subst ho'
        refine ⟨acc, ?_, fun m => ?_⟩
        · have := (ih0 0).1 acc.size (by simp)
          simp only [List.foldl_cons, Nat.add_zero]
          rw [this]
          simp
        · by_cases hm : m < acc.size
          · right
            have := (ih0 0).1 m (by simp; omega)
            simp only [List.foldl_cons, Array.getD_eq_getD_getElem?]
            rw [this, Array.getElem?_push, if_neg (by omega)]
          · left
            simp [Array.getElem?_eq_none (Nat.le_of_not_lt hm)]
      | succ j =>
        obtain ⟨acc', h1, h2⟩ := (ih0 j).2 o' (by simpa using ho')
        refine ⟨acc', ?_, h2⟩
        simp only [List.foldl_cons]
        rw [← h1]
        congr 1
        simp
        omega

omit [RoLim] in
theorem before_spec {i j : Nat} {o : Oper} (ho : ops[j]? = some o) (h : aheadOf (Region.before ops).toList i j = true) :
    ∃ e ∈ o.after, Region.binds .any e = true ∧ (i = e.on ∨ aheadOf (Region.before ops).toList i e.on = true) := by
  have hb : Region.before ops = ops.toList.foldl (fun acc o => acc.push (beforeF acc o)) #[] := by
    unfold Region.before beforeF
    rw [← Array.foldl_toList]
  obtain ⟨acc', h1, h2⟩ := (before_get ops.toList #[] j).2 o (by simpa using ho)
  rw [← hb] at h1 h2
  have h3 : (Region.before ops).toList.getD j 0 = beforeF acc' o := by
    have h1' : (Region.before ops)[j]? = some (beforeF acc' o) := by simpa using h1
    simp [List.getD_eq_getElem?_getD, h1']
  unfold aheadOf at h
  rw [h3] at h
  unfold beforeF at h
  rw [← Array.foldl_toList] at h
  rcases bits_fold (fun m => acc'.getD m 0) (Region.binds .any) i o.after.toList 0 h with h | ⟨e, he, hq, h4⟩
  · simp at h
  · refine ⟨e, by simpa using he, hq, h4.imp id fun h4 => ?_⟩
    unfold aheadOf
    have : (Region.before ops).toList.getD e.on 0 = (Region.before ops).getD e.on 0 := by simp [List.getD_eq_getElem?_getD]
    rw [this]
    rcases h2 e.on with q | q
    · rw [q] at h4; simp at h4
    · rw [← q]; exact h4

omit [RoLim] in
theorem before_edge {j : Nat} {o : Oper} {e : Edge} (ho : ops[j]? = some o) (he : e ∈ o.after) (hq : Region.binds .any e = true) : aheadOf (Region.before ops).toList e.on j = true := by
  have hb : Region.before ops = ops.toList.foldl (fun acc o => acc.push (beforeF acc o)) #[] := by
    unfold Region.before beforeF
    rw [← Array.foldl_toList]
  obtain ⟨acc', h1, h2⟩ := (before_get ops.toList #[] j).2 o (by simpa using ho)
  rw [← hb] at h1 h2
  have h3 : (Region.before ops).toList.getD j 0 = beforeF acc' o := by
    have h1' : (Region.before ops)[j]? = some (beforeF acc' o) := by simpa using h1
    simp [List.getD_eq_getElem?_getD, h1']
  unfold aheadOf
  rw [h3]
  unfold beforeF
  rw [← Array.foldl_toList]
  exact bits_fold_back (fun m => acc'.getD m 0) (Region.binds .any) e hq o.after.toList 0 (.inl (by simpa using he))

omit [RoLim] in
theorem edges_spec {size : Nat} : ∀ {os : List Oper} {j : Nat}, edgesOk size j os = true → ∀ i o, os[i]? = some o → ∀ e ∈ o.after, Region.binds .any e = true → e.on < size ∧ e.on ≠ j + i
  | [], j, _, i, o, ho => by simp at ho
  | x :: os, j, h, i, o, ho => by
    simp only [edgesOk, Bool.and_eq_true] at h
    cases i with
    | zero =>
      simp at ho
      subst ho
      intro e he hb
      have := List.all_eq_true.1 h.1 e (by simpa using he)
      rw [hb] at this
      simp only [Bool.not_true, Bool.false_or, Bool.and_eq_true] at this
      refine ⟨Nat.le_of_ble_eq_true this.1, fun e2 => ?_⟩
      rw [e2] at this
      simp at this
    | succ i =>
      intro e he hb
      have := edges_spec h.2 i o (by simpa using ho) e he hb
      rw [show j + (i + 1) = Nat.succ j + i by omega]
      exact this

/-! ### X's order -/
omit [RoLim] in
theorem nat_beq_false {a b : Nat} (h : a ≠ b) : Nat.beq a b = false := by
  cases hb : Nat.beq a b with
  | false => rfl
  | true => exact absurd (Nat.eq_of_beq_eq_true hb) h
omit [RoLim] in
theorem nat_beq_ne {a b : Nat} (h : Nat.beq a b = false) : a ≠ b := fun e => by subst e; rw [Nat.beq_refl] at h; cases h

omit [RoLim] in
theorem nextOf_mem {b : List Nat} {left : List Info} {i : Info} (h : nextOf b left = some i) : i ∈ left := by
  unfold nextOf at h
  split at h
  · rename_i j hj; injection h with h; subst h; exact List.mem_of_find?_eq_some hj
  · split at h
    · rename_i j hj; injection h with h; subst h; exact List.mem_of_find?_eq_some hj
    · split at h
      · exact List.mem_of_find?_eq_some h
      · split at h
        · rename_i j hj; injection h with h; subst h; exact List.mem_of_find?_eq_some hj
        · exact List.mem_of_find?_eq_some h

omit [RoLim] in
theorem drop_length : ∀ {l : List Info} {i : Info}, l.Pairwise (fun x y => x.n ≠ y.n) → i ∈ l → (l.filter fun j => !(Nat.beq j.n i.n)).length + 1 = l.length
  | [], i, _, h => by cases h
  | x :: l, i, hp, h => by
    rw [List.pairwise_cons] at hp
    rcases List.mem_cons.1 h with rfl | h
    · have : (l.filter fun j => !(Nat.beq j.n i.n)) = l := by
        rw [List.filter_eq_self]
        intro j hj
        have := hp.1 j hj
        rw [nat_beq_false (Ne.symm this)]
        rfl
      simp [this]
    · have hne : x.n ≠ i.n := hp.1 i h
      have := drop_length hp.2 h
      simp only [List.filter_cons]
      rw [if_pos (by rw [nat_beq_false hne]; rfl)]
      simp [← this]

omit [RoLim] in
theorem order_spec {b : List Nat} : ∀ (k : Nat) (left : List Info), left.Pairwise (fun x y => x.n ≠ y.n) →
    (∀ i ∈ orderFrom b k left, i ∈ left) ∧ (left.length = k → (orderFrom b k left).length = k → ∀ i ∈ left, i ∈ orderFrom b k left)
  | 0, left, hp => ⟨fun i h => by simp [orderFrom] at h, fun h1 _ i hi => by rw [List.eq_nil_of_length_eq_zero h1] at hi; cases hi⟩
  | k + 1, left, hp => by
    simp only [orderFrom]
    cases hx : nextOf b left with
    | none => exact ⟨fun i h => by simp at h, fun _ h2 => by simp at h2⟩
    | some x =>
      have hm := nextOf_mem hx
      have hpf := hp.filter (fun j => !(Nat.beq j.n x.n))
      obtain ⟨a1, a2⟩ := order_spec (b := b) k (left.filter fun j => !(Nat.beq j.n x.n)) hpf
      refine ⟨fun i h => ?_, fun h1 h2 i hi => ?_⟩
      · rcases List.mem_cons.1 h with rfl | h
        · exact hm
        · exact (List.mem_filter.1 (a1 i h)).1
      · have hl := drop_length hp hm
        simp only [List.length_cons] at h2
        have := a2 (by omega) (by omega)
        by_cases e : i.n = x.n
        · have : i = x := by
            by_cases hix : i = x
            · exact hix
            · exfalso
              obtain ⟨p, hp1⟩ := List.getElem?_of_mem hi
              obtain ⟨q, hq1⟩ := List.getElem?_of_mem hm
              have hpq : p ≠ q := fun e2 => by subst e2; rw [hp1] at hq1; exact hix (Option.some.inj hq1)
              exact pairwise_at (fun _ _ h => Ne.symm h) hp hp1 hq1 hpq e
          subst this
          exact List.mem_cons_self ..
        · exact List.mem_cons_of_mem _ (this i (List.mem_filter.2 ⟨hi, by rw [nat_beq_false e]; rfl⟩))

omit [RoLim] in
theorem pairs_spec {b : List Nat} {l : List Info} : ∀ {o : List Info}, pairsOk b l o = true → o.Pairwise (fun i j => pairOk b l i j = true ∧ aheadOf b j.n i.n = false ∧ i.n ≠ j.n)
  | [], _ => .nil
  | i :: r, h => by
    simp only [pairsOk, Bool.and_eq_true, List.all_eq_true] at h
    refine List.pairwise_cons.2 ⟨fun j hj => ?_, pairs_spec h.2⟩
    obtain ⟨⟨h1, h2⟩, h3⟩ := h.1 j hj
    refine ⟨h1, by simpa using h2, fun e => ?_⟩
    rw [e] at h3
    simp at h3

omit [RoLim] in
theorem slots_spec {b : List Nat} {l : List Info} (h : slotsOk b l = true) {i j : Info} (hi : i ∈ l) (hj : j ∈ l) {d : Nat} (hd : i.dst = some d) (hx : d ∈ j.names ∨ j.dst = some d) :
    i.n = j.n ∨ aheadOf b i.n j.n = true ∨ aheadOf b j.n i.n = true := by
  simp only [slotsOk, List.all_eq_true] at h
  have := h i hi j hj
  rw [hd] at this
  simp only [unordered, Bool.or_eq_true, Bool.not_eq_true', Bool.and_eq_true, Bool.and_eq_false_iff, decide_eq_true_eq] at this
  rcases this with (h1 | h1) | ⟨h1, h2⟩
  · rcases h1 with h1 | h1
    · exact .inr (.inl (by simpa using h1))
    · exact .inr (.inr (by simpa using h1))
  · exact .inl (by simpa using h1)
  · rcases hx with hx | hx
    · simp at h1; exact absurd hx h1
    · exact absurd hx h2

omit [RoLim] in
theorem reads_spec {b : List Nat} {l : List Info} (h : readsOk b l = true) {r j : Info} (hr : r ∈ l) (hs : r.sort = .reads) (hj : j ∈ l) {d : Nat} (hd : j.dst = some d) :
    (j.n = r.n ∨ r.dst ≠ some d) ∧ (d ∈ r.names → aheadOf b j.n r.n = true ∧ j.n ≠ r.n) := by
  simp only [readsOk, List.all_eq_true] at h
  have := h r hr
  rw [hs] at this
  simp only [Bool.false_or, List.all_eq_true] at this
  have := this j hj
  rw [hd] at this
  simp only [Bool.or_eq_true, Bool.not_eq_true', Bool.and_eq_true, decide_eq_true_eq] at this
  refine ⟨this.1.imp (fun q => by simpa using q) id, fun hm => ?_⟩
  rcases this.2 with q | q
  · simp at q; exact absurd hm q
  · exact ⟨q.1, nat_beq_ne (by simpa using q.2)⟩
end
end Go.Xr

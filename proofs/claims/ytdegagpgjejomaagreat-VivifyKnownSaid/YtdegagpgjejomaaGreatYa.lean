/- A drawn region comes to what X comes to, in whatever order it goes: the proof. -/
import Derived.Test.YtdegagpgjejomaaGreatXz
namespace Go.Xr
open Go.RowKit

/-- What X's order of a region's operations is held to. -/
structure Reg (P : Program) (n : Nat) (ops : Array Oper) (b : List Nat) (o : List Info) : Prop where
  of : ∀ I ∈ o, ∃ op, Of P n ops I op
  all : ∀ i, i < ops.size → ∃ I ∈ o, I.n = i
  pw : o.Pairwise (fun i j => pairOk b o i j = true ∧ aheadOf b j.n i.n = false ∧ i.n ≠ j.n)
  slots : ∀ i ∈ o, ∀ j ∈ o, ∀ d, i.dst = some d → (d ∈ j.names ∨ j.dst = some d) → i.n = j.n ∨ aheadOf b i.n j.n = true ∨ aheadOf b j.n i.n = true
  reads : ∀ r ∈ o, r.sort = .reads → ∀ j ∈ o, ∀ d, j.dst = some d → (j.n = r.n ∨ r.dst ≠ some d) ∧ (d ∈ r.names → aheadOf b j.n r.n = true ∧ j.n ≠ r.n)
  edge : ∀ j op, ops[j]? = some op → ∀ e ∈ op.after, Region.binds .any e = true → e.on < ops.size ∧ e.on ≠ j ∧ aheadOf b e.on j = true
  back : ∀ i j op, ops[j]? = some op → aheadOf b i j = true → ∃ e ∈ op.after, Region.binds .any e = true ∧ (i = e.on ∨ aheadOf b i e.on = true)

section
variable [RoLim] {P : Program} {n : Nat} {ops : Array Oper} {b : List Nat} {o : List Info}

omit [RoLim] in
theorem guard_mem {op : Oper} {g : Nat} {want : Bool} (h : guardOf ops op.guard = some (some (g, want))) : g ∈ names ops op := by
  unfold guardOf at h
  split at h
  · simp at h
  · rename_i j w h0
    split at h <;> try (cases h; done)
    rename_i oj hj
    split at h <;> try (cases h; done)
    rename_i dd hd
    simp only [Option.some.injEq, Prod.mk.injEq] at h
    obtain ⟨rfl, rfl⟩ := h
    unfold names
    refine List.mem_append_right _ ?_
    simp [h0, hj, hd]

omit [RoLim] in
theorem wanted_agree {I : Info} {op : Oper} (hI : Of P n ops I op) {t1 t2 : Tr V} (h : ∀ x ∈ I.names, slotOf t1 x = slotOf t2 x) : wantedV t1 I.step.guard = wantedV t2 I.step.guard := by
  obtain ⟨_, q2, _, _⟩ := compStep_some hI.comp
  cases hg : I.step.guard with
  | none => rfl
  | some gw =>
    obtain ⟨g, want⟩ := gw
    rw [hg] at q2
    have := h g (by rw [hI.names]; exact guard_mem q2)
    simp only [wantedV, this]

omit [RoLim] in
theorem Reg.uniq (G : Reg P n ops b o) {i j : Info} (hi : i ∈ o) (hj : j ∈ o) (e : i.n = j.n) : i = j := by
  by_cases h : i = j
  · exact h
  · exfalso
    obtain ⟨p, hp⟩ := List.getElem?_of_mem hi
    obtain ⟨q, hq⟩ := List.getElem?_of_mem hj
    have hpq : p ≠ q := fun e2 => by subst e2; rw [hp] at hq; exact h (Option.some.inj hq)
    exact pairwise_at (R := fun x y : Info => x.n ≠ y.n) (fun _ _ h => Ne.symm h) (G.pw.imp fun h => h.2.2) hp hq hpq e

variable {ih : Task → Option Out} {rnd : Option Nat} {t0 t2 : Tr V} {d2 : List XDef} {h2 : Heap}

def has (listed : Array Bool) (i : Nat) : Bool := listed.getD i false

/-- Where the machine is, in X's words: it has done what is listed; X has gone through pre. -/
structure Inv (P : Program) (n : Nat) (ops : Array Oper) (b : List Nat) (o : List Info) (ih : Task → Option Out) (rnd : Option Nat) (t0 t2 : Tr V) (d2 : List XDef) (h2 : Heap)
    (listed : Array Bool) (pre suf : List (Info × V)) (d : List XDef) (h : Heap) : Prop where
  whole : (pre ++ suf).map (·.1) = o
  size : listed.size = ops.size
  tra : Tra ih rnd b (pre.map (·.1)) suf (appl t0 pre) d h t2 d2 h2
  did : ∀ p ∈ pre, loud p.1.sort = true → has listed p.1.n = true
  will : ∀ p ∈ suf, loud p.1.sort = true → has listed p.1.n = false
  closed : ∀ j, has listed j = true → ∀ i, aheadOf b i j = true → has listed i = true
  wit : ∀ A p B, pre = A ++ p :: B → has listed p.1.n = false → ∃ ts, (∀ x ∈ p.1.names, slotOf ts x = slotOf (appl t0 A) x) ∧ LookV p.1.step ts h p.2

def doneL (listed : Array Bool) (T : List (Info × V)) : List (Info × V) := T.filter fun p => has listed p.1.n

omit [RoLim] in
theorem has_set {listed : Array Bool} {i j : Nat} (hi : i < listed.size) : has (listed.setIfInBounds i true) j = (decide (j = i) || has listed j) := by
  unfold has
  by_cases e : j = i
  · subst e; simp [hi]
  · simp [e, Array.getElem?_setIfInBounds_ne (Ne.symm e)]

section
variable {listed : Array Bool} {pre suf : List (Info × V)} {d : List XDef} {h : Heap}

omit [RoLim] in
/-- The slots that an operation looks at, when its turn comes. -/
theorem slots_agree (G : Reg P n ops b o) {T : List (Info × V)} (hT : T.map (·.1) = o) (hcl : ∀ j, has listed j = true → ∀ i, aheadOf b i j = true → has listed i = true) {A B : List (Info × V)} {p : Info × V} (hTp : T = A ++ p :: B)
    (hno : has listed p.1.n = false) (hready : ∀ i, aheadOf b i p.1.n = true → has listed i = true) {x : Nat} (hx : x ∈ p.1.names ∨ p.1.dst = some x) :
    look x (slotOf t0 x) (doneL listed T) = look x (slotOf t0 x) (doneL listed A) ∧ (look x (slotOf t0 x) (doneL listed A) = slotOf (appl t0 A) x) := by
  subst hTp
  have hmap : o = A.map (·.1) ++ p.1 :: B.map (·.1) := by rw [← hT]; simp
  have hpw := G.pw
  rw [hmap, List.pairwise_append] at hpw
  obtain ⟨_, hpB, hAB⟩ := hpw
  rw [List.pairwise_cons] at hpB
  have hpo : p.1 ∈ o := by rw [hmap]; simp
  have hA : ∀ q ∈ A, q.1.dst = some x → has listed q.1.n = true := by
    intro q hq hqd
    have hqo : q.1 ∈ o := by rw [hmap]; exact List.mem_append_left _ (List.mem_map.2 ⟨q, hq, rfl⟩)
    have hpair := hAB q.1 (List.mem_map.2 ⟨q, hq, rfl⟩) p.1 (List.mem_cons_self ..)
    rcases G.slots q.1 hqo p.1 hpo x hqd hx with e | e | e
    · exact absurd e hpair.2.2
    · exact hready _ e
    · rw [hpair.2.1] at e; cases e
  have hB : ∀ q ∈ B, q.1.dst = some x → has listed q.1.n = false := by
    intro q hq hqd
    have hqo : q.1 ∈ o := by rw [hmap]; exact List.mem_append_right _ (List.mem_cons_of_mem _ (List.mem_map.2 ⟨q, hq, rfl⟩))
    have hpair := hpB.1 q.1 (List.mem_map.2 ⟨q, hq, rfl⟩)
    rcases G.slots q.1 hqo p.1 hpo x hqd hx with e | e | e
    · exact absurd e.symm hpair.2.2
    · rw [hpair.2.1] at e; cases e
    · cases hh : has listed q.1.n with
      | false => rfl
      | true => rw [hcl _ hh _ e] at hno; cases hno
  refine ⟨?_, ?_⟩
  · unfold doneL
    rw [List.filter_append, look_append, List.filter_cons, if_neg (by rw [hno]; simp)]
    exact look_some_none x _ B _ hB
  · unfold doneL
    rw [look_all x _ A _ hA, slot_appl]

omit [RoLim] in
/-- What is done once one more is done. -/
theorem slots_done (G : Reg P n ops b o) {T : List (Info × V)} (hT : T.map (·.1) = o) (hcl : ∀ j, has listed j = true → ∀ i, aheadOf b i j = true → has listed i = true) {A B : List (Info × V)} {p : Info × V} (hTp : T = A ++ p :: B)
    (hno : has listed p.1.n = false) (hlt : p.1.n < listed.size) (x : Nat) :
    slotOf (appl t0 (doneL (listed.setIfInBounds p.1.n true) T)) x = slotOf (putOpt (appl t0 (doneL listed T)) p.1.dst p.2) x := by
  subst hTp
  have hmap : o = A.map (·.1) ++ p.1 :: B.map (·.1) := by rw [← hT]; simp
  have hpw := G.pw
  rw [hmap, List.pairwise_append] at hpw
  obtain ⟨_, hpB, hAB⟩ := hpw
  rw [List.pairwise_cons] at hpB
  have hpo : p.1 ∈ o := by rw [hmap]; simp
  have hfil : ∀ (L : List (Info × V)), (∀ q ∈ L, q.1.n ≠ p.1.n) → doneL (listed.setIfInBounds p.1.n true) L = doneL listed L := by
    intro L hL
    unfold doneL
    refine List.filter_congr fun q hq => ?_
    rw [has_set hlt]
    simp [hL q hq]
  have hA : doneL (listed.setIfInBounds p.1.n true) A = doneL listed A := hfil A fun q hq => (hAB q.1 (List.mem_map.2 ⟨q, hq, rfl⟩) p.1 (List.mem_cons_self ..)).2.2
  have hB : doneL (listed.setIfInBounds p.1.n true) B = doneL listed B := hfil B fun q hq => Ne.symm (hpB.1 q.1 (List.mem_map.2 ⟨q, hq, rfl⟩)).2.2
  have e1 : doneL (listed.setIfInBounds p.1.n true) (A ++ p :: B) = doneL listed A ++ p :: doneL listed B := by
    rw [← hA, ← hB]
    unfold doneL
    rw [List.filter_append, List.filter_cons, if_pos (by rw [has_set hlt]; simp)]
  have e2 : doneL listed (A ++ p :: B) = doneL listed A ++ doneL listed B := by
    unfold doneL
    rw [List.filter_append, List.filter_cons, if_neg (by rw [hno]; simp)]
  rw [e1, e2, slot_putOpt, slot_appl, slot_appl, look_append, look_append]
  show look x (if p.1.dst = some x then p.2 else _) (doneL listed B) = _
  by_cases e : p.1.dst = some x
  · rw [if_pos e, if_pos e]
    unfold doneL
    refine look_some_none x _ B _ fun q hq hqd => ?_
    have hqo : q.1 ∈ o := by rw [hmap]; exact List.mem_append_right _ (List.mem_cons_of_mem _ (List.mem_map.2 ⟨q, hq, rfl⟩))
    have hpair := hpB.1 q.1 (List.mem_map.2 ⟨q, hq, rfl⟩)
    rcases G.slots q.1 hqo p.1 hpo x hqd (.inr e) with e | e | e
    · exact absurd e.symm hpair.2.2
    · rw [hpair.2.1] at e; cases e
    · cases hh : has listed q.1.n with
      | false => rfl
      | true => rw [hcl _ hh _ e] at hno; cases hno
  · rw [if_neg e, if_neg e]

omit [RoLim] in
theorem ready_facts (G : Reg P n ops b o) (hsz : listed.size = ops.size) (hcl : ∀ j, has listed j = true → ∀ i, aheadOf b i j = true → has listed i = true) {i : Nat} (hi : i ∈ Region.ready .any ops listed) :
    i < ops.size ∧ has listed i = false ∧ ∀ j, aheadOf b j i = true → has listed j = true := by
  obtain ⟨h1, op, h3, h4⟩ := mem_ready.1 hi
  have hlt : i < ops.size := (Array.getElem?_eq_some_iff.1 h3).1
  refine ⟨hlt, ?_, fun j hj => ?_⟩
  · unfold has
    simpa [hsz, hlt] using h1
  · obtain ⟨e, he, hb, hor⟩ := G.back j i op h3 hj
    have := h4 e he hb
    rcases hor with rfl | hor
    · exact this
    · exact hcl e.on this j hor

omit [RoLim] in
/-- While something is left, something is ready. -/
theorem some_ready (G : Reg P n ops b o) (hsz : listed.size = ops.size) : ∀ (C D : List Info), o = C ++ D → (∀ I ∈ C, has listed I.n = true) → (∃ I ∈ D, has listed I.n = false) → Region.ready .any ops listed ≠ []
  | C, [], _, _, h => by obtain ⟨I, hI, _⟩ := h; cases hI
  | C, I :: D, ho, hC, h => by
    cases hh : has listed I.n with
    | true =>
      refine some_ready G hsz (C ++ [I]) D (by rw [ho]; simp) (fun J hJ => ?_) ?_
      · rcases List.mem_append.1 hJ with hJ | hJ
        · exact hC J hJ
        · rw [List.mem_singleton.1 hJ]; exact hh
      · obtain ⟨J, hJ, hJn⟩ := h
        rcases List.mem_cons.1 hJ with rfl | hJ
        · rw [hh] at hJn; cases hJn
        · exact ⟨J, hJ, hJn⟩
    | false =>
      have hIo : I ∈ o := by rw [ho]; simp
      obtain ⟨op, hop⟩ := G.of I hIo
      have hlt : I.n < ops.size := (Array.getElem?_eq_some_iff.1 hop.at_).1
      have : I.n ∈ Region.ready .any ops listed := by
        refine mem_ready.2 ⟨?_, op, hop.at_, fun e he hb => ?_⟩
        · unfold has at hh; simpa [hsz, hlt] using hh
        · obtain ⟨q1, q2, q3⟩ := G.edge I.n op hop.at_ e he hb
          obtain ⟨E, hE, hEn⟩ := G.all e.on q1
          have hpw := G.pw
          rw [ho, List.pairwise_append, List.pairwise_cons] at hpw
          rw [ho] at hE
          rcases List.mem_append.1 hE with hE | hE
          · have := hC E hE
            rw [hEn] at this
            exact this
          · rcases List.mem_cons.1 hE with rfl | hE
            · exact absurd hEn.symm q2
            · have := (hpw.2.1.1 E hE).2.1
              rw [hEn, q3] at this
              cases this
      exact fun e => by rw [e] at this; cases this
end
end
end Go.Xr

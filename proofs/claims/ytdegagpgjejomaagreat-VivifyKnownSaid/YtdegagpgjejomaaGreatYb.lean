/- A drawn region comes to what X comes to, in whatever order it goes: the induction. -/
import Derived.Test.YtdegagpgjejomaaGreatYu
namespace Go.Xr
open Go.RowKit
section
variable [RoLim] {P : Program} {n : Nat} {ops : Array Oper} {b : List Nat} {o : List Info} {ih : Task → Option Out} {rnd : Option Nat} {t0 t2 : Tr V} {d2 : List XDef} {h2 : Heap}

omit [RoLim] in
theorem tra_quiet {done : List Info} {L : List (Info × V)} {t t2 : Tr V} {d d2 : List XDef} {h h2 : Heap} (hT : Tra ih rnd b done L t d h t2 d2 h2) (hq : ∀ q ∈ L, loud q.1.step.op.sort = false) : d2 = d ∧ h2 = h ∧
    ∀ A q B, L = A ++ q :: B → LookV q.1.step (appl t A) h q.2 := by
  induction hT with
  | nil => exact ⟨rfl, rfl, fun A q B e => by simp at e⟩
  | @cons done i v T t t2 d d1 d2 h h1 h2 hs hst hr ih1 =>
    obtain ⟨rfl, rfl, hl⟩ := quiet_step (hq (i, v) (List.mem_cons_self ..)) hs
    obtain ⟨q1, q2, q3⟩ := ih1 fun q hq' => hq q (List.mem_cons_of_mem _ hq')
    refine ⟨q1, q2, fun A q B e => ?_⟩
    cases A with
    | nil =>
      simp only [List.nil_append, List.cons.injEq] at e
      obtain ⟨rfl, rfl⟩ := e
      exact hl
    | cons p A =>
      simp only [List.cons_append, List.cons.injEq] at e
      obtain ⟨rfl, rfl⟩ := e
      exact q3 A q B rfl

theorem look_step {s : XStep} {t : Tr V} {d : List XDef} {h : Heap} {v : V} (hl : LookV s t h v) : StepWP P s rnd t d h fun v' d' h' => v' = v ∧ d' = d ∧ h' = h := by
  rcases hl with ⟨h1, h2⟩ | ⟨h1, h2⟩
  · exact step_skipped h1 ⟨h2.symm, rfl, rfl⟩
  · exact step_op h1 h2 ⟨rfl, rfl, rfl⟩

omit [RoLim] in
theorem drop_length' (G : Reg P n ops b o) {listed : Array Bool} {I : Info} (hI : I ∈ o) (hno : has listed I.n = false) (hlt : I.n < listed.size) :
    (o.filter fun J => !has (listed.setIfInBounds I.n true) J.n).length + 1 = (o.filter fun J => !has listed J.n).length := by
  have hp : (o.filter fun J => !has listed J.n).Pairwise (fun x y => x.n ≠ y.n) := (G.pw.imp fun h => h.2.2).filter _
  have hm : I ∈ o.filter fun J => !has listed J.n := List.mem_filter.2 ⟨hI, by rw [hno]; rfl⟩
  rw [← drop_length hp hm, List.filter_filter]
  congr 2
  refine List.filter_congr fun J hJ => ?_
  rw [has_set hlt]
  by_cases e : J.n = I.n
  · simp [e]
  · rw [nat_beq_false e]; simp [e]

omit [RoLim] in
theorem Inv.looked (G : Reg P n ops b o) {listed : Array Bool} {pre suf : List (Info × V)} {d : List XDef} {h : Heap} (V0 : Inv P n ops b o ih rnd t0 t2 d2 h2 listed pre suf d h) {p : Info × V} (hl : loud p.1.sort = false)
    (hlt : p.1.n < listed.size) (hp : p.1 ∈ o) (hready : ∀ i, aheadOf b i p.1.n = true → has listed i = true) : Inv P n ops b o ih rnd t0 t2 d2 h2 (listed.setIfInBounds p.1.n true) pre suf d h := by
  refine ⟨V0.whole, by simp [V0.size], V0.tra, fun q hq hlq => ?_, fun q hq hlq => ?_, fun j hj i hij => ?_, fun A q B e hno => ?_⟩
  · rw [has_set hlt, V0.did q hq hlq]; simp
  · rw [has_set hlt, V0.will q hq hlq]
    have hqo : q.1 ∈ o := by rw [← V0.whole]; exact List.mem_map.2 ⟨q, List.mem_append_right _ hq, rfl⟩
    have : q.1.n ≠ p.1.n := fun e => by rw [G.uniq hqo hp e, hl] at hlq; cases hlq
    simp [this]
  · rw [has_set hlt] at hj ⊢
    by_cases e : j = p.1.n
    · subst e; simp [hready i hij]
    · simp [e] at hj; simp [V0.closed j hj i hij]
  · rw [has_set hlt] at hno
    simp at hno
    exact V0.wit A q B e hno.2

omit [RoLim] in
/-- What looks, when its turn comes. -/
theorem Inv.looks (G : Reg P n ops b o) {listed : Array Bool} {pre suf : List (Info × V)} {d : List XDef} {h : Heap} (V0 : Inv P n ops b o ih rnd t0 t2 d2 h2 listed pre suf d h) {p : Info × V} (hp : p ∈ pre ++ suf) (hl : loud p.1.sort = false)
    (hno : has listed p.1.n = false) (hready : ∀ i, aheadOf b i p.1.n = true → has listed i = true) :
    ∃ A B ts, pre ++ suf = A ++ p :: B ∧ (∀ x ∈ p.1.names, slotOf ts x = slotOf (appl t0 A) x) ∧ LookV p.1.step ts h p.2 := by
  have sortOf : ∀ q ∈ pre ++ suf, q.1.sort = q.1.step.op.sort := fun q hq => by
    obtain ⟨op, hop⟩ := G.of q.1 (by rw [← V0.whole]; exact List.mem_map.2 ⟨q, hq, rfl⟩)
    exact hop.sort
  rcases List.mem_append.1 hp with hp | hp
  · obtain ⟨A, B, e⟩ := List.append_of_mem hp
    obtain ⟨ts, q1, q2⟩ := V0.wit A p B e hno
    exact ⟨A, B ++ suf, ts, by rw [e]; simp, q1, q2⟩
  · obtain ⟨mid, B, e⟩ := List.append_of_mem hp
    have htra := V0.tra
    rw [e] at htra
    obtain ⟨dm, hm, q1, q2⟩ := tra_append htra
    refine ⟨pre ++ mid, B, appl t0 (pre ++ mid), by rw [e]; simp, fun x _ => rfl, ?_⟩
    cases q2 with
    | @cons _ i v _ _ _ _ d1 _ _ h1 _ hs hst hr =>
      have hls : loud i.step.op.sort = false := by
        have := sortOf (i, v) (by rw [e]; simp)
        rw [← this]; exact hl
      obtain ⟨_, _, hlook⟩ := quiet_step hls hs
      rw [appl_append]
      cases hsort : i.sort with
      | acts => rw [hsort] at hl; cases hl
      | makes => rw [hsort] at hl; cases hl
      | quiet =>
        have hqs : i.step.op.sort = .quiet := by rw [← hsort]; exact (sortOf (i, v) (by rw [e]; simp)).symm
        rcases hlook with h1 | ⟨h1, h2⟩
        · exact .inl h1
        · exact .inr ⟨h1, quiet_any hqs h2 h⟩
      | reads =>
        have hmid : ∀ q ∈ mid, loud q.1.step.op.sort = false := by
          intro q hq
          rw [← sortOf q (by rw [e]; exact List.mem_append_right _ (List.mem_append_left _ hq))]
          cases hlq : loud q.1.sort with
          | false => rfl
          | true =>
            exfalso
            have hpw := G.pw
            rw [← V0.whole, e] at hpw
            simp only [List.map_append, List.map_cons] at hpw
            have := (List.pairwise_append.1 (List.pairwise_append.1 hpw).2.1).2.2 q.1 (List.mem_map.2 ⟨q, hq, rfl⟩) i (List.mem_cons_self ..)
            have hw := V0.will q (by rw [e]; exact List.mem_append_left _ hq) hlq
            obtain ⟨h1, h2, h3⟩ := this
            unfold pairOk at h1
            rw [hlq, hsort] at h1
            simp only [unordered, Bool.not_true, Bool.or_false, Bool.not_eq_true', Bool.and_eq_false_iff, Bool.not_eq_false'] at h1
            rcases h1 with (h1 | h1) | h1
            · rw [hready _ h1] at hw; cases hw
            · rw [h2] at h1; cases h1
            · exact h3 (Nat.eq_of_beq_eq_true h1)
        obtain ⟨_, r2, _⟩ := tra_quiet q1 hmid
        rw [r2] at hlook
        exact hlook

omit [RoLim] in
/-- What acts or makes, when its turn comes. -/
theorem Inv.acts (G : Reg P n ops b o) {listed : Array Bool} {pre suf : List (Info × V)} {d : List XDef} {h : Heap} (V0 : Inv P n ops b o ih rnd t0 t2 d2 h2 listed pre suf d h) {p : Info × V} {mid B : List (Info × V)} (e : suf = mid ++ p :: B) (hmidl : ∀ q ∈ mid, loud q.1.sort = false) (hl : loud p.1.sort = true)
    (hready : ∀ i, aheadOf b i p.1.n = true → has listed i = true) (hlt : p.1.n < listed.size) :
    ∃ d1 h1, runStep ih p.1.step rnd (appl t0 (pre ++ mid)) d h = some (p.2, d1, h1) ∧ Inv P n ops b o ih rnd t0 t2 d2 h2 (listed.setIfInBounds p.1.n true) (pre ++ mid ++ [p]) B d1 h1 := by
  have inO : ∀ q ∈ pre ++ suf, q.1 ∈ o := fun q hq => by rw [← V0.whole]; exact List.mem_map.2 ⟨q, hq, rfl⟩
  have sortOf : ∀ q ∈ pre ++ suf, q.1.sort = q.1.step.op.sort := fun q hq => by
    obtain ⟨op, hop⟩ := G.of q.1 (inO q hq)
    exact hop.sort
  have htra := V0.tra
  rw [e] at htra
  obtain ⟨dm, hm, q1, q2⟩ := tra_append htra
  have hpw := G.pw
  rw [← V0.whole, e] at hpw
  simp only [List.map_append, List.map_cons] at hpw
  obtain ⟨rfl, rfl, hw⟩ := tra_quiet q1 (fun q hq => by rw [← sortOf q (by rw [e]; exact List.mem_append_right _ (List.mem_append_left _ hq))]; exact hmidl q hq)
  have W : ∀ A q C, pre ++ mid = A ++ q :: C → has listed q.1.n = false → ∃ ts, (∀ x ∈ q.1.names, slotOf ts x = slotOf (appl t0 A) x) ∧ LookV q.1.step ts hm q.2 := by
    intro A q C hA hnq
    rcases List.append_eq_append_iff.1 hA with ⟨a', h1, h2⟩ | ⟨c', h1, h2⟩
    · refine ⟨appl t0 A, fun _ _ => rfl, ?_⟩
      rw [h1, appl_append]
      exact hw a' q C h2
    · cases c' with
      | nil =>
        refine ⟨appl t0 A, fun _ _ => rfl, ?_⟩
        simp only [List.append_nil] at h1
        simp only [List.nil_append] at h2
        subst h1
        have := hw [] q C h2.symm
        exact this
      | cons q' c' =>
        simp only [List.cons_append, List.cons.injEq] at h2
        obtain ⟨rfl, h2⟩ := h2
        exact V0.wit A q c' h1 hnq
  cases q2 with
  | @cons _ i v _ _ _ _ d1 _ _ h1 _ hs hst hr =>
    rw [← appl_append] at hs hst
    refine ⟨d1, h1, hs, ?_⟩
    have epre : appl t0 (pre ++ mid ++ [(i, v)]) = putOpt (appl t0 (pre ++ mid)) i.dst v := by rw [appl_append]; rfl
    refine ⟨?_, by simp [V0.size], ?_, fun q hq hlq => ?_, fun q hq hlq => ?_, fun j hj k hkj => ?_, fun A q C hA hnq => ?_⟩
    · rw [← V0.whole, e]; simp
    · rw [epre]
      rw [← appl_append] at hr
      have e2 : pre.map (·.1) ++ mid.map (·.1) ++ [i] = (pre ++ mid ++ [(i, v)]).map (·.1) := by simp
      rw [← e2]
      exact hr
    · rw [has_set hlt]
      rcases List.mem_append.1 hq with hq | hq
      · rcases List.mem_append.1 hq with hq | hq
        · rw [V0.did q hq hlq]; simp
        · rw [hmidl q hq] at hlq; cases hlq
      · rw [List.mem_singleton.1 hq]; simp
    · rw [has_set hlt, V0.will q (by rw [e]; exact List.mem_append_right _ (List.mem_cons_of_mem _ hq)) hlq]
      have := ((List.pairwise_cons.1 (List.pairwise_append.1 (List.pairwise_append.1 hpw).2.1).2.1).1 q.1 (List.mem_map.2 ⟨q, hq, rfl⟩)).2.2
      simp [Ne.symm this]
    · rw [has_set hlt] at hj ⊢
      by_cases ej : j = i.n
      · subst ej; simp [hready k hkj]
      · simp [ej] at hj; simp [V0.closed j hj k hkj]
    · rw [has_set hlt] at hnq
      simp at hnq
      obtain ⟨hne, hnq⟩ := hnq
      have hC : ∃ C', C = C' ++ [(i, v)] ∧ pre ++ mid = A ++ q :: C' := by
        rcases List.eq_nil_or_concat C with rfl | ⟨C', x, rfl⟩
        · have := List.append_inj' hA rfl
          have h3 := this.2
          simp only [List.cons.injEq, and_true] at h3
          exact absurd (by rw [← h3]) hne
        · have hA' : (pre ++ mid) ++ [(i, v)] = (A ++ q :: C') ++ [x] := by rw [hA]; simp
          have := List.append_inj' hA' rfl
          have h3 := this.2
          simp only [List.cons.injEq, and_true] at h3
          exact ⟨C', by rw [h3]; simp, this.1⟩
      obtain ⟨C', rfl, hAC⟩ := hC
      obtain ⟨ts, hag, hlk⟩ := W A q C' hAC hnq
      have hqm : q ∈ pre ++ mid := by rw [hAC]; simp
      have hqT : q ∈ pre ++ suf := by
        rw [e]
        rcases List.mem_append.1 hqm with h | h
        · exact List.mem_append_left _ h
        · exact List.mem_append_right _ (List.mem_append_left _ h)
      have hql : loud q.1.sort = false := by
        rcases List.mem_append.1 hqm with h | h
        · cases hlq : loud q.1.sort with
          | false => rfl
          | true => rw [V0.did q h hlq] at hnq; cases hnq
        · exact hmidl q h
      cases hsort : q.1.sort with
      | acts => rw [hsort] at hql; cases hql
      | makes => rw [hsort] at hql; cases hql
      | quiet =>
        refine ⟨ts, hag, ?_⟩
        have hqs : q.1.step.op.sort = .quiet := by rw [← hsort]; exact (sortOf q hqT).symm
        rcases hlk with h1' | ⟨h1', h2'⟩
        · exact .inl h1'
        · exact .inr ⟨h1', quiet_any hqs h2' h1⟩
      | reads =>
        have hah : aheadOf b q.1.n i.n = false := by
          cases hh : aheadOf b q.1.n i.n with
          | false => rfl
          | true => rw [hready _ hh] at hnq; cases hnq
        have hdone : q.1 ∈ pre.map (·.1) ++ mid.map (·.1) := by rw [← List.map_append]; exact List.mem_map.2 ⟨q, hqm, rfl⟩
        have hst1 := hst hl q.1 hdone hsort hah
        rw [← epre] at hst1
        have hTq : pre ++ suf = A ++ q :: (C' ++ (i, v) :: B) := by rw [e, ← List.append_assoc, hAC]; simp
        have hpw2 := G.pw
        rw [← V0.whole, hTq] at hpw2
        simp only [List.map_append, List.map_cons] at hpw2
        have hbeh := (List.pairwise_cons.1 (List.pairwise_append.1 hpw2).2.1).1
        have hin : ∀ j ∈ C' ++ [(i, v)], j ∈ pre ++ suf ∧ aheadOf b j.1.n q.1.n = false ∧ q.1.n ≠ j.1.n := by
          intro j hj
          have hj' : j ∈ C' ++ (i, v) :: B := by
            rcases List.mem_append.1 hj with hj | hj
            · exact List.mem_append_left _ hj
            · rw [List.mem_singleton.1 hj]; simp
          refine ⟨by rw [hTq]; exact List.mem_append_right _ (List.mem_cons_of_mem _ hj'), (hbeh j.1 ?_).2⟩
          have := List.mem_map_of_mem (f := fun (p : Info × V) => p.1) hj'
          simpa using this
        have eT : appl t0 (pre ++ mid ++ [(i, v)]) = appl (putOpt (appl t0 A) q.1.dst q.2) (C' ++ [(i, v)]) := by
          rw [hAC]
          rw [show A ++ q :: C' ++ [(i, v)] = A ++ (q :: (C' ++ [(i, v)])) by simp, appl_append]
          rfl
        have hag1 : ∀ x ∈ q.1.names, slotOf (appl t0 (pre ++ mid ++ [(i, v)])) x = slotOf (appl t0 A) x := by
          intro x hx
          rw [eT, slot_appl, slot_putOpt]
          have hnd : q.1.dst ≠ some x := fun ed => ((G.reads q.1 (inO q hqT) hsort q.1 (inO q hqT) x ed).2 hx).2 rfl
          rw [if_neg hnd]
          refine look_none x _ _ fun j hj ed => ?_
          obtain ⟨hj1, hj2, _⟩ := hin j hj
          rw [((G.reads q.1 (inO q hqT) hsort j.1 (inO j hj1) x ed).2 hx).1] at hj2
          cases hj2
        refine ⟨appl t0 (pre ++ mid ++ [(i, v)]), hag1, ?_⟩
        obtain ⟨op, hop⟩ := G.of q.1 (inO q hqT)
        have hwant := wanted_agree hop (t1 := appl t0 (pre ++ mid ++ [(i, v)])) (t2 := ts) (fun x hx => (hag1 x hx).trans (hag x hx).symm)
        rcases hst1 with hu | ⟨hu, i', v', h', hd', he', hv'⟩
        · left
          refine ⟨hu, ?_⟩
          rcases hlk with ⟨_, h2'⟩ | ⟨h1', _⟩
          · exact h2'
          · rw [← hwant, hu] at h1'; cases h1'
        · right
          refine ⟨hu, ?_⟩
          have hqs : loud q.1.step.op.sort = false := by rw [← sortOf q hqT]; exact hql
          have := looks_heap hqs he'
          subst this
          obtain ⟨_, _, hdd, _⟩ := compStep_some hop.comp
          have hdst : q.1.dst = some i' := by rw [hop.dst, ← hdd]; exact hd'
          have : slotOf (appl t0 (pre ++ mid ++ [(i, v)])) i' = q.2 := by
            rw [eT, slot_appl, slot_putOpt, if_pos hdst]
            refine look_none i' _ _ fun j hj ed => ?_
            obtain ⟨hj1, _, hj3⟩ := hin j hj
            rcases (G.reads q.1 (inO q hqT) hsort j.1 (inO j hj1) i' ed).1 with h | h
            · exact hj3 h.symm
            · exact h hdst
          rw [this] at hv'
          rw [← hv']
          exact he'

/-- What is said of ih's steps. -/
def StepsOk (P : Program) (ih : Task → Option Out) : Prop :=
  ∀ s rnd t d h v d1 h1, runStep ih s rnd t d h = some (v, d1, h1) → StepWP P s rnd t d h fun v' d' h' => v' = v ∧ d' = d1 ∧ h' = h1

omit [RoLim] in
theorem split_uniq {T : List (Info × V)} (hp : T.Pairwise fun x y => x.1.n ≠ y.1.n) : ∀ {A B A' B' : List (Info × V)} {p p' : Info × V}, T = A ++ p :: B → T = A' ++ p' :: B' → p.1.n = p'.1.n → A = A' ∧ p = p' ∧ B = B' := by
  induction T with
  | nil => intro A B A' B' p p' e; simp at e
  | cons a T ih =>
    intro A B A' B' p p' e e' hn
    rw [List.pairwise_cons] at hp
    cases A with
    | nil =>
      simp only [List.nil_append, List.cons.injEq] at e
      obtain ⟨rfl, rfl⟩ := e
      cases A' with
      | nil =>
        simp only [List.nil_append, List.cons.injEq] at e'
        exact ⟨rfl, e'.1, e'.2⟩
      | cons c A' =>
        simp only [List.cons_append, List.cons.injEq] at e'
        obtain ⟨rfl, e2⟩ := e'
        exact absurd hn (hp.1 p' (by rw [e2]; simp))
    | cons c A =>
      simp only [List.cons_append, List.cons.injEq] at e
      obtain ⟨rfl, e1⟩ := e
      cases A' with
      | nil =>
        simp only [List.nil_append, List.cons.injEq] at e'
        obtain ⟨rfl, e2⟩ := e'
        exact absurd hn.symm (hp.1 p (by rw [e1]; simp))
      | cons c' A' =>
        simp only [List.cons_append, List.cons.injEq] at e'
        obtain ⟨rfl, e2⟩ := e'
        obtain ⟨q1, q2, q3⟩ := ih hp.2 e1 e2 hn
        exact ⟨by rw [q1], q2, q3⟩

omit [RoLim] in
theorem first_loud : ∀ {suf : List (Info × V)}, (∃ q ∈ suf, loud q.1.sort = true) → ∃ mid p B, suf = mid ++ p :: B ∧ (∀ q ∈ mid, loud q.1.sort = false) ∧ loud p.1.sort = true
  | [], h => by obtain ⟨q, hq, _⟩ := h; cases hq
  | a :: suf, h => by
    cases ha : loud a.1.sort with
    | true => exact ⟨[], a, suf, rfl, (fun q hq => by cases hq), ha⟩
    | false =>
      obtain ⟨q, hq, hl⟩ := h
      rcases List.mem_cons.1 hq with rfl | hq
      · rw [ha] at hl; cases hl
      · obtain ⟨mid, p, B, e, h1, h2⟩ := first_loud ⟨q, hq, hl⟩
        refine ⟨a :: mid, p, B, by rw [e]; rfl, fun r hr => ?_, h2⟩
        rcases List.mem_cons.1 hr with rfl | hr
        · exact ha
        · exact h1 r hr

/-- What was done ahead of its turn: what it is, where it lies, the world then, what it told. -/
structure PItem where
  p : Info × V
  B : Nat → Prop
  wE : World
  x : Value

structure PSt (P : Program) (n : Nat) (ops : Array Oper) (b : List Nat) (o : List Info) (ih : Task → Option Out) (rnd : Option Nat) (t0 t2 : Tr V) (d2 : List XDef) (h2 : Heap) (K : Nat → Prop) (w0 : World)
    (listed vis : Array Bool) (PL : List PItem) (pre suf : List (Info × V)) (d : List XDef) (h : Heap) (μ : Mu) (KK : Nat → Prop) (W w : World) (a : Act) : Prop where
  inv : Inv P n ops b o ih rnd t0 t2 d2 h2 vis pre suf d h
  size : listed.size = ops.size
  eq : ∀ j, has listed j = true ↔ (has vis j = true ∨ ∃ it ∈ PL, it.p.1.n = j)
  closed : ∀ j, has listed j = true → ∀ i, aheadOf b i j = true → has listed i = true
  pend : ∀ it ∈ PL, it.p ∈ suf ∧ it.p.1.sort = .makes ∧ has vis it.p.1.n = false ∧ (∀ r, aheadOf b it.p.1.n r = true → has listed r = false) ∧ (∀ dd, it.p.1.dst = some dd → a.tmps.getD dd undef = it.x) ∧
    (∀ c, it.B c → KK c ∧ ¬ K c ∧ W.heap[c]? = it.wE.heap[c]?) ∧ (∀ A B, pre ++ suf = A ++ it.p :: B → Later P ih rnd it.p.1 it.p.2 it.B μ it.wE it.x (appl t0 A))
  apart : PL.Pairwise (fun x y => x.p.1.n ≠ y.p.1.n ∧ ∀ c, x.B c → ¬ y.B c)
  slots : ∀ y, (∀ it ∈ PL, it.p.1.dst ≠ some y) → VR μ (slotOf (appl t0 (doneL vis (pre ++ suf))) y) (a.tmps.getD y undef)
  rel : Rel P KK W μ h w
  base : ∀ c, K c → KK c ∧ c < w0.heap.size ∧ W.heap[c]? = w0.heap[c]?
  os : W.os = w0.os
  tape : W.tape = w0.tape
  output : W.output = w0.output
  wsize : w0.heap.size ≤ W.heap.size
  low : RoLim.lim ≤ w0.heap.size
  defs : DRs μ d a.defers

def Flushed (listed : Array Bool) (suf : List (Info × V)) : Prop := ∀ mid p B, suf = mid ++ p :: B → (∀ q ∈ mid, loud q.1.sort = false) → loud p.1.sort = true → has listed p.1.n = false

omit [RoLim] in
theorem getD_put {a : Act} {dst : Option Nat} {x : Value} {y : Nat} (h : dst ≠ some y) : (a.put dst x).tmps.getD y undef = a.tmps.getD y undef := by
  cases dst with
  | none => rfl
  | some i =>
    have : i ≠ y := fun e => h (by rw [e])
    show (a.tmps.setIfInBounds i x).getD y undef = _
    simp only [Array.getD_eq_getD_getElem?, Array.getElem?_setIfInBounds_ne this]

omit [RoLim] in
theorem getD_put_same {a : Act} {x : Value} {y : Nat} (h : y < a.tmps.size) : (a.put (some y) x).tmps.getD y undef = x := by
  show (a.tmps.setIfInBounds y x).getD y undef = x
  simp [h]

section
variable {K : Nat → Prop} {w0 : World} {listed vis : Array Bool} {PL : List PItem} {pre suf : List (Info × V)} {d : List XDef} {h : Heap} {μ : Mu} {KK : Nat → Prop} {W w : World} {a : Act}

theorem PSt.dist (G : Reg P n ops b o) (S : PSt P n ops b o ih rnd t0 t2 d2 h2 K w0 listed vis PL pre suf d h μ KK W w a) : (pre ++ suf).Pairwise fun x y => x.1.n ≠ y.1.n := by
  have := G.pw.imp fun h => h.2.2
  rw [← S.inv.whole, List.pairwise_map] at this
  exact this

theorem PSt.same (G : Reg P n ops b o) (S : PSt P n ops b o ih rnd t0 t2 d2 h2 K w0 listed vis PL pre suf d h μ KK W w a) {p q : Info × V} (hp : p ∈ pre ++ suf) (hq : q ∈ pre ++ suf) (e : p.1.n = q.1.n) : p = q := by
  obtain ⟨A, B, e1⟩ := List.append_of_mem hp
  obtain ⟨A', B', e2⟩ := List.append_of_mem hq
  exact (split_uniq (S.dist G) e1 e2 e).2.1

/-- What stands behind something that was done ahead of its turn waits for something that is not done. -/
theorem PSt.waits (G : Reg P n ops b o) (S : PSt P n ops b o ih rnd t0 t2 d2 h2 K w0 listed vis PL pre suf d h μ KK W w a) (F : Flushed listed suf) {it : PItem} (hit : it ∈ PL) :
    ∃ f, has listed f = false ∧ ∀ r ∈ o, aheadOf b it.p.1.n r.n = true → aheadOf b f r.n = true := by
  obtain ⟨p1, p2, p3, p4, _⟩ := S.pend it hit
  have hlo : loud it.p.1.sort = true := by rw [p2]; rfl
  obtain ⟨m1, f, m2, e, hm1, hf⟩ := first_loud ⟨it.p, p1, hlo⟩
  have hfn := F m1 f m2 e hm1 hf
  have hitl : has listed it.p.1.n = true := (S.eq _).2 (.inr ⟨it, hit, rfl⟩)
  have hin : it.p ∈ m2 := by
    rw [e] at p1
    rcases List.mem_append.1 p1 with q | q
    · rw [hm1 _ q] at hlo; cases hlo
    · rcases List.mem_cons.1 q with q | q
      · rw [q, hfn] at hitl; cases hitl
      · exact q
  have hpw := G.pw
  rw [← S.inv.whole, e] at hpw
  simp only [List.map_append, List.map_cons] at hpw
  have hpair := (List.pairwise_cons.1 (List.pairwise_append.1 (List.pairwise_append.1 hpw).2.1).2.1).1 it.p.1 (List.mem_map.2 ⟨it.p, hin, rfl⟩)
  obtain ⟨q1, q2, q3⟩ := hpair
  have hnf : aheadOf b f.1.n it.p.1.n = false := by
    cases hh : aheadOf b f.1.n it.p.1.n with
    | false => rfl
    | true => rw [S.closed _ hitl _ hh] at hfn; cases hfn
  have hun : unordered b f.1 it.p.1 = true := by unfold unordered; rw [hnf, q2, nat_beq_false q3]; rfl
  unfold pairOk at q1
  rw [hun, hf, p2] at q1
  simp only [Bool.not_true, Bool.or_self, Bool.false_or, Bool.and_eq_true] at q1
  refine ⟨f.1.n, hfn, fun r hr har => ?_⟩
  have := List.all_eq_true.1 q1.2 r (by rw [← S.inv.whole, e] at hr; simpa using hr)
  rw [har] at this
  simpa using this

theorem flush (G : Reg P n ops b o) : ∀ (m : Nat) {vis : Array Bool} {PL : List PItem} {pre suf : List (Info × V)} {d : List XDef} {h : Heap} {μ : Mu} {KK : Nat → Prop}, PL.length = m → PSt P n ops b o ih rnd t0 t2 d2 h2 K w0 listed vis PL pre suf d h μ KK W w a →
    ∃ vis' PL' pre' suf' d' h' μ' KK', PSt P n ops b o ih rnd t0 t2 d2 h2 K w0 listed vis' PL' pre' suf' d' h' μ' KK' W w a ∧ Flushed listed suf' ∧ μ.le μ' := by
  intro m
  induction m with
  | zero =>
    intro vis PL pre suf d h μ KK hm S
    have hPL := List.eq_nil_of_length_eq_zero hm
    refine ⟨vis, PL, pre, suf, d, h, μ, KK, S, fun mid p B e hmid hl => ?_, Mu.le_refl μ⟩
    cases hh : has listed p.1.n with
    | false => rfl
    | true =>
      rcases (S.eq _).1 hh with q | ⟨it, hit, _⟩
      · rw [S.inv.will p (by rw [e]; simp) hl] at q; cases q
      · rw [hPL] at hit; cases hit
  | succ m ihm =>
    intro vis PL pre suf d h μ KK hm S
    by_cases F : Flushed listed suf
    · exact ⟨vis, PL, pre, suf, d, h, μ, KK, S, F, Mu.le_refl μ⟩
    · have : ∃ mid p B, suf = mid ++ p :: B ∧ (∀ q ∈ mid, loud q.1.sort = false) ∧ loud p.1.sort = true ∧ has listed p.1.n = true := by
        apply Classical.byContradiction
        intro hno
        refine F fun mid p B e hmid hl => ?_
        cases hh : has listed p.1.n with
        | false => rfl
        | true => exact absurd ⟨mid, p, B, e, hmid, hl, hh⟩ hno
      obtain ⟨mid, p, B, e, hmid, hl, hh⟩ := this
      have hps : p ∈ suf := by rw [e]; simp
      have hvis : has vis p.1.n = false := S.inv.will p hps hl
      have hT : pre ++ suf = (pre ++ mid) ++ p :: B := by rw [e]; simp
      have hit : ∃ it ∈ PL, it.p = p := by
        rcases (S.eq _).1 hh with q | ⟨it, hit, q⟩
        · rw [hvis] at q; cases q
        · exact ⟨it, hit, S.same G (List.mem_append_right _ (S.pend it hit).1) (List.mem_append_right _ hps) q⟩
      obtain ⟨it, hit, rfl⟩ := hit
      obtain ⟨L1, L2, hL⟩ := List.append_of_mem hit
      obtain ⟨p1, p2, p3, p4, p5, p6, p7⟩ := S.pend it hit
      have hready : ∀ i, aheadOf b i it.p.1.n = true → has vis i = true := by
        intro i hi
        rcases (S.eq _).1 (S.closed _ hh i hi) with q | ⟨it', hit', q⟩
        · exact q
        · have := (S.pend it' hit').2.2.2.1 it.p.1.n (by rw [q]; exact hi)
          rw [hh] at this
          cases this
      have hop := G.of it.p.1 (by rw [← S.inv.whole]; exact List.mem_map.2 ⟨it.p, List.mem_append_right _ hps, rfl⟩)
      obtain ⟨op, hop⟩ := hop
      have hlt : it.p.1.n < vis.size := by rw [S.inv.size]; exact (Array.getElem?_eq_some_iff.1 hop.at_).1
      obtain ⟨d1, h1, hrun, V1⟩ := S.inv.acts G e hmid hl hready hlt
      obtain ⟨μ3, r1, rfl, r3, r4⟩ := p7 (pre ++ mid) B hT (appl t0 (pre ++ mid)) d h d1 h1 (fun _ _ => rfl) hrun KK W μ w (Mu.le_refl μ) (fun c hc => ⟨(p6 c hc).1, (p6 c hc).2.2⟩) S.rel
      have hT2 : pre ++ mid ++ [it.p] ++ B = pre ++ suf := by rw [hT]; simp
      have hap := S.apart
      rw [hL, List.pairwise_append] at hap
      obtain ⟨ha1, ha2, ha3⟩ := hap
      rw [List.pairwise_cons] at ha2
      have hoth : ∀ it' ∈ L1 ++ L2, it' ∈ PL ∧ it'.p.1.n ≠ it.p.1.n ∧ (∀ c, it'.B c → ¬ it.B c) := by
        intro it' h'
        rcases List.mem_append.1 h' with q | q
        · have := ha3 it' q it (List.mem_cons_self ..)
          exact ⟨by rw [hL]; exact List.mem_append_left _ q, this.1, this.2⟩
        · have := ha2.1 it' q
          exact ⟨by rw [hL]; exact List.mem_append_right _ (List.mem_cons_of_mem _ q), Ne.symm this.1, fun c h1 h2 => this.2 c h2 h1⟩
      have S' : PSt P n ops b o ih rnd t0 t2 d2 h2 K w0 listed (vis.setIfInBounds it.p.1.n true) (L1 ++ L2) (pre ++ mid ++ [it.p]) B d1 h1 μ3 (fun c => KK c ∧ ¬ it.B c) W w a := by
        refine ⟨V1, S.size, fun j => ?_, S.closed, fun it' h' => ?_, ?_, fun y hy => ?_, r3, fun c hc => ?_, S.os, S.tape, S.output, S.wsize, S.low, S.defs.mono r1⟩
        · rw [S.eq, has_set hlt, hL]
          simp only [Bool.or_eq_true, decide_eq_true_eq, List.mem_append, List.mem_cons]
          constructor
          · rintro (q | ⟨it', (q | rfl | q), q2⟩)
            · exact .inl (.inr q)
            · exact .inr ⟨it', .inl q, q2⟩
            · exact .inl (.inl q2.symm)
            · exact .inr ⟨it', .inr q, q2⟩
          · rintro ((q | q) | ⟨it', q, q2⟩)
            · exact .inr ⟨it, .inr (.inl rfl), q.symm⟩
            · exact .inl q
            · exact .inr ⟨it', q.imp id .inr, q2⟩
        · obtain ⟨m1, m2, m3⟩ := hoth it' h'
          obtain ⟨s1, s2, s3, s4, s5, s6, s7⟩ := S.pend it' m1
          refine ⟨?_, s2, by rw [has_set hlt, s3]; simp [m2], s4, s5, fun c hc => ⟨⟨(s6 c hc).1, m3 c hc⟩, (s6 c hc).2⟩, fun A B' hA => (s7 A B' (by rw [← hT2]; exact hA)).mono r1⟩
          rw [e] at s1
          rcases List.mem_append.1 s1 with q | q
          · have := hmid _ q; rw [s2] at this; cases this
          · rcases List.mem_cons.1 q with q | q
            · rw [q] at m2; exact absurd rfl m2
            · exact q
        · rw [List.pairwise_append]
          exact ⟨ha1, ha2.2, fun x hx y hy => ha3 x hx y (List.mem_cons_of_mem _ hy)⟩
        · rw [hT2, slots_done G S.inv.whole S.inv.closed hT hvis hlt y, slot_putOpt]
          by_cases ey : it.p.1.dst = some y
          · rw [if_pos ey, p5 y ey]
            exact r4
          · rw [if_neg ey]
            refine (S.slots y fun it' h' => ?_).mono r1
            rw [hL] at h'
            rcases List.mem_append.1 h' with q | q
            · exact hy it' (List.mem_append_left _ q)
            · rcases List.mem_cons.1 q with rfl | q
              · exact ey
              · exact hy it' (List.mem_append_right _ q)
        · obtain ⟨q1, q2⟩ := S.base c hc
          exact ⟨⟨q1, fun hb => (p6 c hb).2.1 hc⟩, q2⟩
      obtain ⟨vis', PL', pre', suf', d', h', μ', KK', q1, q2, q3⟩ := ihm (by rw [hL] at hm; simp at hm ⊢; omega) S'
      exact ⟨vis', PL', pre', suf', d', h', μ', KK', q1, q2, Mu.le_trans r1 q3⟩

end

theorem pend_go (G : Reg P n ops b o) (HS : StepsOk P ih) {K : Nat → Prop} {w0 : World} {b' : Frame} {k : List Item} {cs : List Frame} : ∀ (fuel tt : Nat) (listed vis : Array Bool) (PL : List PItem) (pre suf : List (Info × V)) (d : List XDef) (h : Heap) (μ : Mu) (KK : Nat → Prop) (W w : World) (a : Act),
    PSt P n ops b o ih rnd t0 t2 d2 h2 K w0 listed vis PL pre suf d h μ KK W w a → Flushed listed suf → (o.filter fun J => !has listed J.n).length = fuel → n ≤ a.tmps.size → RndR μ rnd b'.roundOf →
    ∃ μ' a' w', Env P K w0 μ μ' t2 d2 h2 a.tmps.size a' w' ∧ Steps P (lone (fat b' a (.inRegion ops (Region.linearise.go .any ops fuel tt listed []) :: k)) cs w) (lone (fat b' a' k) cs w') := by
  intro fuel
  induction fuel with
  | zero =>
    intro tt listed vis PL pre suf d h μ KK W w a S F hf hn hr
    have hall : ∀ I ∈ o, has listed I.n = true := by
      intro I hI
      cases hh : has listed I.n with
      | true => rfl
      | false =>
        have : I ∈ o.filter fun J => !has listed J.n := List.mem_filter.2 ⟨hI, by rw [hh]; rfl⟩
        rw [List.eq_nil_of_length_eq_zero hf] at this
        cases this
    have inO : ∀ q ∈ pre ++ suf, q.1 ∈ o := fun q hq => by rw [← S.inv.whole]; exact List.mem_map.2 ⟨q, hq, rfl⟩
    have hq : ∀ q ∈ suf, loud q.1.sort = false := by
      intro q hq
      cases hl : loud q.1.sort with
      | false => rfl
      | true =>
        obtain ⟨mid, p, B, e, h1, h2⟩ := first_loud ⟨q, hq, hl⟩
        have := F mid p B e h1 h2
        rw [hall p.1 (inO p (by rw [e]; simp))] at this
        cases this
    have hPL : ∀ it, it ∉ PL := by
      intro it hit
      obtain ⟨p1, p2, _⟩ := S.pend it hit
      have := hq _ p1
      rw [p2] at this
      cases this
    have hvis : ∀ I ∈ o, has vis I.n = true := fun I hI => by
      rcases (S.eq _).1 (hall I hI) with q | ⟨it, hit, _⟩
      · exact q
      · exact absurd hit (hPL it)
    have hdone : doneL vis (pre ++ suf) = pre ++ suf := by
      unfold doneL
      rw [List.filter_eq_self]
      exact fun q hq => hvis q.1 (inO q hq)
    have hq' : ∀ q ∈ suf, loud q.1.step.op.sort = false := by
      intro q hq1
      obtain ⟨op, hop⟩ := G.of q.1 (inO q (List.mem_append_right _ hq1))
      rw [← hop.sort]
      exact hq q hq1
    obtain ⟨e1, e2, _⟩ := tra_quiet S.inv.tra hq'
    have e3 := tra_appl S.inv.tra
    have hs := fun y => S.slots y fun it hit => absurd hit (hPL it)
    simp only [hdone, appl_append] at hs
    have R : Rel P K w0 μ h w := ⟨S.rel.dom, S.rel.gens, S.rel.obj, S.rel.iters, S.rel.apart, fun o g l hl hm => (S.rel.own o g l hl hm).imp id fun hk hb => hk (S.base _ hb).1,
      fun c hc => ⟨(S.base c hc).2.1, (S.rel.kept c (S.base c hc).1).2.trans (S.base c hc).2.2⟩, S.rel.os.trans S.os, S.rel.tape.trans S.tape, S.rel.output.trans S.output, Nat.le_trans S.wsize S.rel.size, S.low⟩
    have hdef := S.defs
    subst e1; subst e2; subst e3
    exact ⟨μ, a, w, ⟨Mu.le_refl μ, R, hs, hdef, rfl⟩, by simp only [Region.linearise.go, List.reverse_nil]; exact .one fat_region_end⟩
  | succ fuel ihf =>
    intro tt listed vis PL pre suf d h μ KK W w a S F hf hn hr
    have inO : ∀ q ∈ pre ++ suf, q.1 ∈ o := fun q hq => by rw [← S.inv.whole]; exact List.mem_map.2 ⟨q, hq, rfl⟩
    have hne : Region.ready .any ops listed ≠ [] := by
      refine some_ready G S.size [] o rfl (fun I hI => by cases hI) ?_
      cases hx : (o.filter fun J => !has listed J.n) with
      | nil => rw [hx] at hf; simp at hf
      | cons I r =>
        have : I ∈ o.filter fun J => !has listed J.n := by rw [hx]; exact List.mem_cons_self ..
        obtain ⟨m1, m2⟩ := List.mem_filter.1 this
        exact ⟨I, m1, by simpa using m2⟩
    have hgo : ∃ i, i ∈ Region.ready .any ops listed ∧ ∃ tt', Region.linearise.go .any ops (fuel + 1) tt listed [] = i :: Region.linearise.go .any ops fuel tt' (listed.setIfInBounds i true) [] := by
      simp only [Region.linearise.go]
      change ∃ i, i ∈ Region.ready .any ops listed ∧ ∃ tt', (match (Region.ready .any ops listed)[tt % (Region.ready .any ops listed).length]? with
        | some i => Region.linearise.go .any ops fuel (tt / (Region.ready .any ops listed).length) (listed.setIfInBounds i true) [i]
        | none => [].reverse) = i :: Region.linearise.go .any ops fuel tt' (listed.setIfInBounds i true) []
      cases hi : (Region.ready .any ops listed)[tt % (Region.ready .any ops listed).length]? with
      | none =>
        exfalso
        have hlt : tt % (Region.ready .any ops listed).length < (Region.ready .any ops listed).length := Nat.mod_lt _ (List.length_pos_iff.2 hne)
        rw [List.getElem?_eq_none_iff] at hi
        omega
      | some i =>
        refine ⟨i, List.mem_of_getElem? hi, tt / (Region.ready .any ops listed).length, ?_⟩
        simp only
        rw [linearise_go_acc, List.reverse_singleton, List.singleton_append]
    obtain ⟨i, hi, tt', hgo⟩ := hgo
    rw [hgo]
    obtain ⟨hlt, hno, hready⟩ := ready_facts G S.size S.closed hi
    obtain ⟨I, hIo, hIn⟩ := G.all i hlt
    have hp : ∃ p ∈ pre ++ suf, p.1 = I := by rw [← S.inv.whole] at hIo; obtain ⟨p, h1, h2⟩ := List.mem_map.1 hIo; exact ⟨p, h1, h2⟩
    obtain ⟨p, hpm, rfl⟩ := hp
    subst hIn
    have hlt' : p.1.n < vis.size := by rw [S.inv.size]; exact hlt
    have hltL : p.1.n < listed.size := by rw [S.size]; exact hlt
    obtain ⟨op, hop⟩ := G.of p.1 hIo
    obtain ⟨c1, c2, c3, c4⟩ := compStep_some hop.comp
    have hcount := drop_length' G hIo hno hltL
    have hnov : has vis p.1.n = false := by
      cases hh : has vis p.1.n with
      | false => rfl
      | true => rw [(S.eq _).2 (.inl hh)] at hno; cases hno
    -- nothing that it waits for was done ahead of its turn
    have hnp : ∀ it ∈ PL, aheadOf b it.p.1.n p.1.n = false := by
      intro it hit
      cases hh : aheadOf b it.p.1.n p.1.n with
      | false => rfl
      | true =>
        obtain ⟨f, hf1, hf2⟩ := S.waits G F hit
        have := hready f (hf2 p.1 hIo hh)
        rw [hf1] at this
        cases this
    have hvis : ∀ i, aheadOf b i p.1.n = true → has vis i = true := by
      intro i hi
      rcases (S.eq _).1 (hready i hi) with q | ⟨it, hit, q⟩
      · exact q
      · have := hnp it hit
        rw [q, hi] at this
        cases this
    have hitn : ∀ it ∈ PL, it.p.1.n ≠ p.1.n := fun it hit e => by
      have : has listed it.p.1.n = true := (S.eq _).2 (.inr ⟨it, hit, rfl⟩)
      rw [e, hno] at this
      cases this
    have hslot : ∀ it ∈ PL, ∀ y, it.p.1.dst = some y → (y ∈ p.1.names ∨ p.1.dst = some y) → False := by
      intro it hit y hy hx
      have hitl : has listed it.p.1.n = true := (S.eq _).2 (.inr ⟨it, hit, rfl⟩)
      rcases G.slots it.p.1 (inO _ (List.mem_append_right _ (S.pend it hit).1)) p.1 hIo y hy hx with e | e | e
      · exact hitn it hit e
      · rw [hnp it hit] at e; cases e
      · rw [S.closed _ hitl _ e] at hno; cases hno
    have hdo : p.1.dst = op.dst := hop.dst
    have closed' : ∀ j, has (listed.setIfInBounds p.1.n true) j = true → ∀ i, aheadOf b i j = true → has (listed.setIfInBounds p.1.n true) i = true := by
      intro j hj i hij
      rw [has_set hltL] at hj ⊢
      by_cases e : j = p.1.n
      · subst e; simp [hready i hij]
      · simp [e] at hj; simp [S.closed j hj i hij]
    have names' : ∀ (A B : List (Info × V)) (ts : Tr V), pre ++ suf = A ++ p :: B → (∀ x ∈ p.1.names, slotOf ts x = slotOf (appl t0 A) x) → ∀ x ∈ names ops op, VR μ (slotOf ts x) (a.tmps.getD x undef) := by
      intro A B ts hT hag x hx
      rw [← hop.names] at hx
      obtain ⟨e1, e2⟩ := slots_agree (t0 := t0) G S.inv.whole S.inv.closed hT hnov hvis (.inl hx)
      have := S.slots x fun it hit hd => hslot it hit x hd (.inl hx)
      rw [slot_appl, e1, e2, ← hag x hx] at this
      exact this
    -- a step that X sees, and what is behind it
    have fin : ∀ (A B : List (Info × V)) (ts : Tr V) (d1 : List XDef) (h1 : Heap) (pre' suf' : List (Info × V)), pre ++ suf = A ++ p :: B → (∀ x ∈ p.1.names, slotOf ts x = slotOf (appl t0 A) x) →
        StepWP P p.1.step rnd ts d h (fun v' d' h' => v' = p.2 ∧ d' = d1 ∧ h' = h1) → pre' ++ suf' = pre ++ suf → (∀ q ∈ suf, loud q.1.sort = true → q.1.n ≠ p.1.n → q ∈ suf') → Inv P n ops b o ih rnd t0 t2 d2 h2 (vis.setIfInBounds p.1.n true) pre' suf' d1 h1 →
        ∃ μ' a' w', Env P K w0 μ μ' t2 d2 h2 a.tmps.size a' w' ∧
          Steps P (lone (fat b' a (.inRegion ops (p.1.n :: Region.linearise.go .any ops fuel tt' (listed.setIfInBounds p.1.n true) []) :: k)) cs w) (lone (fat b' a' k) cs w') := by
      intro A B ts d1 h1 pre' suf' hT hag hstep hps hsuf V1
      obtain ⟨v, d', h', μ1, ds, x, w1, ⟨rfl, rfl, rfl⟩, r1, r2, r3⟩ := hstep KK W μ w b' a k cs ops p.1.n (Region.linearise.go .any ops fuel tt' (listed.setIfInBounds p.1.n true) []) op n hop.comp hop.at_ hr S.rel (names' A B ts hT hag) S.defs
      have S1 : PSt P n ops b o ih rnd t0 t2 d2 h2 K w0 (listed.setIfInBounds p.1.n true) (vis.setIfInBounds p.1.n true) PL pre' suf' d' h' μ1 KK W w1 (({ a with defers := ds } : Act).put op.dst x) := by
        refine ⟨V1, by simp [S.size], fun j => ?_, closed', fun it hit => ?_, S.apart, fun y hy => ?_, r1.rel, S.base, S.os, S.tape, S.output, S.wsize, S.low, by rw [put_defers']; exact r2⟩
        · rw [has_set hltL, has_set hlt', Bool.or_eq_true, Bool.or_eq_true, S.eq, or_assoc]
        · obtain ⟨s1, s2, s3, s4, s5, s6, s7⟩ := S.pend it hit
          refine ⟨hsuf _ s1 (by rw [s2]; rfl) (hitn it hit), s2, by rw [has_set hlt', s3]; simp [hitn it hit], fun r har => ?_, fun dd hdd => ?_, s6, fun A' B' hA => (s7 A' B' (by rw [← hps]; exact hA)).mono r1.le⟩
          · rw [has_set hltL, s4 r har]
            have : r ≠ p.1.n := fun e => by rw [e, hnp it hit] at har; cases har
            simp [this]
          · rw [getD_put (fun e => hslot it hit dd hdd (.inr (by rw [hdo]; exact e)))]
            exact s5 dd hdd
        · rw [hps, slots_done G S.inv.whole S.inv.closed hT hnov hlt' y, slot_putOpt]
          by_cases ey : p.1.dst = some y
          · rw [if_pos ey]
            have ey' : op.dst = some y := by rw [← hdo]; exact ey
            rw [ey', getD_put_same (a := { a with defers := ds }) (Nat.lt_of_lt_of_le (c4 y ey') hn)]
            exact r1.val
          · rw [if_neg ey, getD_put (by rw [← hdo]; exact ey)]
            exact (S.slots y hy).mono r1.le
      obtain ⟨vis', PL', pre2, suf2, d3, h3, μ3, KK', S2, F2, m2⟩ := flush G _ rfl S1
      obtain ⟨μ2, a2, w2, s1, s2⟩ := ihf tt' _ vis' PL' pre2 suf2 d3 h3 μ3 KK' W w1 _ S2 F2 (by omega) (by rw [put_size]; exact hn) ((hr.mono r1.le).mono m2)
      exact ⟨μ2, a2, w2, ⟨Mu.le_trans r1.le (Mu.le_trans m2 s1.le), s1.rel, s1.sr, s1.dr, by rw [s1.size, put_size]⟩, Steps.trans r3 s2⟩
    cases hl : loud p.1.sort with
    | false =>
      obtain ⟨A, B, ts, e1, e2, e3⟩ := S.inv.looks G hpm hl hnov hvis
      exact fin A B ts d h pre suf e1 e2 (look_step e3) rfl (fun q hq _ _ => hq) (S.inv.looked G hl hlt' hIo hvis)
    | true =>
      have hps : p ∈ suf := by
        rcases List.mem_append.1 hpm with hp | hp
        · rw [S.inv.did p hp hl] at hnov; cases hnov
        · exact hp
      obtain ⟨mid, B, e⟩ := List.append_of_mem hps
      have hT : pre ++ suf = (pre ++ mid) ++ p :: B := by rw [e]; simp
      by_cases hmid : ∀ q ∈ mid, loud q.1.sort = false
      · obtain ⟨d1, h1, e2, e3⟩ := S.inv.acts G e hmid hl hvis hlt'
        refine fin (pre ++ mid) B (appl t0 (pre ++ mid)) d1 h1 (pre ++ mid ++ [p]) B hT (fun _ _ => rfl) (HS _ _ _ _ _ _ _ _ e2) (by rw [hT]; simp) (fun q hq hlq hnq => ?_) e3
        rw [e] at hq
        rcases List.mem_append.1 hq with q1 | q1
        · rw [hmid q q1] at hlq; cases hlq
        · rcases List.mem_cons.1 q1 with rfl | q1
          · exact absurd rfl hnq
          · exact q1
      · -- ahead of its turn
        have hex : ∃ q ∈ mid, loud q.1.sort = true := by
          apply Classical.byContradiction
          intro hno'
          refine hmid fun q hq => ?_
          cases hh : loud q.1.sort with
          | false => rfl
          | true => exact absurd ⟨q, hq, hh⟩ hno'
        obtain ⟨m1, f, m2, em, hm1, hfl⟩ := first_loud hex
        have hfn : has listed f.1.n = false := F m1 f (m2 ++ p :: B) (by rw [e, em]; simp) hm1 hfl
        have hpair : pairOk b o f.1 p.1 = true ∧ aheadOf b p.1.n f.1.n = false ∧ f.1.n ≠ p.1.n := by
          obtain ⟨R, hR⟩ : ∃ R : Info → Info → Prop, R = fun i j => pairOk b o i j = true ∧ aheadOf b j.n i.n = false ∧ i.n ≠ j.n := ⟨_, rfl⟩
          have hpw : o.Pairwise R := by rw [hR]; exact G.pw
          rw [← S.inv.whole, hT, em, List.map_append, List.pairwise_append] at hpw
          have := hpw.2.2 f.1 (by simp) p.1 (by simp)
          rw [hR] at this
          exact this
        obtain ⟨q1, q2, q3⟩ := hpair
        have hnf : aheadOf b f.1.n p.1.n = false := by
          cases hh : aheadOf b f.1.n p.1.n with
          | false => rfl
          | true => rw [hready _ hh] at hfn; cases hfn
        have hun : unordered b f.1 p.1 = true := by unfold unordered; rw [hnf, q2, nat_beq_false q3]; rfl
        unfold pairOk at q1
        rw [hun, hfl] at q1
        simp only [Bool.not_true, Bool.or_self, Bool.false_or] at q1
        have hsm : p.1.sort = .makes ∧ okMake p.1 = true := by
          cases hs : p.1.sort <;> rw [hs] at q1 hl <;> first | (cases hl; done) | (simp at q1; done) | skip
          simp only [Bool.and_eq_true] at q1
          exact ⟨rfl, q1.1⟩
        obtain ⟨hsort, hmk⟩ := hsm
        -- X's step, when its turn comes
        have htra := S.inv.tra
        rw [e] at htra
        obtain ⟨dm, hm, _, hcons⟩ := tra_append htra
        rw [← appl_append] at hcons
        have hrun : ∃ d1 h1, runStep ih p.1.step rnd (appl t0 (pre ++ mid)) dm hm = some (p.2, d1, h1) := by
          cases hcons with
          | cons hs _ _ => exact ⟨_, _, hs⟩
        obtain ⟨d1, h1, hrun⟩ := hrun
        obtain ⟨Bk, wE, x, ds, r1, r2, r3, r4, r5, r6⟩ := early hop hmk hrun S.rel (b' := b') (a := a) (k := k) (cs := cs) (rest := Region.linearise.go .any ops fuel tt' (listed.setIfInBounds p.1.n true) []) hr (names' (pre ++ mid) B _ hT (fun _ _ => rfl)) S.defs
        have hKw : ∀ c, KK c → c < w.heap.size := fun c hc => Nat.lt_of_lt_of_le (S.rel.kept c hc).1 S.rel.size
        have S1 : PSt P n ops b o ih rnd t0 t2 d2 h2 K w0 (listed.setIfInBounds p.1.n true) vis (⟨p, Bk, wE, x⟩ :: PL) pre suf d h μ (fun c => KK c ∨ Bk c) wE wE (({ a with defers := ds } : Act).put op.dst x) := by
          refine ⟨S.inv, by simp [S.size], fun j => ?_, closed', fun it hit => ?_, ?_, fun y hy => ?_, r5, fun c hc => ?_, r4.os.trans (S.rel.os.trans S.os), r4.tape.trans (S.rel.tape.trans S.tape), r4.output.trans (S.rel.output.trans S.output), Nat.le_trans S.wsize (Nat.le_trans S.rel.size r4.size), S.low, by rw [put_defers']; exact r2⟩
          · rw [has_set hltL, Bool.or_eq_true, S.eq]
            simp only [decide_eq_true_eq, List.mem_cons]
            constructor
            · rintro (q | q | ⟨it, q, q'⟩)
              · exact .inr ⟨_, .inl rfl, q.symm⟩
              · exact .inl q
              · exact .inr ⟨it, .inr q, q'⟩
            · rintro (q | ⟨it, (rfl | q), q'⟩)
              · exact .inr (.inl q)
              · exact .inl q'.symm
              · exact .inr (.inr ⟨it, q, q'⟩)
          · rcases List.mem_cons.1 hit with rfl | hit
            · refine ⟨hps, hsort, hnov, fun r har => ?_, fun dd hdd => ?_, fun c hc => ⟨.inr hc, fun hk => ?_, rfl⟩, fun A' B' hA => ?_⟩
              · rw [has_set hltL]
                have hne' : r ≠ p.1.n := fun e2 => by
                  subst e2
                  have := hready _ har
                  rw [hno] at this
                  cases this
                cases hh : has listed r with
                | false => simp [hne']
                | true => rw [S.closed r hh _ har] at hno; cases hno
              · have ey' : op.dst = some dd := by rw [← hdo]; exact hdd
                show (Act.put _ op.dst x).tmps.getD dd undef = x
                rw [ey', getD_put_same (a := { a with defers := ds }) (Nat.lt_of_lt_of_le (c4 dd ey') hn)]
              · have := (r3 c hc).1
                have := hKw c (S.base c hk).1
                omega
              · have := (split_uniq (S.dist G) hA hT rfl).1
                subst this
                exact r6
            · obtain ⟨s1, s2, s3, s4, s5, s6, s7⟩ := S.pend it hit
              refine ⟨s1, s2, s3, fun r har => ?_, fun dd hdd => ?_, fun c hc => ⟨.inl (s6 c hc).1, (s6 c hc).2.1, ?_⟩, s7⟩
              · rw [has_set hltL, s4 r har]
                have : r ≠ p.1.n := fun e => by rw [e, hnp it hit] at har; cases har
                simp [this]
              · rw [getD_put (fun e => hslot it hit dd hdd (.inr (by rw [hdo]; exact e)))]
                exact s5 dd hdd
              · rw [r4.block c (hKw c (s6 c hc).1), (S.rel.kept c (s6 c hc).1).2]
                exact (s6 c hc).2.2
          · rw [List.pairwise_cons]
            refine ⟨fun it hit => ⟨Ne.symm (hitn it hit), fun c h1 h2 => ?_⟩, S.apart⟩
            have := (r3 c h1).1
            have := hKw c (((S.pend it hit).2.2.2.2.2.1 c h2).1)
            omega
          · have hpy : p.1.dst ≠ some y := hy _ (List.mem_cons_self ..)
            rw [getD_put (by rw [← hdo]; exact hpy)]
            exact S.slots y fun it hit => hy it (List.mem_cons_of_mem _ hit)
          · obtain ⟨q1, q2, q3⟩ := S.base c hc
            refine ⟨.inl q1, q2, ?_⟩
            rw [r4.block c (hKw c q1), (S.rel.kept c q1).2]
            exact q3
        have F1 : Flushed (listed.setIfInBounds p.1.n true) suf := by
          intro mid' p' B' e' hm' hl'
          have hp'n := F mid' p' B' e' hm' hl'
          rw [has_set hltL, hp'n]
          have : p'.1.n ≠ p.1.n := fun en => by
            have hd' : suf.Pairwise fun x y => x.1.n ≠ y.1.n := (List.pairwise_append.1 (S.dist G)).2.1
            have := (split_uniq hd' e' e en).1
            subst this
            exact hmid hm'
          simp [this]
        obtain ⟨μ2, a2, w2, s1, s2⟩ := ihf tt' _ vis _ pre suf d h μ _ wE wE _ S1 F1 (by omega) (by rw [put_size]; exact hn) hr
        exact ⟨μ2, a2, w2, ⟨s1.le, s1.rel, s1.sr, s1.dr, by rw [s1.size, put_size]⟩, Steps.trans r1 s2⟩

theorem drawn_go (G : Reg P n ops b o) (HS : StepsOk P ih) (fuel tt : Nat) (listed : Array Bool) (pre suf : List (Info × V)) (d : List XDef) (h : Heap) (V0 : Inv P n ops b o ih rnd t0 t2 d2 h2 listed pre suf d h)
    (hf : (o.filter fun J => !has listed J.n).length = fuel) (K : Nat → Prop) (w0 : World) (μ : Mu) (w : World) (b' : Frame) (a : Act) (k : List Item) (cs : List Frame) (hn : n ≤ a.tmps.size) (hr : RndR μ rnd b'.roundOf) (R : Rel P K w0 μ h w) (hs : SR μ (appl t0 (doneL listed (pre ++ suf))) a.tmps) (hd : DRs μ d a.defers) :
    ∃ μ' a' w', Env P K w0 μ μ' t2 d2 h2 a.tmps.size a' w' ∧ Steps P (lone (fat b' a (.inRegion ops (Region.linearise.go .any ops fuel tt listed []) :: k)) cs w) (lone (fat b' a' k) cs w') := by
  refine pend_go G HS fuel tt listed listed [] pre suf d h μ K w0 w a ⟨V0, V0.size, fun j => ⟨.inl, fun q => q.elim id fun ⟨it, hit, _⟩ => by cases hit⟩, V0.closed, (fun it hit => by cases hit), .nil, fun y _ => hs y, R, fun c hc => ⟨hc, (R.kept c hc).1, rfl⟩, rfl, rfl, rfl, Nat.le_refl _, R.low, hd⟩ ?_ hf hn hr
  intro mid p B e hm hl
  exact V0.will p (by rw [e]; simp) hl

end
end Go.Xr

/- A drawn region comes to what X comes to, in whatever order it goes: the induction. -/
import Derived.Test.YtecpenjafajfcaaYa
namespace Go.Xr
open Go.RowKit
section
variable {P : Program} {n : Nat} {ops : Array Oper} {b : List Nat} {o : List Info} {ih : Task → Option Out} {rnd : Option Nat} {t0 t2 : Tr V} {d2 : List XDef} {h2 : Heap}

theorem tra_quiet {done : List Info} {L : List (Info × V)} {t t2 : Tr V} {d d2 : List XDef} {h h2 : Heap} (hT : Tra ih rnd b done L t d h t2 d2 h2) (hq : ∀ q ∈ L, loud q.1.step.op.sort = false) : d2 = d ∧ h2 = h ∧
    ∀ A q B, L = A ++ q :: B → LookV q.1.step (appl t A) h q.2 := by
  induction hT with
  | nil => exact ⟨rfl, rfl, fun A q B e => by simp at e⟩
  | @cons done i v T t t2 d d1 d2 h h1 h2 hs hst hr ih1 =>
    obtain ⟨rfl, rfl, hl⟩ := quiet_step (hq (i, v) (List.mem_cons_self ..)) hs
    obtain ⟨q1, q2, q3⟩ := ih1 fun q hq' => hq q (List.mem_cons_of_mem _ hq')
    refine ⟨q1, q2, fun A q B e => ?_⟩
    cases A with
    | nil =>
      simp only [List.nil_append, List.cons.injEq] at e
      obtain ⟨rfl, rfl⟩ := e
      exact hl
    | cons p A =>
      simp only [List.cons_append, List.cons.injEq] at e
      obtain ⟨rfl, rfl⟩ := e
      exact q3 A q B rfl

theorem look_step {s : XStep} {t : Tr V} {d : List XDef} {h : Heap} {v : V} (hl : LookV s t h v) : StepWP P s rnd t d h fun v' d' h' => v' = v ∧ d' = d ∧ h' = h := by
  rcases hl with ⟨h1, h2⟩ | ⟨h1, h2⟩
  · exact step_skipped h1 ⟨h2.symm, rfl, rfl⟩
  · exact step_op h1 h2 ⟨rfl, rfl, rfl⟩

theorem drop_length' (G : Reg P n ops b o) {listed : Array Bool} {I : Info} (hI : I ∈ o) (hno : has listed I.n = false) (hlt : I.n < listed.size) :
    (o.filter fun J => !has (listed.setIfInBounds I.n true) J.n).length + 1 = (o.filter fun J => !has listed J.n).length := by
  have hp : (o.filter fun J => !has listed J.n).Pairwise (fun x y => x.n ≠ y.n) := (G.pw.imp fun h => h.2.2).filter _
  have hm : I ∈ o.filter fun J => !has listed J.n := List.mem_filter.2 ⟨hI, by rw [hno]; rfl⟩
  rw [← drop_length hp hm, List.filter_filter]
  congr 2
  refine List.filter_congr fun J hJ => ?_
  rw [has_set hlt]
  by_cases e : J.n = I.n
  · simp [e]
  · rw [nat_beq_false e]; simp [e]

theorem Inv.looked (G : Reg P n ops b o) {listed : Array Bool} {pre suf : List (Info × V)} {d : List XDef} {h : Heap} (V0 : Inv P n ops b o ih rnd t0 t2 d2 h2 listed pre suf d h) {p : Info × V} (hl : loud p.1.sort = false)
    (hlt : p.1.n < listed.size) (hp : p.1 ∈ o) (hready : ∀ i, aheadOf b i p.1.n = true → has listed i = true) : Inv P n ops b o ih rnd t0 t2 d2 h2 (listed.setIfInBounds p.1.n true) pre suf d h := by
  refine ⟨V0.whole, by simp [V0.size], V0.tra, fun q hq hlq => ?_, fun q hq hlq => ?_, fun j hj i hij => ?_, fun A q B e hno => ?_⟩
  · rw [has_set hlt, V0.did q hq hlq]; simp
  · rw [has_set hlt, V0.will q hq hlq]
    have hqo : q.1 ∈ o := by rw [← V0.whole]; exact List.mem_map.2 ⟨q, List.mem_append_right _ hq, rfl⟩
    have : q.1.n ≠ p.1.n := fun e => by rw [G.uniq hqo hp e, hl] at hlq; cases hlq
    simp [this]
  · rw [has_set hlt] at hj ⊢
    by_cases e : j = p.1.n
    · subst e; simp [hready i hij]
    · simp [e] at hj; simp [V0.closed j hj i hij]
  · rw [has_set hlt] at hno
    simp at hno
    exact V0.wit A q B e hno.2

/-- What looks, when its turn comes. -/
theorem Inv.looks (G : Reg P n ops b o) {listed : Array Bool} {pre suf : List (Info × V)} {d : List XDef} {h : Heap} (V0 : Inv P n ops b o ih rnd t0 t2 d2 h2 listed pre suf d h) {p : Info × V} (hp : p ∈ pre ++ suf) (hl : loud p.1.sort = false)
    (hno : has listed p.1.n = false) (hready : ∀ i, aheadOf b i p.1.n = true → has listed i = true) :
    ∃ A B ts, pre ++ suf = A ++ p :: B ∧ (∀ x ∈ p.1.names, slotOf ts x = slotOf (appl t0 A) x) ∧ LookV p.1.step ts h p.2 := by
  have sortOf : ∀ q ∈ pre ++ suf, q.1.sort = q.1.step.op.sort := fun q hq => by
    obtain ⟨op, hop⟩ := G.of q.1 (by rw [← V0.whole]; exact List.mem_map.2 ⟨q, hq, rfl⟩)
    exact hop.sort
  rcases List.mem_append.1 hp with hp | hp
  · obtain ⟨A, B, e⟩ := List.append_of_mem hp
    obtain ⟨ts, q1, q2⟩ := V0.wit A p B e hno
    exact ⟨A, B ++ suf, ts, by rw [e]; simp, q1, q2⟩
  · obtain ⟨mid, B, e⟩ := List.append_of_mem hp
    have htra := V0.tra
    rw [e] at htra
    obtain ⟨dm, hm, q1, q2⟩ := tra_append htra
    refine ⟨pre ++ mid, B, appl t0 (pre ++ mid), by rw [e]; simp, fun x _ => rfl, ?_⟩
    cases q2 with
    | @cons _ i v _ _ _ _ d1 _ _ h1 _ hs hst hr =>
      have hls : loud i.step.op.sort = false := by
        have := sortOf (i, v) (by rw [e]; simp)
        rw [← this]; exact hl
      obtain ⟨_, _, hlook⟩ := quiet_step hls hs
      rw [appl_append]
      cases hsort : i.sort with
      | acts => rw [hsort] at hl; cases hl
      | makes => rw [hsort] at hl; cases hl
      | quiet =>
        have hqs : i.step.op.sort = .quiet := by rw [← hsort]; exact (sortOf (i, v) (by rw [e]; simp)).symm
        rcases hlook with h1 | ⟨h1, h2⟩
        · exact .inl h1
        · exact .inr ⟨h1, quiet_any hqs h2 h⟩
      | reads =>
        have hmid : ∀ q ∈ mid, loud q.1.step.op.sort = false := by
          intro q hq
          rw [← sortOf q (by rw [e]; exact List.mem_append_right _ (List.mem_append_left _ hq))]
          cases hlq : loud q.1.sort with
          | false => rfl
          | true =>
            exfalso
            have hpw := G.pw
            rw [← V0.whole, e] at hpw
            simp only [List.map_append, List.map_cons] at hpw
            have := (List.pairwise_append.1 (List.pairwise_append.1 hpw).2.1).2.2 q.1 (List.mem_map.2 ⟨q, hq, rfl⟩) i (List.mem_cons_self ..)
            have hw := V0.will q (by rw [e]; exact List.mem_append_left _ hq) hlq
            obtain ⟨h1, h2, h3⟩ := this
            unfold pairOk at h1
            rw [hlq, hsort] at h1
            simp only [unordered, Bool.not_true, Bool.or_false, Bool.not_eq_true', Bool.and_eq_false_iff, Bool.not_eq_false'] at h1
            rcases h1 with (h1 | h1) | h1
            · rw [hready _ h1] at hw; cases hw
            · rw [h2] at h1; cases h1
            · exact h3 (Nat.eq_of_beq_eq_true h1)
        obtain ⟨_, r2, _⟩ := tra_quiet q1 hmid
        rw [r2] at hlook
        exact hlook

/-- What acts, when its turn comes. -/
theorem Inv.acts (G : Reg P n ops b o) {listed : Array Bool} {pre suf : List (Info × V)} {d : List XDef} {h : Heap} (V0 : Inv P n ops b o ih rnd t0 t2 d2 h2 listed pre suf d h) {p : Info × V} (hp : p ∈ pre ++ suf) (hl : loud p.1.sort = true)
    (hno : has listed p.1.n = false) (hready : ∀ i, aheadOf b i p.1.n = true → has listed i = true) (hlt : p.1.n < listed.size) :
    ∃ mid B d1 h1, suf = mid ++ p :: B ∧ runStep ih p.1.step rnd (appl t0 (pre ++ mid)) d h = some (p.2, d1, h1) ∧ Inv P n ops b o ih rnd t0 t2 d2 h2 (listed.setIfInBounds p.1.n true) (pre ++ mid ++ [p]) B d1 h1 := by
  have inO : ∀ q ∈ pre ++ suf, q.1 ∈ o := fun q hq => by rw [← V0.whole]; exact List.mem_map.2 ⟨q, hq, rfl⟩
  have sortOf : ∀ q ∈ pre ++ suf, q.1.sort = q.1.step.op.sort := fun q hq => by
    obtain ⟨op, hop⟩ := G.of q.1 (inO q hq)
    exact hop.sort
  have hps : p ∈ suf := by
    rcases List.mem_append.1 hp with hp | hp
    · rw [V0.did p hp hl] at hno; cases hno
    · exact hp
  obtain ⟨mid, B, e⟩ := List.append_of_mem hps
  have htra := V0.tra
  rw [e] at htra
  obtain ⟨dm, hm, q1, q2⟩ := tra_append htra
  have hpw := G.pw
  rw [← V0.whole, e] at hpw
  simp only [List.map_append, List.map_cons] at hpw
  have hmidl : ∀ q ∈ mid, loud q.1.sort = false := by
    intro q hq
    cases hlq : loud q.1.sort with
    | false => rfl
    | true =>
      exfalso
      have := (List.pairwise_append.1 (List.pairwise_append.1 hpw).2.1).2.2 q.1 (List.mem_map.2 ⟨q, hq, rfl⟩) p.1 (List.mem_cons_self ..)
      have hw := V0.will q (by rw [e]; exact List.mem_append_left _ hq) hlq
      obtain ⟨h1, h2, h3⟩ := this
      unfold pairOk at h1
      have h1 : unordered b q.1 p.1 = false := by
        rw [hlq] at h1
        cases hs : p.1.sort <;> rw [hs] at hl h1 <;> first | (simp at h1; exact h1) | cases hl
      simp only [unordered, Bool.and_eq_false_iff, Bool.not_eq_false', Bool.not_eq_true'] at h1
      rcases h1 with (h1 | h1) | h1
      · rw [hready _ h1] at hw; cases hw
      · rw [h2] at h1; cases h1
      · exact h3 (Nat.eq_of_beq_eq_true h1)
  obtain ⟨rfl, rfl, hw⟩ := tra_quiet q1 (fun q hq => by rw [← sortOf q (by rw [e]; exact List.mem_append_right _ (List.mem_append_left _ hq))]; exact hmidl q hq)
  have W : ∀ A q C, pre ++ mid = A ++ q :: C → has listed q.1.n = false → ∃ ts, (∀ x ∈ q.1.names, slotOf ts x = slotOf (appl t0 A) x) ∧ LookV q.1.step ts hm q.2 := by
    intro A q C hA hnq
    rcases List.append_eq_append_iff.1 hA with ⟨a', h1, h2⟩ | ⟨c', h1, h2⟩
    · refine ⟨appl t0 A, fun _ _ => rfl, ?_⟩
      rw [h1, appl_append]
      exact hw a' q C h2
    · cases c' with
      | nil =>
        refine ⟨appl t0 A, fun _ _ => rfl, ?_⟩
        simp only [List.append_nil] at h1
        simp only [List.nil_append] at h2
        subst h1
        have := hw [] q C h2.symm
        exact this
      | cons q' c' =>
        simp only [List.cons_append, List.cons.injEq] at h2
        obtain ⟨rfl, h2⟩ := h2
        exact V0.wit A q c' h1 hnq
  cases q2 with
  | @cons _ i v _ _ _ _ d1 _ _ h1 _ hs hst hr =>
    rw [← appl_append] at hs hst
    refine ⟨mid, B, d1, h1, e, hs, ?_⟩
    have epre : appl t0 (pre ++ mid ++ [(i, v)]) = putOpt (appl t0 (pre ++ mid)) i.dst v := by rw [appl_append]; rfl
    refine ⟨?_, by simp [V0.size], ?_, fun q hq hlq => ?_, fun q hq hlq => ?_, fun j hj k hkj => ?_, fun A q C hA hnq => ?_⟩
    · rw [← V0.whole, e]; simp
    · rw [epre]
      rw [← appl_append] at hr
      have e2 : pre.map (·.1) ++ mid.map (·.1) ++ [i] = (pre ++ mid ++ [(i, v)]).map (·.1) := by simp
      rw [← e2]
      exact hr
    · rw [has_set hlt]
      rcases List.mem_append.1 hq with hq | hq
      · rcases List.mem_append.1 hq with hq | hq
        · rw [V0.did q hq hlq]; simp
        · rw [hmidl q hq] at hlq; cases hlq
      · rw [List.mem_singleton.1 hq]; simp
    · rw [has_set hlt, V0.will q (by rw [e]; exact List.mem_append_right _ (List.mem_cons_of_mem _ hq)) hlq]
      have := ((List.pairwise_cons.1 (List.pairwise_append.1 (List.pairwise_append.1 hpw).2.1).2.1).1 q.1 (List.mem_map.2 ⟨q, hq, rfl⟩)).2.2
      simp [Ne.symm this]
    · rw [has_set hlt] at hj ⊢
      by_cases ej : j = i.n
      · subst ej; simp [hready k hkj]
      · simp [ej] at hj; simp [V0.closed j hj k hkj]
    · rw [has_set hlt] at hnq
      simp at hnq
      obtain ⟨hne, hnq⟩ := hnq
      have hC : ∃ C', C = C' ++ [(i, v)] ∧ pre ++ mid = A ++ q :: C' := by
        rcases List.eq_nil_or_concat C with rfl | ⟨C', x, rfl⟩
        · have := List.append_inj' hA rfl
          have h3 := this.2
          simp only [List.cons.injEq, and_true] at h3
          exact absurd (by rw [← h3]) hne
        · have hA' : (pre ++ mid) ++ [(i, v)] = (A ++ q :: C') ++ [x] := by rw [hA]; simp
          have := List.append_inj' hA' rfl
          have h3 := this.2
          simp only [List.cons.injEq, and_true] at h3
          exact ⟨C', by rw [h3]; simp, this.1⟩
      obtain ⟨C', rfl, hAC⟩ := hC
      obtain ⟨ts, hag, hlk⟩ := W A q C' hAC hnq
      have hqm : q ∈ pre ++ mid := by rw [hAC]; simp
      have hqT : q ∈ pre ++ suf := by
        rw [e]
        rcases List.mem_append.1 hqm with h | h
        · exact List.mem_append_left _ h
        · exact List.mem_append_right _ (List.mem_append_left _ h)
      have hql : loud q.1.sort = false := by
        rcases List.mem_append.1 hqm with h | h
        · cases hlq : loud q.1.sort with
          | false => rfl
          | true => rw [V0.did q h hlq] at hnq; cases hnq
        · exact hmidl q h
      cases hsort : q.1.sort with
      | acts => rw [hsort] at hql; cases hql
      | makes => rw [hsort] at hql; cases hql
      | quiet =>
        refine ⟨ts, hag, ?_⟩
        have hqs : q.1.step.op.sort = .quiet := by rw [← hsort]; exact (sortOf q hqT).symm
        rcases hlk with h1' | ⟨h1', h2'⟩
        · exact .inl h1'
        · exact .inr ⟨h1', quiet_any hqs h2' h1⟩
      | reads =>
        have hah : aheadOf b q.1.n i.n = false := by
          cases hh : aheadOf b q.1.n i.n with
          | false => rfl
          | true => rw [hready _ hh] at hnq; cases hnq
        have hdone : q.1 ∈ pre.map (·.1) ++ mid.map (·.1) := by rw [← List.map_append]; exact List.mem_map.2 ⟨q, hqm, rfl⟩
        have hst1 := hst hl q.1 hdone hsort hah
        rw [← epre] at hst1
        have hTq : pre ++ suf = A ++ q :: (C' ++ (i, v) :: B) := by rw [e, ← List.append_assoc, hAC]; simp
        have hpw2 := G.pw
        rw [← V0.whole, hTq] at hpw2
        simp only [List.map_append, List.map_cons] at hpw2
        have hbeh := (List.pairwise_cons.1 (List.pairwise_append.1 hpw2).2.1).1
        have hin : ∀ j ∈ C' ++ [(i, v)], j ∈ pre ++ suf ∧ aheadOf b j.1.n q.1.n = false ∧ q.1.n ≠ j.1.n := by
          intro j hj
          have hj' : j ∈ C' ++ (i, v) :: B := by
            rcases List.mem_append.1 hj with hj | hj
            · exact List.mem_append_left _ hj
            · rw [List.mem_singleton.1 hj]; simp
          refine ⟨by rw [hTq]; exact List.mem_append_right _ (List.mem_cons_of_mem _ hj'), (hbeh j.1 ?_).2⟩
          have := List.mem_map_of_mem (f := fun (p : Info × V) => p.1) hj'
          simpa using this
        have eT : appl t0 (pre ++ mid ++ [(i, v)]) = appl (putOpt (appl t0 A) q.1.dst q.2) (C' ++ [(i, v)]) := by
          rw [hAC]
          rw [show A ++ q :: C' ++ [(i, v)] = A ++ (q :: (C' ++ [(i, v)])) by simp, appl_append]
          rfl
        have hag1 : ∀ x ∈ q.1.names, slotOf (appl t0 (pre ++ mid ++ [(i, v)])) x = slotOf (appl t0 A) x := by
          intro x hx
          rw [eT, slot_appl, slot_putOpt]
          have hnd : q.1.dst ≠ some x := fun ed => ((G.reads q.1 (inO q hqT) hsort q.1 (inO q hqT) x ed).2 hx).2 rfl
          rw [if_neg hnd]
          refine look_none x _ _ fun j hj ed => ?_
          obtain ⟨hj1, hj2, _⟩ := hin j hj
          rw [((G.reads q.1 (inO q hqT) hsort j.1 (inO j hj1) x ed).2 hx).1] at hj2
          cases hj2
        refine ⟨appl t0 (pre ++ mid ++ [(i, v)]), hag1, ?_⟩
        obtain ⟨op, hop⟩ := G.of q.1 (inO q hqT)
        have hwant := wanted_agree hop (t1 := appl t0 (pre ++ mid ++ [(i, v)])) (t2 := ts) (fun x hx => (hag1 x hx).trans (hag x hx).symm)
        rcases hst1 with hu | ⟨hu, i', v', h', hd', he', hv'⟩
        · left
          refine ⟨hu, ?_⟩
          rcases hlk with ⟨_, h2'⟩ | ⟨h1', _⟩
          · exact h2'
          · rw [← hwant, hu] at h1'; cases h1'
        · right
          refine ⟨hu, ?_⟩
          have hqs : loud q.1.step.op.sort = false := by rw [← sortOf q hqT]; exact hql
          have := looks_heap hqs he'
          subst this
          obtain ⟨_, _, hdd, _⟩ := compStep_some hop.comp
          have hdst : q.1.dst = some i' := by rw [hop.dst, ← hdd]; exact hd'
          have : slotOf (appl t0 (pre ++ mid ++ [(i, v)])) i' = q.2 := by
            rw [eT, slot_appl, slot_putOpt, if_pos hdst]
            refine look_none i' _ _ fun j hj ed => ?_
            obtain ⟨hj1, _, hj3⟩ := hin j hj
            rcases (G.reads q.1 (inO q hqT) hsort j.1 (inO j hj1) i' ed).1 with h | h
            · exact hj3 h.symm
            · exact h hdst
          rw [this] at hv'
          rw [← hv']
          exact he'

/-- What is said of ih's steps. -/
def StepsOk (P : Program) (ih : Task → Option Out) : Prop :=
  ∀ s rnd t d h v d1 h1, runStep ih s rnd t d h = some (v, d1, h1) → StepWP P s rnd t d h fun v' d' h' => v' = v ∧ d' = d1 ∧ h' = h1

theorem drawn_go (G : Reg P n ops b o) (HS : StepsOk P ih) : ∀ (fuel tt : Nat) (listed : Array Bool) (pre suf : List (Info × V)) (d : List XDef) (h : Heap), Inv P n ops b o ih rnd t0 t2 d2 h2 listed pre suf d h →
    (o.filter fun J => !has listed J.n).length = fuel →
    ∀ (K : Nat → Prop) (w0 : World) (μ : Mu) (w : World) (b' : Frame) (a : Act) (k : List Item) (cs : List Frame), n ≤ a.tmps.size → RndR μ rnd b'.roundOf → Rel P K w0 μ h w → SR μ (appl t0 (doneL listed (pre ++ suf))) a.tmps → DRs μ d a.defers →
    ∃ μ' a' w', Env P K w0 μ μ' t2 d2 h2 a.tmps.size a' w' ∧ Steps P (lone (fat b' a (.inRegion ops (Region.linearise.go .any ops fuel tt listed []) :: k)) cs w) (lone (fat b' a' k) cs w') := by
  intro fuel
  induction fuel with
  | zero =>
    intro tt listed pre suf d h V0 hf K w0 μ w b' a k cs hn hr R hs hd
    have hall : ∀ I ∈ o, has listed I.n = true := by
      intro I hI
      cases hh : has listed I.n with
      | true => rfl
      | false =>
        have : I ∈ o.filter fun J => !has listed J.n := List.mem_filter.2 ⟨hI, by rw [hh]; rfl⟩
        rw [List.eq_nil_of_length_eq_zero hf] at this
        cases this
    have inO : ∀ q ∈ pre ++ suf, q.1 ∈ o := fun q hq => by rw [← V0.whole]; exact List.mem_map.2 ⟨q, hq, rfl⟩
    have hdone : doneL listed (pre ++ suf) = pre ++ suf := by
      unfold doneL
      rw [List.filter_eq_self]
      exact fun q hq => hall q.1 (inO q hq)
    have hq : ∀ q ∈ suf, loud q.1.step.op.sort = false := by
      intro q hq
      obtain ⟨op, hop⟩ := G.of q.1 (inO q (List.mem_append_right _ hq))
      rw [← hop.sort]
      cases hl : loud q.1.sort with
      | false => rfl
      | true =>
        have := V0.will q hq hl
        rw [hall q.1 (inO q (List.mem_append_right _ hq))] at this
        cases this
    obtain ⟨e1, e2, _⟩ := tra_quiet V0.tra hq
    have e3 := tra_appl V0.tra
    rw [hdone, appl_append] at hs
    subst e1; subst e2; subst e3
    exact ⟨μ, a, w, ⟨Mu.le_refl μ, R, hs, hd, rfl⟩, by simp only [Region.linearise.go, List.reverse_nil]; exact .one fat_region_end⟩
  | succ fuel ihf =>
    intro tt listed pre suf d h V0 hf K w0 μ w b' a k cs hn hr R hs hd
    have inO : ∀ q ∈ pre ++ suf, q.1 ∈ o := fun q hq => by rw [← V0.whole]; exact List.mem_map.2 ⟨q, hq, rfl⟩
    have hne : Region.ready .any ops listed ≠ [] := by
      refine some_ready G V0.size [] o rfl (fun I hI => by cases hI) ?_
      cases hx : (o.filter fun J => !has listed J.n) with
      | nil => rw [hx] at hf; simp at hf
      | cons I r =>
        have : I ∈ o.filter fun J => !has listed J.n := by rw [hx]; exact List.mem_cons_self ..
        obtain ⟨m1, m2⟩ := List.mem_filter.1 this
        exact ⟨I, m1, by simpa using m2⟩
    have hgo : ∃ i, i ∈ Region.ready .any ops listed ∧ ∃ tt', Region.linearise.go .any ops (fuel + 1) tt listed [] = i :: Region.linearise.go .any ops fuel tt' (listed.setIfInBounds i true) [] := by
      simp only [Region.linearise.go]
      change ∃ i, i ∈ Region.ready .any ops listed ∧ ∃ tt', (match (Region.ready .any ops listed)[tt % (Region.ready .any ops listed).length]? with
        | some i => Region.linearise.go .any ops fuel (tt / (Region.ready .any ops listed).length) (listed.setIfInBounds i true) [i]
        | none => [].reverse) = i :: Region.linearise.go .any ops fuel tt' (listed.setIfInBounds i true) []
      cases hi : (Region.ready .any ops listed)[tt % (Region.ready .any ops listed).length]? with
      | none =>
        exfalso
        have hlt : tt % (Region.ready .any ops listed).length < (Region.ready .any ops listed).length := Nat.mod_lt _ (List.length_pos_iff.2 hne)
        rw [List.getElem?_eq_none_iff] at hi
        omega
      | some i =>
        refine ⟨i, List.mem_of_getElem? hi, tt / (Region.ready .any ops listed).length, ?_⟩
        simp only
        rw [linearise_go_acc, List.reverse_singleton, List.singleton_append]
    obtain ⟨i, hi, tt', hgo⟩ := hgo
    rw [hgo]
    obtain ⟨hlt, hno, hready⟩ := ready_facts G V0.size V0.closed hi
    obtain ⟨I, hIo, hIn⟩ := G.all i hlt
    have hp : ∃ p ∈ pre ++ suf, p.1 = I := by rw [← V0.whole] at hIo; obtain ⟨p, h1, h2⟩ := List.mem_map.1 hIo; exact ⟨p, h1, h2⟩
    obtain ⟨p, hpm, rfl⟩ := hp
    subst hIn
    have hlt' : p.1.n < listed.size := by rw [V0.size]; exact hlt
    obtain ⟨op, hop⟩ := G.of p.1 hIo
    obtain ⟨c1, c2, c3, c4⟩ := compStep_some hop.comp
    have hcount := drop_length' G hIo hno hlt'
    -- the step, and what is behind it
    have fin : ∀ (A B : List (Info × V)) (ts : Tr V) (d1 : List XDef) (h1 : Heap) (pre' suf' : List (Info × V)), pre ++ suf = A ++ p :: B → (∀ x ∈ p.1.names, slotOf ts x = slotOf (appl t0 A) x) →
        StepWP P p.1.step rnd ts d h (fun v' d' h' => v' = p.2 ∧ d' = d1 ∧ h' = h1) → pre' ++ suf' = pre ++ suf → Inv P n ops b o ih rnd t0 t2 d2 h2 (listed.setIfInBounds p.1.n true) pre' suf' d1 h1 →
        ∃ μ' a' w', Env P K w0 μ μ' t2 d2 h2 a.tmps.size a' w' ∧
          Steps P (lone (fat b' a (.inRegion ops (p.1.n :: Region.linearise.go .any ops fuel tt' (listed.setIfInBounds p.1.n true) []) :: k)) cs w) (lone (fat b' a' k) cs w') := by
      intro A B ts d1 h1 pre' suf' hT hag hstep hps V1
      have hnames : ∀ x ∈ names ops op, VR μ (slotOf ts x) (a.tmps.getD x undef) := by
        intro x hx
        rw [← hop.names] at hx
        obtain ⟨e1, e2⟩ := slots_agree (t0 := t0) G V0.whole V0.closed hT hno hready (.inl hx)
        have := hs x
        rw [slot_appl, e1, e2, ← hag x hx] at this
        exact this
      obtain ⟨v, d', h', μ1, ds, x, w1, ⟨rfl, rfl, rfl⟩, r1, r2, r3⟩ := hstep K w0 μ w b' a k cs ops p.1.n (Region.linearise.go .any ops fuel tt' (listed.setIfInBounds p.1.n true) []) op n hop.comp hop.at_ hr R hnames hd
      have hsr : SR μ1 (appl t0 (doneL (listed.setIfInBounds p.1.n true) (pre' ++ suf'))) ((({ a with defers := ds } : Act).put op.dst x).tmps) := by
        rw [hps]
        intro y
        rw [slots_done G V0.whole V0.closed hT hno hlt' y]
        have := SR.put (a := { a with defers := ds }) (dst := op.dst) (hs.mono r1.le) r1.val fun i hi => Nat.lt_of_lt_of_le (c4 i hi) hn
        rw [hop.dst]
        exact this y
      obtain ⟨μ2, a2, w2, s1, s2⟩ := ihf tt' _ pre' suf' d' h' V1 (by omega) K w0 μ1 w1 b' _ k cs (by rw [put_size]; exact hn) (hr.mono r1.le) r1.rel hsr (by rw [put_defers']; exact r2)
      exact ⟨μ2, a2, w2, ⟨Mu.le_trans r1.le s1.le, s1.rel, s1.sr, s1.dr, by rw [s1.size, put_size]⟩, Steps.trans r3 s2⟩
    cases hl : loud p.1.sort with
    | false =>
      obtain ⟨A, B, ts, e1, e2, e3⟩ := V0.looks G hpm hl hno hready
      exact fin A B ts d h pre suf e1 e2 (look_step e3) rfl (V0.looked G hl hlt' hIo hready)
    | true =>
      obtain ⟨mid, B, d1, h1, e1, e2, e3⟩ := V0.acts G hpm hl hno hready hlt'
      exact fin (pre ++ mid) B (appl t0 (pre ++ mid)) d1 h1 (pre ++ mid ++ [p]) B (by rw [e1]; simp) (fun _ _ => rfl) (HS _ _ _ _ _ _ _ _ e2) (by rw [e1]; simp) e3

end
end Go.Xr

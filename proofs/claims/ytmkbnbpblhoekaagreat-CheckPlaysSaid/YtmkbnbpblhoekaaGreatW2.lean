/- X, an executor of the program's compiled code, with its proof: part 3. -/
import Derived.Test.YtmkbnbpblhoekaaGreatW1
namespace Go.Xr
open Go.RowKit
section
variable [RoLim] {P : Program} {n : Nat} {ops : Array Oper} {b : List Nat} {o : List Info} {ih : Task -> Option Out} {rnd : Option Nat} {t0 t2 : Tr V} {d2 : List XDef} {h2 : Heap}
omit [RoLim] in
theorem tra_quiet {done : List Info} {L : List (Info × V)} {t t2 : Tr V} {d d2 : List XDef} {h h2 : Heap} (hT : Tra ih rnd b done L t d h t2 d2 h2) (hq : ∀ q ∈ L,loud q.1.step.op.sort = false) : d2 = d /\ h2 = h /\
  ∀ A q B,L = A ++ q :: B -> LookV q.1.step (appl t A) h q.2 := by
 induction hT with
 | nil => exact ⟨rfl,rfl,fun A q B e => by simp at e⟩
 | @cons done i v T t t2 d d1 d2 h h1 h2 hs hst hr ih1 =>
  obtain ⟨rfl,rfl,hl⟩ := quiet_step (hq (i,v) (List.mem_cons_self ..)) hs
  obtain ⟨q1,q2,q3⟩ := ih1 fun q hq' => hq q (List.mem_cons_of_mem _ hq')
  refine ⟨q1,q2,fun A q B e => ?_⟩
  cases A with
  | nil =>
   simp only [List.nil_append,List.cons.injEq] at e
   obtain ⟨rfl,rfl⟩ := e
   exact hl
  | cons p A =>
   simp only [List.cons_append,List.cons.injEq] at e
   obtain ⟨rfl,rfl⟩ := e
   exact q3 A q B rfl
theorem look_step {s : XStep} {t : Tr V} {d : List XDef} {h : Heap} {v : V} (hl : LookV s t h v) : StepWP P s rnd t d h fun v' d' h' => v' = v /\ d' = d /\ h' = h := by
 rcases hl with ⟨h1,h2⟩ | ⟨h1,h2⟩
 ·exact step_skipped h1 ⟨h2.symm,rfl,rfl⟩
 ·exact step_op h1 h2 ⟨rfl,rfl,rfl⟩
omit [RoLim] in
theorem drop_length' (G : Reg P n ops b o) {listed : Array Bool} {I : Info} (hI : I ∈ o) (hno : has listed I.n = false) (hlt : I.n < listed.size) :
  (o.filter fun J => !has (listed.setIfInBounds I.n true) J.n).length + 1 = (o.filter fun J => !has listed J.n).length := by
 have hp : (o.filter fun J => !has listed J.n).Pairwise (fun x y => x.n ≠ y.n) := (G.pw.imp fun h => h.2.2).filter _
 have hm : I ∈ o.filter fun J => !has listed J.n := List.mem_filter.2 ⟨hI,by rw [hno]; rfl⟩
 rw [<- drop_length hp hm,List.filter_filter]
 congr 2
 refine List.filter_congr fun J hJ => ?_
 rw [has_set hlt]
 by_cases e : J.n = I.n
 ·simp [e]
 ·rw [nat_beq_false e]; simp [e]
omit [RoLim] in
theorem Inv.looked (G : Reg P n ops b o) {listed : Array Bool} {pre suf : List (Info × V)} {d : List XDef} {h : Heap} (V0 : Inv P n ops b o ih rnd t0 t2 d2 h2 listed pre suf d h) {p : Info × V} (hl : loud p.1.sort = false)
  (hlt : p.1.n < listed.size) (hp : p.1 ∈ o) (hready : ∀ i,ahO b i p.1.n = true -> has listed i = true) : Inv P n ops b o ih rnd t0 t2 d2 h2 (listed.setIfInBounds p.1.n true) pre suf d h := by
 refine ⟨V0.whole,by simp [V0.size],V0.tra,fun q hq hlq => ?_,fun q hq hlq => ?_,fun j hj i hij => ?_,fun A q B e hno => ?_⟩
 ·rw [has_set hlt,V0.did q hq hlq]; simp
 ·rw [has_set hlt,V0.will q hq hlq]
  have hqo : q.1 ∈ o := by rw [<- V0.whole]; exact List.mem_map.2 ⟨q,List.mem_append_right _ hq,rfl⟩
  have : q.1.n ≠ p.1.n := fun e => by rw [G.uniq hqo hp e,hl] at hlq; cases hlq
  simp [this]
 ·rw [has_set hlt] at hj ⊢
  by_cases e : j = p.1.n
  ·subst e; simp [hready i hij]
  ·simp [e] at hj; simp [V0.closed j hj i hij]
 ·rw [has_set hlt] at hno
  simp at hno
  exact V0.wit A q B e hno.2
omit [RoLim] in
theorem Inv.looks (G : Reg P n ops b o) {listed : Array Bool} {pre suf : List (Info × V)} {d : List XDef} {h : Heap} (V0 : Inv P n ops b o ih rnd t0 t2 d2 h2 listed pre suf d h) {p : Info × V} (hp : p ∈ pre ++ suf) (hl : loud p.1.sort = false)
  (hno : has listed p.1.n = false) (hready : ∀ i,ahO b i p.1.n = true -> has listed i = true) :
  ∃ A B ts,pre ++ suf = A ++ p :: B /\ (∀ x ∈ p.1.names,sO ts x = sO (appl t0 A) x) /\ LookV p.1.step ts h p.2 := by
 have sortOf : ∀ q ∈ pre ++ suf,q.1.sort = q.1.step.op.sort := fun q hq => by
  obtain ⟨op,hop⟩ := G.of q.1 (by rw [<- V0.whole]; exact List.mem_map.2 ⟨q,hq,rfl⟩)
  exact hop.sort
 rcases List.mem_append.1 hp with hp | hp
 ·obtain ⟨A,B,e⟩ := List.append_of_mem hp
  obtain ⟨ts,q1,q2⟩ := V0.wit A p B e hno
  exact ⟨A,B ++ suf,ts,by rw [e]; simp,q1,q2⟩
 ·obtain ⟨mid,B,e⟩ := List.append_of_mem hp
  have htra := V0.tra
  rw [e] at htra
  obtain ⟨dm,hm,q1,q2⟩ := tra_append htra
  refine ⟨pre ++ mid,B,appl t0 (pre ++ mid),by rw [e]; simp,fun x _ => rfl,?_⟩
  cases q2 with
  | @cons _ i v _ _ _ _ d1 _ _ h1 _ hs hst hr =>
   have hls : loud i.step.op.sort = false := by
    have := sortOf (i,v) (by rw [e]; simp)
    rw [<- this]; exact hl
   obtain ⟨_,_,hlook⟩ := quiet_step hls hs
   rw [appl_append]
   cases hsort : i.sort with
   | acts => rw [hsort] at hl; cases hl
   | makes => rw [hsort] at hl; cases hl
   | quiet =>
    have hqs : i.step.op.sort = .quiet := by rw [<- hsort]; exact (sortOf (i,v) (by rw [e]; simp)).symm
    rcases hlook with h1 | ⟨h1,h2⟩
    ·exact .inl h1
    ·exact .inr ⟨h1,quiet_any hqs h2 h⟩
   | reads =>
    have hmid : ∀ q ∈ mid,loud q.1.step.op.sort = false := by
     intro q hq
     rw [<- sortOf q (by rw [e]; exact List.mem_append_right _ (List.mem_append_left _ hq))]
     cases hlq : loud q.1.sort with
     | false => rfl
     | true =>
      exfalso
      have hpw := G.pw
      rw [<- V0.whole,e] at hpw
      simp only [List.map_append,List.map_cons] at hpw
      have := (List.pairwise_append.1 (List.pairwise_append.1 hpw).2.1).2.2 q.1 (List.mem_map.2 ⟨q,hq,rfl⟩) i (List.mem_cons_self ..)
      have hw := V0.will q (by rw [e]; exact List.mem_append_left _ hq) hlq
      obtain ⟨h1,h2,h3⟩ := this
      unfold pairOk at h1
      rw [hlq,hsort] at h1
      simp only [unordered,Bool.not_true,Bool.or_false,Bool.not_eq_true',Bool.and_eq_false_iff,Bool.not_eq_false'] at h1
      rcases h1 with (h1 | h1) | h1
      ·rw [hready _ h1] at hw; cases hw
      ·rw [h2] at h1; cases h1
      ·exact h3 (Nat.eq_of_beq_eq_true h1)
    obtain ⟨_,r2,_⟩ := tra_quiet q1 hmid
    rw [r2] at hlook
    exact hlook
omit [RoLim] in
theorem Inv.acts (G : Reg P n ops b o) {listed : Array Bool} {pre suf : List (Info × V)} {d : List XDef} {h : Heap} (V0 : Inv P n ops b o ih rnd t0 t2 d2 h2 listed pre suf d h) {p : Info × V} {mid B : List (Info × V)} (e : suf = mid ++ p :: B) (hmidl : ∀ q ∈ mid,loud q.1.sort = false) (hl : loud p.1.sort = true)
  (hready : ∀ i,ahO b i p.1.n = true -> has listed i = true) (hlt : p.1.n < listed.size) :
  ∃ d1 h1,runStep ih p.1.step rnd (appl t0 (pre ++ mid)) d h = some (p.2,d1,h1) /\ Inv P n ops b o ih rnd t0 t2 d2 h2 (listed.setIfInBounds p.1.n true) (pre ++ mid ++ [p]) B d1 h1 := by
 have inO : ∀ q ∈ pre ++ suf,q.1 ∈ o := fun q hq => by rw [<- V0.whole]; exact List.mem_map.2 ⟨q,hq,rfl⟩
 have sortOf : ∀ q ∈ pre ++ suf,q.1.sort = q.1.step.op.sort := fun q hq => by
  obtain ⟨op,hop⟩ := G.of q.1 (inO q hq)
  exact hop.sort
 have htra := V0.tra
 rw [e] at htra
 obtain ⟨dm,hm,q1,q2⟩ := tra_append htra
 have hpw := G.pw
 rw [<- V0.whole,e] at hpw
 simp only [List.map_append,List.map_cons] at hpw
 obtain ⟨rfl,rfl,hw⟩ := tra_quiet q1 (fun q hq => by rw [<- sortOf q (by rw [e]; exact List.mem_append_right _ (List.mem_append_left _ hq))]; exact hmidl q hq)
 have W : ∀ A q C,pre ++ mid = A ++ q :: C -> has listed q.1.n = false -> ∃ ts,(∀ x ∈ q.1.names,sO ts x = sO (appl t0 A) x) /\ LookV q.1.step ts hm q.2 := by
  intro A q C hA hnq
  rcases List.append_eq_append_iff.1 hA with ⟨a',h1,h2⟩ | ⟨c',h1,h2⟩
  ·refine ⟨appl t0 A,fun _ _ => rfl,?_⟩
   rw [h1,appl_append]
   exact hw a' q C h2
  ·cases c' with
   | nil =>
    refine ⟨appl t0 A,fun _ _ => rfl,?_⟩
    simp only [List.append_nil] at h1
    simp only [List.nil_append] at h2
    subst h1
    have := hw [] q C h2.symm
    exact this
   | cons q' c' =>
    simp only [List.cons_append,List.cons.injEq] at h2
    obtain ⟨rfl,h2⟩ := h2
    exact V0.wit A q c' h1 hnq
 cases q2 with
 | @cons _ i v _ _ _ _ d1 _ _ h1 _ hs hst hr =>
  rw [<- appl_append] at hs hst
  refine ⟨d1,h1,hs,?_⟩
  have epre : appl t0 (pre ++ mid ++ [(i,v)]) = putOpt (appl t0 (pre ++ mid)) i.dst v := by rw [appl_append]; rfl
  refine ⟨?_,by simp [V0.size],?_,fun q hq hlq => ?_,fun q hq hlq => ?_,fun j hj k hkj => ?_,fun A q C hA hnq => ?_⟩
  ·rw [<- V0.whole,e]; simp
  ·rw [epre]
   rw [<- appl_append] at hr
   have e2 : pre.map (·.1) ++ mid.map (·.1) ++ [i] = (pre ++ mid ++ [(i,v)]).map (·.1) := by simp
   rw [<- e2]
   exact hr
  ·rw [has_set hlt]
   rcases List.mem_append.1 hq with hq | hq
   ·rcases List.mem_append.1 hq with hq | hq
    ·rw [V0.did q hq hlq]; simp
    ·rw [hmidl q hq] at hlq; cases hlq
   ·rw [List.mem_singleton.1 hq]; simp
  ·rw [has_set hlt,V0.will q (by rw [e]; exact List.mem_append_right _ (List.mem_cons_of_mem _ hq)) hlq]
   have := ((List.pairwise_cons.1 (List.pairwise_append.1 (List.pairwise_append.1 hpw).2.1).2.1).1 q.1 (List.mem_map.2 ⟨q,hq,rfl⟩)).2.2
   simp [Ne.symm this]
  ·rw [has_set hlt] at hj ⊢
   by_cases ej : j = i.n
   ·subst ej; simp [hready k hkj]
   ·simp [ej] at hj; simp [V0.closed j hj k hkj]
  ·rw [has_set hlt] at hnq
   simp at hnq
   obtain ⟨hne,hnq⟩ := hnq
   have hC : ∃ C',C = C' ++ [(i,v)] /\ pre ++ mid = A ++ q :: C' := by
    rcases List.eq_nil_or_concat C with rfl | ⟨C',x,rfl⟩
    ·have := List.append_inj' hA rfl
     have h3 := this.2
     simp only [List.cons.injEq,and_true] at h3
     exact absurd (by rw [<- h3]) hne
    ·have hA' : (pre ++ mid) ++ [(i,v)] = (A ++ q :: C') ++ [x] := by rw [hA]; simp
     have := List.append_inj' hA' rfl
     have h3 := this.2
     simp only [List.cons.injEq,and_true] at h3
     exact ⟨C',by rw [h3]; simp,this.1⟩
   obtain ⟨C',rfl,hAC⟩ := hC
   obtain ⟨ts,hag,hlk⟩ := W A q C' hAC hnq
   have hqm : q ∈ pre ++ mid := by rw [hAC]; simp
   have hqT : q ∈ pre ++ suf := by
    rw [e]
    rcases List.mem_append.1 hqm with h | h
    ·exact List.mem_append_left _ h
    ·exact List.mem_append_right _ (List.mem_append_left _ h)
   have hql : loud q.1.sort = false := by
    rcases List.mem_append.1 hqm with h | h
    ·cases hlq : loud q.1.sort with
     | false => rfl
     | true => rw [V0.did q h hlq] at hnq; cases hnq
    ·exact hmidl q h
   cases hsort : q.1.sort with
   | acts => rw [hsort] at hql; cases hql
   | makes => rw [hsort] at hql; cases hql
   | quiet =>
    refine ⟨ts,hag,?_⟩
    have hqs : q.1.step.op.sort = .quiet := by rw [<- hsort]; exact (sortOf q hqT).symm
    rcases hlk with h1' | ⟨h1',h2'⟩
    ·exact .inl h1'
    ·exact .inr ⟨h1',quiet_any hqs h2' h1⟩
   | reads =>
    have hah : ahO b q.1.n i.n = false := by
     cases hh : ahO b q.1.n i.n with
     | false => rfl
     | true => rw [hready _ hh] at hnq; cases hnq
    have hdone : q.1 ∈ pre.map (·.1) ++ mid.map (·.1) := by rw [<- List.map_append]; exact List.mem_map.2 ⟨q,hqm,rfl⟩
    have hst1 := hst hl q.1 hdone hsort hah
    rw [<- epre] at hst1
    have hTq : pre ++ suf = A ++ q :: (C' ++ (i,v) :: B) := by rw [e, <- List.append_assoc,hAC]; simp
    have hpw2 := G.pw
    rw [<- V0.whole,hTq] at hpw2
    simp only [List.map_append,List.map_cons] at hpw2
    have hbeh := (List.pairwise_cons.1 (List.pairwise_append.1 hpw2).2.1).1
    have hin : ∀ j ∈ C' ++ [(i,v)],j ∈ pre ++ suf /\ ahO b j.1.n q.1.n = false /\ q.1.n ≠ j.1.n := by
     intro j hj
     have hj' : j ∈ C' ++ (i,v) :: B := by
      rcases List.mem_append.1 hj with hj | hj
      ·exact List.mem_append_left _ hj
      ·rw [List.mem_singleton.1 hj]; simp
     refine ⟨by rw [hTq]; exact List.mem_append_right _ (List.mem_cons_of_mem _ hj'),(hbeh j.1 ?_).2⟩
     have := List.mem_map_of_mem (f := fun (p : Info × V) => p.1) hj'
     simpa using this
    have eT : appl t0 (pre ++ mid ++ [(i,v)]) = appl (putOpt (appl t0 A) q.1.dst q.2) (C' ++ [(i,v)]) := by
     rw [hAC]
     rw [show A ++ q :: C' ++ [(i,v)] = A ++ (q :: (C' ++ [(i,v)])) by simp,appl_append]
     rfl
    have hag1 : ∀ x ∈ q.1.names,sO (appl t0 (pre ++ mid ++ [(i,v)])) x = sO (appl t0 A) x := by
     intro x hx
     rw [eT,slot_appl,slot_putOpt]
     have hnd : q.1.dst ≠ some x := fun ed => ((G.reads q.1 (inO q hqT) hsort q.1 (inO q hqT) x ed).2 hx).2 rfl
     rw [if_neg hnd]
     refine look_none x _ _ fun j hj ed => ?_
     obtain ⟨hj1,hj2,_⟩ := hin j hj
     rw [((G.reads q.1 (inO q hqT) hsort j.1 (inO j hj1) x ed).2 hx).1] at hj2
     cases hj2
    refine ⟨appl t0 (pre ++ mid ++ [(i,v)]),hag1,?_⟩
    obtain ⟨op,hop⟩ := G.of q.1 (inO q hqT)
    have hwant := wanted_agree hop (t1 := appl t0 (pre ++ mid ++ [(i,v)])) (t2 := ts) (fun x hx => (hag1 x hx).trans (hag x hx).symm)
    rcases hst1 with hu | ⟨hu,i',v',h',hd',he',hv'⟩
    ·left
     refine ⟨hu,?_⟩
     rcases hlk with ⟨_,h2'⟩ | ⟨h1',_⟩
     ·exact h2'
     ·rw [<- hwant,hu] at h1'; cases h1'
    ·right
     refine ⟨hu,?_⟩
     have hqs : loud q.1.step.op.sort = false := by rw [<- sortOf q hqT]; exact hql
     have := looks_heap hqs he'
     subst this
     obtain ⟨_,_,hdd,_⟩ := compStep_some hop.comp
     have hdst : q.1.dst = some i' := by rw [hop.dst, <- hdd]; exact hd'
     have : sO (appl t0 (pre ++ mid ++ [(i,v)])) i' = q.2 := by
      rw [eT,slot_appl,slot_putOpt,if_pos hdst]
      refine look_none i' _ _ fun j hj ed => ?_
      obtain ⟨hj1,_,hj3⟩ := hin j hj
      rcases (G.reads q.1 (inO q hqT) hsort j.1 (inO j hj1) i' ed).1 with h | h
      ·exact hj3 h.symm
      ·exact h hdst
     rw [this] at hv'
     rw [<- hv']
     exact he'
def StepsOk (P : Program) (ih : Task -> Option Out) : Prop :=
 ∀ s rnd t d h v d1 h1,runStep ih s rnd t d h = some (v,d1,h1) -> StepWP P s rnd t d h fun v' d' h' => v' = v /\ d' = d1 /\ h' = h1
omit [RoLim] in
theorem split_uniq {T : List (Info × V)} (hp : T.Pairwise fun x y => x.1.n ≠ y.1.n) : ∀ {A B A' B' : List (Info × V)} {p p' : Info × V},T = A ++ p :: B -> T = A' ++ p' :: B' -> p.1.n = p'.1.n -> A = A' /\ p = p' /\ B = B' := by
 induction T with
 | nil => intro A B A' B' p p' e; simp at e
 | cons a T ih =>
  intro A B A' B' p p' e e' hn
  rw [List.pairwise_cons] at hp
  cases A with
  | nil =>
   simp only [List.nil_append,List.cons.injEq] at e
   obtain ⟨rfl,rfl⟩ := e
   cases A' with
   | nil =>
    simp only [List.nil_append,List.cons.injEq] at e'
    exact ⟨rfl,e'.1,e'.2⟩
   | cons c A' =>
    simp only [List.cons_append,List.cons.injEq] at e'
    obtain ⟨rfl,e2⟩ := e'
    exact absurd hn (hp.1 p' (by rw [e2]; simp))
  | cons c A =>
   simp only [List.cons_append,List.cons.injEq] at e
   obtain ⟨rfl,e1⟩ := e
   cases A' with
   | nil =>
    simp only [List.nil_append,List.cons.injEq] at e'
    obtain ⟨rfl,e2⟩ := e'
    exact absurd hn.symm (hp.1 p (by rw [e1]; simp))
   | cons c' A' =>
    simp only [List.cons_append,List.cons.injEq] at e'
    obtain ⟨rfl,e2⟩ := e'
    obtain ⟨q1,q2,q3⟩ := ih hp.2 e1 e2 hn
    exact ⟨by rw [q1],q2,q3⟩
omit [RoLim] in
theorem first_loud : ∀ {suf : List (Info × V)},(∃ q ∈ suf,loud q.1.sort = true) -> ∃ mid p B,suf = mid ++ p :: B /\ (∀ q ∈ mid,loud q.1.sort = false) /\ loud p.1.sort = true
 | [],h => by obtain ⟨q,hq,_⟩ := h; cases hq
 | a :: suf,h => by
  cases ha : loud a.1.sort with
  | true => exact ⟨[],a,suf,rfl,(fun q hq => by cases hq),ha⟩
  | false =>
   obtain ⟨q,hq,hl⟩ := h
   rcases List.mem_cons.1 hq with rfl | hq
   ·rw [ha] at hl; cases hl
   ·obtain ⟨mid,p,B,e,h1,h2⟩ := first_loud ⟨q,hq,hl⟩
    refine ⟨a :: mid,p,B,by rw [e]; rfl,fun r hr => ?_,h2⟩
    rcases List.mem_cons.1 hr with rfl | hr
    ·exact ha
    ·exact h1 r hr
structure PItem where
 p : Info × V
 B : Nat -> Prop
 wE : World
 x : Value
structure PSt (P : Program) (n : Nat) (ops : Array Oper) (b : List Nat) (o : List Info) (ih : Task -> Option Out) (rnd : Option Nat) (t0 t2 : Tr V) (d2 : List XDef) (h2 : Heap) (K : Nat -> Prop) (w0 : World)
  (listed vis : Array Bool) (PL : List PItem) (pre suf : List (Info × V)) (d : List XDef) (h : Heap) (μ : Mu) (KK : Nat -> Prop) (W w : World) (a : Act) : Prop where
 inv : Inv P n ops b o ih rnd t0 t2 d2 h2 vis pre suf d h
 size : listed.size = ops.size
 eq : ∀ j,has listed j = true ↔ (has vis j = true \/ ∃ it ∈ PL,it.p.1.n = j)
 closed : ∀ j,has listed j = true -> ∀ i,ahO b i j = true -> has listed i = true
 pend : ∀ it ∈ PL,it.p ∈ suf /\ it.p.1.sort = .makes /\ has vis it.p.1.n = false /\ (∀ r,ahO b it.p.1.n r = true -> has listed r = false) /\ (∀ dd,it.p.1.dst = some dd -> a.tmps.getD dd undef = it.x) /\
  (∀ c,it.B c -> KK c /\ ¬ K c /\ W.heap[c]? = it.wE.heap[c]?) /\ (∀ A B,pre ++ suf = A ++ it.p :: B -> Later P ih rnd it.p.1 it.p.2 it.B μ it.wE it.x (appl t0 A))
 apart : PL.Pairwise (fun x y => x.p.1.n ≠ y.p.1.n /\ ∀ c,x.B c -> ¬ y.B c)
 slots : ∀ y,(∀ it ∈ PL,it.p.1.dst ≠ some y) -> VR μ (sO (appl t0 (doneL vis (pre ++ suf))) y) (a.tmps.getD y undef)
 rel : Rel P KK W μ h w
 base : ∀ c,K c -> KK c /\ c < w0.heap.size /\ W.heap[c]? = w0.heap[c]?
 os : W.os = w0.os
 tape : W.tape = w0.tape
 output : W.output = w0.output
 wsize : w0.heap.size <= W.heap.size
 low : RoLim.lim <= w0.heap.size
 defs : DRs μ d a.defers
def Flushed (listed : Array Bool) (suf : List (Info × V)) : Prop := ∀ mid p B,suf = mid ++ p :: B -> (∀ q ∈ mid,loud q.1.sort = false) -> loud p.1.sort = true -> has listed p.1.n = false
omit [RoLim] in
theorem getD_put {a : Act} {dst : Option Nat} {x : Value} {y : Nat} (h : dst ≠ some y) : (a.put dst x).tmps.getD y undef = a.tmps.getD y undef := by
 cases dst with
 | none => rfl
 | some i =>
  have : i ≠ y := fun e => h (by rw [e])
  show (a.tmps.setIfInBounds i x).getD y undef = _
  simp only [Array.getD_eq_getD_getElem?,Array.getElem?_setIfInBounds_ne this]
omit [RoLim] in
theorem getD_put_same {a : Act} {x : Value} {y : Nat} (h : y < a.tmps.size) : (a.put (some y) x).tmps.getD y undef = x := by
 show (a.tmps.setIfInBounds y x).getD y undef = x
 simp [h]
section
variable {K : Nat -> Prop} {w0 : World} {listed vis : Array Bool} {PL : List PItem} {pre suf : List (Info × V)} {d : List XDef} {h : Heap} {μ : Mu} {KK : Nat -> Prop} {W w : World} {a : Act}
theorem PSt.dist (G : Reg P n ops b o) (S : PSt P n ops b o ih rnd t0 t2 d2 h2 K w0 listed vis PL pre suf d h μ KK W w a) : (pre ++ suf).Pairwise fun x y => x.1.n ≠ y.1.n := by
 have := G.pw.imp fun h => h.2.2
 rw [<- S.inv.whole,List.pairwise_map] at this
 exact this
theorem PSt.same (G : Reg P n ops b o) (S : PSt P n ops b o ih rnd t0 t2 d2 h2 K w0 listed vis PL pre suf d h μ KK W w a) {p q : Info × V} (hp : p ∈ pre ++ suf) (hq : q ∈ pre ++ suf) (e : p.1.n = q.1.n) : p = q := by
 obtain ⟨A,B,e1⟩ := List.append_of_mem hp
 obtain ⟨A',B',e2⟩ := List.append_of_mem hq
 exact (split_uniq (S.dist G) e1 e2 e).2.1
theorem PSt.waits (G : Reg P n ops b o) (S : PSt P n ops b o ih rnd t0 t2 d2 h2 K w0 listed vis PL pre suf d h μ KK W w a) (F : Flushed listed suf) {it : PItem} (hit : it ∈ PL) :
  ∃ f,has listed f = false /\ ∀ r ∈ o,ahO b it.p.1.n r.n = true -> ahO b f r.n = true := by
 obtain ⟨p1,p2,p3,p4,_⟩ := S.pend it hit
 have hlo : loud it.p.1.sort = true := by rw [p2]; rfl
 obtain ⟨m1,f,m2,e,hm1,hf⟩ := first_loud ⟨it.p,p1,hlo⟩
 have hfn := F m1 f m2 e hm1 hf
 have hitl : has listed it.p.1.n = true := (S.eq _).2 (.inr ⟨it,hit,rfl⟩)
 have hin : it.p ∈ m2 := by
  rw [e] at p1
  rcases List.mem_append.1 p1 with q | q
  ·rw [hm1 _ q] at hlo; cases hlo
  ·rcases List.mem_cons.1 q with q | q
   ·rw [q,hfn] at hitl; cases hitl
   ·exact q
 have hpw := G.pw
 rw [<- S.inv.whole,e] at hpw
 simp only [List.map_append,List.map_cons] at hpw
 have hpair := (List.pairwise_cons.1 (List.pairwise_append.1 (List.pairwise_append.1 hpw).2.1).2.1).1 it.p.1 (List.mem_map.2 ⟨it.p,hin,rfl⟩)
 obtain ⟨q1,q2,q3⟩ := hpair
 have hnf : ahO b f.1.n it.p.1.n = false := by
  cases hh : ahO b f.1.n it.p.1.n with
  | false => rfl
  | true => rw [S.closed _ hitl _ hh] at hfn; cases hfn
 have hun : unordered b f.1 it.p.1 = true := by unfold unordered; rw [hnf,q2,nat_beq_false q3]; rfl
 unfold pairOk at q1
 rw [hun,hf,p2] at q1
 simp only [Bool.not_true,Bool.or_self,Bool.false_or,Bool.and_eq_true] at q1
 refine ⟨f.1.n,hfn,fun r hr har => ?_⟩
 have := List.all_eq_true.1 q1.2 r (by rw [<- S.inv.whole,e] at hr; simpa using hr)
 rw [har] at this
 simpa using this
theorem flush (G : Reg P n ops b o) : ∀ (m : Nat) {vis : Array Bool} {PL : List PItem} {pre suf : List (Info × V)} {d : List XDef} {h : Heap} {μ : Mu} {KK : Nat -> Prop},PL.length = m -> PSt P n ops b o ih rnd t0 t2 d2 h2 K w0 listed vis PL pre suf d h μ KK W w a ->
  ∃ vis' PL' pre' suf' d' h' μ' KK',PSt P n ops b o ih rnd t0 t2 d2 h2 K w0 listed vis' PL' pre' suf' d' h' μ' KK' W w a /\ Flushed listed suf' /\ μ.le μ' := by
 intro m
 induction m with
 | zero =>
  intro vis PL pre suf d h μ KK hm S
  have hPL := List.eq_nil_of_length_eq_zero hm
  refine ⟨vis,PL,pre,suf,d,h,μ,KK,S,fun mid p B e hmid hl => ?_,Mu.le_refl μ⟩
  cases hh : has listed p.1.n with
  | false => rfl
  | true =>
   rcases (S.eq _).1 hh with q | ⟨it,hit,_⟩
   ·rw [S.inv.will p (by rw [e]; simp) hl] at q; cases q
   ·rw [hPL] at hit; cases hit
 | succ m ihm =>
  intro vis PL pre suf d h μ KK hm S
  by_cases F : Flushed listed suf
  ·exact ⟨vis,PL,pre,suf,d,h,μ,KK,S,F,Mu.le_refl μ⟩
  ·have : ∃ mid p B,suf = mid ++ p :: B /\ (∀ q ∈ mid,loud q.1.sort = false) /\ loud p.1.sort = true /\ has listed p.1.n = true := by
    apply Classical.byContradiction
    intro hno
    refine F fun mid p B e hmid hl => ?_
    cases hh : has listed p.1.n with
    | false => rfl
    | true => exact absurd ⟨mid,p,B,e,hmid,hl,hh⟩ hno
   obtain ⟨mid,p,B,e,hmid,hl,hh⟩ := this
   have hps : p ∈ suf := by rw [e]; simp
   have hvis : has vis p.1.n = false := S.inv.will p hps hl
   have hT : pre ++ suf = (pre ++ mid) ++ p :: B := by rw [e]; simp
   have hit : ∃ it ∈ PL,it.p = p := by
    rcases (S.eq _).1 hh with q | ⟨it,hit,q⟩
    ·rw [hvis] at q; cases q
    ·exact ⟨it,hit,S.same G (List.mem_append_right _ (S.pend it hit).1) (List.mem_append_right _ hps) q⟩
   obtain ⟨it,hit,rfl⟩ := hit
   obtain ⟨L1,L2,hL⟩ := List.append_of_mem hit
   obtain ⟨p1,p2,p3,p4,p5,p6,p7⟩ := S.pend it hit
   have hready : ∀ i,ahO b i it.p.1.n = true -> has vis i = true := by
    intro i hi
    rcases (S.eq _).1 (S.closed _ hh i hi) with q | ⟨it',hit',q⟩
    ·exact q
    ·have := (S.pend it' hit').2.2.2.1 it.p.1.n (by rw [q]; exact hi)
     rw [hh] at this
     cases this
   have hop := G.of it.p.1 (by rw [<- S.inv.whole]; exact List.mem_map.2 ⟨it.p,List.mem_append_right _ hps,rfl⟩)
   obtain ⟨op,hop⟩ := hop
   have hlt : it.p.1.n < vis.size := by rw [S.inv.size]; exact (Array.getElem?_eq_some_iff.1 hop.at_).1
   obtain ⟨d1,h1,hrun,V1⟩ := S.inv.acts G e hmid hl hready hlt
   obtain ⟨μ3,r1,rfl,r3,r4⟩ := p7 (pre ++ mid) B hT (appl t0 (pre ++ mid)) d h d1 h1 (fun _ _ => rfl) hrun KK W μ w (Mu.le_refl μ) (fun c hc => ⟨(p6 c hc).1,(p6 c hc).2.2⟩) S.rel
   have hT2 : pre ++ mid ++ [it.p] ++ B = pre ++ suf := by rw [hT]; simp
   have hap := S.apart
   rw [hL,List.pairwise_append] at hap
   obtain ⟨ha1,ha2,ha3⟩ := hap
   rw [List.pairwise_cons] at ha2
   have hoth : ∀ it' ∈ L1 ++ L2,it' ∈ PL /\ it'.p.1.n ≠ it.p.1.n /\ (∀ c,it'.B c -> ¬ it.B c) := by
    intro it' h'
    rcases List.mem_append.1 h' with q | q
    ·have := ha3 it' q it (List.mem_cons_self ..)
     exact ⟨by rw [hL]; exact List.mem_append_left _ q,this.1,this.2⟩
    ·have := ha2.1 it' q
     exact ⟨by rw [hL]; exact List.mem_append_right _ (List.mem_cons_of_mem _ q),Ne.symm this.1,fun c h1 h2 => this.2 c h2 h1⟩
   have S' : PSt P n ops b o ih rnd t0 t2 d2 h2 K w0 listed (vis.setIfInBounds it.p.1.n true) (L1 ++ L2) (pre ++ mid ++ [it.p]) B d1 h1 μ3 (fun c => KK c /\ ¬ it.B c) W w a := by
    refine ⟨V1,S.size,fun j => ?_,S.closed,fun it' h' => ?_,?_,fun y hy => ?_,r3,fun c hc => ?_,S.os,S.tape,S.output,S.wsize,S.low,S.defs.mono r1⟩
    ·rw [S.eq,has_set hlt,hL]
     simp only [Bool.or_eq_true,decide_eq_true_eq,List.mem_append,List.mem_cons]
     constructor
     ·rintro (q | ⟨it',(q | rfl | q),q2⟩)
      ·exact .inl (.inr q)
      ·exact .inr ⟨it',.inl q,q2⟩
      ·exact .inl (.inl q2.symm)
      ·exact .inr ⟨it',.inr q,q2⟩
     ·rintro ((q | q) | ⟨it',q,q2⟩)
      ·exact .inr ⟨it,.inr (.inl rfl),q.symm⟩
      ·exact .inl q
      ·exact .inr ⟨it',q.imp id .inr,q2⟩
    ·obtain ⟨m1,m2,m3⟩ := hoth it' h'
     obtain ⟨s1,s2,s3,s4,s5,s6,s7⟩ := S.pend it' m1
     refine ⟨?_,s2,by rw [has_set hlt,s3]; simp [m2],s4,s5,fun c hc => ⟨⟨(s6 c hc).1,m3 c hc⟩,(s6 c hc).2⟩,fun A B' hA => (s7 A B' (by rw [<- hT2]; exact hA)).mono r1⟩
     rw [e] at s1
     rcases List.mem_append.1 s1 with q | q
     ·have := hmid _ q; rw [s2] at this; cases this
     ·rcases List.mem_cons.1 q with q | q
      ·rw [q] at m2; exact absurd rfl m2
      ·exact q
    ·rw [List.pairwise_append]
     exact ⟨ha1,ha2.2,fun x hx y hy => ha3 x hx y (List.mem_cons_of_mem _ hy)⟩
    ·rw [hT2,slots_done G S.inv.whole S.inv.closed hT hvis hlt y,slot_putOpt]
     by_cases ey : it.p.1.dst = some y
     ·rw [if_pos ey,p5 y ey]
      exact r4
     ·rw [if_neg ey]
      refine (S.slots y fun it' h' => ?_).mono r1
      rw [hL] at h'
      rcases List.mem_append.1 h' with q | q
      ·exact hy it' (List.mem_append_left _ q)
      ·rcases List.mem_cons.1 q with rfl | q
       ·exact ey
       ·exact hy it' (List.mem_append_right _ q)
    ·obtain ⟨q1,q2⟩ := S.base c hc
     exact ⟨⟨q1,fun hb => (p6 c hb).2.1 hc⟩,q2⟩
   obtain ⟨vis',PL',pre',suf',d',h',μ',KK',q1,q2,q3⟩ := ihm (by rw [hL] at hm; simp at hm ⊢; omega) S'
   exact ⟨vis',PL',pre',suf',d',h',μ',KK',q1,q2,Mu.le_trans r1 q3⟩
end
theorem pend_go (G : Reg P n ops b o) (HS : StepsOk P ih) {K : Nat -> Prop} {w0 : World} {b' : Frame} {k : List Item} {cs : List Frame} : ∀ (fuel tt : Nat) (listed vis : Array Bool) (PL : List PItem) (pre suf : List (Info × V)) (d : List XDef) (h : Heap) (μ : Mu) (KK : Nat -> Prop) (W w : World) (a : Act),
  PSt P n ops b o ih rnd t0 t2 d2 h2 K w0 listed vis PL pre suf d h μ KK W w a -> Flushed listed suf -> (o.filter fun J => !has listed J.n).length = fuel -> n <= a.tmps.size -> RndR μ rnd b'.roundOf -> Resp b listed (Region.linearise.go .any ops fuel tt listed []) ->
  ∃ μ' a' w',Env P K w0 μ μ' t2 d2 h2 a.tmps.size a' w' /\ Steps P (lone (fat b' a (.inRegion ops (Region.linearise.go .any ops fuel tt listed []) :: k)) cs w) (lone (fat b' a' k) cs w') := by
 intro fuel
 induction fuel with
 | zero =>
  intro tt listed vis PL pre suf d h μ KK W w a S F hf hn hr hres
  have hall : ∀ I ∈ o,has listed I.n = true := by
   intro I hI
   cases hh : has listed I.n with
   | true => rfl
   | false =>
    have : I ∈ o.filter fun J => !has listed J.n := List.mem_filter.2 ⟨hI,by rw [hh]; rfl⟩
    rw [List.eq_nil_of_length_eq_zero hf] at this
    cases this
  have inO : ∀ q ∈ pre ++ suf,q.1 ∈ o := fun q hq => by rw [<- S.inv.whole]; exact List.mem_map.2 ⟨q,hq,rfl⟩
  have hq : ∀ q ∈ suf,loud q.1.sort = false := by
   intro q hq
   cases hl : loud q.1.sort with
   | false => rfl
   | true =>
    obtain ⟨mid,p,B,e,h1,h2⟩ := first_loud ⟨q,hq,hl⟩
    have := F mid p B e h1 h2
    rw [hall p.1 (inO p (by rw [e]; simp))] at this
    cases this
  have hPL : ∀ it,it ∉ PL := by
   intro it hit
   obtain ⟨p1,p2,_⟩ := S.pend it hit
   have := hq _ p1
   rw [p2] at this
   cases this
  have hvis : ∀ I ∈ o,has vis I.n = true := fun I hI => by
   rcases (S.eq _).1 (hall I hI) with q | ⟨it,hit,_⟩
   ·exact q
   ·exact absurd hit (hPL it)
  have hdone : doneL vis (pre ++ suf) = pre ++ suf := by
   unfold doneL
   rw [List.filter_eq_self]
   exact fun q hq => hvis q.1 (inO q hq)
  have hq' : ∀ q ∈ suf,loud q.1.step.op.sort = false := by
   intro q hq1
   obtain ⟨op,hop⟩ := G.of q.1 (inO q (List.mem_append_right _ hq1))
   rw [<- hop.sort]
   exact hq q hq1
  obtain ⟨e1,e2,_⟩ := tra_quiet S.inv.tra hq'
  have e3 := tra_appl S.inv.tra
  have hs := fun y => S.slots y fun it hit => absurd hit (hPL it)
  simp only [hdone,appl_append] at hs
  have R : Rel P K w0 μ h w := ⟨S.rel.dom,S.rel.gens,S.rel.obj,S.rel.iters,S.rel.apart,fun o g l hl hm => (S.rel.own o g l hl hm).imp id fun hk hb => hk (S.base _ hb).1,
   fun c hc => ⟨(S.base c hc).2.1,(S.rel.kept c (S.base c hc).1).2.trans (S.base c hc).2.2⟩,S.rel.os.trans S.os,S.rel.tape.trans S.tape,S.rel.output.trans S.output,Nat.le_trans S.wsize S.rel.size,S.low⟩
  have hdef := S.defs
  subst e1; subst e2; subst e3
  exact ⟨μ,a,w,⟨Mu.le_refl μ,R,hs,hdef,rfl⟩,by simp only [Region.linearise.go,List.reverse_nil]; exact .one fat_region_end⟩
 | succ fuel ihf =>
  intro tt listed vis PL pre suf d h μ KK W w a S F hf hn hr hres
  have inO : ∀ q ∈ pre ++ suf,q.1 ∈ o := fun q hq => by rw [<- S.inv.whole]; exact List.mem_map.2 ⟨q,hq,rfl⟩
  have hne : Region.ready .any ops listed ≠ [] := by
   refine some_ready G S.size [] o rfl (fun I hI => by cases hI) ?_
   cases hx : (o.filter fun J => !has listed J.n) with
   | nil => rw [hx] at hf; simp at hf
   | cons I r =>
    have : I ∈ o.filter fun J => !has listed J.n := by rw [hx]; exact List.mem_cons_self ..
    obtain ⟨m1,m2⟩ := List.mem_filter.1 this
    exact ⟨I,m1,by simpa using m2⟩
  have hgo : ∃ i,i ∈ Region.ready .any ops listed /\ ∃ tt',Region.linearise.go .any ops (fuel + 1) tt listed [] = i :: Region.linearise.go .any ops fuel tt' (listed.setIfInBounds i true) [] := by
   simp only [Region.linearise.go]
   change ∃ i,i ∈ Region.ready .any ops listed /\ ∃ tt',(match (Region.ready .any ops listed)[tt % (Region.ready .any ops listed).length]? with
    | some i => Region.linearise.go .any ops fuel (tt / (Region.ready .any ops listed).length) (listed.setIfInBounds i true) [i]
    | none => [].reverse) = i :: Region.linearise.go .any ops fuel tt' (listed.setIfInBounds i true) []
   cases hi : (Region.ready .any ops listed)[tt % (Region.ready .any ops listed).length]? with
   | none =>
    exfalso
    have hlt : tt % (Region.ready .any ops listed).length < (Region.ready .any ops listed).length := Nat.mod_lt _ (List.length_pos_iff.2 hne)
    rw [List.getElem?_eq_none_iff] at hi
    omega
   | some i =>
    refine ⟨i,List.mem_of_getElem? hi,tt / (Region.ready .any ops listed).length,?_⟩
    simp only
    rw [linearise_go_acc,List.reverse_singleton,List.singleton_append]
  obtain ⟨i,hi,tt',hgo⟩ := hgo
  rw [hgo] at hres ⊢
  obtain ⟨hlt,hno,hready⟩ := ready_facts S.size hi hres
  obtain ⟨I,hIo,hIn⟩ := G.all i hlt
  have hp : ∃ p ∈ pre ++ suf,p.1 = I := by rw [<- S.inv.whole] at hIo; obtain ⟨p,h1,h2⟩ := List.mem_map.1 hIo; exact ⟨p,h1,h2⟩
  obtain ⟨p,hpm,rfl⟩ := hp
  subst hIn
  have hlt' : p.1.n < vis.size := by rw [S.inv.size]; exact hlt
  have hltL : p.1.n < listed.size := by rw [S.size]; exact hlt
  obtain ⟨op,hop⟩ := G.of p.1 hIo
  obtain ⟨c1,c2,c3,c4⟩ := compStep_some hop.comp
  have hcount := drop_length' G hIo hno hltL
  have hnov : has vis p.1.n = false := by
   cases hh : has vis p.1.n with
   | false => rfl
   | true => rw [(S.eq _).2 (.inl hh)] at hno; cases hno
  -- nothing that it waits for was done ahead of its turn
  have hnp : ∀ it ∈ PL,ahO b it.p.1.n p.1.n = false := by
   intro it hit
   cases hh : ahO b it.p.1.n p.1.n with
   | false => rfl
   | true =>
    obtain ⟨f,hf1,hf2⟩ := S.waits G F hit
    have := hready f (hf2 p.1 hIo hh)
    rw [hf1] at this
    cases this
  have hvis : ∀ i,ahO b i p.1.n = true -> has vis i = true := by
   intro i hi
   rcases (S.eq _).1 (hready i hi) with q | ⟨it,hit,q⟩
   ·exact q
   ·have := hnp it hit
    rw [q,hi] at this
    cases this
  have hitn : ∀ it ∈ PL,it.p.1.n ≠ p.1.n := fun it hit e => by
   have : has listed it.p.1.n = true := (S.eq _).2 (.inr ⟨it,hit,rfl⟩)
   rw [e,hno] at this
   cases this
  have hslot : ∀ it ∈ PL, ∀ y,it.p.1.dst = some y -> (y ∈ p.1.names \/ p.1.dst = some y) -> False := by
   intro it hit y hy hx
   have hitl : has listed it.p.1.n = true := (S.eq _).2 (.inr ⟨it,hit,rfl⟩)
   rcases G.slots it.p.1 (inO _ (List.mem_append_right _ (S.pend it hit).1)) p.1 hIo y hy hx with e | e | e
   ·exact hitn it hit e
   ·rw [hnp it hit] at e; cases e
   ·rw [S.closed _ hitl _ e] at hno; cases hno
  have hdo : p.1.dst = op.dst := hop.dst
  have closed' : ∀ j,has (listed.setIfInBounds p.1.n true) j = true -> ∀ i,ahO b i j = true -> has (listed.setIfInBounds p.1.n true) i = true := by
   intro j hj i hij
   rw [has_set hltL] at hj ⊢
   by_cases e : j = p.1.n
   ·subst e; simp [hready i hij]
   ·simp [e] at hj; simp [S.closed j hj i hij]
  have names' : ∀ (A B : List (Info × V)) (ts : Tr V),pre ++ suf = A ++ p :: B -> (∀ x ∈ p.1.names,sO ts x = sO (appl t0 A) x) -> ∀ x ∈ names ops op,VR μ (sO ts x) (a.tmps.getD x undef) := by
   intro A B ts hT hag x hx
   rw [<- hop.names] at hx
   obtain ⟨e1,e2⟩ := slots_agree (t0 := t0) G S.inv.whole S.inv.closed hT hnov hvis (.inl hx)
   have := S.slots x fun it hit hd => hslot it hit x hd (.inl hx)
   rw [slot_appl,e1,e2, <- hag x hx] at this
   exact this
  -- a step that X sees,and what is behind it
  have fin : ∀ (A B : List (Info × V)) (ts : Tr V) (d1 : List XDef) (h1 : Heap) (pre' suf' : List (Info × V)),pre ++ suf = A ++ p :: B -> (∀ x ∈ p.1.names,sO ts x = sO (appl t0 A) x) ->
    StepWP P p.1.step rnd ts d h (fun v' d' h' => v' = p.2 /\ d' = d1 /\ h' = h1) -> pre' ++ suf' = pre ++ suf -> (∀ q ∈ suf,loud q.1.sort = true -> q.1.n ≠ p.1.n -> q ∈ suf') -> Inv P n ops b o ih rnd t0 t2 d2 h2 (vis.setIfInBounds p.1.n true) pre' suf' d1 h1 ->
    ∃ μ' a' w',Env P K w0 μ μ' t2 d2 h2 a.tmps.size a' w' /\
     Steps P (lone (fat b' a (.inRegion ops (p.1.n :: Region.linearise.go .any ops fuel tt' (listed.setIfInBounds p.1.n true) []) :: k)) cs w) (lone (fat b' a' k) cs w') := by
   intro A B ts d1 h1 pre' suf' hT hag hstep hps hsuf V1
   obtain ⟨v,d',h',μ1,ds,x,w1,⟨rfl,rfl,rfl⟩,r1,r2,r3⟩ := hstep KK W μ w b' a k cs ops p.1.n (Region.linearise.go .any ops fuel tt' (listed.setIfInBounds p.1.n true) []) op n hop.comp hop.at_ hr S.rel (names' A B ts hT hag) S.defs
   have S1 : PSt P n ops b o ih rnd t0 t2 d2 h2 K w0 (listed.setIfInBounds p.1.n true) (vis.setIfInBounds p.1.n true) PL pre' suf' d' h' μ1 KK W w1 (({ a with defers := ds } : Act).put op.dst x) := by
    refine ⟨V1,by simp [S.size],fun j => ?_,closed',fun it hit => ?_,S.apart,fun y hy => ?_,r1.rel,S.base,S.os,S.tape,S.output,S.wsize,S.low,by rw [put_defers']; exact r2⟩
    ·rw [has_set hltL,has_set hlt',Bool.or_eq_true,Bool.or_eq_true,S.eq,or_assoc]
    ·obtain ⟨s1,s2,s3,s4,s5,s6,s7⟩ := S.pend it hit
     refine ⟨hsuf _ s1 (by rw [s2]; rfl) (hitn it hit),s2,by rw [has_set hlt',s3]; simp [hitn it hit],fun r har => ?_,fun dd hdd => ?_,s6,fun A' B' hA => (s7 A' B' (by rw [<- hps]; exact hA)).mono r1.le⟩
     ·rw [has_set hltL,s4 r har]
      have : r ≠ p.1.n := fun e => by rw [e,hnp it hit] at har; cases har
      simp [this]
     ·rw [getD_put (fun e => hslot it hit dd hdd (.inr (by rw [hdo]; exact e)))]
      exact s5 dd hdd
    ·rw [hps,slots_done G S.inv.whole S.inv.closed hT hnov hlt' y,slot_putOpt]
     by_cases ey : p.1.dst = some y
     ·rw [if_pos ey]
      have ey' : op.dst = some y := by rw [<- hdo]; exact ey
      rw [ey',getD_put_same (a := { a with defers := ds }) (Nat.lt_of_lt_of_le (c4 y ey') hn)]
      exact r1.val
     ·rw [if_neg ey,getD_put (by rw [<- hdo]; exact ey)]
      exact (S.slots y hy).mono r1.le
   obtain ⟨vis',PL',pre2,suf2,d3,h3,μ3,KK',S2,F2,m2⟩ := flush G _ rfl S1
   obtain ⟨μ2,a2,w2,s1,s2⟩ := ihf tt' _ vis' PL' pre2 suf2 d3 h3 μ3 KK' W w1 _ S2 F2 (by omega) (by rw [put_size]; exact hn) ((hr.mono r1.le).mono m2) (hres.tail hltL)
   exact ⟨μ2,a2,w2,⟨Mu.le_trans r1.le (Mu.le_trans m2 s1.le),s1.rel,s1.sr,s1.dr,by rw [s1.size,put_size]⟩,Steps.trans r3 s2⟩
  cases hl : loud p.1.sort with
  | false =>
   obtain ⟨A,B,ts,e1,e2,e3⟩ := S.inv.looks G hpm hl hnov hvis
   exact fin A B ts d h pre suf e1 e2 (look_step e3) rfl (fun q hq _ _ => hq) (S.inv.looked G hl hlt' hIo hvis)
  | true =>
   have hps : p ∈ suf := by
    rcases List.mem_append.1 hpm with hp | hp
    ·rw [S.inv.did p hp hl] at hnov; cases hnov
    ·exact hp
   obtain ⟨mid,B,e⟩ := List.append_of_mem hps
   have hT : pre ++ suf = (pre ++ mid) ++ p :: B := by rw [e]; simp
   by_cases hmid : ∀ q ∈ mid,loud q.1.sort = false
   ·obtain ⟨d1,h1,e2,e3⟩ := S.inv.acts G e hmid hl hvis hlt'
    refine fin (pre ++ mid) B (appl t0 (pre ++ mid)) d1 h1 (pre ++ mid ++ [p]) B hT (fun _ _ => rfl) (HS _ _ _ _ _ _ _ _ e2) (by rw [hT]; simp) (fun q hq hlq hnq => ?_) e3
    rw [e] at hq
    rcases List.mem_append.1 hq with q1 | q1
    ·rw [hmid q q1] at hlq; cases hlq
    ·rcases List.mem_cons.1 q1 with rfl | q1
     ·exact absurd rfl hnq
     ·exact q1
   ·-- ahead of its turn
    have hex : ∃ q ∈ mid,loud q.1.sort = true := by
     apply Classical.byContradiction
     intro hno'
     refine hmid fun q hq => ?_
     cases hh : loud q.1.sort with
     | false => rfl
     | true => exact absurd ⟨q,hq,hh⟩ hno'
    obtain ⟨m1,f,m2,em,hm1,hfl⟩ := first_loud hex
    have hfn : has listed f.1.n = false := F m1 f (m2 ++ p :: B) (by rw [e,em]; simp) hm1 hfl
    have hpair : pairOk b o f.1 p.1 = true /\ ahO b p.1.n f.1.n = false /\ f.1.n ≠ p.1.n := by
     obtain ⟨R,hR⟩ : ∃ R : Info -> Info -> Prop,R = fun i j => pairOk b o i j = true /\ ahO b j.n i.n = false /\ i.n ≠ j.n := ⟨_,rfl⟩
     have hpw : o.Pairwise R := by rw [hR]; exact G.pw
     rw [<- S.inv.whole,hT,em,List.map_append,List.pairwise_append] at hpw
     have := hpw.2.2 f.1 (by simp) p.1 (by simp)
     rw [hR] at this
     exact this
    obtain ⟨q1,q2,q3⟩ := hpair
    have hnf : ahO b f.1.n p.1.n = false := by
     cases hh : ahO b f.1.n p.1.n with
     | false => rfl
     | true => rw [hready _ hh] at hfn; cases hfn
    have hun : unordered b f.1 p.1 = true := by unfold unordered; rw [hnf,q2,nat_beq_false q3]; rfl
    unfold pairOk at q1
    rw [hun,hfl] at q1
    simp only [Bool.not_true,Bool.or_self,Bool.false_or] at q1
    have hsm : p.1.sort = .makes /\ okMake p.1 = true := by
     cases hs : p.1.sort <;> rw [hs] at q1 hl <;> first | (cases hl; done) | (simp at q1; done) | skip
     simp only [Bool.and_eq_true] at q1
     exact ⟨rfl,q1.1⟩
    obtain ⟨hsort,hmk⟩ := hsm
    -- X's step,when its turn comes
    have htra := S.inv.tra
    rw [e] at htra
    obtain ⟨dm,hm,_,hcons⟩ := tra_append htra
    rw [<- appl_append] at hcons
    have hrun : ∃ d1 h1,runStep ih p.1.step rnd (appl t0 (pre ++ mid)) dm hm = some (p.2,d1,h1) := by
     cases hcons with
     | cons hs _ _ => exact ⟨_,_,hs⟩
    obtain ⟨d1,h1,hrun⟩ := hrun
    obtain ⟨Bk,wE,x,ds,r1,r2,r3,r4,r5,r6⟩ := early hop hmk hrun S.rel (b' := b') (a := a) (k := k) (cs := cs) (rest := Region.linearise.go .any ops fuel tt' (listed.setIfInBounds p.1.n true) []) hr (names' (pre ++ mid) B _ hT (fun _ _ => rfl)) S.defs
    have hKw : ∀ c,KK c -> c < w.heap.size := fun c hc => Nat.lt_of_lt_of_le (S.rel.kept c hc).1 S.rel.size
    have S1 : PSt P n ops b o ih rnd t0 t2 d2 h2 K w0 (listed.setIfInBounds p.1.n true) vis (⟨p,Bk,wE,x⟩ :: PL) pre suf d h μ (fun c => KK c \/ Bk c) wE wE (({ a with defers := ds } : Act).put op.dst x) := by
     refine ⟨S.inv,by simp [S.size],fun j => ?_,closed',fun it hit => ?_,?_,fun y hy => ?_,r5,fun c hc => ?_,r4.os.trans (S.rel.os.trans S.os),r4.tape.trans (S.rel.tape.trans S.tape),r4.output.trans (S.rel.output.trans S.output),Nat.le_trans S.wsize (Nat.le_trans S.rel.size r4.size),S.low,by rw [put_defers']; exact r2⟩
     ·rw [has_set hltL,Bool.or_eq_true,S.eq]
      simp only [decide_eq_true_eq,List.mem_cons]
      constructor
      ·rintro (q | q | ⟨it,q,q'⟩)
       ·exact .inr ⟨_,.inl rfl,q.symm⟩
       ·exact .inl q
       ·exact .inr ⟨it,.inr q,q'⟩
      ·rintro (q | ⟨it,(rfl | q),q'⟩)
       ·exact .inr (.inl q)
       ·exact .inl q'.symm
       ·exact .inr (.inr ⟨it,q,q'⟩)
     ·rcases List.mem_cons.1 hit with rfl | hit
      ·refine ⟨hps,hsort,hnov,fun r har => ?_,fun dd hdd => ?_,fun c hc => ⟨.inr hc,fun hk => ?_,rfl⟩,fun A' B' hA => ?_⟩
       ·rw [has_set hltL]
        have hne' : r ≠ p.1.n := fun e2 => by
         subst e2
         have := hready _ har
         rw [hno] at this
         cases this
        cases hh : has listed r with
        | false => simp [hne']
        | true => rw [S.closed r hh _ har] at hno; cases hno
       ·have ey' : op.dst = some dd := by rw [<- hdo]; exact hdd
        show (Act.put _ op.dst x).tmps.getD dd undef = x
        rw [ey',getD_put_same (a := { a with defers := ds }) (Nat.lt_of_lt_of_le (c4 dd ey') hn)]
       ·have := (r3 c hc).1
        have := hKw c (S.base c hk).1
        omega
       ·have := (split_uniq (S.dist G) hA hT rfl).1
        subst this
        exact r6
      ·obtain ⟨s1,s2,s3,s4,s5,s6,s7⟩ := S.pend it hit
       refine ⟨s1,s2,s3,fun r har => ?_,fun dd hdd => ?_,fun c hc => ⟨.inl (s6 c hc).1,(s6 c hc).2.1,?_⟩,s7⟩
       ·rw [has_set hltL,s4 r har]
        have : r ≠ p.1.n := fun e => by rw [e,hnp it hit] at har; cases har
        simp [this]
       ·rw [getD_put (fun e => hslot it hit dd hdd (.inr (by rw [hdo]; exact e)))]
        exact s5 dd hdd
       ·rw [r4.block c (hKw c (s6 c hc).1),(S.rel.kept c (s6 c hc).1).2]
        exact (s6 c hc).2.2
     ·rw [List.pairwise_cons]
      refine ⟨fun it hit => ⟨Ne.symm (hitn it hit),fun c h1 h2 => ?_⟩,S.apart⟩
      have := (r3 c h1).1
      have := hKw c (((S.pend it hit).2.2.2.2.2.1 c h2).1)
      omega
     ·have hpy : p.1.dst ≠ some y := hy _ (List.mem_cons_self ..)
      rw [getD_put (by rw [<- hdo]; exact hpy)]
      exact S.slots y fun it hit => hy it (List.mem_cons_of_mem _ hit)
     ·obtain ⟨q1,q2,q3⟩ := S.base c hc
      refine ⟨.inl q1,q2,?_⟩
      rw [r4.block c (hKw c q1),(S.rel.kept c q1).2]
      exact q3
    have F1 : Flushed (listed.setIfInBounds p.1.n true) suf := by
     intro mid' p' B' e' hm' hl'
     have hp'n := F mid' p' B' e' hm' hl'
     rw [has_set hltL,hp'n]
     have : p'.1.n ≠ p.1.n := fun en => by
      have hd' : suf.Pairwise fun x y => x.1.n ≠ y.1.n := (List.pairwise_append.1 (S.dist G)).2.1
      have := (split_uniq hd' e' e en).1
      subst this
      exact hmid hm'
     simp [this]
    obtain ⟨μ2,a2,w2,s1,s2⟩ := ihf tt' _ vis _ pre suf d h μ _ wE wE _ S1 F1 (by omega) (by rw [put_size]; exact hn) hr (hres.tail hltL)
    exact ⟨μ2,a2,w2,⟨s1.le,s1.rel,s1.sr,s1.dr,by rw [s1.size,put_size]⟩,Steps.trans r1 s2⟩
theorem drawn_go (G : Reg P n ops b o) (HS : StepsOk P ih) (fuel tt : Nat) (listed : Array Bool) (pre suf : List (Info × V)) (d : List XDef) (h : Heap) (V0 : Inv P n ops b o ih rnd t0 t2 d2 h2 listed pre suf d h)
  (hf : (o.filter fun J => !has listed J.n).length = fuel) (hres : Resp b listed (Region.linearise.go .any ops fuel tt listed [])) (K : Nat -> Prop) (w0 : World) (μ : Mu) (w : World) (b' : Frame) (a : Act) (k : List Item) (cs : List Frame) (hn : n <= a.tmps.size) (hr : RndR μ rnd b'.roundOf) (R : Rel P K w0 μ h w) (hs : SR μ (appl t0 (doneL listed (pre ++ suf))) a.tmps) (hd : DRs μ d a.defers) :
  ∃ μ' a' w',Env P K w0 μ μ' t2 d2 h2 a.tmps.size a' w' /\ Steps P (lone (fat b' a (.inRegion ops (Region.linearise.go .any ops fuel tt listed []) :: k)) cs w) (lone (fat b' a' k) cs w') := by
 refine pend_go G HS fuel tt listed listed [] pre suf d h μ K w0 w a ⟨V0,V0.size,fun j => ⟨.inl,fun q => q.elim id fun ⟨it,hit,_⟩ => by cases hit⟩,V0.closed,(fun it hit => by cases hit),.nil,fun y _ => hs y,R,fun c hc => ⟨hc,(R.kept c hc).1,rfl⟩,rfl,rfl,rfl,Nat.le_refl _,R.low,hd⟩ ?_ hf hn hr hres
 intro mid p B e hm hl
 exact V0.will p (by rw [e]; simp) hl
end
end Go.Xr
namespace Go.Xr
open Go.RowKit
section
variable [RoLim] {P : Program} {rnd : Option Nat} {t : Tr V} {d : List XDef} {h : Heap}
theorem StepWP.mono {s : XStep} {Q Q' : V -> List XDef -> Heap -> Prop} (hw : StepWP P s rnd t d h Q) (hq : ∀ v d h,Q v d h -> Q' v d h) : StepWP P s rnd t d h Q' := by
 intro K w0 μ w b a k cs ops i rest o n hc ho hr R hn hd
 obtain ⟨v,d',h',μ',ds,x,w',q,r⟩ := hw K w0 μ w b a k cs ops i rest o n hc ho hr R hn hd
 exact ⟨v,d',h',μ',ds,x,w',hq _ _ _ q,r⟩
theorem steps_of_lines {ih : Task -> Option Out} (HS : StepsOk P ih) {t2 : Tr V} {d2 : List XDef} {h2 : Heap} : ∀ {ss : List XStep} {t : Tr V} {d : List XDef} {h : Heap},
  runLines ih rnd (ss.map fun s => { step := s,again := [] }) t d h = some (t2,d2,h2) -> StepsWP P rnd ss t d h fun t d h => t = t2 /\ d = d2 /\ h = h2
 | [],t,d,h,hr => by
  simp only [List.map_nil,runLines,Option.some.injEq,Prod.mk.injEq] at hr
  exact hr
 | s :: ss,t,d,h,hr => by
  simp only [List.map_cons,runLines] at hr
  split at hr <;> try (cases hr; done)
  rename_i v d1 h1 hs
  simp only [stays] at hr
  exact (HS _ _ _ _ _ _ _ _ hs).mono fun v' d' h' ⟨e1,e2,e3⟩ => by subst e1; subst e2; subst e3; exact steps_of_lines HS hr
omit [RoLim] in
theorem reg_of {n : Nat} {ops : Array Oper} {ss : List XStep} (hss : compSteps P n ops ops.toList = some ss) {b : List Nat} (hb : ∀ i j,ahO (Region.before ops).toList i j = true -> ahO b i j = true) {l : List Info} (hl : l = infos ops 0 ops.toList ss) {o : List Info} (ho : o = orderFrom b l.length l)
  (h1 : slotsOk b l = true) (h2 : readsOk b l = true) (h3 : pairsOk b o o = true) (h4 : edgesOk ops.size 0 ops.toList = true) (h5 : o.length = l.length) : Reg P n ops b o := by
 obtain ⟨a1,a2,a3,a4⟩ := infos_spec (n := n) (ops := ops) 0 hss (fun i o ho => by simpa using ho)
 rw [<- hl] at a1 a2 a3 a4
 obtain ⟨c1,c2⟩ := order_spec (b := b) l.length l a2
 rw [<- ho] at c1 c2
 refine ⟨fun I hI => (a1 I (c1 I hI)).2,fun i hi => ?_,pairs_spec h3,fun i hi j hj d hd hx => slots_spec h1 (c1 i hi) (c1 j hj) hd hx,fun r hr hs j hj d hd => reads_spec h2 (c1 r hr) hs (c1 j hj) hd,fun j op hop e he hb' => ?_⟩
 ·obtain ⟨I,hI,e⟩ := a3 i (Nat.zero_le _) (by simpa using hi)
  exact ⟨I,c2 rfl h5 I hI,e⟩
 ·obtain ⟨q1,q2⟩ := edges_spec h4 j op (by simpa using hop) e he hb'
  exact ⟨q1,by simpa using q2,hb _ _ (before_edge hop he hb')⟩
theorem one_go {ih : Task -> Option Out} (HS : StepsOk P ih) {n : Nat} {ops : Array Oper} {ss : List XStep} (hss : compSteps P n ops ops.toList = some ss) {t t2 : Tr V} {d d2 : List XDef} {h h2 : Heap} {tt : Nat} {K : Nat -> Prop} {w0 : World} {b' : Frame} {kk : List Item} {cs : List Frame} {μ : Mu} {w : World} {a : Act}
  (hn : n <= a.tmps.size) (hrr : RndR μ rnd b'.roundOf) (R : Rel P K w0 μ h w) (hs : SR μ t a.tmps) (hd : DRs μ d a.defers) (b : List Nat)
  (hb : ∀ i j,ahO (Region.before ops).toList i j = true -> ahO b i j = true) (hres : Resp b (Array.replicate ops.size false) (Region.linearise.go .any ops ops.size tt (Array.replicate ops.size false) []))
  (k1 : slotsOk b (infos ops 0 ops.toList ss) = true) (k2 : readsOk b (infos ops 0 ops.toList ss) = true) (k3 : pairsOk b (orderFrom b (infos ops 0 ops.toList ss).length (infos ops 0 ops.toList ss)) (orderFrom b (infos ops 0 ops.toList ss).length (infos ops 0 ops.toList ss)) = true)
  (k4 : edgesOk ops.size 0 ops.toList = true) (k5 : Nat.beq (orderFrom b (infos ops 0 ops.toList ss).length (infos ops 0 ops.toList ss)).length (infos ops 0 ops.toList ss).length = true)
  (hr : runLines ih rnd (linesOf b [] (orderFrom b (infos ops 0 ops.toList ss).length (infos ops 0 ops.toList ss))) t d h = some (t2,d2,h2)) :
  ∃ μ' a' w',Env P K w0 μ μ' t2 d2 h2 a.tmps.size a' w' /\ Steps P (lone (fat b' a (.inRegion ops (Region.linearise.go .any ops ops.size tt (Array.replicate ops.size false) []) :: kk)) cs w) (lone (fat b' a' kk) cs w') := by
 have G := reg_of hss hb rfl rfl k1 k2 k3 k4 (Nat.eq_of_beq_eq_true k5)
 obtain ⟨T,e1,hT⟩ := tra_of_lines (fun I hI => by
  obtain ⟨op,hop⟩ := G.of I hI
  rw [hop.dst]
  exact (compStep_some hop.comp).2.2.1) hr
 have hnone : ∀ i,has (Array.replicate ops.size false) i = false := by
  intro i
  unfold has
  by_cases hi : i < ops.size <;> simp [hi]
 have V0 : Inv P n ops b (orderFrom b (infos ops 0 ops.toList ss).length (infos ops 0 ops.toList ss)) ih rnd t t2 d2 h2 (Array.replicate ops.size false) [] T d h := by
  refine ⟨?_,?_,hT,?_,?_,?_,?_⟩
  ·simpa using e1
  ·simp
  ·intro p hp; cases hp
  ·intro p _ _; exact hnone _
  ·intro j hj; rw [hnone] at hj; cases hj
  ·intro A p B e; simp at e
 have hfull : (orderFrom b (infos ops 0 ops.toList ss).length (infos ops 0 ops.toList ss)).length = ops.size := by
  rw [Nat.eq_of_beq_eq_true k5]
  have := (infos_spec (n := n) (ops := ops) 0 hss (fun i o ho => by simpa using ho)).2.2.2
  simpa using this
 have hd0 : doneL (Array.replicate ops.size false) ([] ++ T) = [] := by
  unfold doneL
  rw [List.filter_eq_nil_iff]
  intro p _
  rw [hnone]
  simp
 exact drawn_go G HS ops.size tt _ [] T d h V0 (by
  rw [List.filter_eq_self.2 (fun I _ => by rw [hnone]; rfl)]
  exact hfull) hres K w0 μ w b' a kk cs hn hrr R (by rw [hd0]; exact hs) hd
theorem vars_go {ih : Task -> Option Out} (HS : StepsOk P ih) {n : Nat} {ops : Array Oper} {ss : List XStep} (hss : compSteps P n ops ops.toList = some ss) {t t2 : Tr V} {d d2 : List XDef} {h h2 : Heap} {tt : Nat} {K : Nat -> Prop} {w0 : World} {b' : Frame} {kk : List Item} {cs : List Frame} {μ : Mu} {w : World} {a : Act}
  (hn : n <= a.tmps.size) (hrr : RndR μ rnd b'.roundOf) (R : Rel P K w0 μ h w) (hs : SR μ t a.tmps) (hd : DRs μ d a.defers) : ∀ (k : Nat) (b : List Nat) (vs : List (List XLn)),vars ops (infos ops 0 ops.toList ss) k b = some vs ->
  (∀ i j,ahO (Region.before ops).toList i j = true -> ahO b i j = true) -> Resp b (Array.replicate ops.size false) (Region.linearise.go .any ops ops.size tt (Array.replicate ops.size false) []) -> (∀ ls ∈ vs,runLines ih rnd ls t d h = some (t2,d2,h2)) ->
  ∃ μ' a' w',Env P K w0 μ μ' t2 d2 h2 a.tmps.size a' w' /\ Steps P (lone (fat b' a (.inRegion ops (Region.linearise.go .any ops ops.size tt (Array.replicate ops.size false) []) :: kk)) cs w) (lone (fat b' a' kk) cs w') := by
 have hnone : ∀ i,has (Array.replicate ops.size false) i = false := by
  intro i
  unfold has
  by_cases hi : i < ops.size <;> simp [hi]
 intro k
 induction k with
 | zero =>
  intro b vs hv hb hres hall
  unfold vars at hv
  split at hv
  ·simp only at hv
   split at hv
   ·rename_i hck
    simp only [Bool.and_eq_true] at hck
    obtain ⟨⟨⟨⟨⟨k1,k2⟩,k3⟩,k4⟩,k5⟩,_⟩ := hck
    have hr := hall _ (by rw [<- Option.some.inj hv]; exact List.mem_singleton.2 rfl)
    exact one_go HS hss hn hrr R hs hd b hb hres k1 k2 k3 k4 k5 hr
   ·cases hv
  ·cases hv
 | succ k ihk =>
  intro b vs hv hb hres hall
  unfold vars at hv
  split at hv
  ·simp only at hv
   split at hv
   ·rename_i hck
    simp only [Bool.and_eq_true] at hck
    obtain ⟨⟨⟨⟨⟨k1,k2⟩,k3⟩,k4⟩,k5⟩,_⟩ := hck
    have hr := hall _ (by rw [<- Option.some.inj hv]; exact List.mem_singleton.2 rfl)
    exact one_go HS hss hn hrr R hs hd b hb hres k1 k2 k3 k4 k5 hr
   ·cases hv
  ·rename_i x y _
   simp only at hv
   split at hv
   ·cases hv
   ·rename_i hxy
    simp only [Bool.or_eq_false_iff] at hxy
    have hne : x ≠ y := nat_beq_ne hxy.1.1
    split at hv
    ·rename_i u v hu hv'
     cases hv
     rcases prec_total hne (Region.linearise.go .any ops ops.size tt (Array.replicate ops.size false) []) with hp | hp
     ·exact ihk _ u hu (fun i j q => add_sub (hb i j q)) (resp_add hnone hres hp) fun ls hls => hall ls (List.mem_append_left _ hls)
     ·exact ihk _ v hv' (fun i j q => add_sub (hb i j q)) (resp_add hnone hres hp) fun ls hls => hall ls (List.mem_append_right _ hls)
    ·cases hv
omit [RoLim] in
theorem splitM_part : ∀ {v : List XLn} {vs : List (List XLn)},v.any isMark = false -> splitM (v ++ marked vs) = (v ++ (splitM (marked vs)).1,(splitM (marked vs)).2)
 | [],vs,_ => rfl
 | l :: v,vs,h => by
  simp only [List.any_cons,Bool.or_eq_false_iff] at h
  simp only [List.cons_append,splitM,h.1,splitM_part h.2]
omit [RoLim] in
theorem splitM_marked : ∀ {vs : List (List XLn)},(∀ v ∈ vs,v.any isMark = false) -> splitM (marked vs) = ([],vs)
 | [],_ => rfl
 | v :: vs,h => by
  have hv := splitM_part (vs := vs) (h v List.mem_cons_self)
  rw [splitM_marked fun u hu => h u (List.mem_cons_of_mem _ hu)] at hv
  have hm : isMark markLine = true := rfl
  simp only [marked,splitM,hm,hv,List.append_nil]
omit [RoLim] in
theorem anyOf_marked {v : List XLn} {vs : List (List XLn)} (h : ∀ u ∈ v :: vs,u.any isMark = false) : anyOf (marked (v :: vs)) = some (v :: vs) := by
 have hv := splitM_part (vs := vs) (h v List.mem_cons_self)
 rw [splitM_marked fun u hu => h u (List.mem_cons_of_mem _ hu)] at hv
 have hm : isMark markLine = true := rfl
 simp only [marked,anyOf,hm,hv,List.append_nil]
omit [RoLim] in
theorem anyOf_plain : ∀ {v : List XLn},v.any isMark = false -> anyOf v = none
 | [],_ => rfl
 | l :: v,h => by
  simp only [List.any_cons,Bool.or_eq_false_iff] at h
  simp only [anyOf,h.1]
omit [RoLim] in
theorem vars_plain {ops : Array Oper} {l : List Info} : ∀ {k : Nat} {b : List Nat} {vs : List (List XLn)},vars ops l k b = some vs -> ∀ v ∈ vs,v.any isMark = false := by
 have base : ∀ {b : List Nat} {vs : List (List XLn)},(match slotsOk b l && readsOk b l && pairsOk b (orderFrom b l.length l) (orderFrom b l.length l) && edgesOk ops.size 0 ops.toList && Nat.beq (orderFrom b l.length l).length l.length && !((linesOf b [] (orderFrom b l.length l)).any isMark) with
   | true => some [linesOf b [] (orderFrom b l.length l)]
   | false => none) = some vs -> ∀ v ∈ vs,v.any isMark = false := by
  intro b vs hv v hm
  split at hv
  ·rename_i hck
   simp only [Bool.and_eq_true] at hck
   cases hv
   rw [List.mem_singleton.1 hm]
   simpa using hck.2
  ·cases hv
 intro k
 induction k with
 | zero =>
  intro b vs hv
  unfold vars at hv
  split at hv
  ·exact base hv
  ·cases hv
 | succ k ihk =>
  intro b vs hv
  unfold vars at hv
  split at hv
  ·exact base hv
  ·simp only at hv
   split at hv
   ·cases hv
   ·split at hv
    ·rename_i u v hu hv'
     cases hv
     intro x hx
     rcases List.mem_append.1 hx with hx | hx
     ·exact ihk hu x hx
     ·exact ihk hv' x hx
    ·cases hv
theorem StepsWP.mono : ∀ {ss : List XStep} {t : Tr V} {d : List XDef} {h : Heap} {Q Q' : Tr V -> List XDef -> Heap -> Prop},StepsWP P rnd ss t d h Q -> (∀ t d h,Q t d h -> Q' t d h) -> StepsWP P rnd ss t d h Q'
 | [],_,_,_,_,_,hw,hq => hq _ _ _ hw
 | _ :: _,_,_,_,_,_,hw,hq => StepWP.mono hw fun _ _ _ q => StepsWP.mono q hq
omit [RoLim] in
theorem total_spec {b : List Nat} {n : Nat} (h : total b n = true) : ∀ j,j < n -> ∀ i,i < j -> ahO b i j = true /\ ahO b j i = false := by
 intro j hj i hi
 unfold total at h
 have h1 := List.all_eq_true.1 h j (List.mem_range.2 hj)
 have h2 := List.all_eq_true.1 h1 i (List.mem_range.2 hi)
 simpa using h2
theorem code_plain {ss : List XStep} {Q : XExit -> Tr V -> List XDef -> Heap -> Prop} (hw : StepsWP P rnd ss t d h fun t d h => Q .normal t d h) : CodeWP P (.region false (ss.map fun s => { step := s,again := [] })) rnd t d h Q := by
 intro K w0 μ w b a k cs n c' hc hn hrr R hs hd
 have hx : ∃ id ops draw,c' = .region id ops draw /\ compRegion P n ops draw = some (.region false (ss.map fun s => { step := s,again := [] })) := by
  cases c' <;> simp only [compCode] at hc
  case region id ops draw => exact ⟨_,_,_,rfl,hc⟩
  all_goals (exfalso; (repeat' (split at hc)) <;> first | (simp at hc; done))
 obtain ⟨id,ops,draw,rfl,hcr⟩ := hx
 unfold compRegion at hcr
 split at hcr
 ·cases hcr
 ·rename_i ss' hss
  have hinj : (ss'.map fun s => ({ step := s,again := [] } : XLn)) = ss.map (fun s => { step := s,again := [] }) -> ss' = ss := by
   intro e
   have := congrArg (List.map (·.step)) e
   simpa [List.map_map,Function.comp_def] using this
  split at hcr
  ·simp only [Option.some.injEq,XCode.region.injEq,true_and] at hcr
   have := hinj hcr
   subst this
   obtain ⟨t',d',h',μ',a',w',q,p2,p3⟩ := steps_run ops.toList ss' 0 hss (fun i o ho => by simpa using ho) hw K w0 μ w b a k cs hn hrr R hs hd
   refine ⟨.normal,t',d',h',μ',a',w',q,p2,.head fat_region ?_⟩
   rw [List.range_eq_range']
   simpa using p3
  ·simp only at hcr
   split at hcr
   ·rename_i hck
    simp only [Option.some.injEq,XCode.region.injEq,true_and] at hcr
    have := hinj hcr
    subst this
    simp only [Bool.and_eq_true] at hck
    obtain ⟨hck,hmix⟩ := hck
    obtain ⟨t',d',h',μ',a',w',q,p2,p3⟩ := steps_run ops.toList ss' 0 hss (fun i o ho => by simpa using ho) hw K w0 μ { w with drawn := w.drawn + 1 } b a k cs hn hrr (R.drawn rfl rfl rfl rfl) hs hd
    refine ⟨.normal,t',d',h',μ',a',w',q,p2,.head fat_region_draw ?_⟩
    simp only [Region.schedule,hmix,Bool.true_or,if_true]
    have hgo := linear_go (ops := ops) (b := (Region.before ops).toList) (fun hop hij => before_spec hop hij) (fun hop he hb => by
     obtain ⟨q1,q2⟩ := edges_spec hck.2 _ _ (by simpa using hop) _ he hb
     exact ⟨q1,by simpa using q2,before_edge hop he hb⟩) (total_spec hck.1) ops.size 0 (w.tape w.drawn (.order b.fn id)) (Array.replicate ops.size false) (Nat.zero_add _) (by simp) (fun i hi => by unfold has; simp [hi])
    have e : Region.linearise .any ops (w.tape w.drawn (.order b.fn id)) = List.range' 0 ops.size := hgo
    rw [e]
    simpa using p3
   ·split at hcr
    ·simp only [Option.some.injEq,XCode.region.injEq] at hcr
     exact absurd hcr.1 (by simp)
    ·simp only [Option.some.injEq,XCode.region.injEq] at hcr
     exact absurd hcr.1 (by simp)
    ·cases hcr
theorem code_region {ih : Task -> Option Out} (HS : StepsOk P ih) (hmix : P.follows .mixedOrders = true) {dr : Bool} {ls : List XLn} {t2 : Tr V} {d2 : List XDef} {h2 : Heap} (hr : runRegion ih dr rnd ls t d h = some (t2,d2,h2)) {Q : XExit -> Tr V -> List XDef -> Heap -> Prop} (q : Q .normal t2 d2 h2) :
  CodeWP P (.region dr ls) rnd t d h Q := by
 cases dr with
 | false =>
  have hr : runLines ih rnd ls t d h = some (t2,d2,h2) := hr
  by_cases hpl : ∃ ss : List XStep,ls = ss.map fun s => { step := s,again := [] }
  ·obtain ⟨ss,rfl⟩ := hpl
   exact code_plain ((steps_of_lines HS hr).mono fun t' d' h' ⟨e1,e2,e3⟩ => by subst e1; subst e2; subst e3; exact q)
  ·intro K w0 μ w b a k cs n c' hc hn hrr R hs hd
   exfalso
   have hx : ∃ id ops draw,c' = .region id ops draw /\ compRegion P n ops draw = some (.region false ls) := by
    cases c' <;> simp only [compCode] at hc
    case region id ops draw => exact ⟨_,_,_,rfl,hc⟩
    all_goals (exfalso; (repeat' (split at hc)) <;> first | (simp at hc; done))
   obtain ⟨id,ops,draw,rfl,hcr⟩ := hx
   unfold compRegion at hcr
   split at hcr
   ·cases hcr
   ·rename_i ss hss
    split at hcr
    ·simp only [Option.some.injEq,XCode.region.injEq,true_and] at hcr
     exact hpl ⟨ss,hcr.symm⟩
    ·simp only at hcr
     split at hcr
     ·simp only [Option.some.injEq,XCode.region.injEq,true_and] at hcr
      exact hpl ⟨ss,hcr.symm⟩
     ·split at hcr
      ·simp only [Option.some.injEq,XCode.region.injEq] at hcr
       exact absurd hcr.1 (by simp)
      ·simp only [Option.some.injEq,XCode.region.injEq] at hcr
       exact absurd hcr.1 (by simp)
      ·cases hcr
 | true =>
  intro K w0 μ w b a k cs n c' hc hn hrr R hs hd
  have hx : ∃ id ops draw,c' = .region id ops draw /\ compRegion P n ops draw = some (.region true ls) := by
   cases c' <;> simp only [compCode] at hc
   case region id ops draw => exact ⟨_,_,_,rfl,hc⟩
   all_goals (exfalso; (repeat' (split at hc)) <;> first | (simp at hc; done))
  obtain ⟨id,ops,draw,rfl,hcr⟩ := hx
  unfold compRegion at hcr
  split at hcr
  ·cases hcr
  ·rename_i ss hss
   split at hcr
   ·simp only [Option.some.injEq,XCode.region.injEq] at hcr
    exact absurd hcr.1 (by simp)
   ·simp only at hcr
    split at hcr
    ·simp only [Option.some.injEq,XCode.region.injEq] at hcr
     exact absurd hcr.1 (by simp)
    ·rename_i hck
     have hmain : ∃ vs,vars ops (infos ops 0 ops.toList ss) 3 (Region.before ops).toList = some vs /\ ∀ ls ∈ vs,runLines ih rnd ls t d h = some (t2,d2,h2) := by
      cases hv : vars ops (infos ops 0 ops.toList ss) 3 (Region.before ops).toList with
      | none => rw [hv] at hcr; cases hcr
      | some vs =>
       rw [hv] at hcr
       have hpl := vars_plain hv
       have hone : ∀ v,vs = [v] -> ls = v := by
        rintro v rfl
        simp only [Option.some.injEq,XCode.region.injEq,true_and] at hcr
        exact hcr.symm
       have hmore : (∀ v,vs ≠ [v]) -> ls = marked vs := by
        intro hne
        split at hcr
        ·rename_i v e; exact absurd (Option.some.inj e) (hne v)
        ·rename_i e; cases e
         simp only [Option.some.injEq,XCode.region.injEq,true_and] at hcr
         exact hcr.symm
        ·cases hcr
       refine ⟨vs,rfl,?_⟩
       match vs,hone,hmore,hpl with
       | [v],hone,_,hpl =>
        have := hone v rfl
        subst this
        intro u hu
        rw [List.mem_singleton.1 hu]
        simp only [runRegion,anyOf_plain (hpl _ List.mem_cons_self)] at hr
        exact hr
       | [],_,_,_ =>
        exact fun u hu => by cases hu
       | v :: v' :: vs,_,hmore,hpl =>
        have := hmore fun v e => by cases e
        subst this
        intro u hu
        simp only [runRegion,anyOf_marked hpl] at hr
        exact oneEnd_all hr _ (List.mem_map.2 ⟨u,hu,rfl⟩)
     obtain ⟨vs,hv,hall⟩ := hmain
     have hnone : ∀ i,has (Array.replicate ops.size false) i = false := by
      intro i
      unfold has
      by_cases hi : i < ops.size <;> simp [hi]
     obtain ⟨μ',a',w',p1,p2⟩ := vars_go HS hss (tt := w.tape w.drawn (.order b.fn id)) (K := K) (w0 := w0) (b' := b) (kk := k) (cs := cs) (w := { w with drawn := w.drawn + 1 }) hn hrr (R.drawn rfl rfl rfl rfl) hs hd 3 _ vs hv (fun i j q => q)
      (resp_go (fun i j op hop hij => before_spec hop hij) ops.size _ _ (by simp) (fun j hj => by rw [hnone] at hj; cases hj)) hall
     refine ⟨.normal,t2,d2,h2,μ',a',w',q,p1,.head fat_region_draw ?_⟩
     simp only [Region.schedule,hmix,Bool.true_or,if_true]
     exact p2
def DefersWP (P : Program) (d : List XDef) (h : Heap) (Q : Heap -> Prop) : Prop :=
 ∀ (K : Nat -> Prop) (w0 : World) (μ : Mu) (w : World) (fr : Frame) (cs : List Frame),fr.mode = .returning -> Rel P K w0 μ h w -> DRs μ d fr.defers ->
  ∃ h' μ' w',Q h' /\ μ.le μ' /\ Rel P K w0 μ' h' w' /\ Steps P (lone fr cs w) (lone { fr with defers := [] } cs w')
theorem defers_nil {Q : Heap -> Prop} (q : Q h) : DefersWP P [] h Q := by
 intro K w0 μ w fr cs hm R hd
 generalize hds : fr.defers = ds at hd
 cases hd
 refine ⟨h,μ,w,q,Mu.le_refl μ,R,?_⟩
 rw [<- hds]
 exact Steps.refl P _
theorem defers_call {f : Nat} {args : List V} {D : List XDef} {Q : Heap -> Prop} (hw : CallWP P true f args h fun _ h' => DefersWP P D h' Q) : DefersWP P (.call f args :: D) h Q := by
 intro K w0 μ w fr cs hm R hd
 obtain ⟨fn,f1,f2,f3⟩ := hw
 generalize hds : fr.defers = ds at hd
 cases hd with
 | @call _ _ caps xs _ ds' hargs hr =>
  obtain ⟨v,h1,μ1,w1,fr1,x,q,r1,r2,r3,r4,r5,r6,r7⟩ := f3 K w0 μ w (xs.toList ++ caps.toList) ({ fr with defers := ds' } :: cs) R hargs
  have hinv : (invoke (.fn (.func f) caps) xs).run P w = .ok (.enter f (xs.toList ++ caps.toList).toArray) w := by
   have : xs ++ caps = (xs.toList ++ caps.toList).toArray := by apply Array.ext'; simp
   rw [<- this]
   simp [invoke,run_callFunc f1 f2]
  have s1 := step_defer (P := P) (cs := cs) (by rw [hm]; simp) hds rfl hinv
  have s2 := step_going_returned (P := P) (c := { fr with defers := ds' }) (cs := cs) r6 (v := x) ⟨r4,r5,fn,by rw [r3]; exact f1,r7⟩
  have e : ({ { fr with defers := ds' } with mode := settle ({ fr with defers := ds' } : Frame).mode } : Frame) = { fr with defers := ds' } := by
   simp [hm,settle]
  rw [e] at s2
  obtain ⟨h2,μ2,w2,p1,p2,p3,p4⟩ := q K w0 μ1 w1 { fr with defers := ds' } cs hm r1.rel (hr.mono r1.le)
  exact ⟨h2,μ2,w2,p1,Mu.le_trans r1.le p2,p3,.head s1 (Steps.trans r2 (.head s2 p4))⟩
theorem defers_coll {o : Nat} {D : List XDef} {Q : Heap -> Prop} (hg : h.get o = some (.deferred false)) (hw : DefersWP P D (h.put o (.deferred true)) Q) : DefersWP P (.collected o :: D) h Q := by
 intro K w0 μ w fr cs hm R hd
 generalize hds : fr.defers = ds at hd
 cases hd with
 | @coll _ l _ ds' hl hr =>
  obtain ⟨l',hl',hb⟩ := (R.obj o _ hg).2
  rw [hl] at hl'
  cases hl'
  have hlt := (R.dom o 0 l hl).2
  have h1 : (getObj l.blk).run P w = .ok (.deferred (some [])) w := run_getObj hb (fun _ _ _ q => by cases q)
  have h2 : (setObj l.blk (.deferred none)).run P w = .ok () { w with heap := w.heap.setIfInBounds l.blk (.deferred none) } := run_setObj hb (fun _ _ _ q => by cases q)
  have h3 : (Instr.takeDeferred l.blk).run P w = .ok [] { w with heap := w.heap.setIfInBounds l.blk (.deferred none) } := by
   simp only [Instr.takeDeferred,Sem.run_bind,h1,Result.andThen_ok,h2,Sem.run_pure]
  have s1 : step P (lone fr cs w) = .next (lone { fr with defers := ds' } cs { w with heap := w.heap.setIfInBounds l.blk (.deferred none) }) := by
   refine step_lone_go ?_
   simp only [stepG,unwind,hm,hds,Sem.runT_eq,h3]
   simp
  have R1 : Rel P K w0 μ (h.put o (.deferred true)) { w with heap := w.heap.setIfInBounds l.blk (.deferred none) } := by
   refine R.turn hg rfl (fun q => q) (fun g q => q) (fun g q => q) hl ⟨l,hl,set_at hlt⟩ (fun oi mo ins seen cur kd es ins' e1 e2 e3 => ?_)
   rw [Heap.get_put] at e1 e2
   rcases e3 with rfl | rfl
   ·simp at e1
   ·simp at e2
  obtain ⟨h2',μ2,w2,p1,p2,p3,p4⟩ := hw K w0 μ _ { fr with defers := ds' } cs hm R1 hr
  exact ⟨h2',μ2,w2,p1,p2,p3,.head s1 p4⟩
omit [RoLim] in
theorem argsFrom_get : ∀ (args : List V) (i : Nat) (t : Tr V) (j : Nat),sO (argsFrom t i args) j = if i <= j /\ j < i + args.length then args.getD (j - i) .undef else sO t j
 | [],i,t,j => by
  show sO t j = _
  rw [if_neg (by simp only [List.length_nil]; omega)]
 | v :: args,i,t,j => by
  show sO (argsFrom (t.set i v) (Nat.succ i) args) j = _
  rw [argsFrom_get,sSe]
  simp only [List.length_cons]
  by_cases h1 : j = i
  ·subst h1
   rw [if_neg (by omega),if_pos rfl,if_pos (by omega)]
   simp
  ·by_cases h2 : Nat.succ i <= j /\ j < Nat.succ i + args.length
   ·rw [if_pos h2,if_pos (by omega)]
    have : j - i = (j - Nat.succ i) + 1 := by omega
    rw [this]
    simp
   ·rw [if_neg h2,if_neg h1,if_neg (by omega)]
omit [RoLim] in
theorem args_SR {μ : Mu} {args : List V} {args' : List Value} (hv : VRs μ args args') (n : Nat) : SR μ (argsFrom .lf 0 args) (args'.toArray ++ Array.replicate (n - args'.toArray.size) undef) := by
 intro j
 rw [argsFrom_get]
 have hl := hv.length
 by_cases h1 : j < args.length
 ·rw [if_pos (by omega)]
  obtain ⟨x,hx,hvx⟩ := hv.get (i := j) (v := args[j]) (List.getElem?_eq_getElem h1)
  have e1 : args.getD (j - 0) .undef = args[j] := by simp [h1]
  rw [e1]
  have hj : j < args'.length := by omega
  have : (args'.toArray ++ Array.replicate (n - args'.toArray.size) undef).getD j undef = x := by
   simp only [Array.getD_eq_getD_getElem?]
   rw [Array.getElem?_append_left (by simpa using hj)]
   simp [hx]
  rw [this]
  exact hvx
 ·rw [if_neg (by omega)]
  have e1 : sO (Tr.lf : Tr V) j = V.undef := by unfold sO; rw [Tr.get_lf]
  rw [e1]
  have : (args'.toArray ++ Array.replicate (n - args'.toArray.size) undef).getD j undef = undef := by
   simp only [Array.getD_eq_getD_getElem?]
   rw [Array.getElem?_append_right (by simp; omega)]
   by_cases h2 : j - args'.toArray.size < n - args'.toArray.size <;> simp [Array.getElem?_replicate]
   all_goals (split <;> rfl)
  rw [this]
  exact VR.undef μ
def resOne (tmps : Array Value) : ResultVar -> Sem Value
 | .tmp t => pure (tmps.getD t undef)
 | .cell a t => do loadVar t (<- asAddr (tmps.getD a undef))
theorem run_results {μ : Mu} {K : Nat -> Prop} {w0 w : World} {tmps : Array Value} (R : Rel P K w0 μ h w) (hs : SR μ t tmps) : ∀ {rs : List ResultVar} {res : List XRes} {vs : List V},compRes P rs = some res -> resultsOf t h res = some vs ->
  ∃ xs,VRs μ vs xs /\ (rs.mapM (resOne tmps)).run P w = .ok xs w
 | [],res,vs,hc,hr => by
  simp [compRes] at hc
  subst hc
  simp [resultsOf] at hr
  subst hr
  exact ⟨[],.nil,by simp⟩
 | .tmp i :: rs,res,vs,hc,hr => by
  simp only [compRes] at hc
  split at hc <;> simp at hc
  rename_i r hcr
  subst hc
  simp only [resultsOf] at hr
  split at hr <;> simp at hr
  rename_i vs' hrr
  subst hr
  obtain ⟨xs,h1,h2⟩ := run_results R hs hcr hrr
  refine ⟨_,.cons (hs i) h1,?_⟩
  simp only [List.mapM_cons,resOne,Sem.run_bind,Sem.run_pure,Result.andThen_ok,h2]
 | .cell a ty :: rs,res,vs,hc,hr => by
  simp only [compRes] at hc
  split at hc <;> simp at hc
  rename_i g n r hg hn hcr
  subst hc
  simp only [resultsOf] at hr
  split at hr <;> simp at hr
  rename_i v h' vs' he hrr
  subst hr
  obtain ⟨xs,h1,h2⟩ := run_results R hs hcr hrr
  have hx := hs a
  simp only [oEv,rd] at he
  split at he <;> try (simp at he; done)
  rename_i o1 g1 off hp
  rw [hp] at hx
  have hld : ∃ x,VR μ v x /\ (resOne tmps (.cell a ty)).run P w = .ok x w := by
   show ∃ x,VR μ v x /\ (do loadVar ty (<- asAddr (tmps.getD a undef)) : Sem Value).run P w = .ok x w
   generalize tmps.getD a undef = y at hx
   cases hx with
   | @ptr _ _ _ l hm =>
    split at he <;> simp at he
    ·rename_i ws q1
     obtain ⟨rfl,rfl⟩ := he
     obtain ⟨ys,p1,p2,p3,p4⟩ := R.read q1 hm
     refine ⟨.agg ys.toArray,.agg p1,?_⟩
     have := run_loadCells_read (P := P) p4
     rw [p3] at this
     simp [asAddr,loadVar,run_isAgg hg,run_sizeOf hn,this]
    ·rename_i v1 q1
     obtain ⟨rfl,rfl⟩ := he
     obtain ⟨ys,p1,p2,p3,p4⟩ := R.read q1 hm
     cases p1 with
     | @cons _ x _ _ hv hr =>
      cases hr
      refine ⟨x,hv,?_⟩
      have := p4 0 x rfl
      simp only [Nat.add_zero] at this
      simp [asAddr,loadVar,run_isAgg hg,this]
  obtain ⟨x,q1,q2⟩ := hld
  refine ⟨x :: xs,.cons q1 h1,?_⟩
  simp only [List.mapM_cons]
  rw [Sem.run_bind,q2]
  simp [h2]
omit [RoLim] in
theorem VRs.one {μ : Mu} {vs : List V} {xs : List Value} (hv : VRs μ vs xs) : VR μ (o1f vs) (if h : xs.toArray.size = 1 then xs.toArray[0] else .tuple xs.toArray) := by
 cases hv with
 | nil => exact .tup .nil
 | cons h1 h2 =>
  cases h2 with
  | nil => exact h1
  | cons h2 h3 => exact .tup (.cons h1 (.cons h2 h3))
theorem call_of_code {dk : Bool} {f : Nat} {fn : Func} {xf : XFunc} {args : List V} {Q : V -> Heap -> Prop} (hf : P.funcs[f]? = some fn) (hname : fn.name ≠ "runtime.NumGoroutine") (hc : cmF P fn = some xf)
  (hw : CodeWP P xf.code none (argsFrom .lf 0 args) [] h fun e t d h' => (∀ id,e ≠ .exit id) /\ DefersWP P d h' fun h'' => ∃ vs,resultsOf t h'' xf.results = some vs /\ Q (o1f vs) h'') : CallWP P dk f args h Q := by
 unfold cmF at hc
 split at hc
 ·cases hc
 ·rename_i c hb
  split at hc <;> simp at hc
  rename_i code res hcode hres
  subst hc
  refine ⟨fn,hf,⟨hname,by rw [hb]; rfl⟩,fun K w0 μ w args' cs R hv => ?_⟩
  let b : Frame := { (default : Frame) with fn := f,kind := kindOf dk }
  let a : Act := { tmps := args'.toArray ++ Array.replicate (fn.ntmps - args'.toArray.size) undef,defers := [] }
  have henter : Frame.enter P f args'.toArray (kindOf dk) = fat b a [.code c] := by
   simp [Frame.enter,fat,hf,hb,b,a]
   rfl
  have hn : fn.ntmps <= a.tmps.size := by simp [a]; omega
  obtain ⟨e,t1,d1,h1,μ1,a1,w1,⟨q1,q2⟩,r1,r2⟩ := hw K w0 μ w b a [] cs fn.ntmps c hcode hn trivial R (args_SR hv fn.ntmps) .nil
  have key : ∃ todo,Steps P (lone (Frame.enter P f args'.toArray (kindOf dk)) cs w) (lone { fat b a1 todo with mode := .returning } cs w1) := by
   rw [henter]
   cases e with
   | normal => exact ⟨[],Steps.trans r2 (.one (fat_end rfl))⟩
   | exit id => exact absurd rfl (q1 id)
   | ret => obtain ⟨k0,r2⟩ := r2; exact ⟨_,Steps.trans r2 (.one (fat_ret rfl))⟩
  obtain ⟨todo,hst⟩ := key
  obtain ⟨h2,μ2,w2,⟨vs,hvs,q⟩,p2,p3,p4⟩ := q2 K w0 μ1 w1 { fat b a1 todo with mode := .returning } cs rfl r1.rel r1.dr
  obtain ⟨xs,hxs,hrun⟩ := run_results (P := P) p3 (r1.sr.mono p2) hres hvs
  refine ⟨o1f vs,h2,μ2,w2,_,_,q,⟨Mu.le_trans r1.le p2,p3,hxs.one⟩,Steps.trans hst p4,rfl,rfl,rfl,rfl,?_⟩
  have e1 : (fn.results.mapM (resOne a1.tmps)).run P w2 = .ok xs.toArray w2 := by
   rw [Array.mapM_eq_mapM_toList]
   simp only [Sem.run_map,hrun]
   rfl
  show (do let vs <- fn.results.mapM (resOne a1.tmps); pure (if h : vs.size = 1 then vs[0] else .tuple vs) : Sem Value).run P w2 = _
  rw [Sem.run_bind,e1]
  rfl
end
end Go.Xr
namespace Go.Xr
open Go.RowKit
section
variable [RoLim] {P : Program} {rnd : Option Nat} {t : Tr V} {d : List XDef} {h : Heap}
omit [RoLim] in
theorem sr_setAll {μ : Mu} : ∀ {ps : List Nat} {args : List V} {args' : List Value} {t : Tr V} {tmps : Array Value},SR μ t tmps -> VRs μ args args' -> (∀ p ∈ ps,p < tmps.size) ->
  SR μ (setAll t ps args) ((ps.zip args').foldl (fun tmps (t,a) => tmps.setIfInBounds t a) tmps)
 | [],args,args',t,tmps,hs,_,_ => by
  show SR μ (setAll t [] args) tmps
  have : setAll t [] args = t := by cases args <;> rfl
  rw [this]
  exact hs
 | p :: ps,[],_,t,tmps,hs,hv,_ => by
  cases hv
  exact hs
 | p :: ps,v :: args,_,t,tmps,hs,hv,hp => by
  cases hv with
  | cons h1 h2 =>
   show SR μ (setAll (t.set p v) ps args) _
   refine sr_setAll (t := t.set p v) (tmps := tmps.setIfInBounds p _) ?_ h2 (fun q hq => by rw [Array.size_setIfInBounds]; exact hp q (List.mem_cons_of_mem _ hq))
   exact SR.put (a := { tmps := tmps,defers := [] }) (dst := some p) hs h1 (fun i hi => by cases hi; exact hp p (List.mem_cons_self ..))
omit [RoLim] in
theorem foldl_zip_size : ∀ (l : List (Nat × Value)) (tmps : Array Value),(l.foldl (fun tmps (t,a) => tmps.setIfInBounds t a) tmps).size = tmps.size
 | [],_ => rfl
 | (p,x) :: l,tmps => by
  show (l.foldl (fun tmps (t,a) => tmps.setIfInBounds t a) (tmps.setIfInBounds p x)).size = _
  rw [foldl_zip_size l,Array.size_setIfInBounds]
theorem round_of_code {o : Nat} {args : List V} {jump : Option (Option Nat)} {ps : List Nat} {as bo : XCode} {kk : Nat} {Q : V -> Heap -> Prop} (hg : h.get o = some (.loop .ready jump t ps as bo kk)) (hlen : args.length = ps.length)
  (hw : CodeWP P as (some o) (setAll t ps args) [] h fun e t1 d1 h1 => e = .normal /\ d1 = [] /\ ∃ j1 t0 ps0 as0 bo0 k0,h1.get o = some (.loop .ready j1 t0 ps0 as0 bo0 k0) /\
   CodeWP P bo (some o) t1 [] (h1.put o (.loop .busy j1 t0 ps0 as0 bo0 k0)) fun e _ _ h2 => ∃ s2 j2 t3 ps3 as3 bo3 k3,h2.get o = some (.loop s2 j2 t3 ps3 as3 bo3 k3) /\
    Q (.bool (isNorm e)) (h2.put o (.loop (stateOf e) (jumpOf e) t3 ps3 as3 bo3 k3))) : RoundWP P o args h Q := by
 intro K w0 μ w args' l c cs R hv hl
 obtain ⟨l',hl',r,hb,hr⟩ := (R.obj o _ hg).2
 rw [hl] at hl'
 cases hl'
 obtain ⟨n,n1,n2,n3,n4⟩ := hr.code
 have hobj : (getObj l.blk).run P w = .ok (.loop r) w := run_getObj hb (fun _ _ _ q => by cases q)
 have hsz : args'.toArray.size = r.params.size := by
  have e1 := hv.length
  have e2 := congrArg List.length hr.params
  simp only [Array.length_toList] at e2
  simp
  omega
 let tm := (ps.zip args').foldl (fun tmps (t,a) => tmps.setIfInBounds t a) r.tmps
 have hy : (Instr.yield l.blk args'.toArray).run P w = .ok (.round l.blk r.fn tm r.assign r.body) w := by
  have e3 : (r.params.zip args'.toArray).foldl (fun tmps (t,a) => tmps.setIfInBounds t a) r.tmps = tm := by
   rw [<- Array.foldl_toList]
   simp only [Array.toList_zip,hr.params]
   rfl
  have e4 : ¬ (args'.length ≠ r.params.size) := fun q => q (by simpa using hsz)
  unfold Instr.yield Instr.getLoop
  simp only [Sem.run_bind,hobj,Result.andThen_ok,Sem.run_pure,List.size_toArray,if_neg e4]
  rw [e3]
 refine ⟨r.fn,tm,r.assign,r.body,hy,?_⟩
 let b : Frame := { (default : Frame) with fn := r.fn,kind := .normal,roundOf := some l.blk }
 have hfr : Frame.round l.blk r.fn tm r.assign r.body .normal = fat b { tmps := tm,defers := [] } [.code r.assign,.beginRound,.code r.body] := by simp [Frame.round,fat,b]
 rw [hfr]
 have htm : tm.size = r.tmps.size := foldl_zip_size _ _
 have hp : ∀ p ∈ ps,p < r.tmps.size := fun p hp => Nat.lt_of_lt_of_le (n4 p hp) n1
 obtain ⟨e,t1,d1,h1,μ1,a1,w1,⟨rfl,rfl,j1,t0,ps0,as0,bo0,k0,hg1,hw2⟩,r1,r2⟩ := hw K w0 μ w b { tmps := tm,defers := [] } [.beginRound,.code r.body] (c :: cs) n r.assign n2 (by rw [htm]; exact n1) ⟨l,hl,rfl⟩ R (sr_setAll hr.tmps hv hp) .nil
 -- the round begins
 obtain ⟨l1,hl1,r',hb1,hr1⟩ := (r1.rel.obj o _ hg1).2
 have hl1' := r1.le _ _ _ hl
 rw [hl1'] at hl1
 cases hl1
 have hlt1 := (r1.rel.dom o 0 l hl1').2
 have s1 := fat_beginRound (P := P) (b := b) (a := a1) (k := [.code r.body]) (cs := c :: cs) rfl hb1 hr1.state
 have R1 : Rel P K w0 μ1 (h1.put o (.loop .busy j1 t0 ps0 as0 bo0 k0)) { w1 with heap := w1.heap.setIfInBounds l.blk (.loop { r' with state := .busy }) } := by
  refine r1.rel.turn hg1 rfl (fun q => q) (fun g q => q) (fun g q => q) hl1' ⟨l,hl1',_,set_at hlt1,⟨rfl,hr1.jump,hr1.tmps,hr1.code,hr1.params,hr1.defers⟩⟩ (fun oi mo ins seen cur kd es ins' e1 e2 e3 => ?_)
  rw [Heap.get_put] at e1 e2
  rcases e3 with rfl | rfl
  ·simp at e1
  ·simp at e2
 obtain ⟨e,t2,d2,h2,μ2,a2,w2,⟨s2,j2,t3,ps3,as3,bo3,k3,hg2,q⟩,p1,p2⟩ := hw2 K w0 μ1 _ b a1 [] (c :: cs) n r.body n3 (by rw [r1.size,htm]; exact n1) ⟨l,hl1',rfl⟩ R1 r1.sr r1.dr
 obtain ⟨l2,hl2,r'',hb2,hr2⟩ := (p1.rel.obj o _ hg2).2
 have hl2' := p1.le _ _ _ hl1'
 rw [hl2'] at hl2
 cases hl2
 have hlt2 := (p1.rel.dom o 0 l hl2').2
 have fin : ∀ (todo : List Item) (jmp : Option Code),Ends todo jmp -> jumpR (jumpOf e) jmp -> (stateOf e = if jmp.isNone then .ready else .done) -> (isNorm e = jmp.isNone) ->
   Steps P (lone (fat b a1 [.code r.body]) (c :: cs) { w1 with heap := w1.heap.setIfInBounds l.blk (.loop { r' with state := .busy }) }) (lone (fat b a2 todo) (c :: cs) w2) ->
   ∃ v h' μ' w' x,Q v h' /\ Aft P K w0 μ μ' v h' x w' /\ Steps P (lone (fat b { tmps := tm,defers := [] } [.code r.assign,.beginRound,.code r.body]) (c :: cs) w) (lone (c.finish x) cs w') := by
  intro todo jmp he hj hst hbo hsteps
  have s3 := fat_endRound (P := P) (b := b) (a := a2) (cs := cs) (c := c) rfl rfl hb2 he
  have R2 : Rel P K w0 μ2 (h2.put o (.loop (stateOf e) (jumpOf e) t3 ps3 as3 bo3 k3)) { w2 with heap := w2.heap.setIfInBounds l.blk (.loop { r'' with state := if jmp.isNone then .ready else .done,pending := jmp }) } := by
   refine p1.rel.turn hg2 rfl (fun q => q) (fun g q => q) (fun g q => q) hl2' ⟨l,hl2',_,set_at hlt2,⟨hst.symm,hj,hr2.tmps,hr2.code,hr2.params,hr2.defers⟩⟩ (fun oi mo ins seen cur kd es ins' e1 e2 e3 => ?_)
   rw [Heap.get_put] at e1 e2
   rcases e3 with rfl | rfl
   ·simp at e1
   ·simp at e2
  exact ⟨_,_,μ2,_,.bool jmp.isNone,q,⟨Mu.le_trans r1.le p1.le,R2,by rw [hbo]; exact .bool _⟩,Steps.trans r2 (.head s1 (Steps.trans hsteps (.one s3)))⟩
 cases e with
 | normal => exact fin [] none .nil trivial rfl rfl p2
 | ret =>
  obtain ⟨k0',p2⟩ := p2
  exact fin _ (some .ret) (.ret k0') trivial rfl rfl p2
 | exit id =>
  obtain ⟨k0',p3,p2⟩ := p2
  exact fin _ (some (.exit id)) (.exit id k0' (by rw [p3]; rfl)) rfl rfl rfl p2
theorem code_rangeFunc {f : Opd} {ps : List Nat} {as bo : XCode} {h1 : Heap} {d1 : List XDef} {kk : Nat} {Q : XExit -> Tr V -> List XDef -> Heap -> Prop} (hbeg : begunV rnd d h = some (h1,d1,kk))
  (hw : ApplyWP P (rd t f) [.yield h1.next] (h1.push (.loop .ready none t ps as bo kk)) fun _ h2 => ∃ s jump t' ps' as' bo' k',h2.get h1.next = some (.loop s jump t' ps' as' bo' k') /\ s ≠ .busy /\
   match jump with
   | none => Q .normal t d1 (h2.put h1.next (.dead false))
   | some none => Q .ret t d1 (h2.put h1.next (.dead false))
   | some (some id) => Q (.exit id) t d1 (h2.put h1.next (.dead false))) : CodeWP P (.rangeFunc f ps as bo) rnd t d h Q := by
 intro K w0 μ w b a k cs n c' hc hn hr R hs hd
 have hx : ∃ f' ps' as' bo',c' = .rangeFunc f' ps' as' bo' /\ opd f' = some f /\ ps'.toList = ps /\ compCode P n as' = some as /\ compCode P n bo' = some bo /\ ∀ p ∈ ps,p < n := by
  cases c' <;> simp only [compCode] at hc
  case rangeFunc f' ps' as' bo' =>
   split at hc <;> try (simp at hc; done)
   rename_i f1 as1 bo1 e1 e2 e3
   split at hc <;> simp at hc
   rename_i e4
   obtain ⟨rfl,rfl,rfl,rfl⟩ := hc
   refine ⟨f',ps',as',bo',rfl,e1,rfl,e2,e3,fun p hp => ?_⟩
   rw [List.all_eq_true] at e4
   exact Nat.le_of_ble_eq_true (e4 p hp)
  all_goals (exfalso; (repeat' (split at hc)) <;> first | (simp at hc; done) | (obtain ⟨_,ls,hls⟩ := compRegion_form hc; cases hls))
 obtain ⟨f',ps',as',bo',rfl,e1,rfl,e2,e3,e4⟩ := hx
 -- the block for deferred calls
 have B : ∃ μ1 w1 mark lk,μ.le μ1 /\ Rel P K w0 μ1 h1 w1 /\ DRs μ1 d1 (mark ++ a.defers) /\ μ1 kk 0 = some lk /\
   (Instr.enterLoop b.fn a.tmps ps' as' bo' b.roundOf).run P w = .ok (w1.heap.size,mark) (w1.alloc (.loop { state := .ready,pending := none,fn := b.fn,tmps := a.tmps,params := ps',assign := as',body := bo',defers := lk.blk })) := by
  cases rnd with
  | none =>
   simp only [begunV,Option.some.injEq,Prod.mk.injEq] at hbeg
   obtain ⟨rfl,rfl,rfl⟩ := hbeg
   have hro : b.roundOf = none := by cases hb : b.roundOf with | none => rfl | some l => rw [hb] at hr; exact hr.elim
   refine ⟨μ.put h.next 0 ⟨w.heap.size,0,0,1⟩,w.alloc (.deferred (some [])),[{ target := .collected w.heap.size,args := #[] }],⟨w.heap.size,0,0,1⟩,Mu.le_put _ (R.fresh 0),?_,?_,Mu.put_same ..,?_⟩
   ·exact R.push (w' := w.alloc (.deferred (some []))) (.deferred false) ⟨w.heap.size,0,0,1⟩ rfl rfl rfl rfl rfl rfl ⟨_,Mu.put_same ..,(by show (w.heap.push _)[w.heap.size]? = _; simp)⟩ (fun _ _ _ _ _ _ _ q => by cases q)
   ·exact .coll (Mu.put_same ..) (hd.mono (Mu.le_put _ (R.fresh 0)))
   ·rw [hro]
    simp only [Instr.enterLoop,Sem.run_bind]
    rfl
  | some o =>
   simp only [begunV] at hbeg
   split at hbeg <;> simp at hbeg
   rename_i s j t0 p0 a0 b0 k0 hg
   obtain ⟨rfl,rfl,rfl⟩ := hbeg
   cases hb : b.roundOf with
   | none => rw [hb] at hr; exact hr.elim
   | some blk =>
    rw [hb] at hr
    obtain ⟨l,hl,rfl⟩ := hr
    obtain ⟨l',hl',r,hbk,hrr⟩ := (R.obj o _ hg).2
    rw [hl] at hl'
    cases hl'
    obtain ⟨lk,hlk,hdef⟩ := hrr.defers
    refine ⟨μ,w,[],lk,Mu.le_refl μ,R,hd,hlk,?_⟩
    have hobj : (getObj l.blk).run P w = .ok (.loop r) w := run_getObj hbk (fun _ _ _ q => by cases q)
    simp only [Instr.enterLoop,Instr.getLoop,Sem.run_bind,hobj,Result.andThen_ok,Sem.run_pure,hdef]
    rfl
 obtain ⟨μ1,w1,mark,lk,m1,R1,D1,hk1,hrun⟩ := B
 let μ2 := μ1.put h1.next 0 ⟨w1.heap.size,0,0,1⟩
 have m2 : μ1.le μ2 := Mu.le_put _ (R1.fresh 0)
 have R2 : Rel P K w0 μ2 (h1.push (.loop .ready none t ps'.toList as bo kk)) (w1.alloc (.loop { state := .ready,pending := none,fn := b.fn,tmps := a.tmps,params := ps',assign := as',body := bo',defers := lk.blk })) := by
  refine R1.push (w' := w1.alloc _) _ ⟨w1.heap.size,0,0,1⟩ rfl rfl rfl rfl rfl rfl ?_ (fun _ _ _ _ _ _ _ q => by cases q)
  refine ⟨_,Mu.put_same .., { state := .ready,pending := none,fn := b.fn,tmps := a.tmps,params := ps',assign := as',body := bo',defers := lk.blk },(by show (w1.heap.push _)[w1.heap.size]? = _; simp),⟨rfl,trivial,(hs.mono m1).mono m2,⟨n,hn,e2,e3,e4⟩,rfl,⟨lk,m2 _ _ _ hk1,rfl⟩⟩⟩
 have hfv : VR μ2 (rd t f) (a.eval f') := (opd_VR hs e1).mono (Mu.le_trans m1 m2)
 obtain ⟨nx,fr,q1,q2,v,h2,μ3,w3,x,⟨s,jump,t',ps2,as2,bo2,k2,hg2,hsb,hQ⟩,r1,r2⟩ := hw K w0 μ2 _ (a.eval f') #[.func (.yield w1.heap.size) #[] #[]] (fat b { a with defers := mark ++ a.defers } (.inRangeFunc w1.heap.size :: k)) cs R2 hfv
  (by
   have : VR μ2 (.yield h1.next) (.func (.yield w1.heap.size) #[] #[]) := VR.yield (l := ⟨w1.heap.size,0,0,1⟩) (Mu.put_same ..)
   exact .cons this .nil)
 have s1 := fat_rangeFunc (P := P) (b := b) (a := a) (k := k) (cs := cs) hrun q1 q2
 rw [finish_rangeFunc] at r2
 obtain ⟨l3,hl3,r,hb3,hr3⟩ := (r1.rel.obj h1.next _ hg2).2
 have hl3' : μ3 h1.next 0 = some ⟨w1.heap.size,0,0,1⟩ := r1.le _ _ _ (Mu.put_same ..)
 rw [hl3'] at hl3
 cases hl3
 have hlt3 := (r1.rel.dom h1.next 0 _ hl3').2
 have s2 := fat_endLoop (P := P) (b := b) (a := { a with defers := mark ++ a.defers }) (k := k) (cs := cs) hb3 (by rw [hr3.state]; exact hsb)
 have R3 : Rel P K w0 μ3 (h2.put h1.next (.dead false)) { w3 with heap := w3.heap.setIfInBounds w1.heap.size (.loop { r with state := .exhausted }) } := by
  refine r1.rel.turn (x1 := .dead false) (obj := .loop { r with state := .exhausted }) hg2 rfl (fun q => q) (fun g q => q.elim) (fun g q => q) hl3' trivial (fun oi mo ins seen cur kd es ins' e1 e2 e3 => ?_)
  rw [Heap.get_put] at e1 e2
  rcases e3 with rfl | rfl
  ·simp at e1
  ·simp at e2
 have m3 : μ.le μ3 := Mu.le_trans m1 (Mu.le_trans m2 r1.le)
 have E : Env P K w0 μ μ3 t d1 (h2.put h1.next (.dead false)) a.tmps.size { a with defers := mark ++ a.defers } { w3 with heap := w3.heap.setIfInBounds w1.heap.size (.loop { r with state := .exhausted }) } :=
  ⟨m3,R3,hs.mono m3,D1.mono (Mu.le_trans m2 r1.le),rfl⟩
 have hst := Steps.head s1 (Steps.trans r2 (.one s2))
 have hj := hr3.jump
 cases jump with
 | none =>
  cases hp : r.pending with
  | some _ => rw [hp] at hj; exact hj.elim
  | none =>
   rw [show (r.pending.map Item.code).toList ++ k = k by rw [hp]; rfl] at hst
   exact ⟨.normal,t,d1,_,μ3,_,_,hQ,E,hst⟩
 | some j =>
  cases j with
  | none =>
   cases hp : r.pending with
   | none => rw [hp] at hj; exact hj.elim
   | some c =>
    rw [hp] at hj
    cases c <;> simp only [jumpR] at hj
    rw [show (r.pending.map Item.code).toList ++ k = .code .ret :: k by rw [hp]; rfl] at hst
    exact ⟨.ret,t,d1,_,μ3,_,_,hQ,E,k,hst⟩
  | some id =>
   cases hp : r.pending with
   | none => rw [hp] at hj; exact hj.elim
   | some c =>
    rw [hp] at hj
    cases c <;> simp only [jumpR] at hj
    subst hj
    rw [show (r.pending.map Item.code).toList ++ k = .code (.exit id) :: k by rw [hp]; rfl] at hst
    exact ⟨.exit id,t,d1,_,μ3,_,_,hQ,E,k,rfl,hst⟩
end
end Go.Xr
namespace Go.Xr
open Go.RowKit
def TaskOk [RoLim] (P : Program) : Task -> Out -> Prop
 | .code c rnd t d h,.code e t' d' h' => CodeWP P c rnd t d h fun e1 t1 d1 h1 => e1 = e /\ t1 = t' /\ d1 = d' /\ h1 = h'
 | .call dk f args h,.call v h' => CallWP P dk f args h fun v1 h1 => v1 = v /\ h1 = h'
 | .round o args h,.call v h' => RoundWP P o args h fun v1 h1 => v1 = v /\ h1 = h'
 | .defers d h,.heap h' => DefersWP P d h fun h1 => h1 = h'
 | _,_ => False
def Sound [RoLim] (P : Program) (ih : Task -> Option Out) : Prop := ∀ k r,ih k = some r -> TaskOk P k r
def ProgOk (P : Program) (X : XProg) : Prop :=
 ∀ f xf,X.funcs.get f = some xf -> ∃ fn,P.funcs[f]? = some fn /\ fn.name ≠ "runtime.NumGoroutine" /\ cmF P fn = some xf
def HookOk [RoLim] (P : Program) (hook : Task -> Option Out) : Prop := Sound P hook
section
variable [RoLim] {P : Program} {ih : Task -> Option Out}
theorem apply_sound (S : Sound P ih) {f : V} {args : List V} {h h' : Heap} {v : V} (ha : applyF ih f args h = some (v,h')) : ApplyWP P f args h fun v1 h1 => v1 = v /\ h1 = h' := by
 unfold applyF at ha
 split at ha
 ·split at ha <;> simp at ha
  rename_i v1 h1 e
  obtain ⟨rfl,rfl⟩ := ha
  exact apply_call (S _ _ e)
 ·split at ha <;> simp at ha
  rename_i v1 h1 e
  obtain ⟨rfl,rfl⟩ := ha
  exact apply_round (S _ _ e)
 ·cases ha
theorem invoke_sound (S : Sound P ih) {s : XStep} {rnd : Option Nat} {t : Tr V} {d : List XDef} {h h' : Heap} {x : Opd} {rows : List (Nat × Nat × Option (Bool × Nat))} {args : List Opd} {v : V} (hw : wantedV t s.guard = some true) (hs : s.op = .invoke x rows args)
  (ha : invokeF ih (rd t x) rows (vals (rd t) args) h = some (v,h')) : StepWP P s rnd t d h fun v1 d1 h1 => v1 = v /\ d1 = d /\ h1 = h' := by
 unfold invokeF at ha
 split at ha <;> try (cases ha; done)
 rename_i ty y hx
 split at ha <;> try (cases ha; done)
 rename_i f r hr
 split at ha <;> try (cases ha; done)
 rename_i z hz
 split at ha <;> simp at ha
 rename_i v1 h1 e
 obtain ⟨rfl,rfl⟩ := ha
 exact step_invoke hw hs hx hr hz ((S _ _ e : CallWP P false f _ _ _).mono fun v h1 ⟨e1,e2⟩ => ⟨e1,rfl,e2⟩)
theorem steps_sound (S : Sound P ih) : StepsOk P ih := by
 intro s rnd t d h v d1 h1 hr
 unfold runStep at hr
 split at hr
 ·cases hr
 ·rename_i hw
  simp only [Option.some.injEq,Prod.mk.injEq] at hr
  obtain ⟨rfl,rfl,rfl⟩ := hr
  exact step_skipped hw ⟨rfl,rfl,rfl⟩
 ·rename_i hw
  simp only at hr
  split at hr
  ·rename_i f args e
   split at hr <;> simp at hr
   rename_i v' h' ha
   obtain ⟨rfl,rfl,rfl⟩ := hr
   exact step_call hw e ((apply_sound S ha).mono fun v1 h1 ⟨e1,e2⟩ => ⟨e1,rfl,e2⟩)
  ·rename_i f args e
   split at hr <;> simp at hr
   rename_i g first caps hf
   obtain ⟨rfl,rfl,rfl⟩ := hr
   exact step_defers hw e hf ⟨rfl,rfl,rfl⟩
  ·rename_i it e
   split at hr <;> simp at hr
   rename_i v' h' hn
   obtain ⟨rfl,rfl,rfl⟩ := hr
   unfold nextEv at hn
   split at hn <;> try (simp at hn; done)
   rename_i oi hoi
   split at hn <;> try (simp at hn; done)
   ·rename_i ins seen cur hg
    simp at hn
    obtain ⟨rfl,rfl⟩ := hn
    exact step_next_nil hw e hoi hg ⟨rfl,rfl,rfl⟩
   ·rename_i m ins seen cur hg
    split at hn <;> try (simp at hn; done)
    rename_i kd es ins' hgm
    split at hn <;> try (simp at hn; done)
    ·rename_i e1 e2
     have e1 := Nat.eq_of_beq_eq_true e1
     subst e1
     simp at hn
     obtain ⟨rfl,rfl⟩ := hn
     exact step_next hw e hoi hg hgm (fun _ => ⟨rfl,rfl,rfl⟩) (fun k v hk => by rw [e2] at hk; cases hk)
    ·rename_i k v1 e1 e2
     have e1 := Nat.eq_of_beq_eq_true e1
     subst e1
     simp at hn
     obtain ⟨rfl,rfl⟩ := hn
     refine step_next hw e hoi hg hgm (fun h0 => by rw [e2] at h0; cases h0) (fun k' v' hk => ?_)
     rw [e2] at hk
     simp at hk
     obtain ⟨rfl,rfl⟩ := hk
     exact ⟨rfl,rfl,rfl⟩
  ·rename_i x rows args e
   split at hr <;> simp at hr
   rename_i v' h' ha
   obtain ⟨rfl,rfl,rfl⟩ := hr
   exact invoke_sound S hw e ha
  ·split at hr <;> simp at hr
   rename_i v' h' he
   obtain ⟨rfl,rfl,rfl⟩ := hr
   exact step_op hw he ⟨rfl,rfl,rfl⟩
variable {X : XProg} {hook : Task -> Option Out}
theorem evStep_sound (hmix : P.follows .mixedOrders = true) (HX : ProgOk P X) (HH : HookOk P hook) (S : Sound P ih) : Sound P (evStep X hook ih) := by
 intro k r hk
 cases k with
 | code c rnd t d h =>
  cases c with
  | skip => simp only [evStep,Option.some.injEq] at hk; subst hk; exact code_skip ⟨rfl,rfl,rfl,rfl⟩
  | exit id => simp only [evStep,Option.some.injEq] at hk; subst hk; exact code_exit ⟨rfl,rfl,rfl,rfl⟩
  | ret => simp only [evStep,Option.some.injEq] at hk; subst hk; exact code_ret ⟨rfl,rfl,rfl,rfl⟩
  | region dr ls =>
   simp only [evStep] at hk
   split at hk <;> simp at hk
   rename_i t2 d2 h2 hr
   subst hk
   exact code_region (steps_sound S) hmix hr ⟨rfl,rfl,rfl,rfl⟩
  | seq a b =>
   simp only [evStep] at hk
   split at hk
   ·rename_i t1 d1 h1 ha
    have hb := S _ _ hk
    cases r with
    | code e t' d' h' =>
     refine code_seq (CodeWP.mono (S _ _ ha) fun e t1 d1 h1 ⟨e1,e2,e3,e4⟩ => ?_)
     subst e1; subst e2; subst e3; subst e4
     exact hb
    | call v h' => exact hb.elim
    | heap h' => exact hb.elim
   ·rename_i e t1 d1 h1 hne ha
    simp only [Option.some.injEq] at hk
    subst hk
    refine code_seq (CodeWP.mono (S _ _ ha) fun e' t1 d1 h1 ⟨e1,e2,e3,e4⟩ => ?_)
    subst e1; subst e2; subst e3; subst e4
    cases e' with
    | normal => exact (hne rfl).elim
    | exit id => exact ⟨rfl,rfl,rfl,rfl⟩
    | ret => exact ⟨rfl,rfl,rfl,rfl⟩
   ·cases hk
  | cond c a b =>
   simp only [evStep] at hk
   have main : ∀ v,rd t c = .bool v -> ih (.code (if v then a else b) rnd t d h) = some r -> TaskOk P (.code (.cond c a b) rnd t d h) r := by
    intro v hc hi
    have hb := S _ _ hi
    cases r with
    | code e t' d' h' => exact code_cond hc hb
    | call v h' => exact hb.elim
    | heap h' => exact hb.elim
   split at hk
   ·exact main true (by assumption) hk
   ·exact main false (by assumption) hk
   ·cases hk
  | block id a =>
   simp only [evStep] at hk
   split at hk
   ·rename_i i t1 d1 h1 ha
    have hb := S _ _ ha
    split at hk
    ·rename_i hi
     simp only [Option.some.injEq] at hk
     subst hk
     refine code_block (CodeWP.mono hb fun e t1 d1 h1 ⟨e1,e2,e3,e4⟩ => ?_)
     subst e1; subst e2; subst e3; subst e4
     exact ⟨fun _ => ⟨rfl,rfl,rfl,rfl⟩,fun hne => absurd (Nat.eq_of_beq_eq_true hi) hne⟩
    ·rename_i hi
     simp only [Option.some.injEq] at hk
     subst hk
     refine code_block (CodeWP.mono hb fun e t1 d1 h1 ⟨e1,e2,e3,e4⟩ => ?_)
     subst e1; subst e2; subst e3; subst e4
     exact ⟨fun he => absurd he (nat_beq_ne hi),fun _ => ⟨rfl,rfl,rfl,rfl⟩⟩
   ·rename_i hne
    have hb := S _ _ hk
    cases r with
    | code e t' d' h' =>
     refine code_block (CodeWP.mono hb fun e1' t1 d1 h1 ⟨e1,e2,e3,e4⟩ => ?_)
     subst e1; subst e2; subst e3; subst e4
     cases e1' with
     | normal => exact ⟨rfl,rfl,rfl,rfl⟩
     | exit i => exact absurd hk (hne _ _ _ _)
     | ret => exact ⟨rfl,rfl,rfl,rfl⟩
    | call v h' => exact hb.elim
    | heap h' => exact hb.elim
  | loop a =>
   simp only [evStep] at hk
   split at hk
   ·rename_i r' hh
    simp only [Option.some.injEq] at hk
    subst hk
    exact HH _ _ hh
   split at hk
   ·rename_i t1 d1 h1 ha
    have hb := S _ _ hk
    cases r with
    | code e t' d' h' =>
     refine code_loop (CodeWP.mono (S _ _ ha) fun e1' t1 d1 h1 ⟨e1,e2,e3,e4⟩ => ?_)
     subst e1; subst e2; subst e3; subst e4
     exact hb
    | call v h' => exact hb.elim
    | heap h' => exact hb.elim
   ·rename_i hne
    have hb := S _ _ hk
    cases r with
    | code e t' d' h' =>
     refine code_loop (CodeWP.mono hb fun e1' t1 d1 h1 ⟨e1,e2,e3,e4⟩ => ?_)
     subst e1; subst e2; subst e3; subst e4
     cases e1' with
     | normal => exact absurd hk (hne _ _ _)
     | exit i => exact ⟨rfl,rfl,rfl,rfl⟩
     | ret => exact ⟨rfl,rfl,rfl,rfl⟩
    | call v h' => exact hb.elim
    | heap h' => exact hb.elim
  | label => simp only [evStep,Option.some.injEq] at hk; subst hk; exact code_label ⟨rfl,rfl,rfl,rfl⟩
  | scope a =>
   simp only [evStep] at hk
   have hb := S _ _ hk
   cases r with
   | code e t' d' h' => exact code_scope hb
   | call v h' => exact hb.elim
   | heap h' => exact hb.elim
  | rangeFunc f ps as bo =>
   simp only [evStep] at hk
   split at hk
   ·cases hk
   ·rename_i h1 d1 kk hbeg
    split at hk
    ·cases hk
    ·rename_i v h2 ha
     split at hk <;> try (cases hk; done)
     rename_i s jump t' ps' as' bo' k' hg
     have fin : ∀ e,s ≠ .busy -> e = (match jump with | none => XExit.normal | some none => .ret | some (some id) => .exit id) -> r = .code e t d1 (h2.put h1.next (.dead false)) -> TaskOk P (.code (.rangeFunc f ps as bo) rnd t d h) r := by
      intro e hs he hr
      subst hr
      refine code_rangeFunc hbeg ((apply_sound S ha).mono fun v1 h1' ⟨e1,e2⟩ => ?_)
      subst e1; subst e2
      refine ⟨s,jump,t',ps',as',bo',k',hg,hs,?_⟩
      cases jump with
      | none => exact ⟨he.symm,rfl,rfl,rfl⟩
      | some j => cases j with
       | none => exact ⟨he.symm,rfl,rfl,rfl⟩
       | some id => exact ⟨he.symm,rfl,rfl,rfl⟩
     split at hk
     ·cases hk
     ·rename_i hs
      simp only [Option.some.injEq] at hk
      exact fin _ hs rfl hk.symm
     ·rename_i hs
      simp only [Option.some.injEq] at hk
      exact fin _ hs rfl hk.symm
     ·rename_i hs
      simp only [Option.some.injEq] at hk
      exact fin _ hs rfl hk.symm
 | call dk f args h =>
  simp only [evStep] at hk
  split at hk
  ·rename_i v hh
   simp only [Option.some.injEq] at hk
   subst hk
   exact HH _ _ hh
  ·split at hk
   ·cases hk
   ·rename_i fn hfn
    obtain ⟨fn',f1,f2,f3⟩ := HX f fn hfn
    split at hk <;> try (cases hk; done)
    rename_i e t1 d1 h1 hne hb
    split at hk <;> try (cases hk; done)
    rename_i h2 hd
    split at hk <;> simp at hk
    rename_i vs hvs
    subst hk
    refine call_of_code f1 f2 f3 (CodeWP.mono (S _ _ hb) fun e1' t1 d1 h1 ⟨e1,e2,e3,e4⟩ => ?_)
    subst e1; subst e2; subst e3; subst e4
    refine ⟨fun id he => ?_,?_⟩
    ·subst he
     exact hne _ rfl
    ·have hdd := S _ _ hd
     intro K w0 μ w fr cs hm R hds
     obtain ⟨h',μ',w',rfl,r⟩ := hdd K w0 μ w fr cs hm R hds
     exact ⟨h',μ',w',⟨vs,hvs,rfl,rfl⟩,r⟩
 | round o args h =>
  simp only [evStep] at hk
  split at hk <;> try (cases hk; done)
  rename_i jump t ps as bo kk hg
  split at hk <;> try (cases hk; done)
  rename_i hlen
  split at hk <;> try (cases hk; done)
  rename_i t1 h1 ha
  split at hk <;> try (cases hk; done)
  rename_i j1 t0 ps0 as0 bo0 k0 hg1
  split at hk <;> try (cases hk; done)
  rename_i e t2 d2 h2 hb
  split at hk <;> simp at hk
  rename_i s2 j2 t3 ps3 as3 bo3 k3 hg2
  subst hk
  refine round_of_code hg (Nat.eq_of_beq_eq_true hlen) (CodeWP.mono (S _ _ ha) fun e1' t1 d1 h1 ⟨e1,e2,e3,e4⟩ => ?_)
  subst e1; subst e2; subst e3; subst e4
  refine ⟨rfl,rfl,j1,t0,ps0,as0,bo0,k0,hg1,CodeWP.mono (S _ _ hb) fun e1' t1 d1 h1 ⟨e1,e2,e3,e4⟩ => ?_⟩
  subst e1; subst e2; subst e3; subst e4
  exact ⟨s2,j2,t3,ps3,as3,bo3,k3,hg2,rfl,rfl⟩
 | defers d h =>
  simp only [evStep] at hk
  split at hk
  ·simp only [Option.some.injEq] at hk
   subst hk
   exact defers_nil rfl
  ·rename_i f args ds
   split at hk <;> try (cases hk; done)
   rename_i v h1 hc
   have hd := S _ _ hk
   cases r with
   | heap h' => exact defers_call (CallWP.mono (S _ _ hc) fun v1 h1' ⟨e1,e2⟩ => by subst e1; subst e2; exact hd)
   | code e t' d' h' => exact hd.elim
   | call v h' => exact hd.elim
  ·rename_i o ds
   split at hk <;> try (cases hk; done)
   rename_i hg
   have hd := S _ _ hk
   cases r with
   | heap h' => exact defers_coll hg hd
   | code e t' d' h' => exact hd.elim
   | call v h' => exact hd.elim
omit [RoLim] in
def FuncOk (P : Program) (f : Nat) (xf : XFunc) : Prop := ∃ fn,P.funcs[f]? = some fn /\ (fn.name == "runtime.NumGoroutine") = false /\ cmF P fn = some xf
omit [RoLim] in
def Tr.AllAt {α : Type} (p : Nat -> α -> Prop) : Tr α -> Nat -> Nat -> Prop
 | .lf,_,_ => True
 | .nd l v r,a,b => (match v with | none => True | some x => p b x) /\ Tr.AllAt p l (2 * a) (a + b) /\ Tr.AllAt p r (2 * a) (2 * a + b)
omit [RoLim] in
theorem Tr.allAt_get {α : Type} {p : Nat -> α -> Prop} : ∀ {t : Tr α} {a b n : Nat} {x : α},Tr.AllAt p t a b -> t.get n = some x -> p (a * n + b) x
 | .lf,a,b,n,x,_,hg => by rw [Tr.get_lf] at hg; cases hg
 | .nd l v r,a,b,0,x,h,hg => by
  rw [Tr.get_nd_zero] at hg
  subst hg
  simpa [Tr.AllAt] using h.1
 | .nd l v r,a,b,n + 1,x,h,hg => by
  rw [Tr.get_nd_succ] at hg
  by_cases hm : n % 2 = 0
  ·rw [if_pos hm] at hg
   have := Tr.allAt_get h.2.1 hg
   have e : 2 * a * (n / 2) + (a + b) = a * (n + 1) + b := by
    have : n = 2 * (n / 2) := by omega
    have h2 : a * (n + 1) = a * (2 * (n / 2)) + a := by rw [<- this,Nat.mul_succ]
    have h3 : 2 * a * (n / 2) = a * (2 * (n / 2)) := by rw [Nat.mul_comm 2 a,Nat.mul_assoc]
    omega
   rwa [e] at this
  ·rw [if_neg hm] at hg
   have := Tr.allAt_get h.2.2 hg
   have e : 2 * a * (n / 2) + (2 * a + b) = a * (n + 1) + b := by
    have : n = 2 * (n / 2) + 1 := by omega
    have h2 : a * (n + 1) = a * (2 * (n / 2)) + a + a := by
     have h4 : n + 1 = 2 * (n / 2) + 1 + 1 := by omega
     rw [h4,Nat.mul_succ,Nat.mul_succ]
    have h3 : 2 * a * (n / 2) = a * (2 * (n / 2)) := by rw [Nat.mul_comm 2 a,Nat.mul_assoc]
    omega
   rwa [e] at this
omit [RoLim] in
theorem progOk_of {X : XProg} (h : Tr.AllAt (FuncOk P) X.funcs 1 0) : ProgOk P X := by
 intro f xf hf
 have := Tr.allAt_get h hf
 rw [Nat.one_mul,Nat.add_zero] at this
 obtain ⟨fn,h1,h2,h3⟩ := this
 exact ⟨fn,h1,by simpa using h2,h3⟩
theorem ev_sound (hmix : P.follows .mixedOrders = true) (HX : ProgOk P X) (HH : HookOk P hook) : ∀ n,Sound P (ev X hook n)
 | 0 => fun k r h => by simp [ev] at h
 | n + 1 => evStep_sound hmix HX HH (ev_sound hmix HX HH n)
theorem CallWP.calls {f : Nat} {args : List V} {h : Heap} {Q : V -> Heap -> Prop} (hw : CallWP P false f args h Q) {K : Nat -> Prop} {w0 : World} {μ : Mu} {w : World} {args' : Array Value} (R : Rel P K w0 μ h w) (hv : VRs μ args args'.toList) :
  Calls P f args' w fun e w' => ∃ v h' μ' x,Q v h' /\ Aft P K w0 μ μ' v h' x w' /\ e = .returned x := by
 obtain ⟨fn,h1,h2,h3⟩ := hw
 intro cs
 obtain ⟨v,h',μ',w',fr,x,q,r1,r2,r3,r4,r5,r6,r7⟩ := h3 K w0 μ w args'.toList cs R hv
 exact ⟨.returned x,w',fr,⟨v,h',μ',x,q,r1,rfl⟩,r2,r3,r4,r5,r6,fn,by rw [r3]; exact h1,r7⟩
theorem Rel.start (w : World) (hlim : RoLim.lim <= w.heap.size) : Rel P (fun b => b < w.heap.size) w (fun _ _ => none) ⟨.lf,0⟩ w := by
 have hn : ∀ o,(⟨.lf,0⟩ : Heap).get o = none := fun o => Tr.get_lf o
 have hl : ∀ o g, ¬ Live (⟨.lf,0⟩ : Heap) o g := fun o g ⟨x,h,_⟩ => by rw [hn] at h; cases h
 constructor
 ·intro o g l h; cases h
 ·intro o g l x h; cases h
 ·intro o x h; rw [hn] at h; cases h
 ·intro o mo ins seen cur kd es ins' h; rw [hn] at h; cases h
 ·intro o g l o' g' l' h; exact absurd h (hl o g)
 ·intro o g l h; exact absurd h (hl o g)
 ·exact fun b hb => ⟨hb,rfl⟩
 ·rfl
 ·rfl
 ·rfl
 ·exact Nat.le_refl _
 ·exact hlim
end
end Go.Xr
namespace Go.Xr
open Go.RowKit
section
variable [RoLim] {P : Program} {K : Nat -> Prop} {w0 : World} {μ μ2 : Mu} {h h2 : Heap} {w w2 : World}
theorem Rel.forget (R : Rel P K w0 μ h w) {o : Nat} {x : XObj} (hg : h.get o = some x) (many : Bool) (hm : many = false -> ∀ g,genX x g -> g = 0) : Rel P K w0 μ (h.put o (.dead many)) w := by
 refine R.step o (.dead many) (Mu.le_refl μ) (fun o' => Heap.get_put ..) (Nat.le_refl _) (R.obj o x hg).1 (Nat.le_refl _) (fun b _ => .inl rfl) (fun o' g l hm => .inl hm) (fun g l hl => hl.elim) (fun g l hml => ?_) trivial
  (fun oi mo ins seen cur kd es ins' e1 e2 e3 => ?_) rfl rfl rfl
 ·cases many with
  | true => trivial
  | false => exact hm rfl g (R.gens o g l x hml hg)
 ·rw [Heap.get_put] at e1 e2
  rcases e3 with rfl | rfl
  ·simp at e1
  ·simp at e2
end
end Go.Xr
namespace Go.Xr
open Go.RowKit
def nextLines (it : Opd) (tnx tok : Nat) : List XStep := [⟨.next it,some tnx,none⟩,⟨.extract (.slot tnx) 0,some tok,none⟩]
def mapLoop (it : Opd) (tnx tok L : Nat) (rest : XCode) : XCode :=
 .loop (.seq (.region false ((nextLines it tnx tok).map fun s => { step := s,again := [] })) (.seq (.cond (.slot tok) .skip (.exit L)) rest))
section
variable [RoLim] {P : Program} {rnd : Option Nat}
end
end Go.Xr
namespace Go.Xr
open Go.RowKit
def natsSame : List Nat -> List Nat -> Bool
 | [],[] => true
 | a :: x,b :: y => Nat.beq a b && natsSame x y
 | _,_ => false
def entriesSame : List (Int × V) -> List (Int × V) -> Bool
 | [],[] => true
 | (a,v) :: x,(b,w) :: y => decide (a = b) && (V.same v w && entriesSame x y)
 | _,_ => false
def XObj.same : XObj -> XObj -> Bool
 | .cells c,.cells c' => V.sames c.cs c'.cs && (Nat.beq c.g c'.g && (natsSame c.lens c'.lens && ((c.ro == c'.ro) && (Nat.beq c.esz c'.esz && (c.spare == c'.spare)))))
 | .map kd es ins,.map kd' es' ins' => kindEq kd kd' && (Nat.beq ins ins' && entriesSame es es')
 | .miter m ins seen cur,.miter m' ins' seen' cur' => decide (m = m') && (Nat.beq ins ins' && (decide (seen = seen') && decide (cur = cur')))
 | .deferred a,.deferred b => a == b
 | .dead a,.dead b => a == b
 | _,_ => false
def XDef.same : XDef -> XDef -> Bool
 | .call f a,.call g b => Nat.beq f g && V.sames a b
 | .collected a,.collected b => Nat.beq a b
 | _,_ => false
def vFits (v : V) : V -> Bool
 | .any => match v with
  | .agg _ => false
  | _ => true
 | w => V.same v w
theorem natsSame_eq : ∀ {a b : List Nat},natsSame a b = true -> a = b
 | [],[],_ => rfl
 | [],_ :: _,h => by simp [natsSame] at h
 | _ :: _,[],h => by simp [natsSame] at h
 | x :: a,y :: b,h => by
  simp [natsSame] at h
  rw [h.1,natsSame_eq h.2]
theorem entriesSame_eq : ∀ {a b : List (Int × V)},entriesSame a b = true -> a = b
 | [],[],_ => rfl
 | [],_ :: _,h => by simp [entriesSame] at h
 | _ :: _,[],h => by simp [entriesSame] at h
 | (x,v) :: a,(y,w) :: b,h => by
  simp [entriesSame] at h
  rw [h.1,V.same_eq _ _ h.2.1,entriesSame_eq h.2.2]
theorem XObj.same_eq {x y : XObj} (h : XObj.same x y = true) : x = y := by
 cases x <;> cases y <;> simp [XObj.same] at h
 case cells.cells a b =>
  cases a; cases b
  simp only at h
  obtain ⟨h1,h2,h3,h4,h5,h6⟩ := h
  rw [V.sames_eq _ _ h1,h2,natsSame_eq h3,h4,h5,h6]
 case map.map =>
  obtain ⟨h1,h2,h3⟩ := h
  rw [kindEq_eq h1,h2,entriesSame_eq h3]
 case miter.miter =>
  obtain ⟨h1,h2,h3,h4⟩ := h
  rw [h1,h2,h3,h4]
 case deferred.deferred => rw [h]
 case dead.dead => rw [h]
theorem XDef.same_eq {x y : XDef} (h : XDef.same x y = true) : x = y := by
 cases x <;> cases y <;> simp [XDef.same] at h
 ·rw [h.1,V.sames_eq _ _ h.2]
 ·rw [h]
section
variable {α : Type} {p : Option α -> Option α -> Bool}
end
theorem VR.loose {μ : Mu} {v w : V} {x : Value} (hv : VR μ v x) (hf : vFits v w = true) : VR μ w x := by
 have main : V.same v w = true -> VR μ w x := fun e => by rw [<- V.same_eq _ _ e]; exact hv
 cases w with
 | any =>
  refine .any ?_
  cases hv <;> first | rfl | (simp [vFits] at hf; done) | assumption
 | _ => exact main hf
def TFits (t t' : Tr V) : Prop := ∀ i,vFits (sO t i) (sO t' i) = true
theorem SR.loose {μ : Mu} {t t' : Tr V} {tmps : Array Value} (hs : SR μ t tmps) (hf : TFits t t') : SR μ t' tmps := fun i => (hs i).loose (hf i)
mutual
theorem V.same_refl : ∀ v : V,V.same v v = true
 | .int k n => by simp [V.same]; cases k <;> rfl
 | .bool a => by simp [V.same]
 | .str a => by simp [V.same]
 | .nilp => by simp [V.same]
 | .ptr a b c => by simp [V.same]
 | .nils => by simp [V.same]
 | .slice a b c d e => by simp [V.same]
 | .nilm => by simp [V.same]
 | .map a => by simp [V.same]
 | .nilf => by simp [V.same]
 | .func f x y => by simp [V.same,V.sames_refl]
 | .yield a => by simp [V.same]
 | .nili => by simp [V.same]
 | .iface t v => by simp [V.same,V.same_refl]
 | .iter a => by simp [V.same]
 | .agg a => by simp [V.same,V.sames_refl]
 | .tup a => by simp [V.same,V.sames_refl]
 | .any => by simp [V.same]
 | .hole a => by simp [V.same]
 | .stamp a => by simp [V.same]
theorem V.sames_refl : ∀ v : List V,V.sames v v = true
 | [] => by simp [V.sames]
 | v :: x => by simp [V.sames,V.same_refl,V.sames_refl]
end
theorem vFits_refl (v : V) : vFits v v = true := by
 cases v <;> first | (simp [vFits]; done) | (simp only [vFits]; exact V.same_refl _)
theorem TFits.refl (t : Tr V) : TFits t t := fun _ => vFits_refl _
def HeapW [RoLim] (P : Program) (h h' : Heap) : Prop := ∀ (K : Nat -> Prop) (w0 : World) (μ : Mu) (w : World),Rel P K w0 μ h w -> Rel P K w0 μ h' w
section
variable [RoLim] {P : Program}
theorem HeapW.refl (h : Heap) : HeapW P h h := fun _ _ _ _ R => R
theorem HeapW.trans {a b c : Heap} (h : HeapW P a b) (h' : HeapW P b c) : HeapW P a c := fun _ _ _ _ R => h' _ _ _ _ (h _ _ _ _ R)
theorem HeapW.of {h h' : Heap} (hn : h.next <= h'.next) (hg : ∀ o,h'.get o = h.get o \/ h'.get o = none \/ (h'.get o = some (.dead true) /\ o < h'.next)) : HeapW P h h' := by
 intro K w0 μ w R
 have hlive : ∀ o g,Live h' o g -> Live h o g /\ h'.get o = h.get o := by
  intro o g ⟨x,hx,hl⟩
  rcases hg o with e | e | ⟨e,_⟩
  ·exact ⟨⟨x,e ▸ hx,hl⟩,e⟩
  ·rw [e] at hx; cases hx
  ·rw [e] at hx; cases hx; exact hl.elim
 have hsome : ∀ o x,h'.get o = some x -> (∀ b,x ≠ .dead b) -> h.get o = some x := by
  intro o x hx hd
  rcases hg o with e | e | ⟨e,_⟩
  ·exact e ▸ hx
  ·rw [e] at hx; cases hx
  ·rw [e] at hx; cases hx; exact (hd _ rfl).elim
 refine ⟨fun o g l hm => ⟨Nat.lt_of_lt_of_le (R.dom o g l hm).1 hn,(R.dom o g l hm).2⟩,fun o g l x hm hx => ?_,fun o x hx => ?_,fun o mo ins seen cur kd es ins' h1 h2 => ?_,fun o g l o' g' l' hl hl' hm hm' e => ?_,fun o g l hl hm => ?_,R.kept,R.os,R.tape,R.output,R.size,R.low⟩
 ·rcases hg o with e | e | ⟨e,_⟩
  ·exact R.gens o g l x hm (e ▸ hx)
  ·rw [e] at hx; cases hx
  ·rw [e] at hx; cases hx; trivial
 ·rcases hg o with e | e | ⟨e,hlt⟩
  ·have := R.obj o x (e ▸ hx)
   exact ⟨Nat.lt_of_lt_of_le this.1 hn,this.2⟩
  ·rw [e] at hx; cases hx
  ·rw [e] at hx; cases hx; exact ⟨hlt,trivial⟩
 ·exact R.iters o mo ins seen cur kd es ins' (hsome _ _ h1 (fun b e => by cases e)) (hsome _ _ h2 (fun b e => by cases e))
 ·obtain ⟨a1,a2⟩ := hlive _ _ hl
  obtain ⟨b1,b2⟩ := hlive _ _ hl'
  unfold isRo
  rw [a2,b2]
  exact R.apart o g l o' g' l' a1 b1 hm hm' e
 ·obtain ⟨a1,a2⟩ := hlive _ _ hl
  unfold isRo
  rw [a2]
  exact R.own o g l a1 hm
theorem HeapW.of_get {h h' : Heap} (hn : h'.next = h.next) (hg : ∀ o,h'.get o = h.get o) : HeapW P h h' := HeapW.of (Nat.le_of_eq hn.symm) fun o => .inl (hg o)
theorem HeapW.forget {h : Heap} {o : Nat} {x : XObj} (hg : h.get o = some x) : HeapW P h (h.put o (.dead true)) := fun _ _ _ _ R => R.forget hg true (by simp)
variable {rnd : Option Nat} {t t2 : Tr V} {d : List XDef} {h h2 : Heap} {c : XCode} {Q Q' : XExit -> Tr V -> List XDef -> Heap -> Prop}
theorem CodeWP.weak (hw : CodeWP P c rnd t d h Q) (hq : ∀ e t1 d1 h1,Q e t1 d1 h1 -> ∃ t2 h2,TFits t1 t2 /\ HeapW P h1 h2 /\ Q' e t2 d1 h2) : CodeWP P c rnd t d h Q' := by
 intro K w0 μ w b a k cs n c' hc hn hr R hs hd
 obtain ⟨e,t',d',h',μ',a',w',q,r1,r2⟩ := hw K w0 μ w b a k cs n c' hc hn hr R hs hd
 obtain ⟨t2,h2,f1,f2,q2⟩ := hq _ _ _ _ q
 exact ⟨e,t2,d',h2,μ',a',w',q2,⟨r1.le,f2 _ _ _ _ r1.rel,r1.sr.loose f1,r1.dr,r1.size⟩,r2⟩
theorem CodeWP.pre (hw : CodeWP P c rnd t2 d h2 Q) (ht : TFits t t2) (hh : HeapW P h h2) : CodeWP P c rnd t d h Q := by
 intro K w0 μ w b a k cs n c' hc hn hr R hs hd
 exact hw K w0 μ w b a k cs n c' hc hn hr (hh _ _ _ _ R) (hs.loose ht) hd
theorem CallWP.weak {dk : Bool} {f : Nat} {args : List V} {Q Q' : V -> Heap -> Prop} (hw : CallWP P dk f args h Q) (hq : ∀ v h,Q v h -> ∃ v2 h2,vFits v v2 = true /\ HeapW P h h2 /\ Q' v2 h2) : CallWP P dk f args h Q' := by
 obtain ⟨fn,h1,h2,h3⟩ := hw
 refine ⟨fn,h1,h2,fun K w0 μ w args' cs R hv => ?_⟩
 obtain ⟨v,h',μ',w',fr,x,q,r1,r2⟩ := h3 K w0 μ w args' cs R hv
 obtain ⟨v2,h2,f1,f2,q2⟩ := hq _ _ q
 exact ⟨v2,h2,μ',w',fr,x,q2,⟨r1.le,f2 _ _ _ _ r1.rel,r1.val.loose f1⟩,r2⟩
theorem CallWP.pre {dk : Bool} {f : Nat} {args : List V} {Q : V -> Heap -> Prop} (hw : CallWP P dk f args h2 Q) (hh : HeapW P h h2) : CallWP P dk f args h Q := by
 obtain ⟨fn,h1,h2,h3⟩ := hw
 exact ⟨fn,h1,h2,fun K w0 μ w args' cs R hv => h3 K w0 μ w args' cs (hh _ _ _ _ R) hv⟩
end
end Go.Xr
namespace Go.Xr
open Go.RowKit
def parseNext : XCode -> Option (Opd × Nat × Nat)
 | .region false [⟨⟨.next it,some tnx,none⟩,[]⟩,⟨⟨.extract (.slot tnx') 0,some tok,none⟩,[]⟩] =>
  match Nat.beq tnx tnx' with
  | true => some (it,tnx,tok)
  | false => none
 | _ => none
def parseTest (tok : Nat) : XCode -> Option Nat
 | .cond (.slot tok') .skip (.exit L) =>
  match Nat.beq tok tok' with
  | true => some L
  | false => none
 | _ => none
def parseRest : XCode -> Option (Nat × List XLn × XCode)
 | .block B (.seq (.region false r2) body) => some (B,r2,body)
 | _ => none
structure MapLoop where
 it : Opd
 tnx : Nat
 tok : Nat
 L : Nat
 B : Nat
 r2 : List XLn
 body : XCode
def MapLoop.rest (m : MapLoop) : XCode := .block m.B (.seq (.region false m.r2) m.body)
def MapLoop.code (m : MapLoop) : XCode := mapLoop m.it m.tnx m.tok m.L m.rest
def parseLoop : XCode -> Option MapLoop
 | .loop (.seq a (.seq b c)) =>
  match parseNext a with
  | none => none
  | some (it,tnx,tok) => match parseTest tok b with
   | none => none
   | some L => match parseRest c with
    | none => none
    | some (B,r2,body) => some ⟨it,tnx,tok,L,B,r2,body⟩
 | _ => none
theorem parseNext_eq {c : XCode} {it : Opd} {tnx tok : Nat} (h : parseNext c = some (it,tnx,tok)) : c = .region false ((nextLines it tnx tok).map fun s => { step := s,again := [] }) := by
 unfold parseNext at h
 split at h
 ·split at h <;> simp at h
  rename_i e
  obtain ⟨rfl,rfl,rfl⟩ := h
  have e := Nat.eq_of_beq_eq_true e
  subst e
  rfl
 ·cases h
theorem parseTest_eq {c : XCode} {tok L : Nat} (h : parseTest tok c = some L) : c = .cond (.slot tok) .skip (.exit L) := by
 unfold parseTest at h
 split at h
 ·split at h <;> simp at h
  rename_i e
  subst h
  have e := Nat.eq_of_beq_eq_true e
  subst e
  rfl
 ·cases h
theorem parseRest_eq {c body : XCode} {B : Nat} {r2 : List XLn} (h : parseRest c = some (B,r2,body)) : c = .block B (.seq (.region false r2) body) := by
 unfold parseRest at h
 split at h <;> simp at h
 obtain ⟨rfl,rfl,rfl⟩ := h
 rfl
theorem parseLoop_eq {c : XCode} {m : MapLoop} (h : parseLoop c = some m) : c = m.code := by
 unfold parseLoop at h
 split at h
 ·split at h
  ·cases h
  ·rename_i h1
   split at h
   ·cases h
   ·rename_i h2
    split at h
    ·cases h
    ·rename_i h3
     simp only [Option.some.injEq] at h
     subst h
     rw [parseNext_eq h1,parseTest_eq h2,parseRest_eq h3]
     rfl
 ·cases h
def anyAll (t : Tr V) : List Nat -> Tr V
 | [] => t
 | i :: l => anyAll (t.set i .any) l
def orElse (a b : Task -> Option Out) (k : Task) : Option Out :=
 match a k with
 | some r => some r
 | none => b k
theorem orElse_sound [RoLim] {P : Program} {a b : Task -> Option Out} (ha : Sound P a) (hb : Sound P b) : Sound P (orElse a b) := by
 intro k r hk
 unfold orElse at hk
 split at hk
 ·simp only [Option.some.injEq] at hk
  subst hk
  exact ha _ _ (by assumption)
 ·exact hb _ _ hk
section
variable [RoLim] {P : Program}
theorem callWP_of_calls {f : Nat} {fn : Func} (hf : P.funcs[f]? = some fn) (hreal : Func.real fn) {args : List V} {h : Heap} {Q : V -> Heap -> Prop}
  (hc : ∀ (K : Nat -> Prop) (w0 : World) (μ : Mu) (w : World) (args' : List Value),Rel P K w0 μ h w -> VRs μ args args' ->
   Calls P f args'.toArray w fun e w' => ∃ v h' μ' x,Q v h' /\ Aft P K w0 μ μ' v h' x w' /\ e = .returned x) : CallWP P false f args h Q := by
 refine ⟨fn,hf,hreal,fun K w0 μ w args' cs R hv => ?_⟩
 obtain ⟨e,w',fr,⟨v,h',μ',x,q,r,rfl⟩,hst,hfn,hm,hd,hk,fn',hf',hr⟩ := hc K w0 μ w args' R hv cs
 subst hfn
 rw [hf] at hf'
 cases hf'
 exact ⟨v,h',μ',w',fr,x,q,r,hst,rfl,hm,hd,hk,hr⟩
end
section
variable [RoLim] {P : Program} {rnd : Option Nat}
theorem code_mapLoop1 {it : Opd} {tnx tok L : Nat} {rest : XCode} {t : Tr V} {d : List XDef} {h : Heap} {Q : XExit -> Tr V -> List XDef -> Heap -> Prop}
  (hstep : StepWP P ⟨.next it,some tnx,none⟩ rnd t d h fun v d' h' => d' = d /\ ∃ b r,v = .tup (.bool b :: r) /\
   (b = false -> Q (.exit L) ((t.set tnx v).set tok (.bool false)) d h') /\
   (b = true -> CodeWP P rest rnd ((t.set tnx v).set tok (.bool true)) d h' fun e t d h => match e with | .normal => CodeWP P (mapLoop it tnx tok L rest) rnd t d h Q | e => Q e t d h)) :
  CodeWP P (mapLoop it tnx tok L rest) rnd t d h Q := by
 refine code_loop (code_seq (code_plain ?_))
 refine hstep.mono fun v d' h' ⟨e1,b,r,e2,q0,q1⟩ => ?_
 subst e1; subst e2
 show StepWP P _ rnd _ _ _ _
 refine step_op (v := .bool b) (h' := h') rfl ?_ ?_
 ·simp [oEv,rd,putOpt,sSe]
 ·show CodeWP P (.seq (.cond (.slot tok) .skip (.exit L)) rest) rnd ((t.set tnx (.tup (.bool b :: r))).set tok (.bool b)) d' h' _
  have hc : rd ((t.set tnx (.tup (.bool b :: r))).set tok (.bool b)) (.slot tok) = .bool b := by simp [rd,sSe]
  refine code_seq (code_cond hc ?_)
  cases b with
  | true =>
   refine code_skip ?_
   refine (q1 rfl).mono fun e t2 d2 h2 q => ?_
   cases e with
   | normal => exact q
   | exit i => exact q
   | ret => exact q
  | false => exact code_exit (q0 rfl)
end
end Go.Xr

/- X, an executor of the program's compiled code, with its proof: part 5. -/
import Derived.Test.YtogolfiljijhlaaW3
import Derived.Shelf.SlMaps.Clone
/- Contracts of the kit at X's calls: maps.Clone. -/
namespace Go.Xr
open Go.RowKit Go.Proofs Go.Shelf

section
variable [RoLim] {P : Program} {ρ : Ren}

theorem clone_wp (L : SlLaysW.n5 P ρ) {fn : Func} (hf : P.funcs[ρ.f 5]? = some fn) (hreal : Func.real fn) {h : Heap} {o ins : Nat} {kd : IntKind} {es : List (Int × V)} (hg : h.get o = some (.map kd es ins)) :
    CallWP P false (ρ.f 5) [.map o] h fun v h' => v = .map h.next ∧ h' = h.push (.map kd es ins) := by
  refine callWP_of_calls hf hreal fun K w0 μ w args' R hv => ?_
  cases hv with
  | cons hv hnil =>
    cases hnil
    cases hv with
    | @map _ l hl =>
      obtain ⟨l', es', clock, q1, q2, q3⟩ := (R.obj o _ hg).2
      rw [hl] at q1
      cases q1
      refine (AnyW.maps_Clone L l.blk es' clock w q2).mono fun e w' ⟨e1, e2⟩ => ?_
      subst e2
      have hle := Mu.le_put (μ := μ) ⟨w.heap.size, 0, 0, 1⟩ (R.fresh 0)
      refine ⟨_, _, μ.put h.next 0 ⟨w.heap.size, 0, 0, 1⟩, _, ⟨rfl, rfl⟩, ⟨hle, R.push (w' := w.alloc (.map es' clock)) (.map kd es ins) ⟨w.heap.size, 0, 0, 1⟩ rfl rfl rfl rfl rfl rfl ?_ (fun _ _ _ _ _ _ _ q => by cases q), .map (Mu.put_same ..)⟩, e1⟩
      exact ⟨_, es', clock, Mu.put_same .., (by show (w.heap.push (Obj.map es' clock))[w.heap.size]? = _; simp), q3.mono hle⟩

theorem clone_nil_wp (L : SlLaysW.n5 P ρ) {fn : Func} (hf : P.funcs[ρ.f 5]? = some fn) (hreal : Func.real fn) {h : Heap} : CallWP P false (ρ.f 5) [.nilm] h fun v h' => v = .nilm ∧ h' = h := by
  refine callWP_of_calls hf hreal fun K w0 μ w args' R hv => ?_
  cases hv with
  | cons hv hnil =>
    cases hnil
    cases hv
    refine (AnyW.maps_Clone_nil L w).mono fun e w' ⟨e1, e2⟩ => ?_
    subst e2
    exact ⟨_, _, μ, _, ⟨rfl, rfl⟩, ⟨Mu.le_refl μ, R, .nilm⟩, e1⟩

omit [RoLim] in
/-- maps.Clone, for the function of this number. -/
def cloneHook (fC : Nat) : Task → Option Out
  | .call false f [v] h => match Nat.beq f fC with
    | false => none
    | true => match v with
      | .map o => match h.get o with
        | some (.map kd es ins) => some (.call (.map h.next) (h.push (.map kd es ins)))
        | _ => none
      | .nilm => some (.call .nilm h)
      | _ => none
  | _ => none

theorem cloneHook_sound (L : SlLaysW.n5 P ρ) {fn : Func} (hf : P.funcs[ρ.f 5]? = some fn) (hreal : Func.real fn) : HookOk P (cloneHook (ρ.f 5)) := by
  intro k r hk
  unfold cloneHook at hk
  split at hk
  · split at hk
    · cases hk
    · rename_i hb
      have e1 := Nat.eq_of_beq_eq_true hb
      subst e1
      split at hk
      · split at hk <;> try (cases hk; done)
        rename_i hg
        simp only [Option.some.injEq] at hk
        subst hk
        exact clone_wp L hf hreal hg
      · simp only [Option.some.injEq] at hk
        subst hk
        exact clone_nil_wp L hf hreal
      · cases hk
  · cases hk

omit [RoLim] in
noncomputable def cloneR (fC : Nat) (k : Task) : Option Out := Task.rec (motive := fun _ => Option Out) (fun _ _ _ _ _ => none) (fun dk f args h => Bool.rec none (cloneHook fC (.call dk f args h)) (Nat.beq f fC)) (fun _ _ _ => none) (fun _ _ => none) k
omit [RoLim] in
theorem cloneR_eq (fC : Nat) : cloneR fC = cloneHook fC := by
  funext k
  cases k with
  | call dk f args h =>
    show (Bool.rec none (cloneHook fC (.call dk f args h)) (Nat.beq f fC) : Option Out) = _
    cases hb : Nat.beq f fC with
    | true => rfl
    | false =>
      unfold cloneHook
      split
      · rename_i e
        cases e
        simp [hb]
      · rfl
  | _ => rfl
end
end Go.Xr
/- Forks: functions whose ranges over small maps are gone through in every order, each to the function's end, where the outcomes are made one. -/
namespace Go.Xr
open Go.RowKit

/-- What the function that forks comes to. -/
abbrev Ans := V × Heap
abbrev Kont := Out → Option Ans

def ansJoin (a b : Ans) : Ans := (a.1, hJoin a.2 b.2)
def ansFits (a b : Ans) : Bool := V.same a.1 b.1 && hFits a.2 b.2
def ansJoins : Ans → List Ans → Ans
  | r, [] => r
  | r, x :: l => ansJoins (ansJoin r x) l
def anssFit (r : Ans) : List Ans → Bool
  | [] => true
  | x :: l => ansFits x r && anssFit r l
def anssOf (f : Int → V → Option Ans) : List (Int × V) → Option (List Ans)
  | [] => some []
  | (k, v) :: r => match f k v with
    | none => none
    | some x => match anssOf f r with
      | some xs => some (x :: xs)
      | none => none
def oneAns : Option (List Ans) → Option Ans
  | some (r :: rs) => match anssFit (ansJoins r rs) (r :: rs) with
    | true => some (ansJoins r rs)
    | false => none
  | _ => none

section
variable (X : XProg) (det : Task → Option Out) (into : Nat → Bool) (ih : Task → Kont → Option Ans)

def onCall (k : V → Heap → Option Ans) : Kont
  | .call v h => k v h
  | _ => none

def applyC (f : V) (args : List V) (h : Heap) (k : V → Heap → Option Ans) : Option Ans :=
  match f with
  | .func f first caps => ih (.call false f (first ++ (args ++ caps)) h) (onCall k)
  | .yield o => ih (.round o args h) (onCall k)
  | _ => none

def stepC (s : XStep) (rnd : Option Nat) (t : Tr V) (d : List XDef) (h : Heap) (k : V → List XDef → Heap → Option Ans) : Option Ans :=
  match wantedV t s.guard with
  | none => none
  | some false => k .undef d h
  | some true => match s.op with
    | .call f args => applyC ih (rd t f) (vals (rd t) args) h fun v h => k v d h
    | _ => match runStep det s rnd t d h with
      | some (v, d, h) => k v d h
      | none => none

def stepsC (rnd : Option Nat) (k : Tr V → List XDef → Heap → Option Ans) : List XStep → Tr V → List XDef → Heap → Option Ans
  | [], t, d, h => k t d h
  | s :: ss, t, d, h => stepC det ih s rnd t d h fun v d h => stepsC rnd k ss (putOpt t s.dst v) d h

def stepsOf : List XLine → Option (List XStep)
  | [] => some []
  | ⟨s, []⟩ :: ls => match stepsOf ls with
    | some ss => some (s :: ss)
    | none => none
  | _ :: _ => none

/-- By what is reckoned without forks. -/
def byDet (k : Task) (K : Kont) : Option Ans :=
  match det k with
  | some o => K o
  | none => none

/-- A range over a map: each key that is left may be next. -/
def forkC (m : MapLoop) (rnd : Option Nat) (t : Tr V) (d : List XDef) (h : Heap) (K : Kont) : Option Ans :=
  match rd t m.it with
  | .iter oi => match h.get oi with
    | some (.miter (some mo) ins seen _) => match h.get mo with
      | some (.map kd es ins') => match Nat.beq ins ins' with
        | false => none
        | true => match leftOf seen es with
          | [] => K (.code (.exit m.L) ((t.set m.tnx (.tup [.bool false])).set m.tok (.bool false)) d h)
          | kv :: l => match Nat.ble l.length 4 with
            | false => none
            | true => oneAns (anssOf (fun k v => ih (.code m.rest rnd ((t.set m.tnx (.tup [.bool true, .int kd k, v])).set m.tok (.bool true)) d (h.put oi (.miter (some mo) ins (k :: seen) (some k)))) fun o =>
              match o with
              | .code .normal t d h => ih (.code m.code rnd t d h) K
              | o => K o) (kv :: l))
      | _ => none
    | _ => none
  | _ => none

def evStepC (k : Task) (K : Kont) : Option Ans :=
  match k with
  | .code c rnd t d h => match c with
    | .skip => K (.code .normal t d h)
    | .region false ls => match stepsOf ls with
      | some ss => stepsC det ih rnd (fun t d h => K (.code .normal t d h)) ss t d h
      | none => none
    | .region true ls => byDet det (.code (.region true ls) rnd t d h) K
    | .seq a b => ih (.code a rnd t d h) fun o => match o with
      | .code .normal t d h => ih (.code b rnd t d h) K
      | o => K o
    | .cond c a b => match rd t c with
      | .bool true => ih (.code a rnd t d h) K
      | .bool false => ih (.code b rnd t d h) K
      | _ => none
    | .block id body => ih (.code body rnd t d h) fun o => match o with
      | .code (.exit i) t d h => match Nat.beq i id with
        | true => K (.code .normal t d h)
        | false => K (.code (.exit i) t d h)
      | o => K o
    | .loop body => match parseLoop (.loop body) with
      | some m => match byDet det (.code (.loop body) rnd t d h) K with
        | some r => some r
        | none => forkC ih m rnd t d h K
      | none => ih (.code body rnd t d h) fun o => match o with
        | .code .normal t d h => ih (.code (.loop body) rnd t d h) K
        | o => K o
    | .exit id => K (.code (.exit id) t d h)
    | .ret => K (.code .ret t d h)
    | .scope body => ih (.code body rnd t d h) K
    | .label => K (.code .normal t d h)
    | .rangeFunc f ps assign body => match begunV rnd d h with
      | none => none
      | some (h, d, k) =>
        applyC ih (rd t f) [.yield h.next] (h.push (.loop .ready none t ps assign body k)) fun _ h2 =>
          match h2.get h.next with
          | some (.loop s jump _ _ _ _ _) => match s, jump with
            | .busy, _ => none
            | _, none => K (.code .normal t d (h2.put h.next (.dead false)))
            | _, some none => K (.code .ret t d (h2.put h.next (.dead false)))
            | _, some (some id) => K (.code (.exit id) t d (h2.put h.next (.dead false)))
          | _ => none
  | .call dk f args h => match (match dk with | true => byDet det (.call dk f args h) K | false => match into f with | true => none | false => byDet det (.call dk f args h) K) with
    | some r => some r
    | none => match into f with
      | false => none
      | true => match X.funcs.get f with
        | none => none
        | some fn => ih (.code fn.code none (argsFrom .lf 0 args) [] h) fun o => match o with
          | .code (.exit _) _ _ _ => none
          | .code _ t d h => ih (.defers d h) fun o => match o with
            | .heap h => match resultsOf t h fn.results with
              | some vs => K (.call (oneOf vs) h)
              | none => none
            | _ => none
          | _ => none
  | .defers d h => match d with
    | [] => K (.heap h)
    | .call f args :: ds => ih (.call true f args h) fun o => match o with
      | .call _ h => ih (.defers ds h) K
      | _ => none
    | .collected o :: ds => match h.get o with
      | some (.deferred false) => ih (.defers ds (h.put o (.deferred true))) K
      | _ => none
  | .round o args h => match h.get o with
    | some (.loop .ready _ t ps asg bo _) => match Nat.beq args.length ps.length with
      | false => none
      | true => ih (.code asg (some o) (setAll t ps args) [] h) fun r => match r with
        | .code .normal t1 [] h => match h.get o with
          | some (.loop .ready jump1 t0 ps0 as0 bo0 k0) =>
            ih (.code bo (some o) t1 [] (h.put o (.loop .busy jump1 t0 ps0 as0 bo0 k0))) fun r => match r with
              | .code e _ _ h => match h.get o with
                | some (.loop _ _ t0 ps0 as0 bo0 k0) => K (.call (.bool (isNorm e)) (h.put o (.loop (stateOf e) (jumpOf e) t0 ps0 as0 bo0 k0)))
                | _ => none
              | _ => none
          | _ => none
        | _ => none
    | _ => none
end

def evC (X : XProg) (det : Task → Option Out) (into : Nat → Bool) : Nat → Task → Kont → Option Ans
  | 0, _, _ => none
  | n + 1, k, K => evStepC X det into (evC X det into n) k K

/-- A call of a function that forks. -/
def forkHook (X : XProg) (det : Task → Option Out) (forks into : List Nat) (F : Nat) : Task → Option Out
  | .call false f args h => match forks.any (fun g => Nat.beq g f) with
    | false => none
    | true => match evC X det (fun g => into.any fun x => Nat.beq x g) F (.call false f args h) (fun o => match o with | .call v h => some (v, h) | _ => none) with
      | some (v, h) => some (.call v h)
      | none => none
  | _ => none

/-! ## It is sound -/
section
variable [RoLim] {P : Program}

def TaskWP (P : Program) : Task → (Out → Prop) → Prop
  | .code c rnd t d h, Q => CodeWP P c rnd t d h fun e t d h => Q (.code e t d h)
  | .call dk f args h, Q => CallWP P dk f args h fun v h => Q (.call v h)
  | .round o args h, Q => RoundWP P o args h fun v h => Q (.call v h)
  | .defers d h, Q => DefersWP P d h fun h => Q (.heap h)

def FitsA (P : Program) (a b : Ans) : Prop := a.1 = b.1 ∧ HeapW P a.2 b.2
theorem FitsA.refl (a : Ans) : FitsA P a a := ⟨rfl, HeapW.refl _⟩
theorem FitsA.trans {a b c : Ans} (h1 : FitsA P a b) (h2 : FitsA P b c) : FitsA P a c := ⟨h1.1.trans h2.1, h1.2.trans h2.2⟩

/-- What K makes of it is no more than r tells. -/
def EndsC (P : Program) (K : Kont) (r : Ans) (o : Out) : Prop := ∃ r', K o = some r' ∧ FitsA P r' r

def SoundC (P : Program) (ih : Task → Kont → Option Ans) : Prop := ∀ k K r, ih k K = some r → TaskWP P k (EndsC P K r)

omit [RoLim] in
theorem anssFit_mem {r : Ans} : ∀ {l : List Ans}, anssFit r l = true → ∀ x ∈ l, ansFits x r = true
  | [], _, x, hx => by cases hx
  | y :: l, h, x, hx => by
    simp only [anssFit, Bool.and_eq_true] at h
    rcases List.mem_cons.1 hx with rfl | hx
    · exact h.1
    · exact anssFit_mem h.2 x hx
omit [RoLim] in
theorem anssOf_mem {f : Int → V → Option Ans} : ∀ {l : List (Int × V)} {xs : List Ans}, anssOf f l = some xs → ∀ p ∈ l, ∃ x ∈ xs, f p.1 p.2 = some x
  | [], _, _, p, hp => by cases hp
  | (k, v) :: r, xs, h, p, hp => by
    simp only [anssOf] at h
    split at h
    · cases h
    · rename_i x hx
      split at h <;> simp at h
      rename_i xs' hr
      subst h
      rcases List.mem_cons.1 hp with rfl | hp
      · exact ⟨x, List.mem_cons_self, hx⟩
      · obtain ⟨y, hy, e⟩ := anssOf_mem hr p hp
        exact ⟨y, List.mem_cons_of_mem _ hy, e⟩
theorem oneAns_sound {f : Int → V → Option Ans} {l : List (Int × V)} {r : Ans} (h : oneAns (anssOf f l) = some r) : ∀ p ∈ l, ∃ x, f p.1 p.2 = some x ∧ FitsA P x r := by
  intro p hp
  unfold oneAns at h
  split at h
  · rename_i q qs e
    split at h
    · rename_i hf
      cases h
      obtain ⟨x, hx, e2⟩ := anssOf_mem e p hp
      have := anssFit_mem hf x hx
      simp only [ansFits, Bool.and_eq_true] at this
      exact ⟨x, e2, V.same_eq _ _ this.1, hFits_sound this.2⟩
    · cases h
  · cases h

theorem EndsC.of {K : Kont} {r : Ans} {o : Out} (h : K o = some r) : EndsC P K r o := ⟨r, h, FitsA.refl r⟩
theorem EndsC.fits {K : Kont} {r r2 : Ans} {o : Out} (h : EndsC P K r o) (hf : FitsA P r r2) : EndsC P K r2 o := let ⟨r', h1, h2⟩ := h; ⟨r', h1, h2.trans hf⟩

variable {X : XProg} {det : Task → Option Out} {into : Nat → Bool} {ih : Task → Kont → Option Ans}

theorem TaskWP.of_det {k : Task} {o : Out} {Q : Out → Prop} (h : TaskOk P k o) (q : Q o) : TaskWP P k Q := by
  cases k <;> cases o <;> simp only [TaskOk] at h
  · exact CodeWP.mono h fun e t d h ⟨e1, e2, e3, e4⟩ => by subst e1; subst e2; subst e3; subst e4; exact q
  · exact CallWP.mono h fun v h ⟨e1, e2⟩ => by subst e1; subst e2; exact q
  · intro K w0 μ w args' l c cs R hv hl
    obtain ⟨fn, tmps, asg, bo, h1, v, h', μ', w', x, ⟨e1, e2⟩, r⟩ := h K w0 μ w args' l c cs R hv hl
    subst e1; subst e2
    exact ⟨fn, tmps, asg, bo, h1, _, _, μ', w', x, q, r⟩
  · intro K w0 μ w fr cs hm R hds
    obtain ⟨h', μ', w', rfl, r⟩ := h K w0 μ w fr cs hm R hds
    exact ⟨_, μ', w', q, r⟩

theorem byDet_sound (S : Sound P det) {k : Task} {K : Kont} {r : Ans} (h : byDet det k K = some r) : TaskWP P k (EndsC P K r) := by
  unfold byDet at h
  split at h
  · rename_i o e
    exact TaskWP.of_det (S _ _ e) (.of h)
  · cases h

theorem RoundWP.mono {o : Nat} {args : List V} {h : Heap} {Q Q' : V → Heap → Prop} (hw : RoundWP P o args h Q) (hq : ∀ v h, Q v h → Q' v h) : RoundWP P o args h Q' := by
  intro K w0 μ w args' l c cs R hv hl
  obtain ⟨fn, tmps, asg, bo, h1, v, h', μ', w', x, q, r⟩ := hw K w0 μ w args' l c cs R hv hl
  exact ⟨fn, tmps, asg, bo, h1, v, h', μ', w', x, hq _ _ q, r⟩

theorem DefersWP.mono {d : List XDef} {h : Heap} {Q Q' : Heap → Prop} (hw : DefersWP P d h Q) (hq : ∀ h, Q h → Q' h) : DefersWP P d h Q' := by
  intro K w0 μ w fr cs hm R hds
  obtain ⟨h', μ', w', q, r⟩ := hw K w0 μ w fr cs hm R hds
  exact ⟨h', μ', w', hq _ q, r⟩

theorem TaskWP.mono {k : Task} {Q Q' : Out → Prop} (hw : TaskWP P k Q) (hq : ∀ o, Q o → Q' o) : TaskWP P k Q' := by
  cases k with
  | code => exact CodeWP.mono hw fun _ _ _ _ q => hq _ q
  | call => exact CallWP.mono hw fun _ _ q => hq _ q
  | round => exact RoundWP.mono hw fun _ _ q => hq _ q
  | defers => exact DefersWP.mono hw fun _ q => hq _ q

theorem applyC_sound (C : SoundC P ih) {f : V} {args : List V} {h : Heap} {k : V → Heap → Option Ans} {r : Ans} (ha : applyC ih f args h k = some r) : ApplyWP P f args h fun v h => ∃ r', k v h = some r' ∧ FitsA P r' r := by
  unfold applyC at ha
  split at ha
  · exact apply_call (CallWP.mono (C _ _ _ ha) fun v h q => q)
  · exact apply_round (RoundWP.mono (C _ _ _ ha) fun v h q => q)
  · cases ha

theorem stepC_sound (S : Sound P det) (C : SoundC P ih) {s : XStep} {rnd : Option Nat} {t : Tr V} {d : List XDef} {h : Heap} {k : V → List XDef → Heap → Option Ans} {r : Ans} (hs : stepC det ih s rnd t d h k = some r) :
    StepWP P s rnd t d h fun v d h => ∃ r', k v d h = some r' ∧ FitsA P r' r := by
  unfold stepC at hs
  split at hs
  · cases hs
  · rename_i hw
    exact step_skipped hw ⟨r, hs, FitsA.refl r⟩
  · rename_i hw
    split at hs
    · rename_i f args e
      exact step_call hw e (applyC_sound C hs)
    · split at hs
      · rename_i v d1 h1 e
        exact StepWP.mono (steps_sound S _ _ _ _ _ _ _ _ e) fun v1 d1 h1 ⟨e1, e2, e3⟩ => by subst e1; subst e2; subst e3; exact ⟨r, hs, FitsA.refl r⟩
      · cases hs

theorem stepsC_sound (S : Sound P det) (C : SoundC P ih) {rnd : Option Nat} {k : Tr V → List XDef → Heap → Option Ans} : ∀ {ss : List XStep} {t : Tr V} {d : List XDef} {h : Heap} {r : Ans}, stepsC det ih rnd k ss t d h = some r →
    StepsWP P rnd ss t d h fun t d h => ∃ r', k t d h = some r' ∧ FitsA P r' r
  | [], t, d, h, r, hs => ⟨r, hs, FitsA.refl r⟩
  | s :: ss, t, d, h, r, hs => by
    refine StepWP.mono (stepC_sound S C hs) fun v d1 h1 ⟨r1, e1, f1⟩ => ?_
    exact StepsWP.mono (stepsC_sound S C e1) fun t d h ⟨r2, e2, f2⟩ => ⟨r2, e2, f2.trans f1⟩

omit [RoLim] in
theorem stepsOf_eq : ∀ {ls : List XLine} {ss : List XStep}, stepsOf ls = some ss → ls = ss.map fun s => { step := s, again := [] }
  | [], ss, h => by cases h; rfl
  | ⟨s, []⟩ :: ls, ss, h => by
    simp only [stepsOf] at h
    split at h
    · rename_i ss' e
      cases h
      rw [stepsOf_eq e]
      rfl
    · cases h
  | ⟨s, _ :: _⟩ :: ls, ss, h => by cases h

theorem forkC_sound (C : SoundC P ih) {m : MapLoop} {rnd : Option Nat} {t : Tr V} {d : List XDef} {h : Heap} {K : Kont} {r : Ans} (hf : forkC ih m rnd t d h K = some r) : TaskWP P (.code m.code rnd t d h) (EndsC P K r) := by
  unfold forkC at hf
  split at hf <;> try (cases hf; done)
  rename_i oi hit
  split at hf <;> try (cases hf; done)
  rename_i mo ins seen cur hgi
  split at hf <;> try (cases hf; done)
  rename_i kd es ins' hgm
  split at hf
  · cases hf
  rename_i hb
  have hb := Nat.eq_of_beq_eq_true hb
  subst hb
  refine code_mapLoop1 (step_next rfl rfl hit hgi hgm (fun hl => ?_) (fun k v hkv => ?_))
  · refine ⟨rfl, false, [], rfl, fun _ => ?_, fun hf => by cases hf⟩
    rw [hl] at hf
    exact .of hf
  · refine ⟨rfl, true, [.int kd k, v], rfl, (fun hf => by cases hf), fun _ => ?_⟩
    split at hf
    · rename_i hl
      rw [hl] at hkv
      cases hkv
    · rename_i kv l hl
      split at hf
      · cases hf
      rw [hl] at hkv
      obtain ⟨x, e1, e2⟩ := oneAns_sound (P := P) hf _ hkv
      refine CodeWP.mono (C _ _ _ e1) fun e t1 d1 h1 ⟨r1, q1, q2⟩ => ?_
      cases e with
      | normal => exact TaskWP.mono (k := .code m.code rnd t1 d1 h1) (C _ _ _ q1) fun o q => EndsC.fits (EndsC.fits q q2) e2
      | exit i => exact ⟨r1, q1, q2.trans e2⟩
      | ret => exact ⟨r1, q1, q2.trans e2⟩

theorem evStepC_sound (HX : ProgOk P X) (S : Sound P det) (C : SoundC P ih) : SoundC P (evStepC X det into ih) := by
  intro k K r hk
  cases k with
  | code c rnd t d h =>
    cases c with
    | skip => exact code_skip (.of hk)
    | exit id => exact code_exit (.of hk)
    | ret => exact code_ret (.of hk)
    | label => exact code_label (.of hk)
    | region dr ls =>
      cases dr with
      | false =>
        simp only [evStepC] at hk
        split at hk
        · rename_i ss e
          have := stepsOf_eq e
          subst this
          exact code_plain (stepsC_sound S C hk)
        · cases hk
      | true => exact byDet_sound S hk
    | seq a b =>
      simp only [evStepC] at hk
      refine code_seq (CodeWP.mono (C _ _ _ hk) fun e t1 d1 h1 ⟨r1, q1, q2⟩ => ?_)
      cases e with
      | normal => exact TaskWP.mono (k := .code b rnd t1 d1 h1) (C _ _ _ q1) fun o q => EndsC.fits q q2
      | exit i => exact ⟨r1, q1, q2⟩
      | ret => exact ⟨r1, q1, q2⟩
    | cond c a b =>
      simp only [evStepC] at hk
      split at hk
      · rename_i hc; exact code_cond hc (C _ _ _ hk)
      · rename_i hc; exact code_cond hc (C _ _ _ hk)
      · cases hk
    | block id a =>
      simp only [evStepC] at hk
      refine code_block (CodeWP.mono (C _ _ _ hk) fun e t1 d1 h1 ⟨r1, q1, q2⟩ => ?_)
      cases e with
      | normal => exact ⟨r1, q1, q2⟩
      | exit i =>
        simp only at q1 ⊢
        refine ⟨fun e => ?_, fun e => ?_⟩
        · subst e
          rw [Nat.beq_refl] at q1
          exact ⟨r1, q1, q2⟩
        · rw [nat_beq_false e] at q1
          exact ⟨r1, q1, q2⟩
      | ret => exact ⟨r1, q1, q2⟩
    | loop a =>
      simp only [evStepC] at hk
      split at hk
      · rename_i m hm
        have hc := parseLoop_eq hm
        split at hk
        · rename_i r1 e
          cases hk
          exact byDet_sound S e
        · rw [hc]; exact forkC_sound C hk
      · refine code_loop (CodeWP.mono (C _ _ _ hk) fun e t1 d1 h1 ⟨r1, q1, q2⟩ => ?_)
        cases e with
        | normal => exact TaskWP.mono (k := .code (.loop a) rnd t1 d1 h1) (C _ _ _ q1) fun o q => EndsC.fits q q2
        | exit i => exact ⟨r1, q1, q2⟩
        | ret => exact ⟨r1, q1, q2⟩
    | scope a => exact code_scope (C _ _ _ hk)
    | rangeFunc f ps asg bo =>
      simp only [evStepC] at hk
      split at hk
      · cases hk
      · rename_i h1 d1 kk hbeg
        refine code_rangeFunc hbeg ((applyC_sound C hk).mono fun v h2 ⟨r1, q1, q2⟩ => ?_)
        split at q1 <;> try (cases q1; done)
        rename_i s jump t' ps' asg' bo' k' hg
        refine ⟨s, jump, t', ps', asg', bo', k', hg, ?_⟩
        split at q1
        · cases q1
        · rename_i hs
          exact ⟨hs, r1, q1, q2⟩
        · rename_i hs
          exact ⟨hs, r1, q1, q2⟩
        · rename_i hs
          exact ⟨hs, r1, q1, q2⟩
  | call dk f args h =>
    simp only [evStepC] at hk
    split at hk
    · rename_i r1 e
      cases hk
      have : byDet det (.call dk f args h) K = some r := by
        split at e
        · exact e
        · split at e
          · cases e
          · exact e
      exact byDet_sound S this
    · split at hk
      · cases hk
      · split at hk
        · cases hk
        · rename_i fn hfn
          obtain ⟨fn', f1, f2, f3⟩ := HX f fn hfn
          refine call_of_code f1 f2 f3 (CodeWP.mono (C _ _ _ hk) fun e t1 d1 h1 ⟨r1, q1, q2⟩ => ?_)
          have main : ∀ e, e = XExit.normal ∨ e = .ret → ih (.defers d1 h1) (fun o => match o with
            | .heap h => match resultsOf t1 h fn.results with
              | some vs => K (.call (oneOf vs) h)
              | none => none
            | _ => none) = some r1 → (∀ id, e ≠ .exit id) ∧ DefersWP P d1 h1 fun h' => ∃ vs, resultsOf t1 h' fn.results = some vs ∧ EndsC P K r (.call (oneOf vs) h') := by
            intro e he hd
            refine ⟨fun id q => (by subst q; rcases he with q | q <;> cases q), DefersWP.mono (C _ _ _ hd) fun h2 ⟨r2, q3, q4⟩ => ?_⟩
            simp only at q3
            split at q3
            · rename_i vs hvs
              exact ⟨vs, hvs, r2, q3, q4.trans q2⟩
            · cases q3
          cases e with
          | normal => exact main _ (.inl rfl) q1
          | exit i => cases q1
          | ret => exact main _ (.inr rfl) q1
  | round o args h =>
    simp only [evStepC] at hk
    split at hk <;> try (cases hk; done)
    rename_i jump t ps asg bo kk hg
    split at hk <;> try (cases hk; done)
    rename_i hlen
    refine round_of_code hg (Nat.eq_of_beq_eq_true hlen) (CodeWP.mono (C _ _ _ hk) fun e t1 d1 h1 ⟨r1, q1, q2⟩ => ?_)
    simp only at q1
    split at q1 <;> try (cases q1; done)
    rename_i t1' h1' heq
    cases heq
    split at q1 <;> try (cases q1; done)
    rename_i j1 t0 ps0 as0 bo0 k0 hg1
    refine ⟨rfl, rfl, j1, t0, ps0, as0, bo0, k0, hg1, CodeWP.mono (C _ _ _ q1) fun e2 t2 d2 h2 ⟨r2, q3, q4⟩ => ?_⟩
    simp only at q3
    split at q3 <;> try (cases q3; done)
    rename_i s2 j2 t3 ps3 as3 bo3 k3 hg2
    exact ⟨s2, j2, t3, ps3, as3, bo3, k3, hg2, r2, q3, q4.trans q2⟩
  | defers d h =>
    simp only [evStepC] at hk
    split at hk
    · exact defers_nil (.of hk)
    · rename_i f args ds
      refine defers_call (CallWP.mono (C _ _ _ hk) fun v h1 ⟨r1, q1, q2⟩ => ?_)
      exact TaskWP.mono (k := .defers ds h1) (C _ _ _ q1) fun o q => EndsC.fits q q2
    · rename_i o ds
      split at hk <;> try (cases hk; done)
      rename_i hg
      exact defers_coll hg (C _ _ _ hk)

theorem evC_sound (HX : ProgOk P X) (S : Sound P det) : ∀ n, SoundC P (evC X det into n)
  | 0 => fun k K r h => by simp [evC] at h
  | n + 1 => evStepC_sound HX S (evC_sound HX S n)

theorem forkHook_sound (HX : ProgOk P X) (S : Sound P det) {forks into : List Nat} {F : Nat} : HookOk P (forkHook X det forks into F) := by
  intro k o hk
  unfold forkHook at hk
  split at hk
  · split at hk
    · cases hk
    · split at hk
      · rename_i v h1 e
        cases hk
        have hw := evC_sound HX S F _ _ _ e
        obtain ⟨fn, h1', h2', h3'⟩ := (hw : CallWP P false _ _ _ _)
        refine ⟨fn, h1', h2', fun K w0 μ w args' cs R hv => ?_⟩
        obtain ⟨v1, h2, μ', w', fr, x, ⟨r1, q1, q2, q3⟩, r⟩ := h3' K w0 μ w args' cs R hv
        cases q1
        simp only at q2 q3
        subst q2
        obtain ⟨a, rest⟩ := r
        exact ⟨v1, _, μ', w', fr, x, ⟨rfl, rfl⟩, ⟨a.le, q3 _ _ _ _ a.rel, a.val⟩, rest⟩
      · cases hk
  · cases hk
end
end Go.Xr

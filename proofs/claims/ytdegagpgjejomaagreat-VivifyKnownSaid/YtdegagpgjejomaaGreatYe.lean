/- X's executor is sound. -/
import Derived.Test.YtdegagpgjejomaaGreatYd
namespace Go.Xr
open Go.RowKit

/-- What is said of a task's outcome. -/
def TaskOk [RoLim] (P : Program) : Task → Out → Prop
  | .code c rnd t d h, .code e t' d' h' => CodeWP P c rnd t d h fun e1 t1 d1 h1 => e1 = e ∧ t1 = t' ∧ d1 = d' ∧ h1 = h'
  | .call dk f args h, .call v h' => CallWP P dk f args h fun v1 h1 => v1 = v ∧ h1 = h'
  | .round o args h, .call v h' => RoundWP P o args h fun v1 h1 => v1 = v ∧ h1 = h'
  | .defers d h, .heap h' => DefersWP P d h fun h1 => h1 = h'
  | _, _ => False

def Sound [RoLim] (P : Program) (ih : Task → Option Out) : Prop := ∀ k r, ih k = some r → TaskOk P k r

/-- X's program is the given one's. -/
def ProgOk (P : Program) (X : XProg) : Prop :=
  ∀ f xf, X.funcs.get f = some xf → ∃ fn, P.funcs[f]? = some fn ∧ fn.name ≠ "runtime.NumGoroutine" ∧ compFunc P fn = some xf

def HookOk [RoLim] (P : Program) (hook : Task → Option Out) : Prop := Sound P hook

section
variable [RoLim] {P : Program} {ih : Task → Option Out}

theorem apply_sound (S : Sound P ih) {f : V} {args : List V} {h h' : Heap} {v : V} (ha : applyF ih f args h = some (v, h')) : ApplyWP P f args h fun v1 h1 => v1 = v ∧ h1 = h' := by
  unfold applyF at ha
  split at ha
  · split at ha <;> simp at ha
    rename_i v1 h1 e
    obtain ⟨rfl, rfl⟩ := ha
    exact apply_call (S _ _ e)
  · split at ha <;> simp at ha
    rename_i v1 h1 e
    obtain ⟨rfl, rfl⟩ := ha
    exact apply_round (S _ _ e)
  · cases ha

theorem invoke_sound (S : Sound P ih) {s : XStep} {rnd : Option Nat} {t : Tr V} {d : List XDef} {h h' : Heap} {x : Opd} {rows : List (Nat × Nat × Option (Bool × Nat))} {args : List Opd} {v : V} (hw : wantedV t s.guard = some true) (hs : s.op = .invoke x rows args)
    (ha : invokeF ih (rd t x) rows (vals (rd t) args) h = some (v, h')) : StepWP P s rnd t d h fun v1 d1 h1 => v1 = v ∧ d1 = d ∧ h1 = h' := by
  unfold invokeF at ha
  split at ha <;> try (cases ha; done)
  rename_i ty y hx
  split at ha <;> try (cases ha; done)
  rename_i f r hr
  split at ha <;> try (cases ha; done)
  rename_i z hz
  split at ha <;> simp at ha
  rename_i v1 h1 e
  obtain ⟨rfl, rfl⟩ := ha
  exact step_invoke hw hs hx hr hz ((S _ _ e : CallWP P false f _ _ _).mono fun v h1 ⟨e1, e2⟩ => ⟨e1, rfl, e2⟩)

theorem steps_sound (S : Sound P ih) : StepsOk P ih := by
  intro s rnd t d h v d1 h1 hr
  unfold runStep at hr
  split at hr
  · cases hr
  · rename_i hw
    simp only [Option.some.injEq, Prod.mk.injEq] at hr
    obtain ⟨rfl, rfl, rfl⟩ := hr
    exact step_skipped hw ⟨rfl, rfl, rfl⟩
  · rename_i hw
    simp only at hr
    split at hr
    · rename_i f args e
      split at hr <;> simp at hr
      rename_i v' h' ha
      obtain ⟨rfl, rfl, rfl⟩ := hr
      exact step_call hw e ((apply_sound S ha).mono fun v1 h1 ⟨e1, e2⟩ => ⟨e1, rfl, e2⟩)
    · rename_i f args e
      split at hr <;> simp at hr
      rename_i g first caps hf
      obtain ⟨rfl, rfl, rfl⟩ := hr
      exact step_defers hw e hf ⟨rfl, rfl, rfl⟩
    · rename_i it e
      split at hr <;> simp at hr
      rename_i v' h' hn
      obtain ⟨rfl, rfl, rfl⟩ := hr
      unfold nextEv at hn
      split at hn <;> try (simp at hn; done)
      rename_i oi hoi
      split at hn <;> try (simp at hn; done)
      · rename_i ins seen cur hg
        simp at hn
        obtain ⟨rfl, rfl⟩ := hn
        exact step_next_nil hw e hoi hg ⟨rfl, rfl, rfl⟩
      · rename_i m ins seen cur hg
        split at hn <;> try (simp at hn; done)
        rename_i kd es ins' hgm
        split at hn <;> try (simp at hn; done)
        · rename_i e1 e2
          have e1 := Nat.eq_of_beq_eq_true e1
          subst e1
          simp at hn
          obtain ⟨rfl, rfl⟩ := hn
          exact step_next hw e hoi hg hgm (fun _ => ⟨rfl, rfl, rfl⟩) (fun k v hk => by rw [e2] at hk; cases hk)
        · rename_i k v1 e1 e2
          have e1 := Nat.eq_of_beq_eq_true e1
          subst e1
          simp at hn
          obtain ⟨rfl, rfl⟩ := hn
          refine step_next hw e hoi hg hgm (fun h0 => by rw [e2] at h0; cases h0) (fun k' v' hk => ?_)
          rw [e2] at hk
          simp at hk
          obtain ⟨rfl, rfl⟩ := hk
          exact ⟨rfl, rfl, rfl⟩
    · rename_i x rows args e
      split at hr <;> simp at hr
      rename_i v' h' ha
      obtain ⟨rfl, rfl, rfl⟩ := hr
      exact invoke_sound S hw e ha
    · split at hr <;> simp at hr
      rename_i v' h' he
      obtain ⟨rfl, rfl, rfl⟩ := hr
      exact step_op hw he ⟨rfl, rfl, rfl⟩

variable {X : XProg} {hook : Task → Option Out}

theorem evStep_sound (hmix : P.follows .mixedOrders = true) (HX : ProgOk P X) (HH : HookOk P hook) (S : Sound P ih) : Sound P (evStep X hook ih) := by
  intro k r hk
  cases k with
  | code c rnd t d h =>
    cases c with
    | skip => simp only [evStep, Option.some.injEq] at hk; subst hk; exact code_skip ⟨rfl, rfl, rfl, rfl⟩
    | exit id => simp only [evStep, Option.some.injEq] at hk; subst hk; exact code_exit ⟨rfl, rfl, rfl, rfl⟩
    | ret => simp only [evStep, Option.some.injEq] at hk; subst hk; exact code_ret ⟨rfl, rfl, rfl, rfl⟩
    | region dr ls =>
      simp only [evStep] at hk
      split at hk <;> simp at hk
      rename_i t2 d2 h2 hr
      subst hk
      exact code_region (steps_sound S) hmix hr ⟨rfl, rfl, rfl, rfl⟩
    | seq a b =>
      simp only [evStep] at hk
      split at hk
      · rename_i t1 d1 h1 ha
        have hb := S _ _ hk
        cases r with
        | code e t' d' h' =>
          refine code_seq (CodeWP.mono (S _ _ ha) fun e t1 d1 h1 ⟨e1, e2, e3, e4⟩ => ?_)
          subst e1; subst e2; subst e3; subst e4
          exact hb
        | call v h' => exact hb.elim
        | heap h' => exact hb.elim
      · rename_i e t1 d1 h1 hne ha
        simp only [Option.some.injEq] at hk
        subst hk
        refine code_seq (CodeWP.mono (S _ _ ha) fun e' t1 d1 h1 ⟨e1, e2, e3, e4⟩ => ?_)
        subst e1; subst e2; subst e3; subst e4
        cases e' with
        | normal => exact (hne rfl).elim
        | exit id => exact ⟨rfl, rfl, rfl, rfl⟩
        | ret => exact ⟨rfl, rfl, rfl, rfl⟩
      · cases hk
    | cond c a b =>
      simp only [evStep] at hk
      have main : ∀ v, rd t c = .bool v → ih (.code (if v then a else b) rnd t d h) = some r → TaskOk P (.code (.cond c a b) rnd t d h) r := by
        intro v hc hi
        have hb := S _ _ hi
        cases r with
        | code e t' d' h' => exact code_cond hc hb
        | call v h' => exact hb.elim
        | heap h' => exact hb.elim
      split at hk
      · exact main true (by assumption) hk
      · exact main false (by assumption) hk
      · cases hk
    | block id a =>
      simp only [evStep] at hk
      split at hk
      · rename_i i t1 d1 h1 ha
        have hb := S _ _ ha
        split at hk
        · rename_i hi
          simp only [Option.some.injEq] at hk
          subst hk
          refine code_block (CodeWP.mono hb fun e t1 d1 h1 ⟨e1, e2, e3, e4⟩ => ?_)
          subst e1; subst e2; subst e3; subst e4
          exact ⟨fun _ => ⟨rfl, rfl, rfl, rfl⟩, fun hne => absurd (Nat.eq_of_beq_eq_true hi) hne⟩
        · rename_i hi
          simp only [Option.some.injEq] at hk
          subst hk
          refine code_block (CodeWP.mono hb fun e t1 d1 h1 ⟨e1, e2, e3, e4⟩ => ?_)
          subst e1; subst e2; subst e3; subst e4
          exact ⟨fun he => absurd he (nat_beq_ne hi), fun _ => ⟨rfl, rfl, rfl, rfl⟩⟩
      · rename_i hne
        have hb := S _ _ hk
        cases r with
        | code e t' d' h' =>
          refine code_block (CodeWP.mono hb fun e1' t1 d1 h1 ⟨e1, e2, e3, e4⟩ => ?_)
          subst e1; subst e2; subst e3; subst e4
          cases e1' with
          | normal => exact ⟨rfl, rfl, rfl, rfl⟩
          | exit i => exact absurd hk (hne _ _ _ _)
          | ret => exact ⟨rfl, rfl, rfl, rfl⟩
        | call v h' => exact hb.elim
        | heap h' => exact hb.elim
    | loop a =>
      simp only [evStep] at hk
      split at hk
      · rename_i r' hh
        simp only [Option.some.injEq] at hk
        subst hk
        exact HH _ _ hh
      split at hk
      · rename_i t1 d1 h1 ha
        have hb := S _ _ hk
        cases r with
        | code e t' d' h' =>
          refine code_loop (CodeWP.mono (S _ _ ha) fun e1' t1 d1 h1 ⟨e1, e2, e3, e4⟩ => ?_)
          subst e1; subst e2; subst e3; subst e4
          exact hb
        | call v h' => exact hb.elim
        | heap h' => exact hb.elim
      · rename_i hne
        have hb := S _ _ hk
        cases r with
        | code e t' d' h' =>
          refine code_loop (CodeWP.mono hb fun e1' t1 d1 h1 ⟨e1, e2, e3, e4⟩ => ?_)
          subst e1; subst e2; subst e3; subst e4
          cases e1' with
          | normal => exact absurd hk (hne _ _ _)
          | exit i => exact ⟨rfl, rfl, rfl, rfl⟩
          | ret => exact ⟨rfl, rfl, rfl, rfl⟩
        | call v h' => exact hb.elim
        | heap h' => exact hb.elim
    | label => simp only [evStep, Option.some.injEq] at hk; subst hk; exact code_label ⟨rfl, rfl, rfl, rfl⟩
    | scope a =>
      simp only [evStep] at hk
      have hb := S _ _ hk
      cases r with
      | code e t' d' h' => exact code_scope hb
      | call v h' => exact hb.elim
      | heap h' => exact hb.elim
    | rangeFunc f ps as bo =>
      simp only [evStep] at hk
      split at hk
      · cases hk
      · rename_i h1 d1 kk hbeg
        split at hk
        · cases hk
        · rename_i v h2 ha
          split at hk <;> try (cases hk; done)
          rename_i s jump t' ps' as' bo' k' hg
          have fin : ∀ e, s ≠ .busy → e = (match jump with | none => XExit.normal | some none => .ret | some (some id) => .exit id) → r = .code e t d1 (h2.put h1.next (.dead false)) → TaskOk P (.code (.rangeFunc f ps as bo) rnd t d h) r := by
            intro e hs he hr
            subst hr
            refine code_rangeFunc hbeg ((apply_sound S ha).mono fun v1 h1' ⟨e1, e2⟩ => ?_)
            subst e1; subst e2
            refine ⟨s, jump, t', ps', as', bo', k', hg, hs, ?_⟩
            cases jump with
            | none => exact ⟨he.symm, rfl, rfl, rfl⟩
            | some j => cases j with
              | none => exact ⟨he.symm, rfl, rfl, rfl⟩
              | some id => exact ⟨he.symm, rfl, rfl, rfl⟩
          split at hk
          · cases hk
          · rename_i hs
            simp only [Option.some.injEq] at hk
            exact fin _ hs rfl hk.symm
          · rename_i hs
            simp only [Option.some.injEq] at hk
            exact fin _ hs rfl hk.symm
          · rename_i hs
            simp only [Option.some.injEq] at hk
            exact fin _ hs rfl hk.symm
  | call dk f args h =>
    simp only [evStep] at hk
    split at hk
    · rename_i v hh
      simp only [Option.some.injEq] at hk
      subst hk
      exact HH _ _ hh
    · split at hk
      · cases hk
      · rename_i fn hfn
        obtain ⟨fn', f1, f2, f3⟩ := HX f fn hfn
        split at hk <;> try (cases hk; done)
        rename_i e t1 d1 h1 hne hb
        split at hk <;> try (cases hk; done)
        rename_i h2 hd
        split at hk <;> simp at hk
        rename_i vs hvs
        subst hk
        refine call_of_code f1 f2 f3 (CodeWP.mono (S _ _ hb) fun e1' t1 d1 h1 ⟨e1, e2, e3, e4⟩ => ?_)
        subst e1; subst e2; subst e3; subst e4
        refine ⟨fun id he => ?_, ?_⟩
        · subst he
          exact hne _ rfl
        · have hdd := S _ _ hd
          intro K w0 μ w fr cs hm R hds
          obtain ⟨h', μ', w', rfl, r⟩ := hdd K w0 μ w fr cs hm R hds
          exact ⟨h', μ', w', ⟨vs, hvs, rfl, rfl⟩, r⟩
  | round o args h =>
    simp only [evStep] at hk
    split at hk <;> try (cases hk; done)
    rename_i jump t ps as bo kk hg
    split at hk <;> try (cases hk; done)
    rename_i hlen
    split at hk <;> try (cases hk; done)
    rename_i t1 h1 ha
    split at hk <;> try (cases hk; done)
    rename_i j1 t0 ps0 as0 bo0 k0 hg1
    split at hk <;> try (cases hk; done)
    rename_i e t2 d2 h2 hb
    split at hk <;> simp at hk
    rename_i s2 j2 t3 ps3 as3 bo3 k3 hg2
    subst hk
    refine round_of_code hg (Nat.eq_of_beq_eq_true hlen) (CodeWP.mono (S _ _ ha) fun e1' t1 d1 h1 ⟨e1, e2, e3, e4⟩ => ?_)
    subst e1; subst e2; subst e3; subst e4
    refine ⟨rfl, rfl, j1, t0, ps0, as0, bo0, k0, hg1, CodeWP.mono (S _ _ hb) fun e1' t1 d1 h1 ⟨e1, e2, e3, e4⟩ => ?_⟩
    subst e1; subst e2; subst e3; subst e4
    exact ⟨s2, j2, t3, ps3, as3, bo3, k3, hg2, rfl, rfl⟩
  | defers d h =>
    simp only [evStep] at hk
    split at hk
    · simp only [Option.some.injEq] at hk
      subst hk
      exact defers_nil rfl
    · rename_i f args ds
      split at hk <;> try (cases hk; done)
      rename_i v h1 hc
      have hd := S _ _ hk
      cases r with
      | heap h' => exact defers_call (CallWP.mono (S _ _ hc) fun v1 h1' ⟨e1, e2⟩ => by subst e1; subst e2; exact hd)
      | code e t' d' h' => exact hd.elim
      | call v h' => exact hd.elim
    · rename_i o ds
      split at hk <;> try (cases hk; done)
      rename_i hg
      have hd := S _ _ hk
      cases r with
      | heap h' => exact defers_coll hg hd
      | code e t' d' h' => exact hd.elim
      | call v h' => exact hd.elim

omit [RoLim] in
def FuncOk (P : Program) (f : Nat) (xf : XFunc) : Prop := ∃ fn, P.funcs[f]? = some fn ∧ (fn.name == "runtime.NumGoroutine") = false ∧ compFunc P fn = some xf

omit [RoLim] in
/-- Something of each entry of a tree whose entry n stands for number a * n + b. -/
def Tr.AllAt {α : Type} (p : Nat → α → Prop) : Tr α → Nat → Nat → Prop
  | .lf, _, _ => True
  | .nd l v r, a, b => (match v with | none => True | some x => p b x) ∧ Tr.AllAt p l (2 * a) (a + b) ∧ Tr.AllAt p r (2 * a) (2 * a + b)

omit [RoLim] in
theorem Tr.allAt_get {α : Type} {p : Nat → α → Prop} : ∀ {t : Tr α} {a b n : Nat} {x : α}, Tr.AllAt p t a b → t.get n = some x → p (a * n + b) x
  | .lf, a, b, n, x, _, hg => by rw [Tr.get_lf] at hg; cases hg
  | .nd l v r, a, b, 0, x, h, hg => by
    rw [Tr.get_nd_zero] at hg
    subst hg
    simpa [Tr.AllAt] using h.1
  | .nd l v r, a, b, n + 1, x, h, hg => by
    rw [Tr.get_nd_succ] at hg
    by_cases hm : n % 2 = 0
    · rw [if_pos hm] at hg
      have := Tr.allAt_get h.2.1 hg
      have e : 2 * a * (n / 2) + (a + b) = a * (n + 1) + b := by
        have : n = 2 * (n / 2) := by omega
        have h2 : a * (n + 1) = a * (2 * (n / 2)) + a := by rw [← this, Nat.mul_succ]
        have h3 : 2 * a * (n / 2) = a * (2 * (n / 2)) := by rw [Nat.mul_comm 2 a, Nat.mul_assoc]
        omega
      rwa [e] at this
    · rw [if_neg hm] at hg
      have := Tr.allAt_get h.2.2 hg
      have e : 2 * a * (n / 2) + (2 * a + b) = a * (n + 1) + b := by
        have : n = 2 * (n / 2) + 1 := by omega
        have h2 : a * (n + 1) = a * (2 * (n / 2)) + a + a := by
          have h4 : n + 1 = 2 * (n / 2) + 1 + 1 := by omega
          rw [h4, Nat.mul_succ, Nat.mul_succ]
        have h3 : 2 * a * (n / 2) = a * (2 * (n / 2)) := by rw [Nat.mul_comm 2 a, Nat.mul_assoc]
        omega
      rwa [e] at this

omit [RoLim] in
theorem progOk_of {X : XProg} (h : Tr.AllAt (FuncOk P) X.funcs 1 0) : ProgOk P X := by
  intro f xf hf
  have := Tr.allAt_get h hf
  rw [Nat.one_mul, Nat.add_zero] at this
  obtain ⟨fn, h1, h2, h3⟩ := this
  exact ⟨fn, h1, by simpa using h2, h3⟩

/-- X IS SOUND. -/
theorem ev_sound (hmix : P.follows .mixedOrders = true) (HX : ProgOk P X) (HH : HookOk P hook) : ∀ n, Sound P (ev X hook n)
  | 0 => fun k r h => by simp [ev] at h
  | n + 1 => evStep_sound hmix HX HH (ev_sound hmix HX HH n)

theorem noHook_ok : HookOk P noHook := fun k r e => by cases e

/-- A call of a function, from the machine's side. -/
theorem CallWP.calls {f : Nat} {args : List V} {h : Heap} {Q : V → Heap → Prop} (hw : CallWP P false f args h Q) {K : Nat → Prop} {w0 : World} {μ : Mu} {w : World} {args' : Array Value} (R : Rel P K w0 μ h w) (hv : VRs μ args args'.toList) :
    Calls P f args' w fun e w' => ∃ v h' μ' x, Q v h' ∧ Aft P K w0 μ μ' v h' x w' ∧ e = .returned x := by
  obtain ⟨fn, h1, h2, h3⟩ := hw
  intro cs
  obtain ⟨v, h', μ', w', fr, x, q, r1, r2, r3, r4, r5, r6, r7⟩ := h3 K w0 μ w args'.toList cs R hv
  exact ⟨.returned x, w', fr, ⟨v, h', μ', x, q, r1, rfl⟩, r2, r3, r4, r5, r6, fn, by rw [r3]; exact h1, r7⟩

/-- With nothing in X's heap. -/
theorem Rel.start (w : World) (hlim : RoLim.lim ≤ w.heap.size) : Rel P (fun b => b < w.heap.size) w (fun _ _ => none) ⟨.lf, 0⟩ w := by
  have hn : ∀ o, (⟨.lf, 0⟩ : Heap).get o = none := fun o => Tr.get_lf o
  have hl : ∀ o g, ¬ Live (⟨.lf, 0⟩ : Heap) o g := fun o g ⟨x, h, _⟩ => by rw [hn] at h; cases h
  constructor
  · intro o g l h; cases h
  · intro o g l x h; cases h
  · intro o x h; rw [hn] at h; cases h
  · intro o mo ins seen cur kd es ins' h; rw [hn] at h; cases h
  · intro o g l o' g' l' h; exact absurd h (hl o g)
  · intro o g l h; exact absurd h (hl o g)
  · exact fun b hb => ⟨hb, rfl⟩
  · rfl
  · rfl
  · rfl
  · exact Nat.le_refl _
  · exact hlim

/-- A function of nothing that X finds true. -/
theorem true_of_told (hmix : P.follows .mixedOrders = true) (HX : ProgOk P X) (HH : HookOk P hook) {f n : Nat} (ht : told (ev X hook n (.call false f [] ⟨.lf, 0⟩)) = some true) (w : World) (hlim : RoLim.lim ≤ w.heap.size) :
    Calls P f #[] w fun e w' => e = .returned (.bool true) ∧ (∀ b, b < w.heap.size → w'.heap[b]? = w.heap[b]?) ∧ w'.os = w.os ∧ w'.tape = w.tape ∧ w'.output = w.output ∧ w.heap.size ≤ w'.heap.size := by
  unfold told at ht
  split at ht <;> simp at ht
  rename_i b h' he
  subst ht
  have := CallWP.calls (args' := #[]) (ev_sound hmix HX HH n _ _ he) (Rel.start w hlim) .nil
  refine this.mono fun e w' ⟨v, h1, μ', x, ⟨q1, q2⟩, r, e1⟩ => ?_
  subst q1
  have hv := r.val
  cases hv
  exact ⟨e1, fun b hb => (r.rel.kept b hb).2, r.rel.os, r.rel.tape, r.rel.output, r.rel.size⟩
end
end Go.Xr

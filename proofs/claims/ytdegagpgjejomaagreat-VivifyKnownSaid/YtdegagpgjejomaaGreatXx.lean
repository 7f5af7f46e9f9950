/- The rules for code, in X's words. -/
import Derived.Test.YtdegagpgjejomaaGreatXw
namespace Go.Xr
open Go.RowKit

def Arr (P : Program) (m : Machine) (b : Frame) (k : List Item) (cs : List Frame) : XExit → Act → World → Prop
  | .normal, a, w => Steps P m (lone (fat b a k) cs w)
  | .exit id, a, w => ∃ k0, exitTo id k0 = exitTo id k ∧ Steps P m (lone (fat b a (.code (.exit id) :: k0)) cs w)
  | .ret, a, w => ∃ k0, Steps P m (lone (fat b a (.code .ret :: k0)) cs w)

structure Env [RoLim] (P : Program) (K : Nat → Prop) (w0 : World) (μ μ' : Mu) (t : Tr V) (d : List XDef) (h : Heap) (n : Nat) (a : Act) (w : World) : Prop where
  le : μ.le μ'
  rel : Rel P K w0 μ' h w
  sr : SR μ' t a.tmps
  dr : DRs μ' d a.defers
  size : a.tmps.size = n

def CodeWP [RoLim] (P : Program) (c : XCode) (rnd : Option Nat) (t : Tr V) (d : List XDef) (h : Heap) (Q : XExit → Tr V → List XDef → Heap → Prop) : Prop :=
  ∀ (K : Nat → Prop) (w0 : World) (μ : Mu) (w : World) (b : Frame) (a : Act) (k : List Item) (cs : List Frame) (n : Nat) (c' : Code),
    compCode P n c' = some c → n ≤ a.tmps.size → RndR μ rnd b.roundOf → Rel P K w0 μ h w → SR μ t a.tmps → DRs μ d a.defers →
    ∃ e t' d' h' μ' a' w', Q e t' d' h' ∧ Env P K w0 μ μ' t' d' h' a.tmps.size a' w' ∧ Arr P (lone (fat b a (.code c' :: k)) cs w) b k cs e a' w'

section
variable [RoLim] {P : Program} {rnd : Option Nat} {t : Tr V} {d : List XDef} {h : Heap} {Q : XExit → Tr V → List XDef → Heap → Prop}

omit [RoLim] in
theorem Arr.of_steps {m m1 : Machine} {b : Frame} {k : List Item} {cs : List Frame} {e : XExit} {a : Act} {w : World} (hs : Steps P m m1) (ha : Arr P m1 b k cs e a w) : Arr P m b k cs e a w := by
  cases e with
  | normal => exact hs.trans ha
  | exit id => obtain ⟨k0, h1, h2⟩ := ha; exact ⟨k0, h1, hs.trans h2⟩
  | ret => obtain ⟨k0, h2⟩ := ha; exact ⟨k0, hs.trans h2⟩

omit [RoLim] in
theorem Arr.pass {m : Machine} {b : Frame} {x : Item} {k : List Item} {cs : List Frame} {e : XExit} {a : Act} {w : World} (hx : ∀ id, exitTo id (x :: k) = exitTo id k) (he : e ≠ .normal) (ha : Arr P m b (x :: k) cs e a w) : Arr P m b k cs e a w := by
  cases e with
  | normal => exact absurd rfl he
  | exit id => obtain ⟨k0, h1, h2⟩ := ha; exact ⟨k0, h1.trans (hx id), h2⟩
  | ret => exact ha

theorem CodeWP.mono {c : XCode} {Q' : XExit → Tr V → List XDef → Heap → Prop} (hw : CodeWP P c rnd t d h Q) (hq : ∀ e t d h, Q e t d h → Q' e t d h) : CodeWP P c rnd t d h Q' := by
  intro K w0 μ w b a k cs n c' hc hn hr R hs hd
  obtain ⟨e, t', d', h', μ', a', w', q, r⟩ := hw K w0 μ w b a k cs n c' hc hn hr R hs hd
  exact ⟨e, t', d', h', μ', a', w', hq _ _ _ _ q, r⟩

omit [RoLim] in
theorem opd_VR {μ : Mu} {a : Act} {x' : Operand} {x : Opd} (hs : SR μ t a.tmps) (hx : opd x' = some x) : VR μ (rd t x) (a.eval x') := by
  cases x' with
  | tmp i => simp only [opd, Option.some.injEq] at hx; subst hx; exact hs i
  | const c =>
    simp only [opd] at hx
    split at hx <;> simp at hx
    rename_i v hv
    subst hx
    exact const_VR hv
  | func f => simp only [opd, Option.some.injEq] at hx; subst hx; exact .func .nil .nil
  | global g => simp [opd] at hx

omit [RoLim] in
theorem SR.put {μ : Mu} {a : Act} {dst : Option Nat} {v : V} {x : Value} (hs : SR μ t a.tmps) (hv : VR μ v x) (hd : ∀ i, dst = some i → i < a.tmps.size) : SR μ (putOpt t dst v) (a.put dst x).tmps := by
  cases dst with
  | none => exact hs
  | some i =>
    intro j
    show VR μ (slotOf (t.set i v) j) ((a.tmps.setIfInBounds i x).getD j undef)
    rw [slotOf_set]
    by_cases e : j = i
    · subst e
      have := hd j rfl
      simp [this]
      exact hv
    · rw [if_neg e]
      have := hs j
      simp only [Array.getD_eq_getD_getElem?, Array.getElem?_setIfInBounds_ne (Ne.symm e)] at this ⊢
      exact this

omit [RoLim] in
theorem put_size {a : Act} {dst : Option Nat} {x : Value} : (a.put dst x).tmps.size = a.tmps.size := by cases dst <;> simp [Act.put]
omit [RoLim] in
theorem put_defers' {a : Act} {dst : Option Nat} {x : Value} : (a.put dst x).defers = a.defers := by cases dst <;> rfl

omit [RoLim] in
theorem compRegion_form {n : Nat} {ops : Array Oper} {draw : Bool} {c : XCode} (hc : compRegion P n ops draw = some c) : ∃ ls, c = .region draw ls := by
  unfold compRegion at hc
  split at hc
  · cases hc
  · split at hc
    · injection hc with hc; exact ⟨_, hc.symm⟩
    · simp only at hc
      split at hc
      · injection hc with hc; exact ⟨_, hc.symm⟩
      · cases hc

theorem code_skip (q : Q .normal t d h) : CodeWP P .skip rnd t d h Q := by
  intro K w0 μ w b a k cs n c' hc hn hr R hs hd
  cases c' <;> simp only [compCode] at hc
  case skip => exact ⟨.normal, t, d, h, μ, a, w, q, ⟨Mu.le_refl μ, R, hs, hd, rfl⟩, .one fat_skip⟩
  all_goals (exfalso; (repeat' (split at hc)) <;> first | (simp at hc; done) | (obtain ⟨ls, hls⟩ := compRegion_form hc; cases hls))

theorem code_label (q : Q .normal t d h) : CodeWP P .label rnd t d h Q := by
  intro K w0 μ w b a k cs n c' hc hn hr R hs hd
  cases c' <;> simp only [compCode] at hc
  case label l => exact ⟨.normal, t, d, h, μ, a, w, q, ⟨Mu.le_refl μ, R, hs, hd, rfl⟩, .one fat_label⟩
  all_goals (exfalso; (repeat' (split at hc)) <;> first | (simp at hc; done) | (obtain ⟨ls, hls⟩ := compRegion_form hc; cases hls))

theorem code_scope {x : XCode} (hw : CodeWP P x rnd t d h Q) : CodeWP P (.scope x) rnd t d h Q := by
  intro K w0 μ w b a k cs n c' hc hn hr R hs hd
  have hx : ∃ x', c' = .scope x' ∧ compCode P n x' = some x := by
    cases c' <;> simp only [compCode] at hc
    case scope x' =>
      split at hc <;> simp at hc
      rename_i x1 e1
      subst hc
      exact ⟨_, rfl, e1⟩
    all_goals (exfalso; (repeat' (split at hc)) <;> first | (simp at hc; done) | (obtain ⟨ls, hls⟩ := compRegion_form hc; cases hls))
  obtain ⟨x', rfl, e1⟩ := hx
  obtain ⟨e, t1, d1, h1, μ1, a1, w1, q, r1, r2⟩ := hw K w0 μ w b a (.inScope x' :: k) cs n x' e1 hn hr R hs hd
  refine ⟨e, t1, d1, h1, μ1, a1, w1, q, r1, ?_⟩
  cases e with
  | normal => exact .head fat_scope (Steps.trans r2 (.one fat_inScope))
  | exit id => obtain ⟨k0, s1, s2⟩ := r2; exact ⟨k0, s1, .head fat_scope s2⟩
  | ret => obtain ⟨k0, s2⟩ := r2; exact ⟨k0, .head fat_scope s2⟩

theorem code_exit {id : Nat} (q : Q (.exit id) t d h) : CodeWP P (.exit id) rnd t d h Q := by
  intro K w0 μ w b a k cs n c' hc hn hr R hs hd
  cases c' <;> simp only [compCode] at hc
  case exit id' =>
    simp only [Option.some.injEq, XCode.exit.injEq] at hc
    subst hc
    exact ⟨.exit id', t, d, h, μ, a, w, q, ⟨Mu.le_refl μ, R, hs, hd, rfl⟩, ⟨k, rfl, Steps.refl P _⟩⟩
  all_goals (exfalso; (repeat' (split at hc)) <;> first | (simp at hc; done) | (obtain ⟨ls, hls⟩ := compRegion_form hc; cases hls))

theorem code_ret (q : Q .ret t d h) : CodeWP P .ret rnd t d h Q := by
  intro K w0 μ w b a k cs n c' hc hn hr R hs hd
  cases c' <;> simp only [compCode] at hc
  case ret => exact ⟨.ret, t, d, h, μ, a, w, q, ⟨Mu.le_refl μ, R, hs, hd, rfl⟩, ⟨k, Steps.refl P _⟩⟩
  all_goals (exfalso; (repeat' (split at hc)) <;> first | (simp at hc; done) | (obtain ⟨ls, hls⟩ := compRegion_form hc; cases hls))

theorem code_seq {x y : XCode} (hw : CodeWP P x rnd t d h fun e t d h => match e with | .normal => CodeWP P y rnd t d h Q | e => Q e t d h) : CodeWP P (.seq x y) rnd t d h Q := by
  intro K w0 μ w b a k cs n c' hc hn hr R hs hd
  have hx : ∃ x' y', c' = .seq x' y' ∧ compCode P n x' = some x ∧ compCode P n y' = some y := by
    cases c' <;> simp only [compCode] at hc
    case seq x' y' =>
      split at hc <;> simp at hc
      rename_i x1 y1 e1 e2
      obtain ⟨rfl, rfl⟩ := hc
      exact ⟨_, _, rfl, e1, e2⟩
    all_goals (exfalso; (repeat' (split at hc)) <;> first | (simp at hc; done) | (obtain ⟨ls, hls⟩ := compRegion_form hc; cases hls))
  obtain ⟨x', y', rfl, e1, e2⟩ := hx
  obtain ⟨e, t1, d1, h1, μ1, a1, w1, q, r1, r2⟩ := hw K w0 μ w b a (.code y' :: k) cs n x' e1 hn hr R hs hd
  have hfail : e ≠ .normal → Q e t1 d1 h1 → ∃ e t' d' h' μ' a' w', Q e t' d' h' ∧ Env P K w0 μ μ' t' d' h' a.tmps.size a' w' ∧ Arr P (lone (fat b a (.code (.seq x' y') :: k)) cs w) b k cs e a' w' :=
    fun he q => ⟨e, t1, d1, h1, μ1, a1, w1, q, r1, .of_steps (.one fat_seq) (r2.pass (fun _ => rfl) he)⟩
  cases e with
  | normal =>
    obtain ⟨e2', t2, d2, h2, μ2, a2, w2, q2, s1, s2⟩ := q K w0 μ1 w1 b a1 k cs n y' e2 (by rw [r1.size]; exact hn) (hr.mono r1.le) r1.rel r1.sr r1.dr
    exact ⟨e2', t2, d2, h2, μ2, a2, w2, q2, ⟨Mu.le_trans r1.le s1.le, s1.rel, s1.sr, s1.dr, s1.size.trans r1.size⟩, .of_steps (.head fat_seq r2) s2⟩
  | exit id => exact hfail (by simp) q
  | ret => exact hfail (by simp) q

theorem code_cond {c : Opd} {x y : XCode} {v : Bool} (hc : rd t c = .bool v) (hw : CodeWP P (if v then x else y) rnd t d h Q) : CodeWP P (.cond c x y) rnd t d h Q := by
  intro K w0 μ w b a k cs n c' hcc hn hr R hs hd
  have hx : ∃ o' x' y', c' = .cond o' x' y' ∧ opd o' = some c ∧ compCode P n x' = some x ∧ compCode P n y' = some y := by
    cases c' <;> simp only [compCode] at hcc
    case cond o' x' y' =>
      split at hcc <;> simp at hcc
      rename_i c1 x1 y1 e1 e2 e3
      obtain ⟨rfl, rfl, rfl⟩ := hcc
      exact ⟨_, _, _, rfl, e1, e2, e3⟩
    all_goals (exfalso; (repeat' (split at hcc)) <;> first | (simp at hcc; done) | (obtain ⟨ls, hls⟩ := compRegion_form hcc; cases hls))
  obtain ⟨o', x', y', rfl, e1, e2, e3⟩ := hx
  have hv := opd_VR hs e1
  rw [hc] at hv
  have hv' : a.eval o' = .bool v := by generalize a.eval o' = z at hv; cases hv; rfl
  obtain ⟨e, t1, d1, h1, μ1, a1, w1, q, r1, r2⟩ := hw K w0 μ w b a k cs n (if v then x' else y') (by cases v <;> simp [e2, e3]) hn hr R hs hd
  exact ⟨e, t1, d1, h1, μ1, a1, w1, q, r1, .of_steps (.one (fat_cond hv')) r2⟩

theorem code_block {id : Nat} {x : XCode} (hw : CodeWP P x rnd t d h fun e t d h => match e with | .exit i => (i = id → Q .normal t d h) ∧ (i ≠ id → Q (.exit i) t d h) | e => Q e t d h) : CodeWP P (.block id x) rnd t d h Q := by
  intro K w0 μ w b a k cs n c' hc hn hr R hs hd
  have hx : ∃ x', c' = .block id x' ∧ compCode P n x' = some x := by
    cases c' <;> simp only [compCode] at hc
    case block id' x' =>
      split at hc <;> simp at hc
      rename_i x1 e1
      obtain ⟨rfl, rfl⟩ := hc
      exact ⟨_, rfl, e1⟩
    all_goals (exfalso; (repeat' (split at hc)) <;> first | (simp at hc; done) | (obtain ⟨ls, hls⟩ := compRegion_form hc; cases hls))
  obtain ⟨x', rfl, e1⟩ := hx
  obtain ⟨e, t1, d1, h1, μ1, a1, w1, q, r1, r2⟩ := hw K w0 μ w b a (.inBlock id :: k) cs n x' e1 hn hr R hs hd
  cases e with
  | normal => exact ⟨.normal, t1, d1, h1, μ1, a1, w1, q, r1, .head fat_block (Steps.trans r2 (.one fat_inBlock))⟩
  | exit i =>
    obtain ⟨k0, s1, s2⟩ := r2
    by_cases hi : i = id
    · subst hi
      refine ⟨.normal, t1, d1, h1, μ1, a1, w1, q.1 rfl, r1, .head fat_block (Steps.trans s2 (.one (fat_exit (k' := k) ?_)))⟩
      rw [s1]
      simp [exitTo]
    · refine ⟨.exit i, t1, d1, h1, μ1, a1, w1, q.2 hi, r1, k0, ?_, .head fat_block s2⟩
      rw [s1]
      have : (id == i) = false := by simp; exact fun e => hi e.symm
      simp [exitTo, this]
  | ret => exact ⟨.ret, t1, d1, h1, μ1, a1, w1, q, r1, .of_steps (.one fat_block) r2⟩

omit [RoLim] in
theorem steps_tail {m m1 m2 : Machine} (h1 : step P m = .next m1) (h2 : Steps P m m2) (hne : m ≠ m2) : Steps P m1 m2 := by
  obtain ⟨n, hn⟩ := h2
  cases n with
  | zero => simp [runN] at hn; exact absurd hn hne
  | succ n => simp only [runN, h1] at hn; exact ⟨n, hn⟩

omit [RoLim] in
theorem lone_todo {f g : Frame} {cs cs' : List Frame} {w w' : World} (h : lone f cs w = lone g cs' w') : f = g := by
  have := congrArg (fun m => m.gs) h
  simp [lone] at this
  exact this.1

omit [RoLim] in
theorem arr_tail {x : Item} {m1 : Machine} {b : Frame} {a : Act} {k : List Item} {cs : List Frame} {w : World} {e : XExit} {a' : Act} {w' : World} (hx1 : ∀ id, x ≠ .code (.exit id)) (hx2 : x ≠ .code .ret)
    (h1 : step P (lone (fat b a (x :: k)) cs w) = .next m1) (h2 : Arr P (lone (fat b a (x :: k)) cs w) b k cs e a' w') : Arr P m1 b k cs e a' w' := by
  cases e with
  | normal =>
    refine steps_tail h1 h2 fun he => ?_
    have := congrArg Frame.todo (lone_todo he)
    simp [fat] at this
  | exit id =>
    obtain ⟨k0, q1, q2⟩ := h2
    refine ⟨k0, q1, steps_tail h1 q2 fun he => ?_⟩
    have := congrArg Frame.todo (lone_todo he)
    simp only [fat, List.cons.injEq] at this
    exact hx1 id this.1
  | ret =>
    obtain ⟨k0, q2⟩ := h2
    refine ⟨k0, steps_tail h1 q2 fun he => ?_⟩
    have := congrArg Frame.todo (lone_todo he)
    simp only [fat, List.cons.injEq] at this
    exact hx2 this.1

omit [RoLim] in
theorem comp_loop {n : Nat} {c' : Code} {x : XCode} (hc : compCode P n c' = some (.loop x)) : ∃ x', c' = .loop x' ∧ compCode P n x' = some x := by
  cases c' <;> simp only [compCode] at hc
  case loop x' =>
    split at hc <;> simp at hc
    rename_i x1 e1
    subst hc
    exact ⟨_, rfl, e1⟩
  all_goals (exfalso; (repeat' (split at hc)) <;> first | (simp at hc; done) | (obtain ⟨ls, hls⟩ := compRegion_form hc; cases hls))

theorem code_loop {x : XCode} (hw : CodeWP P x rnd t d h fun e t d h => match e with | .normal => CodeWP P (.loop x) rnd t d h Q | e => Q e t d h) : CodeWP P (.loop x) rnd t d h Q := by
  intro K w0 μ w b a k cs n c' hc hn hr R hs hd
  obtain ⟨x', rfl, e1⟩ := comp_loop hc
  obtain ⟨e, t1, d1, h1, μ1, a1, w1, q, r1, r2⟩ := hw K w0 μ w b a (.inLoop x' :: k) cs n x' e1 hn hr R hs hd
  have hfail : e ≠ .normal → Q e t1 d1 h1 → ∃ e t' d' h' μ' a' w', Q e t' d' h' ∧ Env P K w0 μ μ' t' d' h' a.tmps.size a' w' ∧ Arr P (lone (fat b a (.code (.loop x') :: k)) cs w) b k cs e a' w' :=
    fun he q => ⟨e, t1, d1, h1, μ1, a1, w1, q, r1, .of_steps (.one fat_loop) (r2.pass (fun _ => rfl) he)⟩
  cases e with
  | normal =>
    obtain ⟨e2', t2, d2, h2, μ2, a2, w2, q2, s1, s2⟩ := q K w0 μ1 w1 b a1 k cs n (.loop x') hc (by rw [r1.size]; exact hn) (hr.mono r1.le) r1.rel r1.sr r1.dr
    refine ⟨e2', t2, d2, h2, μ2, a2, w2, q2, ⟨Mu.le_trans r1.le s1.le, s1.rel, s1.sr, s1.dr, s1.size.trans r1.size⟩, .of_steps (.head fat_loop r2) ?_⟩
    have s3 := arr_tail (fun id => by simp) (by simp) fat_loop s2
    exact .of_steps (.one fat_inLoop) s3
  | exit id => exact hfail (by simp) q
  | ret => exact hfail (by simp) q

/-! ### Plain regions -/
def StepsWP (P : Program) (rnd : Option Nat) : List XStep → Tr V → List XDef → Heap → (Tr V → List XDef → Heap → Prop) → Prop
  | [], t, d, h, Q => Q t d h
  | s :: ss, t, d, h, Q => StepWP P s rnd t d h fun v d h => StepsWP P rnd ss (putOpt t s.dst v) d h Q

theorem steps_run {n : Nat} {ops : Array Oper} : ∀ (os : List Oper) (ss : List XStep) (j : Nat), compSteps P n ops os = some ss → (∀ i o, os[i]? = some o → ops[j + i]? = some o) →
    ∀ {t : Tr V} {d : List XDef} {h : Heap} {Q : Tr V → List XDef → Heap → Prop}, StepsWP P rnd ss t d h Q →
    ∀ (K : Nat → Prop) (w0 : World) (μ : Mu) (w : World) (b : Frame) (a : Act) (k : List Item) (cs : List Frame), n ≤ a.tmps.size → RndR μ rnd b.roundOf → Rel P K w0 μ h w → SR μ t a.tmps → DRs μ d a.defers →
    ∃ t' d' h' μ' a' w', Q t' d' h' ∧ Env P K w0 μ μ' t' d' h' a.tmps.size a' w' ∧ Steps P (lone (fat b a (.inRegion ops (List.range' j os.length) :: k)) cs w) (lone (fat b a' k) cs w') := by
  intro os
  induction os with
  | nil =>
    intro ss j hc hi t d h Q hw K w0 μ w b a k cs hn hr R hs hd
    simp [compSteps] at hc
    subst hc
    exact ⟨t, d, h, μ, a, w, hw, ⟨Mu.le_refl μ, R, hs, hd, rfl⟩, .one fat_region_end⟩
  | cons o os ih =>
    intro ss j hc hi t d h Q hw K w0 μ w b a k cs hn hr R hs hd
    simp only [compSteps] at hc
    split at hc <;> simp at hc
    rename_i s ss' e1 e2
    subst hc
    have hoj : ops[j]? = some o := by simpa using hi 0 o rfl
    obtain ⟨q1, q2, q3, q4⟩ := compStep_some e1
    obtain ⟨v, d1, h1, μ1, ds, x, w1, q, r1, r2, r3⟩ := hw K w0 μ w b a k cs ops j (List.range' (j + 1) os.length) o n e1 hoj hr R (fun y _ => hs y) hd
    have hsr : SR μ1 (putOpt t s.dst v) ((({ a with defers := ds } : Act).put o.dst x).tmps) := by
      rw [q3]
      exact SR.put (a := { a with defers := ds }) (hs.mono r1.le) r1.val fun i hi => Nat.lt_of_lt_of_le (q4 i hi) hn
    obtain ⟨t2, d2, h2, μ2, a2, w2, p1, p2, p3⟩ := ih ss' (j + 1) e2 (fun i o' ho' => by have := hi (i + 1) o' (by simpa using ho'); rwa [Nat.add_assoc, Nat.add_comm 1 i]) q K w0 μ1 w1 b _ k cs (by rw [put_size]; exact hn) (hr.mono r1.le) r1.rel hsr
      (by rw [put_defers']; exact r2)
    exact ⟨t2, d2, h2, μ2, a2, w2, p1, ⟨Mu.le_trans r1.le p2.le, p2.rel, p2.sr, p2.dr, by rw [p2.size, put_size]⟩, Steps.trans r3 p3⟩

end
end Go.Xr

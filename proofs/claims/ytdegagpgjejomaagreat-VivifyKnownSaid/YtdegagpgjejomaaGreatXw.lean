/- What is said of calls, rounds and single steps, in X's words. -/
import Derived.Test.YtdegagpgjejomaaGreatXv
namespace Go.Xr
open Go.RowKit

inductive DRs (μ : Mu) : List XDef → List Deferred → Prop
  | nil : DRs μ [] []
  | call {f : Nat} {args : List V} {caps xs : Array Value} {D : List XDef} {ds : List Deferred} (h : VRs μ args (xs.toList ++ caps.toList)) (hr : DRs μ D ds) : DRs μ (.call f args :: D) ({ target := .fn (.func f) caps, args := xs } :: ds)
  | coll {o : Nat} {l : Loc} {D : List XDef} {ds : List Deferred} (h : μ o 0 = some l) (hr : DRs μ D ds) : DRs μ (.collected o :: D) ({ target := .collected l.blk, args := #[] } :: ds)

theorem DRs.mono {μ μ' : Mu} (hle : μ.le μ') {D : List XDef} {ds : List Deferred} (h : DRs μ D ds) : DRs μ' D ds := by
  induction h with
  | nil => exact .nil
  | call h _ ih => exact .call (h.mono hle) ih
  | coll h _ ih => exact .coll (hle _ _ _ h) ih

def RndR (μ : Mu) : Option Nat → Option Nat → Prop
  | none, none => True
  | some o, some b => ∃ l, μ o 0 = some l ∧ l.blk = b
  | _, _ => False

theorem RndR.mono {μ μ' : Mu} (hle : μ.le μ') {x y : Option Nat} (h : RndR μ x y) : RndR μ' x y := by
  cases x <;> cases y <;> first | exact h | (obtain ⟨l, h1, h2⟩ := h; exact ⟨l, hle _ _ _ h1, h2⟩)

/-- What comes behind: X's value and heap, and the machine's. -/
structure Aft [RoLim] (P : Program) (K : Nat → Prop) (w0 : World) (μ μ' : Mu) (v : V) (h : Heap) (x : Value) (w : World) : Prop where
  le : μ.le μ'
  rel : Rel P K w0 μ' h w
  val : VR μ' v x

/-- A function that can be entered. -/
def Func.real (fn : Func) : Prop := fn.name ≠ "runtime.NumGoroutine" ∧ fn.body.isSome = true

/-- How a call was come by. -/
def kindOf : Bool → CallKind
  | true => .deferred
  | false => .normal

def CallWP [RoLim] (P : Program) (dk : Bool) (f : Nat) (args : List V) (h : Heap) (Q : V → Heap → Prop) : Prop :=
  ∃ fn, P.funcs[f]? = some fn ∧ Func.real fn ∧
  ∀ (K : Nat → Prop) (w0 : World) (μ : Mu) (w : World) (args' : List Value) (cs : List Frame), Rel P K w0 μ h w → VRs μ args args' →
    ∃ v h' μ' w' fr x, Q v h' ∧ Aft P K w0 μ μ' v h' x w' ∧ Steps P (lone (Frame.enter P f args'.toArray (kindOf dk)) cs w) (lone fr cs w') ∧
      fr.fn = f ∧ fr.mode = .returning ∧ fr.defers = [] ∧ fr.kind = kindOf dk ∧ (results fn fr.tmps).run P w' = .ok x w'

def RoundWP [RoLim] (P : Program) (o : Nat) (args : List V) (h : Heap) (Q : V → Heap → Prop) : Prop :=
  ∀ (K : Nat → Prop) (w0 : World) (μ : Mu) (w : World) (args' : List Value) (l : Loc) (c : Frame) (cs : List Frame), Rel P K w0 μ h w → VRs μ args args' → μ o 0 = some l →
    ∃ fn tmps as bo, (Instr.yield l.blk args'.toArray).run P w = .ok (.round l.blk fn tmps as bo) w ∧
      ∃ v h' μ' w' x, Q v h' ∧ Aft P K w0 μ μ' v h' x w' ∧ Steps P (lone (Frame.round l.blk fn tmps as bo .normal) (c :: cs) w) (lone (c.finish x) cs w')

def ApplyWP [RoLim] (P : Program) (f : V) (args : List V) (h : Heap) (Q : V → Heap → Prop) : Prop :=
  ∀ (K : Nat → Prop) (w0 : World) (μ : Mu) (w : World) (f' : Value) (args' : Array Value) (c : Frame) (cs : List Frame), Rel P K w0 μ h w → VR μ f f' → VRs μ args args'.toList →
    ∃ n fr, (do let d ← Deferred.ofValue f' args'; invoke d.target d.args : Sem Next).run P w = .ok n w ∧ Entered P n fr ∧
      ∃ v h' μ' w' x, Q v h' ∧ Aft P K w0 μ μ' v h' x w' ∧ Steps P (lone fr (c :: cs) w) (lone (c.finish x) cs w')

def StepWP [RoLim] (P : Program) (s : XStep) (rnd : Option Nat) (t : Tr V) (d : List XDef) (h : Heap) (Q : V → List XDef → Heap → Prop) : Prop :=
  ∀ (K : Nat → Prop) (w0 : World) (μ : Mu) (w : World) (b : Frame) (a : Act) (k : List Item) (cs : List Frame) (ops : Array Oper) (i : Nat) (rest : List Nat) (o : Oper) (n : Nat),
    compStep P n ops o = some s → ops[i]? = some o → RndR μ rnd b.roundOf → Rel P K w0 μ h w → (∀ x ∈ names ops o, VR μ (slotOf t x) (a.tmps.getD x undef)) → DRs μ d a.defers →
    ∃ v d' h' μ' ds x w', Q v d' h' ∧ Aft P K w0 μ μ' v h' x w' ∧ DRs μ' d' ds ∧
      Steps P (lone (fat b a (.inRegion ops (i :: rest) :: k)) cs w) (lone (fat b (({ a with defers := ds } : Act).put o.dst x) (.inRegion ops rest :: k)) cs w')

section
variable [RoLim] {P : Program}

theorem CallWP.mono {dk : Bool} {f : Nat} {args : List V} {h : Heap} {Q Q' : V → Heap → Prop} (hw : CallWP P dk f args h Q) (hq : ∀ v h, Q v h → Q' v h) : CallWP P dk f args h Q' := by
  obtain ⟨fn, h1, h2, h3⟩ := hw
  refine ⟨fn, h1, h2, fun K w0 μ w args' cs R hv => ?_⟩
  obtain ⟨v, h', μ', w', fr, x, q, r⟩ := h3 K w0 μ w args' cs R hv
  exact ⟨v, h', μ', w', fr, x, hq _ _ q, r⟩

theorem ApplyWP.mono {f : V} {args : List V} {h : Heap} {Q Q' : V → Heap → Prop} (hw : ApplyWP P f args h Q) (hq : ∀ v h, Q v h → Q' v h) : ApplyWP P f args h Q' := by
  intro K w0 μ w f' args' c cs R hf hv
  obtain ⟨n, fr, h1, h2, v, h', μ', w', x, q, r⟩ := hw K w0 μ w f' args' c cs R hf hv
  exact ⟨n, fr, h1, h2, v, h', μ', w', x, hq _ _ q, r⟩

omit [RoLim] in
theorem run_callFunc {f : Nat} {fn : Func} {args : Array Value} {w : World} (hf : P.funcs[f]? = some fn) (hr : Func.real fn) : (callFunc f args).run P w = .ok (.enter f args) w := by
  obtain ⟨h1, h2⟩ := hr
  cases hb : fn.body with
  | none => simp [hb] at h2
  | some c => simp [callFunc, hf, h1, hb]

omit [RoLim] in
theorem fr_leaves {fr c : Frame} {cs : List Frame} {w : World} {f : Nat} {fn : Func} {x : Value} (hf : P.funcs[f]? = some fn) (h1 : fr.fn = f) (h2 : fr.mode = .returning) (h3 : fr.defers = []) (h4 : fr.kind = .normal) (h5 : (results fn fr.tmps).run P w = .ok x w) :
    step P (lone fr (c :: cs) w) = .next (lone (c.finish x) cs w) := by
  subst h1
  exact step_leave_returned ⟨h2, h3, h4, fn, hf, h5⟩

omit [RoLim] in
theorem entered_enter (f : Nat) (args : Array Value) : Entered P (.enter f args) (Frame.enter P f args .normal) := rfl
omit [RoLim] in
theorem entered_round (l f : Nat) (tmps : Array Value) (as bo : Code) : Entered P (.round l f tmps as bo) (Frame.round l f tmps as bo .normal) := rfl

theorem apply_call {g : Nat} {first args caps : List V} {h : Heap} {Q : V → Heap → Prop} (hw : CallWP P false g (first ++ (args ++ caps)) h Q) : ApplyWP P (.func g first caps) args h Q := by
  obtain ⟨fn, h1, h2, h3⟩ := hw
  intro K w0 μ w f' args' c cs R hf hv
  cases hf with
  | @func _ _ _ a' b' ha hb =>
    obtain ⟨v, h', μ', w', fr, x, q, r1, r2, r3, r4, r5, r6, r7⟩ := h3 K w0 μ w (a' ++ (args'.toList ++ b')) (c :: cs) R (ha.append (hv.append hb))
    refine ⟨.enter g (a' ++ (args'.toList ++ b')).toArray, Frame.enter P g (a' ++ (args'.toList ++ b')).toArray  .normal, ?_, entered_enter _ _, v, h', μ', w', x, q, r1, Steps.trans r2 (.one (fr_leaves h1 r3 r4 r5 r6 r7))⟩
    have : a'.toArray ++ args' ++ b'.toArray = (a' ++ (args'.toList ++ b')).toArray := by apply Array.ext'; simp
    simp [Deferred.ofValue, invoke, run_callFunc h1 h2, this]

theorem apply_round {o : Nat} {args : List V} {h : Heap} {Q : V → Heap → Prop} (hw : RoundWP P o args h Q) : ApplyWP P (.yield o) args h Q := by
  intro K w0 μ w f' args' c cs R hf hv
  cases hf with
  | @yield _ l hl =>
    obtain ⟨fn, tmps, as, bo, h1, v, h', μ', w', x, q, r1, r2⟩ := hw K w0 μ w args'.toList l c cs R hv hl
    refine ⟨_, _, ?_, entered_round _ _ _ _ _, v, h', μ', w', x, q, r1, r2⟩
    simpa [Deferred.ofValue, invoke] using h1

/-! ### Steps -/
omit [RoLim] in
theorem compStep_some {n : Nat} {ops : Array Oper} {o : Oper} {s : XStep} (hc : compStep P n ops o = some s) :
    s.op = (match compOp P o with | some op => op | none => .bad) ∧ guardOf ops o.guard = some s.guard ∧ s.dst = o.dst ∧ (∀ d, o.dst = some d → d < n) := by
  have hm : ∀ op, (match compOp P o with | some op => some op | none => some XOp.bad) = some op → op = (match compOp P o with | some op => op | none => .bad) := by
    intro op hop
    cases hco : compOp P o with
    | none => rw [hco] at hop; simp at hop; exact hop.symm
    | some op1 => rw [hco] at hop; simp at hop; exact hop.symm
  unfold compStep at hc
  split at hc <;> try (simp at hc; done)
  rename_i op g h1 h2
  split at hc
  · rename_i d hd
    split at hc <;> simp at hc
    rename_i hlt
    subst hc
    refine ⟨?_, h2, hd.symm, fun d' hd' => ?_⟩
    · exact hm op h1
    · rw [hd] at hd'; cases hd'; exact Nat.le_of_ble_eq_true hlt
  · rename_i hd
    simp at hc
    subst hc
    refine ⟨?_, h2, hd.symm, fun d' hd' => ?_⟩
    · exact hm op h1
    · rw [hd] at hd'; cases hd'

omit [RoLim] in
theorem wanted_eq {μ : Mu} {ops : Array Oper} {o : Oper} {s : XStep} {t : Tr V} {tmps : Array Value} (hg : guardOf ops o.guard = some s.guard) (hn : ∀ x ∈ names ops o, VR μ (slotOf t x) (tmps.getD x undef)) {w : Bool} (hw : wantedV t s.guard = some w) :
    Region.wanted o (yielded ops tmps) = w := by
  unfold guardOf at hg
  split at hg
  · rename_i h0
    injection hg with hg
    rw [← hg] at hw
    simp only [wantedV, Option.some.injEq] at hw
    subst hw
    simp [Region.wanted, h0]
  · rename_i j want h0
    split at hg <;> try (cases hg; done)
    rename_i oj hj
    split at hg <;> try (cases hg; done)
    rename_i dd hd
    injection hg with hg
    rw [← hg] at hw
    have hm : dd ∈ names ops o := by
      unfold names
      refine List.mem_append_right _ ?_
      simp [h0, hj, hd]
    have hv := hn dd hm
    have hy : yielded ops tmps j = match tmps[dd]? with | some (.bool b) => some b | _ => none := by
      unfold yielded
      rw [hj]
      simp only [Option.bind_some, hd]
      cases tmps[dd]? with
      | none => rfl
      | some x => cases x <;> rfl
    unfold Region.wanted
    simp only [wantedV] at hw
    simp only [h0]
    rw [hy]
    have hgd : tmps.getD dd undef = (tmps[dd]?).getD undef := by simp
    rw [hgd] at hv
    cases ht : tmps[dd]? with
    | none =>
      rw [ht] at hv
      simp only [Option.getD_none, undef] at hv
      cases hs : slotOf t dd <;> rw [hs] at hv hw <;> cases hv <;> simp at hw
      subst hw
      simp
    | some x =>
      rw [ht] at hv
      simp only [Option.getD_some] at hv
      cases hs : slotOf t dd <;> rw [hs] at hv hw <;> cases hv <;> simp at hw <;> subst hw <;> simp
      all_goals (cases want <;> first | (rename_i bb; cases bb <;> rfl) | skip)

omit [RoLim] in
theorem op2_of {μ : Mu} {ops : Array Oper} {o : Oper} {t : Tr V} {a : Act} (hn : ∀ x ∈ names ops o, VR μ (slotOf t x) (a.tmps.getD x undef)) : ∀ x' ∈ o.op.operands.toList, Op2 μ (rd t) a.eval x' := by
  intro x' hx' x hx
  cases x' with
  | tmp i =>
    simp only [opd, Option.some.injEq] at hx
    subst hx
    exact hn i (List.mem_append_left _ (List.mem_filterMap.2 ⟨.tmp i, hx', rfl⟩))
  | const c =>
    simp only [opd] at hx
    split at hx <;> simp at hx
    rename_i v hv
    subst hx
    exact const_VR hv
  | func f =>
    simp only [opd, Option.some.injEq] at hx
    subst hx
    exact .func .nil .nil
  | global g => simp [opd] at hx

theorem step_skipped {s : XStep} {rnd : Option Nat} {t : Tr V} {d : List XDef} {h : Heap} {Q : V → List XDef → Heap → Prop} (hw : wantedV t s.guard = some false) (q : Q .undef d h) : StepWP P s rnd t d h Q := by
  intro K w0 μ w b a k cs ops i rest o n hc ho hrnd R hn hd
  obtain ⟨h1, h2, h3, h4⟩ := compStep_some hc
  exact ⟨_, d, h, μ, a.defers, undef, w, q, ⟨Mu.le_refl μ, R, VR.undef μ⟩, hd, .one (fat_op_skip ho (wanted_eq h2 hn hw))⟩

/-- What an operation that calls nothing comes to. -/
theorem step_res {s : XStep} {rnd : Option Nat} {t : Tr V} {d : List XDef} {h : Heap} {Q : V → List XDef → Heap → Prop} (hw : wantedV t s.guard = some true) (hs : ∀ f args, s.op ≠ .defer f args)
    (hr : ∀ (K : Nat → Prop) (w0 : World) (μ : Mu) (w : World) (o : Oper) (ρ' : Operand → Value), compOp P o = some s.op → (∀ x' ∈ o.op.operands.toList, Op2 μ (rd t) ρ' x') → (∀ v, ρ' (.const v) = v) → Rel P K w0 μ h w →
      ∃ v h', Q v d h' ∧ Res P K w0 μ ((execOp ρ' o).run P w) v h') (hb : s.op ≠ .bad) : StepWP P s rnd t d h Q := by
  intro K w0 μ w b a k cs ops i rest o n hc ho hrnd R hn hd
  obtain ⟨h1, h2, h3, h4⟩ := compStep_some hc
  have hc1 : compOp P o = some s.op := by
    cases hco : compOp P o with
    | none => rw [hco] at h1; exact absurd h1 hb
    | some op => rw [hco] at h1; rw [h1]
  obtain ⟨v, h', q, μ', x, w', nx, r1, r2, r3, r4, r5⟩ := hr K w0 μ w o a.eval hc1 (op2_of hn) (fun _ => rfl) R
  refine ⟨v, d, h', μ', a.defers, x, w', q, ⟨r3, r4, r5⟩, hd.mono r3, .one (fat_op_value ho (wanted_eq h2 hn hw) ?_ r1 r2)⟩
  refine .inr fun c hcd => ?_
  unfold compOp at hc1
  rw [hcd] at hc1
  simp only at hc1
  split at hc1 <;> try (simp at hc1; done)
  split at hc1 <;> simp at hc1
  exact hs _ _ hc1.symm

theorem step_op {s : XStep} {rnd : Option Nat} {t : Tr V} {d : List XDef} {h h' : Heap} {v : V} {Q : V → List XDef → Heap → Prop} (hw : wantedV t s.guard = some true) (he : opEv s.op (rd t) h = some (v, h')) (q : Q v d h') : StepWP P s rnd t d h Q :=
  step_res hw (fun f args e => by rw [e] at he; simp [opEv] at he) (fun K w0 μ w o ρ' hc hρ hk R => ⟨v, h', q, op_sound P o hc hρ hk R he⟩) (fun e => by rw [e] at he; simp [opEv] at he)

omit [RoLim] in
theorem comp_call {o : Oper} {f : Opd} {args : List Opd} (hc : compOp P o = some (.call f args)) : ∃ c f' , o.op = .call c ∧ c.callee = .value f' ∧ opd f' = some f ∧ opds c.args.toList = some args := by
  cases hop : o.op
  case call c =>
    unfold compOp at hc
    rw [hop] at hc
    simp only at hc
    refine ⟨c, ?_⟩
    unfold compCall at hc
    split at hc
    · rename_i f' hcal
      split at hc <;> simp at hc
      rename_i f1 a1 e1 e2
      obtain ⟨rfl, rfl⟩ := hc
      exact ⟨f', rfl, hcal, e1, e2⟩
    all_goals (repeat' (split at hc)) <;> first | (simp at hc; done) | contradiction
  all_goals (exfalso; unfold compOp at hc; rw [hop] at hc; simp only at hc; (repeat' (split at hc)) <;> first | (simp at hc; done) | contradiction)

theorem step_call {s : XStep} {rnd : Option Nat} {t : Tr V} {d : List XDef} {h : Heap} {f : Opd} {args : List Opd} {Q : V → List XDef → Heap → Prop} (hw : wantedV t s.guard = some true) (hs : s.op = .call f args)
    (ha : ApplyWP P (rd t f) (vals (rd t) args) h fun v h' => Q v d h') : StepWP P s rnd t d h Q := by
  intro K w0 μ w b a k cs ops i rest o n hc ho hrnd R hn hd
  obtain ⟨h1, h2, h3, h4⟩ := compStep_some hc
  have hc1 : compOp P o = some (.call f args) := by
    cases hco : compOp P o with
    | none => rw [hco, hs] at h1; cases h1
    | some op => rw [hco, hs] at h1; rw [h1]
  obtain ⟨c, f', e1, e2, e3, e4⟩ := comp_call hc1
  have hops := op2_of (a := a) hn
  rw [e1] at hops
  have hf : VR μ (rd t f) (a.eval f') := hops f' (by simp [Op.operands, Call.operands, e2]) f e3
  have hargs : VRs μ (vals (rd t) args) (c.args.map a.eval).toList := by
    have := opds_VRs (μ := μ) (ρ := rd t) (ρ' := a.eval) e4 (fun x' hx' => hops x' (by simp [Op.operands, Call.operands]; exact .inr (by simpa using hx')))
    simpa using this
  obtain ⟨nx, fr, q1, q2, v, h', μ', w', x, q, r1, r2⟩ := ha K w0 μ w (a.eval f') (c.args.map a.eval) (fat b a (.inRegion ops (i :: rest) :: k)) cs R hf hargs
  have hex : (execOp a.eval o).run P w = .ok nx w := by
    unfold execOp
    rw [e1]
    simpa [resolve, e2] using q1
  refine ⟨v, d, h', μ', a.defers, x, w', q, r1, hd.mono r1.le, ?_⟩
  have hfin := finish_fat b a ops i rest k x
  rw [ho] at hfin
  rw [show (Option.bind (some o) fun x => x.dst) = o.dst from rfl] at hfin
  rw [hfin] at r2
  exact .head (fat_op_enter ho (wanted_eq h2 hn hw) (.inr fun c' hcd => by rw [e1] at hcd; cases hcd) hex q2) r2

theorem load_run {K : Nat → Prop} {w0 : World} {μ : Mu} {h : Heap} {w : World} (R : Rel P K w0 μ h w) {t : TypeId} {g : Bool} {n m : Nat} {v y : V} {a : Value} (hag : aggOf P t = some g) (hn : sizOf P t = some n) (hx : VR μ v a) (hm : m = bif g then n else 1)
    (hr : recvOf h v (some (g, m)) = some y) : ∃ ad x, a = .pointer (some ad) ∧ (loadVar t ad).run P w = .ok x w ∧ VR μ y x := by
  simp only [recvOf, opEv, rd] at hr
  cases hx <;> simp only at hr <;> try (cases hr; done)
  rename_i o1 g1 off l hml
  cases hc : readCells h o1 g1 off m with
  | none => rw [hc] at hr; cases hr
  | some vs =>
    obtain ⟨xs, h1, h2, h3, h4⟩ := R.read hc hml
    rw [hc] at hr
    cases g with
    | true =>
      simp only at hr
      cases hr
      refine ⟨_, .agg xs.toArray, rfl, ?_, .agg h1⟩
      have := run_loadCells_read (P := P) h4
      rw [h3] at this
      simp only [cond_true] at hm
      subst hm
      simp [loadVar, run_isAgg hag, run_sizeOf hn, this]
    | false =>
      match vs, hr, h1 with
      | [v1], hr, h1 =>
        simp only at hr
        cases hr
        cases h1 with
        | @cons _ x _ _ hv hr =>
          cases hr
          refine ⟨_, x, rfl, ?_, hv⟩
          have := h4 0 x rfl
          simp only [Nat.add_zero] at this
          simp [loadVar, run_isAgg hag, this]
      | [], hr, _ => simp at hr
      | _ :: _ :: _, hr, _ => simp at hr

omit [RoLim] in
theorem methodRow_fst {name : String} {t : Nat} {r : Nat × Nat × Option (Bool × Nat)} (hr : methodRow P name t = some r) : r.1 = t := by
  unfold methodRow at hr
  split at hr
  · cases hr
  · split at hr
    · cases hr
    · split at hr <;> try (cases hr; done)
      · cases hr; rfl
      · split at hr <;> cases hr; rfl
      · cases hr; rfl

omit [RoLim] in
theorem rowOf_some {name : String} {ty f : Nat} {r : Option (Bool × Nat)} : ∀ {l : List Nat}, rowOf ty (l.filterMap (methodRow P name)) = some (f, r) → methodRow P name ty = some (ty, f, r)
  | [], h => by simp [rowOf] at h
  | t :: l, h => by
    rw [List.filterMap_cons] at h
    cases hm : methodRow P name t with
    | none => rw [hm] at h; exact rowOf_some h
    | some q =>
      rw [hm] at h
      obtain ⟨t', f', r'⟩ := q
      have := methodRow_fst hm
      simp only at this
      subst this
      simp only [rowOf] at h
      split at h
      · rename_i hb
        have := Nat.eq_of_beq_eq_true hb
        subst this
        cases h
        exact hm
      · exact rowOf_some h

theorem method_run {K : Nat → Prop} {w0 : World} {μ : Mu} {h : Heap} {w : World} (R : Rel P K w0 μ h w) {name : String} {ty f k : Nat} {r : Option (Bool × Nat)} {v y : V} {v' : Value} (hm : methodRow P name ty = some (ty, f, r)) (hv : VR μ v v') (hy : recvOf h v r = some y) :
    ∃ y', VR μ y y' ∧ (method (k + 1) ty v' name).run P w = .ok (f, y') w := by
  unfold methodRow at hm
  split at hm
  · cases hm
  · rename_i i hi
    split at hm
    · cases hm
    · rename_i m hfind
      split at hm <;> try (cases hm; done)
      · rename_i f1 e hp hf hu
        cases hm
        simp only [recvOf, Option.some.injEq] at hy
        subst hy
        refine ⟨v', hv, ?_⟩
        simp [method, run_typeInfo hi, hfind, hp, follow, hf, receiverAt, run_und hu, Place.get]
      · rename_i f1 e hp hf hu
        split at hm <;> cases hm
        rename_i g n hag hn
        obtain ⟨ad, x, rfl, h2, h3⟩ := load_run R hag hn hv (by cases g <;> rfl) hy
        refine ⟨x, h3, ?_⟩
        simp only [method, Sem.run_bind, run_typeInfo hi, Result.andThen_ok, hfind, hp, follow, Sem.run_pure, hf, receiverAt, run_und hu, Place.get]
        have hchk : ∀ s : String, Builtin.ssaWrapNilChk_ #[ty] ty #[Value.pointer (some ad), strVal "", strVal s] = pure (.pointer (some ad)) := fun _ => rfl
        cases m.path.isEmpty <;> simp [hchk, asAddr, h2]
      · rename_i f1 e hne hp hf hu
        cases hm
        simp only [recvOf, Option.some.injEq] at hy
        subst hy
        refine ⟨v', hv, ?_⟩
        cases e with
        | pointer e => exact (hne e rfl).elim
        | _ => simp [method, run_typeInfo hi, hfind, hp, follow, hf, receiverAt, run_und hu, Place.get]

omit [RoLim] in
theorem comp_invoke {o : Oper} {x : Opd} {rows : List (Nat × Nat × Option (Bool × Nat))} {args : List Opd} (hc : compOp P o = some (.invoke x rows args)) : ∃ c x' name, o.op = .call c ∧ c.callee = .invoke x' name ∧ opd x' = some x ∧ opds c.args.toList = some args ∧ rows = methodRows P name := by
  cases hop : o.op
  case call c =>
    unfold compOp at hc
    rw [hop] at hc
    simp only at hc
    refine ⟨c, ?_⟩
    unfold compCall at hc
    split at hc
    · split at hc <;> simp at hc
    · rename_i x' name hcal
      split at hc <;> simp at hc
      rename_i x1 a1 e1 e2
      obtain ⟨rfl, rfl, rfl⟩ := hc
      exact ⟨x', name, rfl, hcal, e1, e2, rfl⟩
    all_goals (repeat' (split at hc)) <;> first | (simp at hc; done) | contradiction
  all_goals (exfalso; unfold compOp at hc; rw [hop] at hc; simp only at hc; (repeat' (split at hc)) <;> first | (simp at hc; done) | contradiction)

theorem step_invoke {s : XStep} {rnd : Option Nat} {t : Tr V} {d : List XDef} {h : Heap} {x : Opd} {rows : List (Nat × Nat × Option (Bool × Nat))} {args : List Opd} {Q : V → List XDef → Heap → Prop} {ty f : Nat} {r : Option (Bool × Nat)} {v y : V} (hw : wantedV t s.guard = some true) (hs : s.op = .invoke x rows args)
    (hx : rd t x = .iface ty v) (hrow : rowOf ty rows = some (f, r)) (hy : recvOf h v r = some y) (ha : CallWP P false f (y :: vals (rd t) args) h fun v h' => Q v d h') : StepWP P s rnd t d h Q := by
  intro K w0 μ w b a k cs ops i rest o n hc ho hrnd R hn hd
  obtain ⟨h1, h2, h3, h4⟩ := compStep_some hc
  have hc1 : compOp P o = some (.invoke x rows args) := by
    cases hco : compOp P o with
    | none => rw [hco, hs] at h1; cases h1
    | some op => rw [hco, hs] at h1; rw [h1]
  obtain ⟨c, x', name, e1, e2, e3, e4, rfl⟩ := comp_invoke hc1
  have hops := op2_of (a := a) hn
  rw [e1] at hops
  have hxv : VR μ (rd t x) (a.eval x') := hops x' (by simp [Op.operands, Call.operands, e2]) x e3
  have hargs : VRs μ (vals (rd t) args) (c.args.map a.eval).toList := by
    have := opds_VRs (μ := μ) (ρ := rd t) (ρ' := a.eval) e4 (fun x' hx' => hops x' (by simp [Op.operands, Call.operands]; exact .inr (by simpa using hx')))
    simpa using this
  rw [hx] at hxv
  generalize hxe : a.eval x' = xv at hxv
  cases hxv with
  | @iface _ _ v' hv =>
    obtain ⟨y', hvy, hmeth⟩ := method_run (k := P.types.size + (Made.depth - 1)) R (rowOf_some hrow) hv hy
    obtain ⟨fn, f1, f2, f3⟩ := ha
    obtain ⟨v1, h', μ', w', fr, x1, q, r1, r2, r3, r4, r5, r6, r7⟩ := f3 K w0 μ w (y' :: (c.args.map a.eval).toList) (fat b a (.inRegion ops (i :: rest) :: k) :: cs) R (.cons hvy hargs)
    have hex : (execOp a.eval o).run P w = .ok (.enter f (y' :: (c.args.map a.eval).toList).toArray) w := by
      unfold execOp
      rw [e1]
      have hmeth' : (method (P.types.size + Made.depth) ty v' name).run P w = .ok (f, y') w := hmeth
      have harr : #[y'] ++ c.args.map a.eval = (y' :: (c.args.map a.eval).toList).toArray := by apply Array.ext'; simp
      have h0 : (#[Value.iface ty v'] ++ c.args.map a.eval)[0]? = some (Value.iface ty v') := by rw [Array.getElem?_append_left (by simp)]; rfl
      have hx1 : (#[Value.iface ty v'] ++ c.args.map a.eval).extract 1 (#[Value.iface ty v'] ++ c.args.map a.eval).size = c.args.map a.eval := by
        apply Array.ext'
        simp
        rw [List.take_of_length_le (by simp)]
      have hcm : (callMethod (.iface ty v') name (c.args.map a.eval)).run P w = .ok (.enter f (y' :: (c.args.map a.eval).toList).toArray) w := by
        simp only [callMethod, Sem.run_bind, run_program, Result.andThen_ok, hmeth', harr, run_callFunc f1 f2]
      simp only [resolve, e2, pure_bind, invoke, hxe, h0, hx1]
      exact hcm
    refine ⟨v1, d, h', μ', a.defers, x1, w', q, r1, hd.mono r1.le, ?_⟩
    have hfin := finish_fat b a ops i rest k x1
    rw [ho] at hfin
    rw [show (Option.bind (some o) fun x => x.dst) = o.dst from rfl] at hfin
    have hlast := Steps.trans r2 (.one (fr_leaves f1 r3 r4 r5 r6 r7))
    rw [hfin] at hlast
    exact .head (fat_op_enter ho (wanted_eq h2 hn hw) (.inr fun c' hcd => by rw [e1] at hcd; cases hcd) hex (entered_enter _ _)) hlast

theorem step_defers {s : XStep} {t : Tr V} {d : List XDef} {h : Heap} {f : Opd} {args : List Opd} {g : Nat} {first caps : List V} {Q : V → List XDef → Heap → Prop} (hw : wantedV t s.guard = some true) (hs : s.op = .defer f args)
    (hf : rd t f = .func g first caps) (q : Q .undef (.call g (first ++ (vals (rd t) args ++ caps)) :: d) h) : StepWP P s none t d h Q := by
  intro K w0 μ w b a k cs ops i rest o n hc ho hrnd R hn hd
  obtain ⟨h1, h2, h3, h4⟩ := compStep_some hc
  have hc1 : compOp P o = some (.defer f args) := by
    cases hco : compOp P o with
    | none => rw [hco, hs] at h1; cases h1
    | some op => rw [hco, hs] at h1; rw [h1]
  have hb : b.roundOf = none := by cases hb : b.roundOf with | none => rfl | some l => rw [hb] at hrnd; exact hrnd.elim
  have hcd : ∃ c f', o.op = .defer c ∧ c.callee = .value f' ∧ opd f' = some f ∧ opds c.args.toList = some args := by
    cases hop : o.op
    case defer c =>
      unfold compOp at hc1
      rw [hop] at hc1
      simp only at hc1
      split at hc1 <;> try (simp at hc1; done)
      rename_i f' args' e1 e2
      split at hc1 <;> simp at hc1
      rename_i f1 e3
      obtain ⟨rfl, rfl⟩ := hc1
      exact ⟨c, f', rfl, e1, e3, e2⟩
    case call c =>
      exfalso
      unfold compOp at hc1
      rw [hop] at hc1
      simp only at hc1
      unfold compCall at hc1
      (repeat' (split at hc1)) <;> first | (simp at hc1; done) | contradiction
    all_goals (exfalso; unfold compOp at hc1; rw [hop] at hc1; simp only at hc1; (repeat' (split at hc1)) <;> first | (simp at hc1; done) | contradiction)
  obtain ⟨c, f', e1, e2, e3, e4⟩ := hcd
  have hops := op2_of (a := a) hn
  rw [e1] at hops
  have hfv : VR μ (rd t f) (a.eval f') := hops f' (by simp [Op.operands, Call.operands, e2]) f e3
  have hargs : VRs μ (vals (rd t) args) (c.args.map a.eval).toList := by
    have := opds_VRs (μ := μ) (ρ := rd t) (ρ' := a.eval) e4 (fun x' hx' => hops x' (by simp [Op.operands, Call.operands]; exact .inr (by simpa using hx')))
    simpa using this
  rw [hf] at hfv
  generalize hfx : a.eval f' = fx at hfv
  cases hfv with
  | @func _ _ _ a' b' ha hb' =>
    have hex : (execOp a.eval o).run P w = .ok (.defer { target := .fn (.func g) b'.toArray, args := a'.toArray ++ c.args.map a.eval }) w := by
      unfold execOp
      rw [e1]
      simp [resolve, e2, hfx, Deferred.ofValue]
    refine ⟨_, _, h, μ, { target := .fn (.func g) b'.toArray, args := a'.toArray ++ c.args.map a.eval } :: a.defers, undef, w, q, ⟨Mu.le_refl μ, R, VR.undef μ⟩, ?_, .one (fat_op_defer ho (wanted_eq h2 hn hw) hb hex)⟩
    refine .call ?_ hd
    have := ha.append (hargs.append hb')
    simpa using this

/-- The key that a range comes to is any one that is left. -/
theorem step_next {s : XStep} {rnd : Option Nat} {t : Tr V} {d : List XDef} {h : Heap} {it : Opd} {oi mo ins : Nat} {seen : List Int} {cur : Option Int} {kd : IntKind} {es : List (Int × V)} {Q : V → List XDef → Heap → Prop} (hw : wantedV t s.guard = some true) (hs : s.op = .next it)
    (hx : rd t it = .iter oi) (hgi : h.get oi = some (.miter (some mo) ins seen cur)) (hgm : h.get mo = some (.map kd es ins))
    (q0 : leftOf seen es = [] → Q (.tup [.bool false]) d h) (q1 : ∀ k v, (k, v) ∈ leftOf seen es → Q (.tup [.bool true, .int kd k, v]) d (h.put oi (.miter (some mo) ins (k :: seen) (some k)))) : StepWP P s rnd t d h Q := by
  refine step_res hw (fun f args e => by rw [hs] at e; cases e) (fun K w0 μ w o ρ' hc hρ hk R => ?_) (fun e => by rw [hs] at e; cases e)
  rw [hs] at hc
  obtain ⟨x', e1, e2⟩ := comp_next hc
  have hxr : VR μ (.iter oi) (ρ' x') := by
    have := hρ x' (by rw [e1]; simp [Op.operands]) it e2
    rwa [hx] at this
  rcases op_next R hxr hgi hgm e1 with ⟨r1, r2⟩ | ⟨k, v, r1, r2⟩
  · exact ⟨_, _, q0 r1, r2⟩
  · exact ⟨_, _, q1 k v r1, r2⟩
where
  comp_next {o : Oper} {it : Opd} (hc : compOp P o = some (.next it)) : ∃ x', o.op = .next x' false ∧ opd x' = some it := by
    cases hop : o.op
    case next x b =>
      unfold compOp at hc
      rw [hop] at hc
      cases b <;> simp only at hc <;> try (simp at hc; done)
      split at hc <;> simp at hc
      rename_i it1 e1
      subst hc
      exact ⟨x, rfl, e1⟩
    case call c =>
      exfalso
      unfold compOp at hc
      rw [hop] at hc
      simp only at hc
      unfold compCall at hc
      (repeat' (split at hc)) <;> first | (simp at hc; done) | contradiction
    all_goals (exfalso; unfold compOp at hc; rw [hop] at hc; simp only at hc; (repeat' (split at hc)) <;> first | (simp at hc; done) | contradiction)

theorem step_next_nil {s : XStep} {rnd : Option Nat} {t : Tr V} {d : List XDef} {h : Heap} {it : Opd} {oi ins : Nat} {seen : List Int} {cur : Option Int} {Q : V → List XDef → Heap → Prop} (hw : wantedV t s.guard = some true) (hs : s.op = .next it)
    (hx : rd t it = .iter oi) (hgi : h.get oi = some (.miter none ins seen cur)) (q0 : Q (.tup [.bool false]) d h) : StepWP P s rnd t d h Q := by
  refine step_res hw (fun f args e => by rw [hs] at e; cases e) (fun K w0 μ w o ρ' hc hρ hk R => ?_) (fun e => by rw [hs] at e; cases e)
  rw [hs] at hc
  obtain ⟨x', e1, e2⟩ := step_next.comp_next hc
  have hxr : VR μ (.iter oi) (ρ' x') := by
    have := hρ x' (by rw [e1]; simp [Op.operands]) it e2
    rwa [hx] at this
  exact ⟨_, _, q0, op_next_nil R hxr hgi e1⟩
end
end Go.Xr

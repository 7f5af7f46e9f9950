/- X's executor, going on: code by recursion on code, with what comes behind handed on. It is sound by itself. -/
import Derived.Test.YtdegagpgjejomaaGreatYo
namespace Go.Xr
open Go.RowKit

abbrev Kn := Tr V → List XDef → Heap → Option Out
abbrev Kx := XExit → Tr V → List XDef → Heap → Option Out

noncomputable def outK (o : Option Out) (kn : Kn) (kx : Kx) : Option Out :=
  Option.rec none (fun r => Out.rec (motive := fun _ => Option Out) (fun e t d h => XExit.rec (motive := fun _ => Option Out) (kn t d h) (fun i => kx (.exit i) t d h) (kx .ret t d h) e) (fun _ _ => none) (fun _ => none) r) o
noncomputable def blockX (id : Nat) (kn : Kn) (kx : Kx) : Kx := fun e t d h => XExit.rec (motive := fun _ => Option Out) (kn t d h) (fun i => Bool.rec (kx (.exit i) t d h) (kn t d h) (Nat.beq i id)) (kx .ret t d h) e
noncomputable def loopK (hook : Task → Option Out) (rnd : Option Nat) (a : XCode) (ra : Kn → Kx → Kn) (kn : Kn) (kx : Kx) (F : Nat) : Kn :=
  Nat.rec (motive := fun _ => Kn) (fun _ _ _ => none) (fun _ go t d h => Option.rec (ra go kx t d h) (fun r => outK (some r) kn kx) (hook (.code (.loop a) rnd t d h))) F

section
variable (X : XProg) (hook ih : Task → Option Out) (F : Nat)

noncomputable def codeK (rnd : Option Nat) (c : XCode) : Kn → Kx → Kn :=
  XCode.rec (motive := fun _ => Kn → Kx → Kn) (fun kn _ => kn) (fun _ ls kn _ => linesR ih rnd kn ls) (fun _ _ ra rb kn kx => ra (rb kn kx) kx) (fun c _ _ ra rb kn kx t d h => boolK (rdR t c) (ra kn kx t d h) (rb kn kx t d h))
    (fun id _ ra kn kx => ra kn (blockX id kn kx)) (fun a ra kn kx => loopK hook rnd a ra kn kx F) (fun f ps asg bo _ _ kn kx t d h => outK (evStep X hook ih (.code (.rangeFunc f ps asg bo) rnd t d h)) kn kx) (fun id _ kx => kx (.exit id)) (fun _ kx => kx .ret) (fun _ ra => ra) (fun kn _ => kn) c

noncomputable def retG (fn : XFunc) (t : Tr V) (h : Heap) : Option Out := Option.rec none (fun vs => some (.call (oneOf vs) h)) (resR t h fn.results)
noncomputable def finG (fn : XFunc) : Kn := fun t d h => List.rec (retG fn t h) (fun _ _ _ => finR ih fn t d h) d
noncomputable def finX (fn : XFunc) : Kx := fun e t d h => XExit.rec (motive := fun _ => Option Out) (finG ih fn t d h) (fun _ => none) (finG ih fn t d h) e
noncomputable def callG (dk : Bool) (f : Nat) (args : List V) (h : Heap) : Option Out :=
  Option.rec (Option.rec none (fun fn => codeK X hook ih F none fn.code (finG ih fn) (finX ih fn) (argsR args .lf 0) [] h) (getR X.funcs f)) some (hook (.call dk f args h))

noncomputable def stepG (k : Task) : Option Out :=
  Task.rec (motive := fun _ => Option Out) (fun c rnd t d h => codeK X hook ih F rnd c (fun t d h => some (.code .normal t d h)) (fun e t d h => some (.code e t d h)) t d h) (callG X hook ih F) (fun o args h => evStep X hook ih (.round o args h)) (fun d h => evStep X hook ih (.defers d h)) k
end

noncomputable def evG (X : XProg) (hook : Task → Option Out) (F : Nat) (n : Nat) : Task → Option Out :=
  Nat.rec (motive := fun _ => Task → Option Out) (fun _ => none) (fun _ ih => stepG X hook ih F) n

noncomputable def hooksG (X : XProg) (base : Task → Option Out) (F : Nat) (n : Nat) : Task → Option Out :=
  Nat.rec (motive := fun _ => Task → Option Out) base (fun _ go => orElseR base (onCode (orElseR (searchHook (evG X go F F)) (permHook (evG X go F F))))) n

/-! ## It is sound -/
def EndK (kn : Kn) (kx : Kx) (r : Out) (e : XExit) (t : Tr V) (d : List XDef) (h : Heap) : Prop :=
  match e with
  | .normal => kn t d h = some r
  | e => kx e t d h = some r

section
variable [RoLim] {P : Program} {X : XProg} {hook ih : Task → Option Out} {F : Nat} {rnd : Option Nat}

omit [RoLim] in
theorem outK_spec {o : Option Out} {kn : Kn} {kx : Kx} {r : Out} (h : outK o kn kx = some r) : ∃ e t d hh, o = some (.code e t d hh) ∧ EndK kn kx r e t d hh := by
  unfold outK at h
  cases o with
  | none => cases h
  | some q => cases q with
    | code e t d hh => exact ⟨e, t, d, hh, rfl, by cases e <;> exact h⟩
    | call v hh => cases h
    | heap hh => cases h

def EndKWP (P : Program) (c : XCode) (rnd : Option Nat) (kn : Kn) (kx : Kx) (r : Out) (t : Tr V) (d : List XDef) (h : Heap) : Prop :=
  ∃ e t' d' h', (CodeWP P c rnd t d h fun e1 t1 d1 h1 => e1 = e ∧ t1 = t' ∧ d1 = d' ∧ h1 = h') ∧ EndK kn kx r e t' d' h'

theorem loopK_sound (HH : HookOk P hook) {a : XCode} {ra : Kn → Kx → Kn} (ha : ∀ (kn : Kn) (kx : Kx) (t : Tr V) (d : List XDef) (h : Heap) (r : Out), ra kn kx t d h = some r → EndKWP P a rnd kn kx r t d h) {kn : Kn} {kx : Kx} {r : Out} :
    ∀ (F : Nat) (t : Tr V) (d : List XDef) (h : Heap), loopK hook rnd a ra kn kx F t d h = some r → EndKWP P (.loop a) rnd kn kx r t d h
  | 0, t, d, h, hk => by cases hk
  | F + 1, t, d, h, hk => by
    have e0 : loopK hook rnd a ra kn kx (F + 1) t d h = Option.rec (ra (loopK hook rnd a ra kn kx F) kx t d h) (fun r => outK (some r) kn kx) (hook (.code (.loop a) rnd t d h)) := rfl
    rw [e0] at hk
    cases hh : hook (.code (.loop a) rnd t d h) with
    | some q =>
      rw [hh] at hk
      obtain ⟨e, t', d', h', e1, e2⟩ := outK_spec hk
      cases e1
      exact ⟨e, t', d', h', HH _ _ hh, e2⟩
    | none =>
      rw [hh] at hk
      obtain ⟨e, t', d', h', w1, e1⟩ := ha _ _ _ _ _ _ hk
      cases e with
      | normal =>
        obtain ⟨e2, t2, d2, h2, w2, q2⟩ := loopK_sound HH ha F t' d' h' e1
        refine ⟨e2, t2, d2, h2, code_loop (w1.mono fun e1 t1 d1 h1 ⟨a1, a2, a3, a4⟩ => ?_), q2⟩
        subst a1; subst a2; subst a3; subst a4
        exact w2
      | exit i =>
        refine ⟨.exit i, t', d', h', code_loop (w1.mono fun e1 t1 d1 h1 ⟨a1, a2, a3, a4⟩ => ?_), e1⟩
        subst a1; subst a2; subst a3; subst a4
        exact ⟨rfl, rfl, rfl, rfl⟩
      | ret =>
        refine ⟨.ret, t', d', h', code_loop (w1.mono fun e1 t1 d1 h1 ⟨a1, a2, a3, a4⟩ => ?_), e1⟩
        subst a1; subst a2; subst a3; subst a4
        exact ⟨rfl, rfl, rfl, rfl⟩

theorem codeK_sound (hmix : P.follows .mixedOrders = true) (HX : ProgOk P X) (HH : HookOk P hook) (S : Sound P ih) : ∀ (c : XCode) (kn : Kn) (kx : Kx) (t : Tr V) (d : List XDef) (h : Heap) (r : Out), codeK X hook ih F rnd c kn kx t d h = some r → EndKWP P c rnd kn kx r t d h := by
  intro c
  induction c with
  | skip => intro kn kx t d h r hk; exact ⟨.normal, t, d, h, code_skip ⟨rfl, rfl, rfl, rfl⟩, hk⟩
  | label => intro kn kx t d h r hk; exact ⟨.normal, t, d, h, code_label ⟨rfl, rfl, rfl, rfl⟩, hk⟩
  | exit id => intro kn kx t d h r hk; exact ⟨.exit id, t, d, h, code_exit ⟨rfl, rfl, rfl, rfl⟩, hk⟩
  | ret => intro kn kx t d h r hk; exact ⟨.ret, t, d, h, code_ret ⟨rfl, rfl, rfl, rfl⟩, hk⟩
  | region dr ls =>
    intro kn kx t d h r hk
    have hk : linesR ih rnd kn ls t d h = some r := hk
    rw [linesR_eq] at hk
    cases hr : runLines ih rnd ls t d h with
    | none => rw [hr] at hk; cases hk
    | some p =>
      rw [hr] at hk
      obtain ⟨t2, d2, h2⟩ := p
      exact ⟨.normal, t2, d2, h2, code_region (steps_sound S) hmix hr ⟨rfl, rfl, rfl, rfl⟩, hk⟩
  | seq a b iha ihb =>
    intro kn kx t d h r hk
    have hk : codeK X hook ih F rnd a (codeK X hook ih F rnd b kn kx) kx t d h = some r := hk
    obtain ⟨e, t', d', h', w1, e1⟩ := iha _ _ _ _ _ _ hk
    cases e with
    | normal =>
      obtain ⟨e2, t2, d2, h2, w2, q2⟩ := ihb _ _ _ _ _ _ e1
      refine ⟨e2, t2, d2, h2, code_seq (w1.mono fun e1 t1 d1 h1 ⟨a1, a2, a3, a4⟩ => ?_), q2⟩
      subst a1; subst a2; subst a3; subst a4
      exact w2
    | exit i =>
      refine ⟨.exit i, t', d', h', code_seq (w1.mono fun e1 t1 d1 h1 ⟨a1, a2, a3, a4⟩ => ?_), e1⟩
      subst a1; subst a2; subst a3; subst a4
      exact ⟨rfl, rfl, rfl, rfl⟩
    | ret =>
      refine ⟨.ret, t', d', h', code_seq (w1.mono fun e1 t1 d1 h1 ⟨a1, a2, a3, a4⟩ => ?_), e1⟩
      subst a1; subst a2; subst a3; subst a4
      exact ⟨rfl, rfl, rfl, rfl⟩
  | cond c a b iha ihb =>
    intro kn kx t d h r hk
    have hk : boolK (rdR t c) (codeK X hook ih F rnd a kn kx t d h) (codeK X hook ih F rnd b kn kx t d h) = some r := hk
    rw [rdR_eq] at hk
    cases hc : rd t c <;> rw [hc] at hk <;> simp only [boolK] at hk <;> try (cases hk; done)
    rename_i v
    cases v with
    | true =>
      obtain ⟨e, t', d', h', w1, e1⟩ := iha _ _ _ _ _ _ hk
      exact ⟨e, t', d', h', code_cond hc w1, e1⟩
    | false =>
      obtain ⟨e, t', d', h', w1, e1⟩ := ihb _ _ _ _ _ _ hk
      exact ⟨e, t', d', h', code_cond hc w1, e1⟩
  | block id a iha =>
    intro kn kx t d h r hk
    have hk : codeK X hook ih F rnd a kn (blockX id kn kx) t d h = some r := hk
    obtain ⟨e, t', d', h', w1, e1⟩ := iha _ _ _ _ _ _ hk
    cases e with
    | normal =>
      refine ⟨.normal, t', d', h', code_block (w1.mono fun e1 t1 d1 h1 ⟨a1, a2, a3, a4⟩ => ?_), e1⟩
      subst a1; subst a2; subst a3; subst a4
      exact ⟨rfl, rfl, rfl, rfl⟩
    | exit i =>
      have e1 : (Bool.rec (kx (.exit i) t' d' h') (kn t' d' h') (Nat.beq i id) : Option Out) = some r := e1
      cases hb : Nat.beq i id with
      | true =>
        rw [hb] at e1
        refine ⟨.normal, t', d', h', code_block (w1.mono fun e1 t1 d1 h1 ⟨a1, a2, a3, a4⟩ => ?_), e1⟩
        subst a1; subst a2; subst a3; subst a4
        exact ⟨fun _ => ⟨rfl, rfl, rfl, rfl⟩, fun hne => absurd (Nat.eq_of_beq_eq_true hb) hne⟩
      | false =>
        rw [hb] at e1
        refine ⟨.exit i, t', d', h', code_block (w1.mono fun e1 t1 d1 h1 ⟨a1, a2, a3, a4⟩ => ?_), e1⟩
        subst a1; subst a2; subst a3; subst a4
        exact ⟨fun he => absurd he (nat_beq_ne hb), fun _ => ⟨rfl, rfl, rfl, rfl⟩⟩
    | ret =>
      refine ⟨.ret, t', d', h', code_block (w1.mono fun e1 t1 d1 h1 ⟨a1, a2, a3, a4⟩ => ?_), e1⟩
      subst a1; subst a2; subst a3; subst a4
      exact ⟨rfl, rfl, rfl, rfl⟩
  | loop a iha =>
    intro kn kx t d h r hk
    exact loopK_sound HH iha F t d h hk
  | scope a iha =>
    intro kn kx t d h r hk
    obtain ⟨e, t', d', h', w1, e1⟩ := iha _ _ _ _ _ _ hk
    exact ⟨e, t', d', h', code_scope w1, e1⟩
  | rangeFunc f ps asg bo _ _ =>
    intro kn kx t d h r hk
    obtain ⟨e, t', d', h', e1, e2⟩ := outK_spec (o := evStep X hook ih (.code (.rangeFunc f ps asg bo) rnd t d h)) hk
    exact ⟨e, t', d', h', evStep_sound hmix HX HH S _ _ e1, e2⟩

theorem finG_spec (S : Sound P ih) {fn : XFunc} {t : Tr V} {d : List XDef} {h : Heap} {r : Out} (hk : finG ih fn t d h = some r) : ∃ h'' vs, DefersWP P d h (fun h1 => h1 = h'') ∧ resultsOf t h'' fn.results = some vs ∧ r = .call (oneOf vs) h'' := by
  unfold finG at hk
  cases d with
  | nil =>
    have hk : retG fn t h = some r := hk
    unfold retG at hk
    rw [resR_eq] at hk
    cases hr : resultsOf t h fn.results with
    | none => rw [hr] at hk; cases hk
    | some vs =>
      rw [hr] at hk
      exact ⟨h, vs, defers_nil rfl, hr, (Option.some.inj hk).symm⟩
  | cons x ds =>
    have hk : finR ih fn t (x :: ds) h = some r := hk
    unfold finR outHeap at hk
    cases hd : ih (.defers (x :: ds) h) with
    | none => rw [hd] at hk; cases hk
    | some q =>
      rw [hd] at hk
      cases q with
      | code e t d h => cases hk
      | call v h => cases hk
      | heap h2 =>
        have hk : (Option.rec none (fun vs => some (.call (oneOf vs) h2)) (resR t h2 fn.results) : Option Out) = some r := hk
        rw [resR_eq] at hk
        cases hr : resultsOf t h2 fn.results with
        | none => rw [hr] at hk; cases hk
        | some vs =>
          rw [hr] at hk
          exact ⟨h2, vs, S _ _ hd, hr, (Option.some.inj hk).symm⟩

theorem stepG_sound (hmix : P.follows .mixedOrders = true) (HX : ProgOk P X) (HH : HookOk P hook) (S : Sound P ih) : Sound P (stepG X hook ih F) := by
  intro k r hk
  cases k with
  | code c rnd t d h =>
    have hk : codeK X hook ih F rnd c (fun t d h => some (.code .normal t d h)) (fun e t d h => some (.code e t d h)) t d h = some r := hk
    obtain ⟨e, t', d', h', w1, e1⟩ := codeK_sound hmix HX HH S c _ _ _ _ _ _ hk
    have : r = .code e t' d' h' := by cases e <;> exact (Option.some.inj e1).symm
    subst this
    exact w1
  | call dk f args h =>
    have hk : callG X hook ih F dk f args h = some r := hk
    unfold callG at hk
    cases hh : hook (.call dk f args h) with
    | some q =>
      rw [hh] at hk
      cases hk
      exact HH _ _ hh
    | none =>
      rw [hh] at hk
      simp only [getR_eq, argsR_eq] at hk
      cases hf : X.funcs.get f with
      | none => rw [hf] at hk; cases hk
      | some fn =>
        rw [hf] at hk
        obtain ⟨fn', f1, f2, f3⟩ := HX f fn hf
        obtain ⟨e, t', d', h', w1, e1⟩ := codeK_sound hmix HX HH S fn.code _ _ _ _ _ _ hk
        have hfin : (∀ id, e ≠ .exit id) ∧ finG ih fn t' d' h' = some r := by
          cases e with
          | normal => exact ⟨by simp, e1⟩
          | exit i => cases e1
          | ret => exact ⟨by simp, e1⟩
        obtain ⟨h'', vs, q1, q2, rfl⟩ := finG_spec S hfin.2
        refine call_of_code f1 f2 f3 (w1.mono fun e1 t1 d1 h1 ⟨a1, a2, a3, a4⟩ => ?_)
        subst a1; subst a2; subst a3; subst a4
        refine ⟨hfin.1, ?_⟩
        intro K w0 μ w fr cs hm R hds
        obtain ⟨h3, μ', w', rfl, r1⟩ := q1 K w0 μ w fr cs hm R hds
        exact ⟨h3, μ', w', ⟨vs, q2, rfl, rfl⟩, r1⟩
  | round o args h => exact evStep_sound hmix HX HH S _ _ hk
  | defers d h => exact evStep_sound hmix HX HH S _ _ hk

theorem evG_sound (hmix : P.follows .mixedOrders = true) (HX : ProgOk P X) (HH : HookOk P hook) : ∀ n, Sound P (evG X hook F n)
  | 0 => fun k r h => by cases h
  | n + 1 => stepG_sound hmix HX HH (evG_sound hmix HX HH n)

theorem onCode_sound {a : Task → Option Out} (ha : Sound P a) : Sound P (onCode a) := by
  intro k r hk
  cases k with
  | code c rnd t d h =>
    have hk : (Bool.rec none (a (.code c rnd t d h)) (isMapLoop c) : Option Out) = some r := hk
    cases hm : isMapLoop c with
    | true => rw [hm] at hk; exact ha _ _ hk
    | false => rw [hm] at hk; cases hk
  | call dk f args h => cases hk
  | round o args h => cases hk
  | defers d h => cases hk

theorem hooksG_sound {base : Task → Option Out} (hmix : P.follows .mixedOrders = true) (HX : ProgOk P X) (HB : HookOk P base) : ∀ n, HookOk P (hooksG X base F n)
  | 0 => HB
  | n + 1 => by
    have S := evG_sound (F := F) hmix HX (hooksG_sound hmix HX HB n) F
    have h1 : Sound P (orElseR (searchHook (evG X (hooksG X base F n) F F)) (permHook (evG X (hooksG X base F n) F F))) := by rw [orElseR_eq]; exact orElse_sound (searchHook_sound S) (permHook_sound S)
    show Sound P (orElseR base (onCode (orElseR (searchHook (evG X (hooksG X base F n) F F)) (permHook (evG X (hooksG X base F n) F F)))))
    rw [orElseR_eq]
    exact orElse_sound HB (onCode_sound h1)

/-- A function of nothing that is found true. -/
theorem true_of_sound {E : Task → Option Out} (S : Sound P E) {f : Nat} (ht : told (E (.call false f [] ⟨.lf, 0⟩)) = some true) (w : World) (hlim : RoLim.lim ≤ w.heap.size) :
    Calls P f #[] w fun e w' => e = .returned (.bool true) ∧ (∀ b, b < w.heap.size → w'.heap[b]? = w.heap[b]?) ∧ w'.os = w.os ∧ w'.tape = w.tape ∧ w'.output = w.output ∧ w.heap.size ≤ w'.heap.size := by
  unfold told at ht
  split at ht <;> simp at ht
  rename_i b h' he
  subst ht
  have := CallWP.calls (args' := #[]) (S _ _ he) (Rel.start w hlim) .nil
  refine this.mono fun e w' ⟨v, h1, μ', x, ⟨q1, q2⟩, r, e1⟩ => ?_
  subst q1
  have hv := r.val
  cases hv
  exact ⟨e1, fun b hb => (r.rel.kept b hb).2, r.rel.os, r.rel.tape, r.rel.output, r.rel.size⟩
end
end Go.Xr

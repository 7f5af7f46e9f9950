/- Ranges over small maps: every order is gone through, and the outcomes are made one; the hooks in layers. -/
import Derived.Test.YtdegagpgjejomaaGreatYi
namespace Go.Xr
open Go.RowKit

def outJoin : Out → Out → Out
  | .code e t d h, .code _ t' _ h' => .code e (tJoin t t') d (hJoin h h')
  | r, _ => r

def outFits : Out → Out → Bool
  | .code e t d h, .code e' t' d' h' => exitSame e e' && (defsSame d d' && (tFits t t' && hFits h h'))
  | _, _ => false

def outJoins : Out → List Out → Out
  | r, [] => r
  | r, x :: l => outJoins (outJoin r x) l

def outsFit (r : Out) : List Out → Bool
  | [] => true
  | x :: l => outFits x r && outsFit r l

def outsOf (f : Int → V → Option Out) : List (Int × V) → Option (List Out)
  | [] => some []
  | (k, v) :: r => match f k v with
    | none => none
    | some x => match outsOf f r with
      | some xs => some (x :: xs)
      | none => none

section
variable (ih : Task → Option Out)

/-- One key's round, and what comes behind. -/
def permKey (go : Tr V → List XDef → Heap → Option Out) (m : MapLoop) (rnd : Option Nat) (oi mo ins : Nat) (kd : IntKind) (seen : List Int) (t : Tr V) (d : List XDef) (h : Heap) (k : Int) (v : V) : Option Out :=
  match ih (.code m.rest rnd ((t.set m.tnx (.tup [.bool true, .int kd k, v])).set m.tok (.bool true)) d (h.put oi (.miter (some mo) ins (k :: seen) (some k)))) with
  | some (.code .normal t2 d2 h2) => go t2 d2 h2
  | some (.code e t2 d2 h2) => some (.code e t2 d2 h2)
  | _ => none

def permLoop (m : MapLoop) (rnd : Option Nat) : Nat → Tr V → List XDef → Heap → Option Out
  | 0, _, _, _ => none
  | n + 1, t, d, h => match rd t m.it with
    | .iter oi => match h.get oi with
      | some (.miter (some mo) ins seen _) => match h.get mo with
        | some (.map kd es ins') => match Nat.beq ins ins' with
          | false => none
          | true => match leftOf seen es with
            | [] => some (.code (.exit m.L) ((t.set m.tnx (.tup [.bool false])).set m.tok (.bool false)) d h)
            | kv :: l => match outsOf (permKey ih (permLoop m rnd n) m rnd oi mo ins kd seen t d h) (kv :: l) with
              | some (r :: rs) => match outsFit (outJoins r rs) (r :: rs) with
                | true => some (outJoins r rs)
                | false => none
              | _ => none
        | _ => none
      | _ => none
    | _ => none

def permHook : Task → Option Out
  | .code c rnd t d h => match parseLoop c with
    | none => none
    | some m => match rd t m.it with
      | .iter oi => match h.get oi with
        | some (.miter (some mo) _ _ _) => match h.get mo with
          | some (.map _ es _) => match Nat.ble es.length 4 with
            | true => permLoop ih m rnd 6 t d h
            | false => none
          | _ => none
        | _ => none
      | _ => none
  | _ => none
end

section
variable [RoLim] {P : Program} {rnd : Option Nat} {ih : Task → Option Out}

theorem code_mapLoop1 {it : Opd} {tnx tok L : Nat} {rest : XCode} {t : Tr V} {d : List XDef} {h : Heap} {Q : XExit → Tr V → List XDef → Heap → Prop}
    (hstep : StepWP P ⟨.next it, some tnx, none⟩ rnd t d h fun v d' h' => d' = d ∧ ∃ b r, v = .tup (.bool b :: r) ∧
      (b = false → Q (.exit L) ((t.set tnx v).set tok (.bool false)) d h') ∧
      (b = true → CodeWP P rest rnd ((t.set tnx v).set tok (.bool true)) d h' fun e t d h => match e with | .normal => CodeWP P (mapLoop it tnx tok L rest) rnd t d h Q | e => Q e t d h)) :
    CodeWP P (mapLoop it tnx tok L rest) rnd t d h Q := by
  refine code_loop (code_seq (code_plain ?_))
  refine hstep.mono fun v d' h' ⟨e1, b, r, e2, q0, q1⟩ => ?_
  subst e1; subst e2
  show StepWP P _ rnd _ _ _ _
  refine step_op (v := .bool b) (h' := h') rfl ?_ ?_
  · simp [opEv, rd, putOpt, slotOf_set]
  · show CodeWP P (.seq (.cond (.slot tok) .skip (.exit L)) rest) rnd ((t.set tnx (.tup (.bool b :: r))).set tok (.bool b)) d' h' _
    have hc : rd ((t.set tnx (.tup (.bool b :: r))).set tok (.bool b)) (.slot tok) = .bool b := by simp [rd, slotOf_set]
    refine code_seq (code_cond hc ?_)
    cases b with
    | true =>
      refine code_skip ?_
      refine (q1 rfl).mono fun e t2 d2 h2 q => ?_
      cases e with
      | normal => exact q
      | exit i => exact q
      | ret => exact q
    | false => exact code_exit (q0 rfl)

theorem outFits_sound {r M : Out} {c : XCode} {t : Tr V} {d : List XDef} {h : Heap} (hk : TaskOk P (.code c rnd t d h) r) (hf : outFits r M = true) : TaskOk P (.code c rnd t d h) M := by
  cases r <;> cases M <;> simp [outFits] at hf
  rename_i e t1 d1 h1 e' t1' d1' h1'
  obtain ⟨f1, f2, f3, f4⟩ := hf
  have f1 := exitSame_eq f1
  have f2 := defsSame_eq f2
  subst f1; subst f2
  exact CodeWP.weak hk fun e2 t2 d2 h2 ⟨a1, a2, a3, a4⟩ => ⟨t1', h1', by rw [a2]; exact tFits_sound f3, by rw [a4]; exact hFits_sound f4, a1, rfl, a3, rfl⟩

omit [RoLim] in
theorem outsFit_mem {M : Out} : ∀ {l : List Out}, outsFit M l = true → ∀ r ∈ l, outFits r M = true
  | [], _, r, hr => by cases hr
  | x :: l, h, r, hr => by
    simp [outsFit] at h
    rcases List.mem_cons.1 hr with rfl | hr
    · exact h.1
    · exact outsFit_mem h.2 r hr

omit [RoLim] in
theorem outsOf_mem {f : Int → V → Option Out} : ∀ {l : List (Int × V)} {xs : List Out}, outsOf f l = some xs → ∀ p ∈ l, ∃ x ∈ xs, f p.1 p.2 = some x
  | [], _, _, p, hp => by cases hp
  | (k, v) :: r, xs, h, p, hp => by
    simp only [outsOf] at h
    split at h
    · cases h
    · rename_i x hx
      split at h <;> simp at h
      rename_i xs' hr
      subst h
      rcases List.mem_cons.1 hp with rfl | hp
      · exact ⟨x, List.mem_cons_self, hx⟩
      · obtain ⟨y, hy, e⟩ := outsOf_mem hr p hp
        exact ⟨y, List.mem_cons_of_mem _ hy, e⟩

theorem permLoop_sound (S : Sound P ih) {m : MapLoop} : ∀ (n : Nat) (t : Tr V) (d : List XDef) (h : Heap) (r : Out), permLoop ih m rnd n t d h = some r → TaskOk P (.code m.code rnd t d h) r
  | 0, t, d, h, r, hr => by simp [permLoop] at hr
  | n + 1, t, d, h, M, hr => by
    unfold permLoop at hr
    split at hr <;> try (cases hr; done)
    rename_i oi hit
    split at hr <;> try (cases hr; done)
    rename_i mo ins seen cur hgi
    split at hr <;> try (cases hr; done)
    rename_i kd es ins' hgm
    split at hr
    · cases hr
    rename_i hb
    have hb := Nat.eq_of_beq_eq_true hb
    subst hb
    have hM : ∃ eM tM dM hM, M = .code eM tM dM hM := by
      split at hr
      · simp only [Option.some.injEq] at hr; subst hr; exact ⟨_, _, _, _, rfl⟩
      · split at hr <;> try (cases hr; done)
        rename_i r rs ho
        split at hr <;> simp at hr
        rename_i hf
        have := outsFit_mem hf r List.mem_cons_self
        rw [← hr]
        cases r <;> cases ho2 : outJoins _ rs <;> rw [ho2] at this <;> simp [outFits] at this
        exact ⟨_, _, _, _, rfl⟩
    obtain ⟨eM, tM, dM, hM, rfl⟩ := hM
    refine code_mapLoop1 (step_next rfl rfl hit hgi hgm (fun hl => ?_) (fun k v hkv => ?_))
    · refine ⟨rfl, false, [], rfl, fun _ => ?_, fun hf => by cases hf⟩
      rw [hl] at hr
      simp only [Option.some.injEq, Out.code.injEq] at hr
      obtain ⟨rfl, rfl, rfl, rfl⟩ := hr
      exact ⟨rfl, rfl, rfl, rfl⟩
    · refine ⟨rfl, true, [.int kd k, v], rfl, (fun hf => by cases hf), fun _ => ?_⟩
      split at hr
      · rename_i hl
        rw [hl] at hkv
        cases hkv
      · rename_i kv l hl
        split at hr <;> try (cases hr; done)
        rename_i r rs ho
        split at hr <;> simp at hr
        rename_i hf
        rw [hl] at hkv
        obtain ⟨x, hx, hpx⟩ := outsOf_mem ho _ hkv
        have hfx := outsFit_mem hf x hx
        rw [hr] at hfx
        unfold permKey at hpx
        split at hpx
        · rename_i t2 d2 h2 hi
          have := outFits_sound (permLoop_sound S n t2 d2 h2 x hpx) hfx
          refine CodeWP.mono (S _ _ hi) fun e t1 d1 h1 ⟨a1, a2, a3, a4⟩ => ?_
          subst a1; subst a2; subst a3; subst a4
          exact this
        · rename_i e t2 d2 h2 hne hi
          simp only [Option.some.injEq] at hpx
          subst hpx
          simp [outFits] at hfx
          obtain ⟨f1, f2, f3, f4⟩ := hfx
          have f1 := exitSame_eq f1
          have f2 := defsSame_eq f2
          subst f1; subst f2
          refine CodeWP.weak (S _ _ hi) fun e1 t1 d1 h1 ⟨a1, a2, a3, a4⟩ => ⟨tM, hM, by rw [a2]; exact tFits_sound f3, by rw [a4]; exact hFits_sound f4, ?_⟩
          subst a1; subst a3
          cases e1 with
          | normal => exact absurd rfl (hne · )
          | exit i => exact ⟨rfl, rfl, rfl, rfl⟩
          | ret => exact ⟨rfl, rfl, rfl, rfl⟩
        · cases hpx

theorem permHook_sound (S : Sound P ih) : Sound P (permHook ih) := by
  intro k r hk
  unfold permHook at hk
  split at hk
  · split at hk
    · cases hk
    · rename_i m hm
      have hc := parseLoop_eq hm
      subst hc
      split at hk <;> try (cases hk; done)
      split at hk <;> try (cases hk; done)
      split at hk <;> try (cases hk; done)
      split at hk <;> try (cases hk; done)
      exact permLoop_sound S _ _ _ _ _ hk
  · cases hk
end

/-! ## The hooks, in layers -/
def orElse (a b : Task → Option Out) (k : Task) : Option Out :=
  match a k with
  | some r => some r
  | none => b k

/-- So many layers of loops over maps, one in the other. -/
def hooks (X : XProg) (base : Task → Option Out) (F : Nat) : Nat → Task → Option Out
  | 0 => base
  | n + 1 => orElse base (orElse (searchHook (ev X (hooks X base F n) F)) (permHook (ev X (hooks X base F n) F)))

theorem orElse_sound [RoLim] {P : Program} {a b : Task → Option Out} (ha : Sound P a) (hb : Sound P b) : Sound P (orElse a b) := by
  intro k r hk
  unfold orElse at hk
  split at hk
  · simp only [Option.some.injEq] at hk
    subst hk
    exact ha _ _ (by assumption)
  · exact hb _ _ hk

theorem hooks_sound [RoLim] {P : Program} {X : XProg} {base : Task → Option Out} (hmix : P.follows .mixedOrders = true) (HX : ProgOk P X) (HB : HookOk P base) {F : Nat} : ∀ n, HookOk P (hooks X base F n)
  | 0 => HB
  | n + 1 => by
    have S := ev_sound hmix HX (hooks_sound hmix HX HB (F := F) n) F
    exact orElse_sound HB (orElse_sound (searchHook_sound S) (permHook_sound S))
end Go.Xr

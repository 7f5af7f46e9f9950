/- The rule for ranges over maps. -/
import Derived.Test.YtdegagpgjejomaaGreatYf
namespace Go.Xr
open Go.RowKit

def nextLines (it : Opd) (tnx tok : Nat) : List XStep := [⟨.next it, some tnx, none⟩, ⟨.extract (.slot tnx) 0, some tok, none⟩]

def mapLoop (it : Opd) (tnx tok L : Nat) (rest : XCode) : XCode :=
  .loop (.seq (.region false ((nextLines it tnx tok).map fun s => { step := s, again := [] })) (.seq (.cond (.slot tok) .skip (.exit L)) rest))

section
variable [RoLim] {P : Program} {rnd : Option Nat}

theorem code_mapLoop {it : Opd} {tnx tok L : Nat} {rest : XCode} {Q : XExit → Tr V → List XDef → Heap → Prop} (Inv : Nat → Tr V → List XDef → Heap → Prop)
    (hstep : ∀ n t d h, Inv n t d h → StepWP P ⟨.next it, some tnx, none⟩ rnd t d h fun v d' h' => d' = d ∧ ∃ b r, v = .tup (.bool b :: r) ∧
      (b = false → Q (.exit L) ((t.set tnx v).set tok (.bool false)) d h') ∧
      (b = true → CodeWP P rest rnd ((t.set tnx v).set tok (.bool true)) d h' fun e t d h => match e with | .normal => ∃ m, m < n ∧ Inv m t d h | e => Q e t d h)) :
    ∀ n t d h, Inv n t d h → CodeWP P (mapLoop it tnx tok L rest) rnd t d h Q := by
  intro n
  induction n using Nat.strongRecOn with
  | _ n ih =>
    intro t d h hI
    refine code_loop (code_seq (code_plain ?_))
    refine (hstep n t d h hI).mono fun v d' h' ⟨e1, b, r, e2, q0, q1⟩ => ?_
    subst e1; subst e2
    show StepWP P _ rnd _ _ _ _
    refine step_op (v := .bool b) (h' := h') rfl ?_ ?_
    · simp [opEv, rd, putOpt, slotOf_set]
    · show CodeWP P (.seq (.cond (.slot tok) .skip (.exit L)) rest) rnd ((t.set tnx (.tup (.bool b :: r))).set tok (.bool b)) d' h' _
      have hc : rd ((t.set tnx (.tup (.bool b :: r))).set tok (.bool b)) (.slot tok) = .bool b := by simp [rd, slotOf_set]
      refine code_seq (code_cond hc ?_)
      cases b with
      | true =>
        refine code_skip ?_
        refine (q1 rfl).mono fun e t2 d2 h2 q => ?_
        cases e with
        | normal => obtain ⟨m, hm, hI2⟩ := q; exact ih m hm t2 d2 h2 hI2
        | exit i => exact q
        | ret => exact q
      | false => exact code_exit (q0 rfl)
end
end Go.Xr

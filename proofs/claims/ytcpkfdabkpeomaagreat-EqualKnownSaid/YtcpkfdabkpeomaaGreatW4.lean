/- X, an executor of the program's compiled code, with its proof: part 5. -/
import Derived.Test.YtcpkfdabkpeomaaGreatW3
import Derived.Shelf.SlMaps.Clone
/- Contracts of the kit at X's calls: maps.Clone. -/
namespace Go.Xr
open Go.RowKit Go.Proofs Go.Shelf

section
variable [RoLim] {P : Program} {ρ : Ren}

theorem clone_wp (L : SlLaysW.n5 P ρ) {fn : Func} (hf : P.funcs[ρ.f 5]? = some fn) (hreal : Func.real fn) {h : Heap} {o ins : Nat} {kd : IntKind} {es : List (Int × V)} (hg : h.get o = some (.map kd es ins)) :
    CallWP P false (ρ.f 5) [.map o] h fun v h' => v = .map h.next ∧ h' = h.push (.map kd es ins) := by
  refine callWP_of_calls hf hreal fun K w0 μ w args' R hv => ?_
  cases hv with
  | cons hv hnil =>
    cases hnil
    cases hv with
    | @map _ l hl =>
      obtain ⟨l', es', clock, q1, q2, q3⟩ := (R.obj o _ hg).2
      rw [hl] at q1
      cases q1
      refine (AnyW.maps_Clone L l.blk es' clock w q2).mono fun e w' ⟨e1, e2⟩ => ?_
      subst e2
      have hle := Mu.le_put (μ := μ) ⟨w.heap.size, 0, 0, 1⟩ (R.fresh 0)
      refine ⟨_, _, μ.put h.next 0 ⟨w.heap.size, 0, 0, 1⟩, _, ⟨rfl, rfl⟩, ⟨hle, R.push (w' := w.alloc (.map es' clock)) (.map kd es ins) ⟨w.heap.size, 0, 0, 1⟩ rfl rfl rfl rfl rfl rfl ?_ (fun _ _ _ _ _ _ _ q => by cases q), .map (Mu.put_same ..)⟩, e1⟩
      exact ⟨_, es', clock, Mu.put_same .., (by show (w.heap.push (Obj.map es' clock))[w.heap.size]? = _; simp), q3.mono hle⟩

theorem clone_nil_wp (L : SlLaysW.n5 P ρ) {fn : Func} (hf : P.funcs[ρ.f 5]? = some fn) (hreal : Func.real fn) {h : Heap} : CallWP P false (ρ.f 5) [.nilm] h fun v h' => v = .nilm ∧ h' = h := by
  refine callWP_of_calls hf hreal fun K w0 μ w args' R hv => ?_
  cases hv with
  | cons hv hnil =>
    cases hnil
    cases hv
    refine (AnyW.maps_Clone_nil L w).mono fun e w' ⟨e1, e2⟩ => ?_
    subst e2
    exact ⟨_, _, μ, _, ⟨rfl, rfl⟩, ⟨Mu.le_refl μ, R, .nilm⟩, e1⟩

omit [RoLim] in
/-- maps.Clone, for the function of this number. -/
def cloneHook (fC : Nat) : Task → Option Out
  | .call false f [v] h => match Nat.beq f fC with
    | false => none
    | true => match v with
      | .map o => match h.get o with
        | some (.map kd es ins) => some (.call (.map h.next) (h.push (.map kd es ins)))
        | _ => none
      | .nilm => some (.call .nilm h)
      | _ => none
  | _ => none

theorem cloneHook_sound (L : SlLaysW.n5 P ρ) {fn : Func} (hf : P.funcs[ρ.f 5]? = some fn) (hreal : Func.real fn) : HookOk P (cloneHook (ρ.f 5)) := by
  intro k r hk
  unfold cloneHook at hk
  split at hk
  · split at hk
    · cases hk
    · rename_i hb
      have e1 := Nat.eq_of_beq_eq_true hb
      subst e1
      split at hk
      · split at hk <;> try (cases hk; done)
        rename_i hg
        simp only [Option.some.injEq] at hk
        subst hk
        exact clone_wp L hf hreal hg
      · simp only [Option.some.injEq] at hk
        subst hk
        exact clone_nil_wp L hf hreal
      · cases hk
  · cases hk

omit [RoLim] in
noncomputable def cloneR (fC : Nat) (k : Task) : Option Out := Task.rec (motive := fun _ => Option Out) (fun _ _ _ _ _ => none) (fun dk f args h => Bool.rec none (cloneHook fC (.call dk f args h)) (Nat.beq f fC)) (fun _ _ _ => none) (fun _ _ => none) k
omit [RoLim] in
theorem cloneR_eq (fC : Nat) : cloneR fC = cloneHook fC := by
  funext k
  cases k with
  | call dk f args h =>
    show (Bool.rec none (cloneHook fC (.call dk f args h)) (Nat.beq f fC) : Option Out) = _
    cases hb : Nat.beq f fC with
    | true => rfl
    | false =>
      unfold cloneHook
      split
      · rename_i e
        cases e
        simp [hb]
      · rfl
  | _ => rfl
end
end Go.Xr

/- X, an executor of the program's compiled code, with its proof: part 5. -/
import Derived.Test.YtpbijmmjcdejoaaGreatW3
import Derived.Shelf.SlMaps.Clone
import GoSem.ClaimChange
/- Contracts of the kit at X's calls: maps.Clone. -/
namespace Go.Xr
open Go.RowKit Go.Proofs Go.Shelf

section
variable [RoLim] {P : Program} {ρ : Ren}

theorem clone_wp (L : SlLaysW.n5 P ρ) {fn : Func} (hf : P.funcs[ρ.f 5]? = some fn) (hreal : Func.real fn) {h : Heap} {o ins : Nat} {kd : IntKind} {es : List (Int × V)} (hg : h.get o = some (.map kd es ins)) :
    CallWP P false (ρ.f 5) [.map o] h fun v h' => v = .map h.next ∧ h' = h.push (.map kd es ins) := by
  refine callWP_of_calls hf hreal fun K w0 μ w args' R hv => ?_
  cases hv with
  | cons hv hnil =>
    cases hnil
    cases hv with
    | @map _ l hl =>
      obtain ⟨l', es', clock, q1, q2, q3⟩ := (R.obj o _ hg).2
      rw [hl] at q1
      cases q1
      refine (AnyW.maps_Clone L l.blk es' clock w q2).mono fun e w' ⟨e1, e2⟩ => ?_
      subst e2
      have hle := Mu.le_put (μ := μ) ⟨w.heap.size, 0, 0, 1⟩ (R.fresh 0)
      refine ⟨_, _, μ.put h.next 0 ⟨w.heap.size, 0, 0, 1⟩, _, ⟨rfl, rfl⟩, ⟨hle, R.push (w' := w.alloc (.map es' clock)) (.map kd es ins) ⟨w.heap.size, 0, 0, 1⟩ rfl rfl rfl rfl rfl rfl ?_ (fun _ _ _ _ _ _ _ q => by cases q), .map (Mu.put_same ..)⟩, e1⟩
      exact ⟨_, es', clock, Mu.put_same .., (by show (w.heap.push (Obj.map es' clock))[w.heap.size]? = _; simp), q3.mono hle⟩

theorem clone_nil_wp (L : SlLaysW.n5 P ρ) {fn : Func} (hf : P.funcs[ρ.f 5]? = some fn) (hreal : Func.real fn) {h : Heap} : CallWP P false (ρ.f 5) [.nilm] h fun v h' => v = .nilm ∧ h' = h := by
  refine callWP_of_calls hf hreal fun K w0 μ w args' R hv => ?_
  cases hv with
  | cons hv hnil =>
    cases hnil
    cases hv
    refine (AnyW.maps_Clone_nil L w).mono fun e w' ⟨e1, e2⟩ => ?_
    subst e2
    exact ⟨_, _, μ, _, ⟨rfl, rfl⟩, ⟨Mu.le_refl μ, R, .nilm⟩, e1⟩

omit [RoLim] in
/-- maps.Clone, for the function of this number. -/
def cloneHook (fC : Nat) : Task → Option Out
  | .call false f [v] h => match Nat.beq f fC with
    | false => none
    | true => match v with
      | .map o => match h.get o with
        | some (.map kd es ins) => some (.call (.map h.next) (h.push (.map kd es ins)))
        | _ => none
      | .nilm => some (.call .nilm h)
      | _ => none
  | _ => none

theorem cloneHook_sound (L : SlLaysW.n5 P ρ) {fn : Func} (hf : P.funcs[ρ.f 5]? = some fn) (hreal : Func.real fn) : HookOk P (cloneHook (ρ.f 5)) := by
  intro k r hk
  unfold cloneHook at hk
  split at hk
  · split at hk
    · cases hk
    · rename_i hb
      have e1 := Nat.eq_of_beq_eq_true hb
      subst e1
      split at hk
      · split at hk <;> try (cases hk; done)
        rename_i hg
        simp only [Option.some.injEq] at hk
        subst hk
        exact clone_wp L hf hreal hg
      · simp only [Option.some.injEq] at hk
        subst hk
        exact clone_nil_wp L hf hreal
      · cases hk
  · cases hk

omit [RoLim] in
noncomputable def cloneR (fC : Nat) (k : Task) : Option Out := Task.rec (motive := fun _ => Option Out) (fun _ _ _ _ _ => none) (fun dk f args h => Bool.rec none (cloneHook fC (.call dk f args h)) (Nat.beq f fC)) (fun _ _ _ => none) (fun _ _ => none) k
omit [RoLim] in
theorem cloneR_eq (fC : Nat) : cloneR fC = cloneHook fC := by
  funext k
  cases k with
  | call dk f args h =>
    show (Bool.rec none (cloneHook fC (.call dk f args h)) (Nat.beq f fC) : Option Out) = _
    cases hb : Nat.beq f fC with
    | true => rfl
    | false =>
      unfold cloneHook
      split
      · rename_i e
        cases e
        simp [hb]
      · rfl
  | _ => rfl
end
end Go.Xr
/- What X reckons with more fuel, and what is so of X's outcome whatever the fuel: the words of general proofs. -/
namespace Go.Xr

/-! ## More fuel -/
def Le (f g : Task → Option Out) : Prop := ∀ k o, f k = some o → g k = some o

section
variable {X : XProg} {hook ih ih' : Task → Option Out}

theorem applyF_mono (hl : Le ih ih') {f : V} {args : List V} {h : Heap} {r : V × Heap} (hr : applyF ih f args h = some r) : applyF ih' f args h = some r := by
  unfold applyF at hr ⊢
  split at hr
  · split at hr
    · rename_i e; rw [hl _ _ e]; exact hr
    · cases hr
  · split at hr
    · rename_i e; rw [hl _ _ e]; exact hr
    · cases hr
  · cases hr

theorem invokeF_mono (hl : Le ih ih') {x : V} {rows : List (Nat × Nat × Option (Bool × Nat))} {args : List V} {h : Heap} {r : V × Heap} (hr : invokeF ih x rows args h = some r) : invokeF ih' x rows args h = some r := by
  unfold invokeF at hr ⊢
  split at hr <;> try (cases hr; done)
  split at hr <;> try (cases hr; done)
  split at hr <;> try (cases hr; done)
  split at hr <;> try (cases hr; done)
  rename_i e; rw [hl _ _ e]; exact hr

theorem runStep_mono (hl : Le ih ih') {s : XStep} {rnd : Option Nat} {t : Tr V} {d : List XDef} {h : Heap} {r : V × List XDef × Heap} (hr : runStep ih s rnd t d h = some r) : runStep ih' s rnd t d h = some r := by
  unfold runStep at hr ⊢
  split at hr
  · cases hr
  · exact hr
  · simp only at hr ⊢
    split at hr
    · cases e : applyF ih (rd t _) (vals (rd t) _) h with
      | none => rw [e] at hr; cases hr
      | some q => rw [e] at hr; rw [applyF_mono hl e]; exact hr
    · exact hr
    · exact hr
    · cases e : invokeF ih (rd t _) _ (vals (rd t) _) h with
      | none => rw [e] at hr; cases hr
      | some q => rw [e] at hr; rw [invokeF_mono hl e]; exact hr
    · exact hr

theorem runLines_mono (hl : Le ih ih') {rnd : Option Nat} : ∀ {ls : List XLine} {t : Tr V} {d : List XDef} {h : Heap} {r : Tr V × List XDef × Heap}, runLines ih rnd ls t d h = some r → runLines ih' rnd ls t d h = some r
  | [], _, _, _, _, hr => hr
  | l :: ls, t, d, h, r, hr => by
    simp only [runLines] at hr ⊢
    cases e : runStep ih l.step rnd t d h with
    | none => rw [e] at hr; cases hr
    | some q =>
      rw [e] at hr
      rw [runStep_mono hl e]
      simp only at hr ⊢
      cases e2 : stays (putOpt t l.step.dst q.1) q.2.2 l.again with
      | false => rw [e2] at hr; cases hr
      | true => rw [e2] at hr; exact runLines_mono hl hr

theorem evStep_mono (hl : Le ih ih') : Le (evStep X hook ih) (evStep X hook ih') := by
  intro k r hk
  cases k with
  | code c rnd t d h =>
    cases c with
    | skip => exact hk
    | exit id => exact hk
    | ret => exact hk
    | label => exact hk
    | region dr ls =>
      simp only [evStep] at hk ⊢
      cases e : runLines ih rnd ls t d h with
      | none => rw [e] at hk; cases hk
      | some q => rw [e] at hk; rw [runLines_mono hl e]; exact hk
    | seq a b =>
      simp only [evStep] at hk ⊢
      cases e : ih (.code a rnd t d h) with
      | none => rw [e] at hk; cases hk
      | some q =>
        rw [e] at hk
        rw [hl _ _ e]
        cases q with
        | code ex t1 d1 h1 => cases ex <;> first | exact hl _ _ hk | exact hk
        | call v h => cases hk
        | heap h => cases hk
    | cond c a b =>
      simp only [evStep] at hk ⊢
      split at hk
      · exact hl _ _ hk
      · exact hl _ _ hk
      · cases hk
    | block id body =>
      simp only [evStep] at hk ⊢
      cases e : ih (.code body rnd t d h) with
      | none => rw [e] at hk; cases hk
      | some q => rw [e] at hk; rw [hl _ _ e]; exact hk
    | loop body =>
      simp only [evStep] at hk ⊢
      cases e0 : hook (.code (.loop body) rnd t d h) with
      | some q => rw [e0] at hk; exact hk
      | none =>
        rw [e0] at hk
        simp only at hk ⊢
        cases e : ih (.code body rnd t d h) with
        | none => rw [e] at hk; cases hk
        | some q =>
          rw [e] at hk
          rw [hl _ _ e]
          cases q with
          | code ex t1 d1 h1 => cases ex <;> first | exact hl _ _ hk | exact hk
          | call v h => exact hk
          | heap h => exact hk
    | scope body => simp only [evStep] at hk ⊢; exact hl _ _ hk
    | rangeFunc f ps asg body =>
      simp only [evStep] at hk ⊢
      cases e0 : begunV rnd d h with
      | none => rw [e0] at hk; cases hk
      | some q =>
        obtain ⟨h1, d1, k1⟩ := q
        rw [e0] at hk
        simp only at hk ⊢
        cases e : applyF ih (rd t f) [.yield h1.next] (h1.push (.loop .ready none t ps asg body k1)) with
        | none => rw [e] at hk; cases hk
        | some q => rw [e] at hk; rw [applyF_mono hl e]; exact hk
  | call dk f args h =>
    simp only [evStep] at hk ⊢
    cases e0 : hook (.call dk f args h) with
    | some q => rw [e0] at hk; exact hk
    | none =>
      rw [e0] at hk
      simp only at hk ⊢
      cases e1 : X.funcs.get f with
      | none => rw [e1] at hk; cases hk
      | some fn =>
        rw [e1] at hk
        simp only at hk ⊢
        cases e : ih (.code fn.code none (argsFrom .lf 0 args) [] h) with
        | none => rw [e] at hk; cases hk
        | some q =>
          rw [e] at hk
          rw [hl _ _ e]
          cases q with
          | call v h => cases hk
          | heap h => cases hk
          | code ex t1 d1 h1 =>
            have main : (match ih (.defers d1 h1) with
                | some (.heap h) => match resultsOf t1 h fn.results with
                  | some vs => some (.call (oneOf vs) h)
                  | none => none
                | _ => none) = some r → (match ih' (.defers d1 h1) with
                | some (.heap h) => match resultsOf t1 h fn.results with
                  | some vs => some (.call (oneOf vs) h)
                  | none => none
                | _ => none) = some r := by
              intro hk
              cases e3 : ih (.defers d1 h1) with
              | none => rw [e3] at hk; cases hk
              | some q => rw [e3] at hk; rw [hl _ _ e3]; exact hk
            cases ex <;> first | exact main hk | exact hk
  | defers d h =>
    simp only [evStep] at hk ⊢
    cases d with
    | nil => exact hk
    | cons x ds =>
      cases x with
      | call f args =>
        simp only at hk ⊢
        cases e : ih (.call true f args h) with
        | none => rw [e] at hk; cases hk
        | some q =>
          rw [e] at hk
          rw [hl _ _ e]
          cases q <;> first | exact hl _ _ hk | exact hk
      | collected o =>
        simp only at hk ⊢
        split at hk
        · exact hl _ _ hk
        · cases hk
  | round o args h =>
    simp only [evStep] at hk ⊢
    split at hk
    · rename_i t ps asg bo _ _
      split at hk
      · cases hk
      · cases e : ih (.code asg (some o) (setAll t ps args) [] h) with
        | none => rw [e] at hk; cases hk
        | some q =>
          rw [e] at hk
          rw [hl _ _ e]
          split at hk
          · split at hk
            · split at hk
              · rename_i e3
                rw [hl _ _ e3]
                exact hk
              · cases hk
            · cases hk
          · cases hk
    · cases hk

theorem ev_mono1 : ∀ n, Le (ev X hook n) (ev X hook (n + 1))
  | 0 => fun k o hk => by simp [ev] at hk
  | n + 1 => evStep_mono (ev_mono1 n)

theorem ev_mono {n m : Nat} (hnm : n ≤ m) : Le (ev X hook n) (ev X hook m) := by
  induction hnm with
  | refl => exact fun k o h => h
  | step _ ih => exact fun k o h => ev_mono1 _ _ _ (ih _ _ h)
end

/-! ## What is so of the outcome -/
section
variable (X : XProg) (hook : Task → Option Out)

def EvCall (f : Nat) (args : List V) (h : Heap) (Q : V → Heap → Prop) : Prop := ∃ n v h', ev X hook n (.call false f args h) = some (.call v h') ∧ Q v h'
def EvDCall (f : Nat) (args : List V) (h : Heap) (Q : Heap → Prop) : Prop := ∃ n v h', ev X hook n (.call true f args h) = some (.call v h') ∧ Q h'
def EvRound (o : Nat) (args : List V) (h : Heap) (Q : V → Heap → Prop) : Prop := ∃ n v h', ev X hook n (.round o args h) = some (.call v h') ∧ Q v h'
def EvCode (c : XCode) (rnd : Option Nat) (t : Tr V) (d : List XDef) (h : Heap) (Q : XExit → Tr V → List XDef → Heap → Prop) : Prop := ∃ n e t' d' h', ev X hook n (.code c rnd t d h) = some (.code e t' d' h') ∧ Q e t' d' h'
def EvDefers (d : List XDef) (h : Heap) (Q : Heap → Prop) : Prop := ∃ n h', ev X hook n (.defers d h) = some (.heap h') ∧ Q h'
def EvStep (s : XStep) (rnd : Option Nat) (t : Tr V) (d : List XDef) (h : Heap) (Q : V → List XDef → Heap → Prop) : Prop := ∃ n v d' h', runStep (ev X hook n) s rnd t d h = some (v, d', h') ∧ Q v d' h'
def EvLines (rnd : Option Nat) (ls : List XLine) (t : Tr V) (d : List XDef) (h : Heap) (Q : Tr V → List XDef → Heap → Prop) : Prop := ∃ n t' d' h', runLines (ev X hook n) rnd ls t d h = some (t', d', h') ∧ Q t' d' h'
def EvApply (f : V) (args : List V) (h : Heap) (Q : V → Heap → Prop) : Prop := ∃ n v h', applyF (ev X hook n) f args h = some (v, h') ∧ Q v h'
end
end Go.Xr
/- The weakest conditions of X's code, reckoned by recursion over the code; loops, calls and ranges stay as they are. -/
namespace Go.Xr

/-! ### What a slice is told as -/
def lenS : V → Nat
  | .slice _ _ _ n _ => n
  | _ => 0
def objS : V → Nat
  | .slice o _ _ _ _ => o
  | _ => 0
def genS : V → Nat
  | .slice _ g _ _ _ => g
  | _ => 0
def offS : V → Nat
  | .slice _ _ off _ _ => off
  | _ => 0
def nilS : V → Bool
  | .nils => true
  | _ => false
def rowS : V → Bool
  | .nils => true
  | .slice .. => true
  | _ => false
@[simp] theorem lenS_slice (o g off n : Nat) (c : Cap) : lenS (.slice o g off n c) = n := rfl
@[simp] theorem objS_slice (o g off n : Nat) (c : Cap) : objS (.slice o g off n c) = o := rfl
@[simp] theorem genS_slice (o g off n : Nat) (c : Cap) : genS (.slice o g off n c) = g := rfl
@[simp] theorem offS_slice (o g off n : Nat) (c : Cap) : offS (.slice o g off n c) = off := rfl
@[simp] theorem nilS_slice (o g off n : Nat) (c : Cap) : nilS (.slice o g off n c) = false := rfl
@[simp] theorem rowS_slice (o g off n : Nat) (c : Cap) : rowS (.slice o g off n c) = true := rfl
@[simp] theorem lenS_nils : lenS .nils = 0 := rfl
@[simp] theorem nilS_nils : nilS .nils = true := rfl
@[simp] theorem rowS_nils : rowS .nils = true := rfl

/-- It is something, and that is so. -/
def xsome (r : Option (V × Heap)) (K : V → Heap → Prop) : Prop :=
  match r with
  | some (v, h) => K v h
  | none => False
theorem xsome_some (v : V) (h : Heap) (K : V → Heap → Prop) : xsome (some (v, h)) K = K v h := rfl
theorem xsome_out {r : Option (V × Heap)} {K : V → Heap → Prop} (hx : xsome r K) : ∃ v h, r = some (v, h) ∧ K v h := by
  cases r with
  | none => exact hx.elim
  | some p => exact ⟨p.1, p.2, rfl, hx⟩

section
variable (X : XProg) (hook : Task → Option Out)

/-- Two integers of one kind. -/
def xwpInt (op : BinOp) (ty : Nat) (k : IntKind) (a : Int) (b : Int) (K : V → Prop) : Prop :=
  match op with
  | .add => K (.int k (k.wrap (a + b)))
  | .sub => K (.int k (k.wrap (a - b)))
  | .mul => K (.int k (k.wrap (a * b)))
  | .eql => K (.bool (decide (a = b)))
  | .neq => K (.bool (!decide (a = b)))
  | .lss => K (.bool (decide (a < b)))
  | .leq => K (.bool (decide (a ≤ b)))
  | .gtr => K (.bool (decide (b < a)))
  | .geq => K (.bool (decide (b ≤ a)))
  | op => ∃ v, intBin op ty k a (.int k b) = some v ∧ K v

def xwpOp (op : XOp) (rnd : Option Nat) (ρ : Rd) (d : List XDef) (h : Heap) (K : V → List XDef → Heap → Prop) : Prop :=
  match op with
  | .mv x => K (ρ x) d h
  | .pick c a b => match ρ c with
    | .bool b' => K (if b' then ρ a else ρ b) d h
    | _ => False
  | .alloc zs => K (.ptr h.next 0 0) d (newCells h zs 1 false)
  | .box x => K (.ptr h.next 0 0) d (newCells h (ρ x).cellsOf 1 false)
  | .load g n x => match ρ x with
    | .ptr o gn off => ∃ vs, readCells h o gn off n = some vs ∧ (match g with | true => K (.agg vs) d h | false => ∃ v, vs = [v] ∧ K v d h)
    | _ => False
  | .store n x v => match ρ x with
    | .ptr o gn off => (ρ v).cellsOf.length = n ∧ ∃ h', writeCells h o gn off (ρ v).cellsOf = some h' ∧ K .undef d h'
    | _ => False
  | .bin op ty cls x y => match ρ x with
    | .int k a => match ρ y with
      | .int k' b => k = k' ∧ xwpInt op ty k a b fun v => K v d h
      | _ => False
    | .bool a => match cls, op, ρ y with
      | .bool, .eql, .bool b => K (.bool (a == b)) d h
      | .bool, .neq, .bool b => K (.bool (a != b)) d h
      | _, _, _ => False
    | x => match cls, op, ρ y with
      | .slice, .eql, .nils => rowS x = true ∧ K (.bool (nilS x)) d h
      | .slice, .neq, .nils => rowS x = true ∧ K (.bool !(nilS x)) d h
      | _, _, y => ∃ v, binV op ty cls x y = some v ∧ K v d h
  | .un op x => match ρ x with
    | .bool b => match op with
      | .not => K (.bool !b) d h
      | _ => False
    | .int k n => match op with
      | .neg => K (.int k (k.wrap (-n))) d h
      | op => ∃ v, unV op (.int k n) = some v ∧ K v d h
    | x => ∃ v, unV op x = some v ∧ K v d h
  | .len c x => match c with
    | .slice => rowS (ρ x) = true ∧ K (.int .i64 (lenS (ρ x) : Int)) d h
    | c => ∃ v h', opEv (.len c x) ρ h = some (v, h') ∧ K v d h'
  | .conv k x => match ρ x with
    | .int _ n => K (.int k (k.wrap n)) d h
    | _ => False
  | .faddr off x => match ρ x with
    | .ptr o g a => K (.ptr o g (a + off)) d h
    | _ => False
  | .iaddr esz x i => match ρ i with
    | .int _ n => (0 ≤ n ∧ n < (lenS (ρ x) : Int)) ∧ K (.ptr (objS (ρ x)) (genS (ρ x)) (offS (ρ x) + n.toNat * esz)) d h
    | _ => False
  | .extract x i => match ρ x with
    | .tup vs => ∃ v, vs[i]? = some v ∧ K v d h
    | _ => False
  | .call f args => EvApply X hook (ρ f) (vals ρ args) h fun v h => K v d h
  | .invoke x rows args => ∃ n v h', invokeF (ev X hook n) (ρ x) rows (vals ρ args) h = some (v, h') ∧ K v d h'
  | .defer f args => match ρ f with
    | .func f first caps => rnd = none ∧ K .undef (.call f (first ++ (vals ρ args ++ caps)) :: d) h
    | _ => False
  | .next it => ∃ v h', nextEv (ρ it) h = some (v, h') ∧ K v d h'
  | op => xsome (opEv op ρ h) fun v h' => K v d h'

def xwpStep (s : XStep) (rnd : Option Nat) (t : Tr V) (d : List XDef) (h : Heap) (K : V → List XDef → Heap → Prop) : Prop :=
  match s.guard with
  | none => xwpOp X hook s.op rnd (rd t) d h K
  | some (g, want) => match slotOf t g with
    | .bool b => if b = want then xwpOp X hook s.op rnd (rd t) d h K else K .undef d h
    | .any => False
    | .hole _ => False
    | _ => K .undef d h

def xwpLines (rnd : Option Nat) : List XLine → Tr V → List XDef → Heap → (Tr V → List XDef → Heap → Prop) → Prop
  | [], t, d, h, K => K t d h
  | l :: ls, t, d, h, K => xwpStep X hook l.step rnd t d h fun v d h => stays (putOpt t l.step.dst v) h l.again = true ∧ xwpLines rnd ls (putOpt t l.step.dst v) d h K

def xwp (rnd : Option Nat) : XCode → Tr V → List XDef → Heap → (XExit → Tr V → List XDef → Heap → Prop) → Prop
  | .skip, t, d, h, Q => Q .normal t d h
  | .region _ ls, t, d, h, Q => xwpLines X hook rnd ls t d h fun t d h => Q .normal t d h
  | .seq a b, t, d, h, Q => xwp rnd a t d h fun e t d h => match e with
    | .normal => xwp rnd b t d h Q
    | e => Q e t d h
  | .cond c a b, t, d, h, Q => match rd t c with
    | .bool x => if x then xwp rnd a t d h Q else xwp rnd b t d h Q
    | _ => False
  | .block id body, t, d, h, Q => xwp rnd body t d h fun e t d h => match e with
    | .exit i => if i = id then Q .normal t d h else Q (.exit i) t d h
    | e => Q e t d h
  | .loop body, t, d, h, Q => EvCode X hook (.loop body) rnd t d h Q
  | .rangeFunc f ps asg body, t, d, h, Q => EvCode X hook (.rangeFunc f ps asg body) rnd t d h Q
  | .exit id, t, d, h, Q => Q (.exit id) t d h
  | .ret, t, d, h, Q => Q .ret t d h
  | .scope body, t, d, h, Q => xwp rnd body t d h Q
  | .label, t, d, h, Q => Q .normal t d h
end

section
variable {X : XProg} {hook : Task → Option Out}

theorem xwpInt_sound {op : BinOp} {ty : Nat} {k : IntKind} {a b : Int} {K : V → Prop} (hw : xwpInt op ty k a b K) : ∃ v, intBin op ty k a (.int k b) = some v ∧ K v := by
  have e : (a == b) = decide (a = b) := by by_cases h : a = b <;> simp [h]
  cases op <;> simp only [xwpInt] at hw <;> first | exact hw | refine ⟨_, ?_, hw⟩
  all_goals first | (simp [intBin, binOp, Op.intArith, pure]; done) | (simp [intBin, binOp, Op.intCmp, pure, bne, e]; done)

theorem asNat_int {k : IntKind} {n : Int} (h : 0 ≤ n) : asNat (.int k n) = some n.toNat := by
  cases n with
  | ofNat m => rfl
  | negSucc m => exact absurd h (by simp)

theorem xwpOp_sound {s : XStep} {rnd : Option Nat} {t : Tr V} {d : List XDef} {h : Heap} {K : V → List XDef → Heap → Prop} (hg : wantedV t s.guard = some true) (hw : xwpOp X hook s.op rnd (rd t) d h K) : EvStep X hook s rnd t d h K := by
  have plain : ∀ {v h'}, opEv s.op (rd t) h = some (v, h') → K v d h' → EvStep X hook s rnd t d h K := by
    intro v h' he hk
    refine ⟨0, v, d, h', ?_, hk⟩
    unfold runStep
    rw [hg]
    simp only
    split
    · rename_i e; rw [e] at he; simp [opEv] at he
    · rename_i e; rw [e] at he; simp [opEv] at he
    · rename_i e; rw [e] at he; simp [opEv] at he
    · rename_i e; rw [e] at he; simp [opEv] at he
    · rw [he]
  cases hop : s.op <;> rw [hop] at hw plain <;> simp only [xwpOp] at hw
  case mv x => exact plain rfl hw
  case pick c a b =>
    split at hw
    · rename_i b' e
      cases b'
      · exact plain (by simp [opEv, e]) hw
      · exact plain (by simp [opEv, e]) hw
    · exact hw.elim
  case alloc zs => exact plain rfl hw
  case box x => exact plain rfl hw
  case load g n x =>
    split at hw
    · rename_i o gn off e
      obtain ⟨vs, h1, h2⟩ := hw
      cases g with
      | true => exact plain (by simp only [opEv, e, h1]) h2
      | false =>
        obtain ⟨v, rfl, h3⟩ := h2
        exact plain (by simp only [opEv, e, h1]) h3
    · exact hw.elim
  case store n x v =>
    split at hw
    · rename_i o gn off e
      obtain ⟨h1, h', h2, h3⟩ := hw
      have hb : Nat.beq (rd t v).cellsOf.length n = true := by rw [Nat.beq_eq]; exact h1
      exact plain (by simp only [opEv, e, h2, hb]) h3
    · exact hw.elim
  case bin op ty cls x y =>
    split at hw
    · rename_i k a e
      split at hw
      · rename_i k' b e2
        obtain ⟨rfl, hw⟩ := hw
        obtain ⟨v, h1, h2⟩ := xwpInt_sound hw
        exact plain (by simp only [opEv, binV, e, e2, h1]) h2
      · exact hw.elim
    · rename_i a e
      split at hw
      · rename_i e2
        exact plain (by simp only [opEv, binV, e, e2, boolBin]) hw
      · rename_i e2
        exact plain (by simp only [opEv, binV, e, e2, boolBin]) hw
      · exact hw.elim
    · split at hw
      · rename_i e2
        obtain ⟨h1, h2⟩ := hw
        generalize hx : rd t x = xv at h1 h2
        cases xv <;> simp only [rowS] at h1 <;> try (cases h1; done)
        · exact plain (by simp only [opEv, binV, hx, e2, nilCmp, nilOf]; rfl) h2
        · exact plain (by simp only [opEv, binV, hx, e2, nilCmp, nilOf]; rfl) h2
      · rename_i e2
        obtain ⟨h1, h2⟩ := hw
        generalize hx : rd t x = xv at h1 h2
        cases xv <;> simp only [rowS] at h1 <;> try (cases h1; done)
        · exact plain (by simp only [opEv, binV, hx, e2, nilCmp, nilOf]; rfl) h2
        · exact plain (by simp only [opEv, binV, hx, e2, nilCmp, nilOf]; rfl) h2
      · obtain ⟨v, h1, h2⟩ := hw
        exact plain (by simp only [opEv, h1]) h2
  case un op x =>
    split at hw
    · rename_i b e
      split at hw
      · exact plain (by simp only [opEv, unV, e]) hw
      · exact hw.elim
    · rename_i k n e
      split at hw
      · refine plain (v := .int k (k.wrap (-n))) ?_ hw
        have : k.wrap (0 - n) = k.wrap (-n) := by rw [Int.zero_sub]
        simp only [opEv, unV, e, Op.unary, Op.intArith, pure, this]
      · obtain ⟨v, h1, h2⟩ := hw
        exact plain (by simp only [opEv, e, h1]) h2
    · obtain ⟨v, h1, h2⟩ := hw
      exact plain (by simp only [opEv, h1]) h2
  case len c x =>
    split at hw
    · obtain ⟨h1, h2⟩ := hw
      generalize hx : rd t x = xv at h1 h2
      cases xv <;> simp only [rowS] at h1 <;> try (cases h1; done)
      · exact plain (by simp only [opEv, hx]; rfl) h2
      · exact plain (by simp only [opEv, hx]; rfl) h2
    · obtain ⟨v, h', h1, h2⟩ := hw
      exact plain h1 h2
  case conv k x =>
    split at hw
    · rename_i e
      exact plain (by simp only [opEv, e]) hw
    · exact hw.elim
  case faddr off x =>
    split at hw
    · rename_i e
      exact plain (by simp only [opEv, e]) hw
    · exact hw.elim
  case iaddr esz x i =>
    split at hw
    · rename_i e2
      obtain ⟨⟨h1, h2⟩, h3⟩ := hw
      generalize hx : rd t x = xv at h2 h3
      cases xv <;> simp only [lenS] at h2 <;> try (omega)
      have hb : ∀ {n : Int} {len : Nat}, 0 ≤ n → n < len → Nat.blt n.toNat len = true := fun _ _ => Nat.ble_eq_true_of_le (by omega)
      exact plain (by simp only [opEv, hx, e2, asNat_int h1, hb h1 h2]; rfl) h3
    · exact hw.elim
  case extract x i =>
    split at hw
    · rename_i e
      obtain ⟨v, h1, h2⟩ := hw
      exact plain (by simp only [opEv, e, h1]) h2
    · exact hw.elim
  case call f args =>
    obtain ⟨n, v, h', h1, h2⟩ := hw
    refine ⟨n, v, d, h', ?_, h2⟩
    unfold runStep
    rw [hg, hop]
    simp only [h1]
  case invoke x rows args =>
    obtain ⟨n, v, h', h1, h2⟩ := hw
    refine ⟨n, v, d, h', ?_, h2⟩
    unfold runStep
    rw [hg, hop]
    simp only [h1]
  case defer f args =>
    split at hw
    · rename_i e
      obtain ⟨rfl, h2⟩ := hw
      refine ⟨0, _, _, _, ?_, h2⟩
      unfold runStep
      rw [hg, hop]
      simp only [e]
    · exact hw.elim
  case next it =>
    obtain ⟨v, h', h1, h2⟩ := hw
    refine ⟨0, v, d, h', ?_, h2⟩
    unfold runStep
    rw [hg, hop]
    simp only [h1]
  all_goals (obtain ⟨v, h', h1, h2⟩ := xsome_out hw; exact plain h1 h2)

theorem xwpStep_sound {s : XStep} {rnd : Option Nat} {t : Tr V} {d : List XDef} {h : Heap} {K : V → List XDef → Heap → Prop} (hw : xwpStep X hook s rnd t d h K) : EvStep X hook s rnd t d h K := by
  unfold xwpStep at hw
  have skip : wantedV t s.guard = some false → K .undef d h → EvStep X hook s rnd t d h K := fun hg hk => ⟨0, .undef, d, h, by unfold runStep; rw [hg], hk⟩
  split at hw
  · rename_i e
    exact xwpOp_sound (by rw [e]; rfl) hw
  · rename_i g want e
    split at hw
    · rename_i b e2
      by_cases hb : b = want
      · rw [if_pos hb] at hw
        exact xwpOp_sound (by rw [e]; simp [wantedV, e2, hb]) hw
      · rw [if_neg hb] at hw
        exact skip (by rw [e]; simp [wantedV, e2, hb]) hw
    · exact hw.elim
    · exact hw.elim
    · rename_i n1 n2 n3
      refine skip ?_ hw
      rw [e]
      simp only [wantedV]

theorem EvStep.mono {s : XStep} {rnd : Option Nat} {t : Tr V} {d : List XDef} {h : Heap} {K K' : V → List XDef → Heap → Prop} (he : EvStep X hook s rnd t d h K) (hk : ∀ v d h, K v d h → K' v d h) : EvStep X hook s rnd t d h K' :=
  let ⟨n, v, d', h', h1, h2⟩ := he
  ⟨n, v, d', h', h1, hk _ _ _ h2⟩

theorem xwpLines_sound {rnd : Option Nat} : ∀ {ls : List XLine} {t : Tr V} {d : List XDef} {h : Heap} {K : Tr V → List XDef → Heap → Prop}, xwpLines X hook rnd ls t d h K → EvLines X hook rnd ls t d h K
  | [], t, d, h, K, hw => ⟨0, t, d, h, rfl, hw⟩
  | l :: ls, t, d, h, K, hw => by
    obtain ⟨n, v, d1, h1, e1, e2, e3⟩ := xwpStep_sound hw
    obtain ⟨m, t2, d2, h2, e4, e5⟩ := xwpLines_sound e3
    refine ⟨max n m, t2, d2, h2, ?_, e5⟩
    simp only [runLines, runStep_mono (ev_mono (Nat.le_max_left n m)) e1, e2, runLines_mono (ev_mono (Nat.le_max_right n m)) e4]

theorem EvCode.mono {c : XCode} {rnd : Option Nat} {t : Tr V} {d : List XDef} {h : Heap} {Q Q' : XExit → Tr V → List XDef → Heap → Prop} (he : EvCode X hook c rnd t d h Q) (hq : ∀ e t d h, Q e t d h → Q' e t d h) : EvCode X hook c rnd t d h Q' :=
  let ⟨n, e, t', d', h', h1, h2⟩ := he
  ⟨n, e, t', d', h', h1, hq _ _ _ _ h2⟩

theorem EvCall.mono {f : Nat} {args : List V} {h : Heap} {Q Q' : V → Heap → Prop} (he : EvCall X hook f args h Q) (hq : ∀ v h, Q v h → Q' v h) : EvCall X hook f args h Q' :=
  let ⟨n, v, h', h1, h2⟩ := he
  ⟨n, v, h', h1, hq _ _ h2⟩

theorem EvRound.mono {f : Nat} {args : List V} {h : Heap} {Q Q' : V → Heap → Prop} (he : EvRound X hook f args h Q) (hq : ∀ v h, Q v h → Q' v h) : EvRound X hook f args h Q' :=
  let ⟨n, v, h', h1, h2⟩ := he
  ⟨n, v, h', h1, hq _ _ h2⟩

theorem xwp_sound {rnd : Option Nat} : ∀ {c : XCode} {t : Tr V} {d : List XDef} {h : Heap} {Q : XExit → Tr V → List XDef → Heap → Prop}, xwp X hook rnd c t d h Q → EvCode X hook c rnd t d h Q
  | .skip, t, d, h, Q, hw => ⟨1, _, _, _, _, rfl, hw⟩
  | .region dr ls, t, d, h, Q, hw => by
    obtain ⟨n, t2, d2, h2, e1, e2⟩ := xwpLines_sound hw
    exact ⟨n + 1, _, _, _, _, by simp only [ev, evStep, e1], e2⟩
  | .seq a b, t, d, h, Q, hw => by
    obtain ⟨n, e, t1, d1, h1, e1, e2⟩ := xwp_sound (c := a) hw
    cases e with
    | normal =>
      obtain ⟨m, e, t2, d2, h2, e3, e4⟩ := xwp_sound (c := b) e2
      refine ⟨max n m + 1, e, t2, d2, h2, ?_, e4⟩
      simp only [ev, evStep, ev_mono (Nat.le_max_left n m) _ _ e1, ev_mono (Nat.le_max_right n m) _ _ e3]
    | exit i => exact ⟨n + 1, _, _, _, _, by simp only [ev, evStep, e1], e2⟩
    | ret => exact ⟨n + 1, _, _, _, _, by simp only [ev, evStep, e1], e2⟩
  | .cond c a b, t, d, h, Q, hw => by
    unfold xwp at hw
    split at hw
    · rename_i x e
      cases x with
      | true =>
        obtain ⟨n, e2, t2, d2, h2, e3, e4⟩ := xwp_sound (c := a) (by simpa using hw)
        exact ⟨n + 1, _, _, _, _, by simp only [ev, evStep, e, e3], e4⟩
      | false =>
        obtain ⟨n, e2, t2, d2, h2, e3, e4⟩ := xwp_sound (c := b) (by simpa using hw)
        exact ⟨n + 1, _, _, _, _, by simp only [ev, evStep, e, e3], e4⟩
    · exact hw.elim
  | .block id body, t, d, h, Q, hw => by
    obtain ⟨n, e, t1, d1, h1, e1, e2⟩ := xwp_sound (c := body) hw
    cases e with
    | normal => exact ⟨n + 1, _, _, _, _, by simp only [ev, evStep, e1], e2⟩
    | ret => exact ⟨n + 1, _, _, _, _, by simp only [ev, evStep, e1], e2⟩
    | exit i =>
      simp only at e2
      by_cases hi : i = id
      · subst hi
        rw [if_pos rfl] at e2
        exact ⟨n + 1, _, _, _, _, by simp only [ev, evStep, e1, Nat.beq_refl], e2⟩
      · rw [if_neg hi] at e2
        have hb : Nat.beq i id = false := by
          cases hb : Nat.beq i id with
          | false => rfl
          | true => exact absurd (Nat.eq_of_beq_eq_true hb) hi
        exact ⟨n + 1, _, _, _, _, by simp only [ev, evStep, e1, hb], e2⟩
  | .loop body, t, d, h, Q, hw => hw
  | .rangeFunc f ps asg body, t, d, h, Q, hw => hw
  | .exit id, t, d, h, Q, hw => ⟨1, _, _, _, _, rfl, hw⟩
  | .ret, t, d, h, Q, hw => ⟨1, _, _, _, _, rfl, hw⟩
  | .scope body, t, d, h, Q, hw => by
    obtain ⟨n, e, t1, d1, h1, e1, e2⟩ := xwp_sound (c := body) hw
    exact ⟨n + 1, _, _, _, _, by simp only [ev, evStep, e1], e2⟩
  | .label, t, d, h, Q, hw => ⟨1, _, _, _, _, rfl, hw⟩

/-! ## Results -/
def xres (t : Tr V) (h : Heap) : List XRes → (List V → Prop) → Prop
  | [], k => k []
  | .tmp i :: r, k => xres t h r fun vs => k (slotOf t i :: vs)
  | .cell i g n :: r, k => match slotOf t i with
    | .ptr o gn off => ∃ cs, readCells h o gn off n = some cs ∧ (match g with
      | true => xres t h r fun vs => k (.agg cs :: vs)
      | false => ∃ v, cs = [v] ∧ xres t h r fun vs => k (v :: vs))
    | _ => False

theorem xres_sound {t : Tr V} {h : Heap} : ∀ {rs : List XRes} {k : List V → Prop}, xres t h rs k → ∃ vs, resultsOf t h rs = some vs ∧ k vs
  | [], k, hw => ⟨[], rfl, hw⟩
  | .tmp i :: r, k, hw => by
    obtain ⟨vs, h1, h2⟩ := xres_sound (rs := r) hw
    exact ⟨_, by simp only [resultsOf, h1], h2⟩
  | .cell i g n :: r, k, hw => by
    unfold xres at hw
    split at hw
    · rename_i o gn off e
      obtain ⟨cs, h1, h2⟩ := hw
      cases g with
      | true =>
        obtain ⟨vs, h3, h4⟩ := xres_sound (rs := r) h2
        exact ⟨_, by simp only [resultsOf, opEv, rd, e, h1, h3], h4⟩
      | false =>
        obtain ⟨v, rfl, h2⟩ := h2
        obtain ⟨vs, h3, h4⟩ := xres_sound (rs := r) h2
        exact ⟨_, by simp only [resultsOf, opEv, rd, e, h1, h3], h4⟩
    · exact hw.elim

/-- What is wanted where a function ends. -/
def xfin (X : XProg) (hook : Task → Option Out) (rs : List XRes) (Q : V → Heap → Prop) : XExit → Tr V → List XDef → Heap → Prop
  | .exit _, _, _, _ => False
  | _, t, d, h => EvDefers X hook d h fun h => xres t h rs fun vs => Q (oneOf vs) h

/-! ## Calls -/
theorem evCall_of {f : Nat} {fn : XFunc} {args : List V} {h : Heap} {Q : V → Heap → Prop} (hf : X.funcs.get f = some fn) (hh : hook (.call false f args h) = none)
    (hc : EvCode X hook fn.code none (argsFrom .lf 0 args) [] h fun e t d h => (∀ i, e ≠ .exit i) ∧ EvDefers X hook d h fun h => ∃ vs, resultsOf t h fn.results = some vs ∧ Q (oneOf vs) h) : EvCall X hook f args h Q := by
  obtain ⟨n, e, t, d, h1, e1, e2, m, h2, e3, vs, e4, e5⟩ := hc
  refine ⟨max n m + 1, oneOf vs, h2, ?_, e5⟩
  simp only [ev, evStep, hh, hf, ev_mono (Nat.le_max_left n m) _ _ e1, ev_mono (Nat.le_max_right n m) _ _ e3, e4]

theorem evDefers_nil {h : Heap} {Q : Heap → Prop} (q : Q h) : EvDefers X hook [] h Q := ⟨1, h, rfl, q⟩

@[simp] theorem evDefers_nil_iff {h : Heap} {Q : Heap → Prop} : EvDefers X hook [] h Q ↔ Q h := by
  refine ⟨fun ⟨n, h', h1, h2⟩ => ?_, evDefers_nil⟩
  cases n with
  | zero => simp [ev] at h1
  | succ n =>
    simp [ev, evStep] at h1
    subst h1
    exact h2

theorem evCall_code {f : Nat} {fn : XFunc} {args : List V} {h : Heap} {Q : V → Heap → Prop} (hf : X.funcs.get f = some fn) (hh : hook (.call false f args h) = none)
    (hc : xwp X hook none fn.code (argsFrom .lf 0 args) [] h (xfin X hook fn.results Q)) : EvCall X hook f args h Q := by
  refine evCall_of hf hh ((xwp_sound hc).mono fun e t d h q => ?_)
  have main : EvDefers X hook d h (fun h => xres t h fn.results fun vs => Q (oneOf vs) h) → EvDefers X hook d h fun h => ∃ vs, resultsOf t h fn.results = some vs ∧ Q (oneOf vs) h :=
    fun ⟨n, h', h1, h2⟩ => ⟨n, h', h1, xres_sound h2⟩
  cases e with
  | exit i => exact q.elim
  | normal => exact ⟨(fun i q => by cases q), main q⟩
  | ret => exact ⟨(fun i q => by cases q), main q⟩

theorem evDefers_call {f : Nat} {args : List V} {ds : List XDef} {h : Heap} {Q : Heap → Prop} (hc : EvDCall X hook f args h fun h => EvDefers X hook ds h Q) : EvDefers X hook (.call f args :: ds) h Q := by
  obtain ⟨n, v, h1, e1, m, h2, e2, e3⟩ := hc
  refine ⟨max n m + 1, h2, ?_, e3⟩
  simp only [ev, evStep, ev_mono (Nat.le_max_left n m) _ _ e1, ev_mono (Nat.le_max_right n m) _ _ e2]

theorem evDCall_of {f : Nat} {fn : XFunc} {args : List V} {h : Heap} {Q : Heap → Prop} (hf : X.funcs.get f = some fn) (hh : hook (.call true f args h) = none)
    (hc : EvCode X hook fn.code none (argsFrom .lf 0 args) [] h fun e t d h => (∀ i, e ≠ .exit i) ∧ EvDefers X hook d h fun h => (∃ vs, resultsOf t h fn.results = some vs) ∧ Q h) : EvDCall X hook f args h Q := by
  obtain ⟨n, e, t, d, h1, e1, e2, m, h2, e3, ⟨vs, e4⟩, e5⟩ := hc
  refine ⟨max n m + 1, oneOf vs, h2, ?_, e5⟩
  simp only [ev, evStep, hh, hf, ev_mono (Nat.le_max_left n m) _ _ e1, ev_mono (Nat.le_max_right n m) _ _ e3, e4]

theorem evApply_func {f : Nat} {first caps args : List V} {h : Heap} {Q : V → Heap → Prop} (hc : EvCall X hook f (first ++ (args ++ caps)) h Q) : EvApply X hook (.func f first caps) args h Q := by
  obtain ⟨n, v, h', h1, h2⟩ := hc
  exact ⟨n, v, h', by simp only [applyF, h1], h2⟩

theorem evApply_yield {o : Nat} {args : List V} {h : Heap} {Q : V → Heap → Prop} (hc : EvRound X hook o args h Q) : EvApply X hook (.yield o) args h Q := by
  obtain ⟨n, v, h', h1, h2⟩ := hc
  exact ⟨n, v, h', by simp only [applyF, h1], h2⟩

/-! ## Loops -/
theorem evLoop_step {body : XCode} {rnd : Option Nat} {t : Tr V} {d : List XDef} {h : Heap} {Q : XExit → Tr V → List XDef → Heap → Prop} (hh : hook (.code (.loop body) rnd t d h) = none)
    (hc : EvCode X hook body rnd t d h fun e t d h => match e with | .normal => EvCode X hook (.loop body) rnd t d h Q | e => Q e t d h) : EvCode X hook (.loop body) rnd t d h Q := by
  obtain ⟨n, e, t1, d1, h1, e1, e2⟩ := hc
  cases e with
  | normal =>
    obtain ⟨m, e, t2, d2, h2, e3, e4⟩ := e2
    refine ⟨max n m + 1, e, t2, d2, h2, ?_, e4⟩
    simp only [ev, evStep, hh, ev_mono (Nat.le_max_left n m) _ _ e1, ev_mono (Nat.le_max_right n m) _ _ e3]
  | exit i => exact ⟨n + 1, _, _, _, _, by simp only [ev, evStep, hh, e1], e2⟩
  | ret => exact ⟨n + 1, _, _, _, _, by simp only [ev, evStep, hh, e1], e2⟩

/-- A loop by what holds ahead of each round, and a number that falls. -/
theorem evLoop {body : XCode} {rnd : Option Nat} {Q : XExit → Tr V → List XDef → Heap → Prop} (I : Nat → Tr V → List XDef → Heap → Prop) (hh : ∀ t d h, hook (.code (.loop body) rnd t d h) = none)
    (hc : ∀ n t d h, I n t d h → xwp X hook rnd body t d h fun e t d h => match e with | .normal => ∃ m, m < n ∧ I m t d h | e => Q e t d h) :
    ∀ n {t d h}, I n t d h → EvCode X hook (.loop body) rnd t d h Q := by
  intro n
  induction n using Nat.strongRecOn with
  | ind n ih =>
    intro t d h hi
    refine evLoop_step (hh t d h) ((xwp_sound (hc n t d h hi)).mono fun e t d h q => ?_)
    cases e with
    | normal => obtain ⟨m, hm, q⟩ := q; exact ih m hm q
    | exit i => exact q
    | ret => exact q
end
end Go.Xr
/- Heaps that grow, slices, and what is reckoned of X's code step by step. -/
namespace Go.Xr

/-! ## Outcomes are one -/
section
variable {X : XProg} {hook : Task → Option Out}

theorem applyF_two {f : V} {args : List V} {h : Heap} {n m : Nat} {r r' : V × Heap} (h1 : applyF (ev X hook n) f args h = some r) (h2 : applyF (ev X hook m) f args h = some r') : r = r' := by
  have e1 := applyF_mono (ev_mono (Nat.le_max_left n m)) h1
  have e2 := applyF_mono (ev_mono (Nat.le_max_right n m)) h2
  rw [e1] at e2
  exact Option.some.inj e2

/-- A call whose outcome is known. -/
theorem evApply_iff {f : V} {args : List V} {h h' : Heap} {v : V} {K : V → Heap → Prop} (hc : EvApply X hook f args h fun v1 h1 => v1 = v ∧ h1 = h') : EvApply X hook f args h K ↔ K v h' := by
  obtain ⟨n, v1, h1, e1, rfl, rfl⟩ := hc
  constructor
  · rintro ⟨m, v2, h2, e2, hk⟩
    have := applyF_two e1 e2
    cases this
    exact hk
  · intro hk
    exact ⟨n, v1, h1, e1, hk⟩

theorem evCall_iff {f : Nat} {args : List V} {h h' : Heap} {v : V} {K : V → Heap → Prop} (hc : EvCall X hook f args h fun v1 h1 => v1 = v ∧ h1 = h') : EvApply X hook (.func f [] []) args h K ↔ K v h' :=
  evApply_iff (evApply_func (by simpa using hc))

theorem EvApply.mono {f : V} {args : List V} {h : Heap} {K K' : V → Heap → Prop} (he : EvApply X hook f args h K) (hk : ∀ v h, K v h → K' v h) : EvApply X hook f args h K' :=
  let ⟨n, v, h', h1, h2⟩ := he
  ⟨n, v, h', h1, hk _ _ h2⟩

theorem evApply_call {f : Nat} {args : List V} {h : Heap} {Q K : V → Heap → Prop} (hc : EvCall X hook f args h Q) (hk : ∀ v h', Q v h' → K v h') : EvApply X hook (.func f [] []) args h K :=
  evApply_func (by simpa using hc.mono hk)

/-! ## Rules -/
theorem xwpLines_nil {rnd : Option Nat} {t : Tr V} {d : List XDef} {h : Heap} {K : Tr V → List XDef → Heap → Prop} (hk : K t d h) : xwpLines X hook rnd [] t d h K := hk

theorem xwpLines_cons {rnd : Option Nat} {op : XOp} {dst : Option Nat} {g : Option (Nat × Bool)} {ls : List XLine} {t : Tr V} {d : List XDef} {h : Heap} {K : Tr V → List XDef → Heap → Prop}
    (hw : xwpStep X hook ⟨op, dst, g⟩ rnd t d h fun v d h => xwpLines X hook rnd ls (putOpt t dst v) d h K) : xwpLines X hook rnd (⟨⟨op, dst, g⟩, []⟩ :: ls) t d h K := by
  simp only [xwpLines, stays, true_and]
  exact hw

theorem xwpLines_again {rnd : Option Nat} {s : XStep} {a : List XStep} {ls : List XLine} {t : Tr V} {d : List XDef} {h : Heap} {K : Tr V → List XDef → Heap → Prop}
    (hw : xwpStep X hook s rnd t d h fun v d h => stays (putOpt t s.dst v) h a = true ∧ xwpLines X hook rnd ls (putOpt t s.dst v) d h K) : xwpLines X hook rnd (⟨s, a⟩ :: ls) t d h K := by
  simp only [xwpLines]
  exact hw

theorem xwp_seq {rnd : Option Nat} {a b : XCode} {t : Tr V} {d : List XDef} {h : Heap} {Q : XExit → Tr V → List XDef → Heap → Prop}
    (hw : xwp X hook rnd a t d h fun e t d h => match e with | .normal => xwp X hook rnd b t d h Q | e => Q e t d h) : xwp X hook rnd (.seq a b) t d h Q := hw
theorem xwp_region {rnd : Option Nat} {dr : Bool} {ls : List XLine} {t : Tr V} {d : List XDef} {h : Heap} {Q : XExit → Tr V → List XDef → Heap → Prop}
    (hw : xwpLines X hook rnd ls t d h fun t d h => Q .normal t d h) : xwp X hook rnd (.region dr ls) t d h Q := hw
theorem xwp_block {rnd : Option Nat} {id : Nat} {body : XCode} {t : Tr V} {d : List XDef} {h : Heap} {Q : XExit → Tr V → List XDef → Heap → Prop}
    (hw : xwp X hook rnd body t d h fun e t d h => match e with | .exit i => if i = id then Q .normal t d h else Q (.exit i) t d h | e => Q e t d h) : xwp X hook rnd (.block id body) t d h Q := hw
theorem xwp_cond {rnd : Option Nat} {c : Opd} {a b : XCode} {t : Tr V} {d : List XDef} {h : Heap} {Q : XExit → Tr V → List XDef → Heap → Prop} {x : Bool} (hx : rd t c = .bool x)
    (h1 : x = true → xwp X hook rnd a t d h Q) (h2 : x = false → xwp X hook rnd b t d h Q) : xwp X hook rnd (.cond c a b) t d h Q := by
  simp only [xwp, hx]
  cases x
  · exact h2 rfl
  · exact h1 rfl
end

/-! ## Slots -/
@[simp] theorem rd_slot (t : Tr V) (i : Nat) : rd t (.slot i) = slotOf t i := rfl
@[simp] theorem rd_const (t : Tr V) (v : V) : rd t (.const v) = v := rfl
@[simp] theorem putOpt_some (t : Tr V) (i : Nat) (v : V) : putOpt t (some i) v = t.set i v := rfl
@[simp] theorem putOpt_none (t : Tr V) (v : V) : putOpt t none v = t := rfl
theorem slotOf_same (t : Tr V) (i : Nat) (v : V) : slotOf (t.set i v) i = v := by rw [slotOf_set, if_pos rfl]
@[simp] theorem slotOf_lf (i : Nat) : slotOf .lf i = .undef := by unfold slotOf; rw [Tr.get_lf]
@[simp] theorem argsFrom_cons (t : Tr V) (i : Nat) (v : V) (vs : List V) : argsFrom t i (v :: vs) = argsFrom (t.set i v) (i + 1) vs := rfl
@[simp] theorem argsFrom_nil (t : Tr V) (i : Nat) : argsFrom t i [] = t := rfl
@[simp] theorem vals_nil (ρ : Rd) : vals ρ [] = [] := rfl
@[simp] theorem vals_cons (ρ : Rd) (x : Opd) (xs : List Opd) : vals ρ (x :: xs) = ρ x :: vals ρ xs := rfl

theorem cellsOf_agg (vs : List V) : (V.agg vs).cellsOf = vs := rfl
theorem cellsOf_int (k : IntKind) (n : Int) : (V.int k n).cellsOf = [.int k n] := rfl
theorem cellsOf_bool (b : Bool) : (V.bool b).cellsOf = [.bool b] := rfl
theorem cellsOf_ptr (o g a : Nat) : (V.ptr o g a).cellsOf = [.ptr o g a] := rfl
theorem cellsOf_map (o : Nat) : (V.map o).cellsOf = [.map o] := rfl
theorem cellsOf_nilp : V.nilp.cellsOf = [.nilp] := rfl
theorem cellsOf_func (f : Nat) (a b : List V) : (V.func f a b).cellsOf = [.func f a b] := rfl
theorem cellsOf_row {v : V} (h : rowS v = true) : v.cellsOf = [v] := by cases v <;> first | rfl | (simp [rowS] at h)

/-! ## Growing -/
structure Ext (h h' : Heap) : Prop where
  next : h.next ≤ h'.next
  get : ∀ o, o < h.next → h'.get o = h.get o

theorem Ext.refl (h : Heap) : Ext h h := ⟨Nat.le_refl _, fun _ _ => rfl⟩
theorem Ext.trans {a b c : Heap} (h1 : Ext a b) (h2 : Ext b c) : Ext a c := ⟨Nat.le_trans h1.next h2.next, fun o ho => (h2.get o (Nat.lt_of_lt_of_le ho h1.next)).trans (h1.get o ho)⟩
theorem Ext.push (h : Heap) (x : XObj) : Ext h (h.push x) := ⟨Nat.le_succ _, fun o ho => by rw [Heap.get_push, if_neg (Nat.ne_of_lt ho)]⟩
theorem Ext.new (h : Heap) (cs : List V) (esz : Nat) (spare : Bool) : Ext h (newCells h cs esz spare) := Ext.push _ _
/-- A new object turned. -/
theorem Ext.put {h h' : Heap} (he : Ext h h') {o : Nat} (x : XObj) (ho : h.next ≤ o) : Ext h (h'.put o x) := ⟨he.next, fun o' ho' => by rw [Heap.get_put, if_neg (by omega)]; exact he.get o' ho'⟩

/-- A row of cells, its array. -/
def arr (cs : List V) (esz : Nat) (spare : Bool) : XObj := .cells { cs, g := 0, lens := [cs.length], ro := false, esz, spare }
theorem newCells_eq (h : Heap) (cs : List V) (esz : Nat) (spare : Bool) : newCells h cs esz spare = h.push (arr cs esz spare) := rfl
@[simp] theorem next_new (h : Heap) (cs : List V) (esz : Nat) (spare : Bool) : (newCells h cs esz spare).next = h.next + 1 := rfl
theorem get_new (h : Heap) (cs : List V) (esz : Nat) (spare : Bool) : (newCells h cs esz spare).get h.next = some (arr cs esz spare) := by rw [newCells_eq, Heap.get_push, if_pos rfl]

theorem readCells_get {h h' : Heap} {o g off n : Nat} (he : h'.get o = h.get o) : readCells h' o g off n = readCells h o g off n := by
  unfold readCells Heap.cells?
  rw [he]

theorem readCells_arr {h : Heap} {o off n : Nat} {cs : List V} {esz : Nat} {sp : Bool} (hg : h.get o = some (arr cs esz sp)) (hn : off + n ≤ cs.length) : readCells h o 0 off n = some ((cs.drop off).take n) := by
  unfold readCells Heap.cells?
  rw [hg]
  simp only [arr, Cells.lenOf]
  simp [Nat.ble_eq_true_of_le hn]

/-- A struct's cell. -/
theorem readCell {h : Heap} {o off : Nat} {cs : List V} {v : V} {esz : Nat} {sp : Bool} (hg : h.get o = some (arr cs esz sp)) (hv : cs[off]? = some v) : readCells h o 0 off 1 = some [v] := by
  obtain ⟨hi, hv⟩ := List.getElem?_eq_some_iff.1 hv
  rw [readCells_arr hg (by omega)]
  rw [List.drop_eq_getElem_cons hi]
  simp [hv]

theorem writeCell {h : Heap} {o off : Nat} {cs : List V} {v : V} {esz : Nat} {sp : Bool} (hg : h.get o = some (arr cs esz sp)) (hi : off < cs.length) (hv : v.one = true) : writeCells h o 0 off [v] = some (h.put o (arr (cs.set off v) esz sp)) := by
  have hover : ∀ (cs : List V) (off : Nat), off < cs.length → over cs off [v] = cs.set off v := by
    intro cs
    induction cs with
    | nil => intro off h; simp at h
    | cons c cs ih =>
      intro off h
      cases off with
      | zero => simp [over, over_nil]
      | succ off => simp only [over, List.set_cons_succ]; rw [ih off (by simpa using h)]
  unfold writeCells Heap.cells?
  rw [hg]
  simp only [arr, Nat.beq_refl]
  have : (Nat.ble (off + [v].length) cs.length && [v].all V.one) = true := by
    have : Nat.ble (off + [v].length) cs.length = true := Nat.ble_eq_true_of_le hi
    rw [this]; simp [hv]
  simp only [this, hover cs off hi, List.length_set]

/-! ## Slices -/
/-- A slice of values of one cell each. -/
def Sl (h : Heap) (v : V) (vs : List V) : Prop := (v = .nils ∧ vs = []) ∨ ∃ o g off cap, v = .slice o g off vs.length cap ∧ (0 < vs.length → o < h.next ∧ readCells h o g off vs.length = some vs)

theorem Sl.ext {h h' : Heap} {v : V} {vs : List V} (hs : Sl h v vs) (he : Ext h h') : Sl h' v vs := by
  rcases hs with hs | ⟨o, g, off, cap, h1, h2⟩
  · exact .inl hs
  · exact .inr ⟨o, g, off, cap, h1, fun hp => ⟨Nat.lt_of_lt_of_le (h2 hp).1 he.next, by rw [readCells_get (he.get o (h2 hp).1)]; exact (h2 hp).2⟩⟩

theorem readCells_part {h : Heap} {o g off n i k : Nat} {vs : List V} (hr : readCells h o g off n = some vs) (hi : i + k ≤ n) : readCells h o g (off + i) k = some ((vs.drop i).take k) := by
  unfold readCells at hr ⊢
  cases hc : h.cells? o with
  | none => rw [hc] at hr; cases hr
  | some c =>
    rw [hc] at hr
    simp only at hr ⊢
    cases hl : c.lenOf g with
    | none => rw [hl] at hr; cases hr
    | some l =>
      rw [hl] at hr
      simp only at hr ⊢
      cases hb : Nat.ble (off + n) l with
      | false => rw [hb] at hr; cases hr
      | true =>
        rw [hb] at hr
        have hle := Nat.le_of_ble_eq_true hb
        rw [Nat.ble_eq_true_of_le (show off + i + k ≤ l by omega)]
        simp only [Option.some.injEq] at hr ⊢
        subst hr
        rw [List.drop_take, List.take_take, List.drop_drop, Nat.min_eq_left (by omega)]

theorem Sl.read {h : Heap} {v : V} {vs : List V} (hs : Sl h v vs) {i : Nat} {x : V} (hx : vs[i]? = some x) : ∃ o g off cap, v = .slice o g off vs.length cap ∧ i < vs.length ∧ readCells h o g (off + i * 1) 1 = some [x] := by
  obtain ⟨hi, hv⟩ := List.getElem?_eq_some_iff.1 hx
  rcases hs with ⟨_, rfl⟩ | ⟨o, g, off, cap, h1, h2⟩
  · simp at hi
  · obtain ⟨h2, h3⟩ := h2 (by omega)
    refine ⟨o, g, off, cap, h1, hi, ?_⟩
    rw [Nat.mul_one, readCells_part h3 (by omega)]
    rw [List.drop_eq_getElem_cons hi]
    simp [hv]

theorem Sl.len {h : Heap} {v : V} {vs : List V} (hs : Sl h v vs) : lenS v = vs.length := by
  rcases hs with ⟨rfl, rfl⟩ | ⟨o, g, off, cap, rfl, _⟩ <;> rfl
theorem Sl.row {h : Heap} {v : V} {vs : List V} (hs : Sl h v vs) : rowS v = true := by
  rcases hs with ⟨rfl, rfl⟩ | ⟨o, g, off, cap, rfl, _⟩ <;> rfl
theorem Sl.at {h : Heap} {v : V} {vs : List V} (hs : Sl h v vs) {i : Nat} {x : V} (hx : vs[i]? = some x) : readCells h (objS v) (genS v) (offS v + i) 1 = some [x] := by
  obtain ⟨o, g, off, cap, rfl, _, h3⟩ := hs.read hx
  rw [Nat.mul_one] at h3
  exact h3

/-! ## Words -/
theorem wrap_i64 {n : Int} (h1 : -9223372036854775808 ≤ n) (h2 : n ≤ 9223372036854775807) : IntKind.i64.wrap n = n := by
  rw [← wrapR_eq]
  cases n with
  | ofNat m =>
    show (Bool.rec _ (Int.ofNat m) (Nat.ble m 9223372036854775807) : Int) = _
    rw [Nat.ble_eq_true_of_le (by have : (Int.ofNat m) = (m : Int) := rfl; omega)]
  | negSucc m =>
    show (Bool.rec _ (Int.negSucc m) (Nat.ble m 9223372036854775807) : Int) = _
    rw [Nat.ble_eq_true_of_le (by rw [Int.negSucc_eq] at h1; omega)]
theorem wrap_i32 {n : Int} (h1 : -2147483648 ≤ n) (h2 : n ≤ 2147483647) : IntKind.i32.wrap n = n := by
  rw [← wrapR_eq]
  cases n with
  | ofNat m =>
    show (Bool.rec _ (Int.ofNat m) (Nat.ble m 2147483647) : Int) = _
    rw [Nat.ble_eq_true_of_le (by have : (Int.ofNat m) = (m : Int) := rfl; omega)]
  | negSucc m =>
    show (Bool.rec _ (Int.negSucc m) (Nat.ble m 2147483647) : Int) = _
    rw [Nat.ble_eq_true_of_le (by rw [Int.negSucc_eq] at h1; omega)]
end Go.Xr
/- Steps of symbolic reckoning: one operation, one piece of code at a time. -/
namespace Go.Xr

section
variable {X : XProg} {hook : Task → Option Out} {rnd : Option Nat} {t : Tr V} {d : List XDef} {h : Heap}

/-- The lines of a region from the k-th on. -/
structure WL (X : XProg) (hook : Task → Option Out) (rnd : Option Nat) (R : List XLine) (k : Nat) (t : Tr V) (d : List XDef) (h : Heap) (K : Tr V → List XDef → Heap → Prop) : Prop where
  out : xwpLines X hook rnd (R.drop k) t d h K
/-- A piece of code. -/
structure WC (X : XProg) (hook : Task → Option Out) (rnd : Option Nat) (c : XCode) (t : Tr V) (d : List XDef) (h : Heap) (Q : XExit → Tr V → List XDef → Heap → Prop) : Prop where
  out : xwp X hook rnd c t d h Q

theorem xwpOp_mono {op : XOp} {ρ : Rd} {K K' : V → List XDef → Heap → Prop} (hk : ∀ v d h, K v d h → K' v d h) (hw : xwpOp X hook op rnd ρ d h K) : xwpOp X hook op rnd ρ d h K' := by
  cases op <;> simp only [xwpOp] at hw ⊢
  case mv => exact hk _ _ _ hw
  case pick => split at hw <;> first | exact hk _ _ _ hw | exact hw.elim
  case alloc => exact hk _ _ _ hw
  case box => exact hk _ _ _ hw
  case load g n x =>
    split at hw
    · obtain ⟨vs, h1, h2⟩ := hw
      refine ⟨vs, h1, ?_⟩
      cases g with
      | true => exact hk _ _ _ h2
      | false => obtain ⟨v, h3, h4⟩ := h2; exact ⟨v, h3, hk _ _ _ h4⟩
    · exact hw
  case store =>
    split at hw
    · obtain ⟨h1, h', h2, h3⟩ := hw; exact ⟨h1, h', h2, hk _ _ _ h3⟩
    · exact hw
  case bin op ty cls x y =>
    split at hw
    · split at hw
      · obtain ⟨h1, h2⟩ := hw
        refine ⟨h1, ?_⟩
        cases op <;> simp only [xwpInt] at h2 ⊢ <;> first | exact hk _ _ _ h2 | (obtain ⟨v, h3, h4⟩ := h2; exact ⟨v, h3, hk _ _ _ h4⟩)
      · exact hw
    · split at hw <;> first | exact hk _ _ _ hw | exact hw
    · split at hw
      · exact ⟨hw.1, hk _ _ _ hw.2⟩
      · exact ⟨hw.1, hk _ _ _ hw.2⟩
      · obtain ⟨v, h3, h4⟩ := hw; exact ⟨v, h3, hk _ _ _ h4⟩
  case un =>
    split at hw
    · split at hw <;> first | exact hk _ _ _ hw | exact hw
    · split at hw <;> first | exact hk _ _ _ hw | (obtain ⟨v, h3, h4⟩ := hw; exact ⟨v, h3, hk _ _ _ h4⟩)
    · obtain ⟨v, h3, h4⟩ := hw; exact ⟨v, h3, hk _ _ _ h4⟩
  case conv => split at hw <;> first | exact hk _ _ _ hw | exact hw
  case faddr => split at hw <;> first | exact hk _ _ _ hw | exact hw
  case iaddr => split at hw <;> first | exact ⟨hw.1, hk _ _ _ hw.2⟩ | exact hw
  case extract => split at hw <;> first | (obtain ⟨v, h3, h4⟩ := hw; exact ⟨v, h3, hk _ _ _ h4⟩) | exact hw
  case len => split at hw <;> first | exact ⟨hw.1, hk _ _ _ hw.2⟩ | (obtain ⟨v, h', h3, h4⟩ := hw; exact ⟨v, h', h3, hk _ _ _ h4⟩)
  case call => exact hw.mono fun v h => hk v d h
  case defer => split at hw <;> first | exact ⟨hw.1, hk _ _ _ hw.2⟩ | exact hw
  case invoke => obtain ⟨n, v, h', h3, h4⟩ := hw; exact ⟨n, v, h', h3, hk _ _ _ h4⟩
  case next => obtain ⟨v, h', h3, h4⟩ := hw; exact ⟨v, h', h3, hk _ _ _ h4⟩
  all_goals (obtain ⟨v, h', h3, h4⟩ := xsome_out hw; rw [h3]; exact hk _ _ _ h4)

theorem xwpStep_mono {s : XStep} {K K' : V → List XDef → Heap → Prop} (hk : ∀ v d h, K v d h → K' v d h) (hw : xwpStep X hook s rnd t d h K) : xwpStep X hook s rnd t d h K' := by
  unfold xwpStep at hw ⊢
  split at hw
  · exact xwpOp_mono hk hw
  · split at hw
    · split at hw
      · rename_i hb; rw [if_pos hb]; exact xwpOp_mono hk hw
      · rename_i hb; rw [if_neg hb]; exact hk _ _ _ hw
    · exact hw
    · exact hw
    · exact hk _ _ _ hw

theorem xwpLines_mono : ∀ {ls : List XLine} {t : Tr V} {d : List XDef} {h : Heap} {K K' : Tr V → List XDef → Heap → Prop}, (∀ t d h, K t d h → K' t d h) → xwpLines X hook rnd ls t d h K → xwpLines X hook rnd ls t d h K'
  | [], t, d, h, K, K', hk, hw => hk t d h hw
  | l :: ls, t, d, h, K, K', hk, hw => by
    simp only [xwpLines] at hw ⊢
    exact xwpStep_mono (fun v d h q => ⟨q.1, xwpLines_mono hk q.2⟩) hw

theorem xwp_mono : ∀ {c : XCode} {t : Tr V} {d : List XDef} {h : Heap} {Q Q' : XExit → Tr V → List XDef → Heap → Prop}, (∀ e t d h, Q e t d h → Q' e t d h) → xwp X hook rnd c t d h Q → xwp X hook rnd c t d h Q'
  | .skip, t, d, h, Q, Q', hq, hw => hq _ _ _ _ hw
  | .region dr ls, t, d, h, Q, Q', hq, hw => xwpLines_mono (fun t d h => hq .normal t d h) hw
  | .seq a b, t, d, h, Q, Q', hq, hw => by
    refine xwp_mono (c := a) (fun e t d h q => ?_) hw
    cases e with
    | normal => exact xwp_mono (c := b) hq q
    | exit i => exact hq _ _ _ _ q
    | ret => exact hq _ _ _ _ q
  | .cond c a b, t, d, h, Q, Q', hq, hw => by
    unfold xwp at hw ⊢
    split at hw
    · rename_i x e
      cases x with
      | true => exact xwp_mono (c := a) hq hw
      | false => exact xwp_mono (c := b) hq hw
    · exact hw
  | .block id body, t, d, h, Q, Q', hq, hw => by
    refine xwp_mono (c := body) (fun e t d h q => ?_) hw
    cases e with
    | normal => exact hq _ _ _ _ q
    | exit i =>
      simp only at q ⊢
      split at q
      · rename_i hi; rw [if_pos hi]; exact hq _ _ _ _ q
      · rename_i hi; rw [if_neg hi]; exact hq _ _ _ _ q
    | ret => exact hq _ _ _ _ q
  | .loop body, t, d, h, Q, Q', hq, hw => EvCode.mono hw hq
  | .rangeFunc f ps asg body, t, d, h, Q, Q', hq, hw => EvCode.mono hw hq
  | .exit id, t, d, h, Q, Q', hq, hw => hq _ _ _ _ hw
  | .ret, t, d, h, Q, Q', hq, hw => hq _ _ _ _ hw
  | .scope body, t, d, h, Q, Q', hq, hw => xwp_mono (c := body) hq hw
  | .label, t, d, h, Q, Q', hq, hw => hq _ _ _ _ hw

theorem s_line {R : List XLine} {k : Nat} {op : XOp} {dst : Option Nat} {g : Option (Nat × Bool)} {K : Tr V → List XDef → Heap → Prop} (hl : R[k]? = some ⟨⟨op, dst, g⟩, []⟩)
    (hw : xwpStep X hook ⟨op, dst, g⟩ rnd t d h fun v d h => WL X hook rnd R (k + 1) (putOpt t dst v) d h K) : WL X hook rnd R k t d h K := by
  obtain ⟨hi, he⟩ := List.getElem?_eq_some_iff.1 hl
  constructor
  rw [List.drop_eq_getElem_cons hi, he]
  exact xwpLines_cons (xwpStep_mono (fun v d h q => q.out) hw)

theorem s_again {R : List XLine} {k : Nat} {s : XStep} {a : List XStep} {K : Tr V → List XDef → Heap → Prop} (hl : R[k]? = some ⟨s, a⟩)
    (hw : xwpStep X hook s rnd t d h fun v d h => stays (putOpt t s.dst v) h a = true ∧ WL X hook rnd R (k + 1) (putOpt t s.dst v) d h K) : WL X hook rnd R k t d h K := by
  obtain ⟨hi, he⟩ := List.getElem?_eq_some_iff.1 hl
  constructor
  rw [List.drop_eq_getElem_cons hi, he]
  exact xwpLines_again (xwpStep_mono (fun v d h q => ⟨q.1, q.2.out⟩) hw)

theorem s_end {R : List XLine} {k : Nat} {K : Tr V → List XDef → Heap → Prop} (hl : R[k]? = none) (hk : K t d h) : WL X hook rnd R k t d h K := by
  constructor
  rw [List.drop_eq_nil_of_le (by simpa using hl)]
  exact hk

variable {Q : XExit → Tr V → List XDef → Heap → Prop}
theorem s_region {dr : Bool} {R : List XLine} (hw : WL X hook rnd R 0 t d h fun t d h => Q .normal t d h) : WC X hook rnd (.region dr R) t d h Q := ⟨by
  have := hw.out
  rw [List.drop_zero] at this
  exact this⟩

/-- What goes on where a piece of code is through. -/
def andThen (Q Q' : XExit → Tr V → List XDef → Heap → Prop) : XExit → Tr V → List XDef → Heap → Prop
  | .normal => Q .normal
  | e => Q' e
theorem andThen_normal (Q Q' : XExit → Tr V → List XDef → Heap → Prop) : andThen Q Q' .normal t d h = Q .normal t d h := rfl
theorem andThen_exit (Q Q' : XExit → Tr V → List XDef → Heap → Prop) (i : Nat) : andThen Q Q' (.exit i) t d h = Q' (.exit i) t d h := rfl
theorem andThen_ret (Q Q' : XExit → Tr V → List XDef → Heap → Prop) : andThen Q Q' .ret t d h = Q' .ret t d h := rfl

theorem s_seq {a b : XCode} (hw : WC X hook rnd a t d h (andThen (fun _ t d h => WC X hook rnd b t d h Q) Q)) : WC X hook rnd (.seq a b) t d h Q := ⟨by
  refine xwp_mono (c := a) (fun e t d h q => ?_) hw.out
  cases e with
  | normal => exact WC.out q
  | exit i => exact q
  | ret => exact q⟩

/-- Out of a block. -/
def outOf (id : Nat) (Q : XExit → Tr V → List XDef → Heap → Prop) : XExit → Tr V → List XDef → Heap → Prop
  | .exit i, t, d, h => if i = id then Q .normal t d h else Q (.exit i) t d h
  | e, t, d, h => Q e t d h
theorem outOf_normal (id : Nat) : outOf id Q .normal t d h = Q .normal t d h := rfl
theorem outOf_exit (id i : Nat) : outOf id Q (.exit i) t d h = if i = id then Q .normal t d h else Q (.exit i) t d h := rfl
theorem outOf_ret (id : Nat) : outOf id Q .ret t d h = Q .ret t d h := rfl

theorem s_block {id : Nat} {body : XCode} (hw : WC X hook rnd body t d h (outOf id Q)) : WC X hook rnd (.block id body) t d h Q := ⟨by
  refine xwp_mono (c := body) (fun e t d h q => ?_) hw.out
  cases e <;> exact q⟩

theorem s_scope {body : XCode} (hw : WC X hook rnd body t d h Q) : WC X hook rnd (.scope body) t d h Q := ⟨hw.out⟩
theorem s_skip (hw : Q .normal t d h) : WC X hook rnd .skip t d h Q := ⟨hw⟩
theorem s_label (hw : Q .normal t d h) : WC X hook rnd .label t d h Q := ⟨hw⟩
theorem s_ret (hw : Q .ret t d h) : WC X hook rnd .ret t d h Q := ⟨hw⟩
theorem s_exit {i : Nat} (hw : Q (.exit i) t d h) : WC X hook rnd (.exit i) t d h Q := ⟨hw⟩

/-- By a bool. -/
def condB (v : V) (A B : Prop) : Prop :=
  match v with
  | .bool true => A
  | .bool false => B
  | _ => False
theorem s_cond {c : Opd} {a b : XCode} (hw : condB (rd t c) (WC X hook rnd a t d h Q) (WC X hook rnd b t d h Q)) : WC X hook rnd (.cond c a b) t d h Q := ⟨by
  simp only [xwp]
  unfold condB at hw
  split at hw
  · rename_i e; rw [e]; exact hw.out
  · rename_i e; rw [e]; exact hw.out
  · exact hw.elim⟩
theorem condB_of {b : Bool} {A B : Prop} (h1 : b = true → A) (h2 : b = false → B) : condB (.bool b) A B := by
  cases b
  · exact h2 rfl
  · exact h1 rfl
theorem condB_dec {p : Prop} [Decidable p] {A B : Prop} (h1 : p → A) (h2 : ¬ p → B) : condB (.bool (decide p)) A B := by
  by_cases hp : p
  · rw [decide_eq_true hp]; exact h1 hp
  · rw [decide_eq_false hp]; exact h2 hp
theorem condB_true {A B : Prop} : condB (.bool true) A B = A := rfl
theorem condB_false {A B : Prop} : condB (.bool false) A B = B := rfl

/-- A loop, as it stands. -/
theorem s_loop {body : XCode} (hw : EvCode X hook (.loop body) rnd t d h Q) : WC X hook rnd (.loop body) t d h Q := ⟨hw⟩
theorem s_rangeFunc {f : Opd} {ps : List Nat} {asg body : XCode} (hw : EvCode X hook (.rangeFunc f ps asg body) rnd t d h Q) : WC X hook rnd (.rangeFunc f ps asg body) t d h Q := ⟨hw⟩

theorem s_if {p : Prop} [Decidable p] {A B : Prop} (h1 : p → A) (h2 : ¬ p → B) : if p then A else B := by
  by_cases hp : p
  · rw [if_pos hp]; exact h1 hp
  · rw [if_neg hp]; exact h2 hp

theorem xfin_ret {rs : List XRes} {Q : V → Heap → Prop} : xfin X hook rs Q .ret t [] h ↔ xres t h rs fun vs => Q (oneOf vs) h := by
  show EvDefers X hook [] h _ ↔ _
  simp
theorem xfin_normal {rs : List XRes} {Q : V → Heap → Prop} : xfin X hook rs Q .normal t [] h ↔ xres t h rs fun vs => Q (oneOf vs) h := by
  show EvDefers X hook [] h _ ↔ _
  simp

/-- A function's contract, out of its code. -/
theorem s_call {f : Nat} {fn : XFunc} {args : List V} {Q : V → Heap → Prop} (hf : X.funcs.get f = some fn) (hh : hook (.call false f args h) = none)
    (hc : WC X hook none fn.code (argsFrom .lf 0 args) [] h (xfin X hook fn.results Q)) : EvCall X hook f args h Q := evCall_code hf hh hc.out

/-- A loop by what holds ahead of each round, and a number that falls. -/
theorem s_while {body : XCode} (I : Nat → Tr V → List XDef → Heap → Prop) (hh : ∀ t d h, hook (.code (.loop body) rnd t d h) = none)
    (n : Nat) (hi : I n t d h) (hc : ∀ n t d h, I n t d h → WC X hook rnd body t d h (andThen (fun _ t d h => ∃ m, m < n ∧ I m t d h) Q)) : WC X hook rnd (.loop body) t d h Q :=
  ⟨evLoop I hh (fun n t d h hi => xwp_mono (fun e t d h q => by cases e <;> exact q) (hc n t d h hi).out) n hi⟩
end
end Go.Xr
/- A function's code gone through in pieces: each piece a declaration of its own, from told slots and a told heap to others. -/
namespace Go.Xr
open Go.RowKit

def XCode.a1 : XCode → XCode
  | .seq a _ => a
  | .cond _ a _ => a
  | .block _ a => a
  | .loop a => a
  | .scope a => a
  | c => c
def XCode.a2 : XCode → XCode
  | .seq _ b => b
  | .cond _ _ b => b
  | c => c

noncomputable def mkT (l : List (Nat × V)) : Tr V := List.rec .lf (fun p _ t => setR t p.1 p.2) l
noncomputable def mkO (l : List (Nat × XObj)) : Tr XObj := List.rec .lf (fun p _ t => setR t p.1 p.2) l
noncomputable def mkH (l : List (Nat × XObj)) (next : Nat) : Heap := ⟨mkO l, next⟩

def fitsTo (o : Option Out) (M : Out) : Bool :=
  match o with
  | some r => outFits r M
  | none => false

/-- From slots t and heap h code comes to exit e with slots t' and heap h', or with more told. -/
def Runs [RoLim] (P : Program) (c : XCode) (t : Tr V) (h : Heap) (e : XExit) (t' : Tr V) (h' : Heap) : Prop :=
  CodeWP P c none t [] h fun e1 t1 d1 h1 => e1 = e ∧ t1 = t' ∧ d1 = [] ∧ h1 = h'

section
variable [RoLim] {P : Program} {c a b : XCode} {t t1 t2 : Tr V} {h h1 h2 : Heap} {e : XExit}

theorem runs_leaf {E : Task → Option Out} (S : Sound P E) (hk : fitsTo (E (.code c none t [] h)) (.code e t1 [] h1) = true) : Runs P c t h e t1 h1 := by
  unfold fitsTo at hk
  split at hk
  · rename_i r hr
    have := S _ _ hr
    cases r with
    | code e0 t0 d0 h0 => exact outFits_sound (rnd := none) this hk
    | call v h => simp [outFits] at hk
    | heap h => simp [outFits] at hk
  · cases hk

theorem runs_seq (hc : c = .seq a b) (ha : Runs P a t h .normal t1 h1) (hb : Runs P b t1 h1 e t2 h2) : Runs P c t h e t2 h2 := by
  subst hc
  refine code_seq (CodeWP.mono ha fun e1 t1' d1 h1' ⟨a1, a2, a3, a4⟩ => ?_)
  subst a1; subst a2; subst a3; subst a4
  exact hb

theorem runs_seq_out (hc : c = .seq a b) (hn : isNorm e = false) (ha : Runs P a t h e t1 h1) : Runs P c t h e t1 h1 := by
  subst hc
  refine code_seq (CodeWP.mono ha fun e1 t1' d1 h1' ⟨a1, a2, a3, a4⟩ => ?_)
  subst a1; subst a2; subst a3; subst a4
  cases e1 with
  | normal => cases hn
  | exit i => exact ⟨rfl, rfl, rfl, rfl⟩
  | ret => exact ⟨rfl, rfl, rfl, rfl⟩

theorem runs_cond {x : Opd} {v : Bool} (hc : c = .cond x a b) (hx : rd t x = .bool v) (ha : Runs P (if v then a else b) t h e t1 h1) : Runs P c t h e t1 h1 := by
  subst hc
  exact code_cond hx ha

theorem runs_cond_t {x : Opd} (hc : c = .cond x a b) (hx : rd t x = .bool true) (ha : Runs P a t h e t1 h1) : Runs P c t h e t1 h1 := runs_cond hc hx ha
theorem runs_cond_f {x : Opd} (hc : c = .cond x a b) (hx : rd t x = .bool false) (ha : Runs P b t h e t1 h1) : Runs P c t h e t1 h1 := runs_cond hc hx ha

theorem runs_block {id : Nat} (hc : c = .block id a) (ha : Runs P a t h .normal t1 h1) : Runs P c t h .normal t1 h1 := by
  subst hc
  refine code_block (CodeWP.mono ha fun e1 t1' d1 h1' ⟨a1, a2, a3, a4⟩ => ?_)
  subst a1; subst a2; subst a3; subst a4
  exact ⟨rfl, rfl, rfl, rfl⟩

theorem runs_block_in {id : Nat} (hc : c = .block id a) (ha : Runs P a t h (.exit id) t1 h1) : Runs P c t h .normal t1 h1 := by
  subst hc
  refine code_block (CodeWP.mono ha fun e1 t1' d1 h1' ⟨a1, a2, a3, a4⟩ => ?_)
  subst a1; subst a2; subst a3; subst a4
  exact ⟨fun _ => ⟨rfl, rfl, rfl, rfl⟩, fun hne => absurd rfl hne⟩

theorem runs_block_out {id i : Nat} (hc : c = .block id a) (hi : Nat.beq i id = false) (ha : Runs P a t h (.exit i) t1 h1) : Runs P c t h (.exit i) t1 h1 := by
  subst hc
  refine code_block (CodeWP.mono ha fun e1 t1' d1 h1' ⟨a1, a2, a3, a4⟩ => ?_)
  subst a1; subst a2; subst a3; subst a4
  exact ⟨fun he => absurd he (nat_beq_ne hi), fun _ => ⟨rfl, rfl, rfl, rfl⟩⟩

theorem runs_block_ret {id : Nat} (hc : c = .block id a) (ha : Runs P a t h .ret t1 h1) : Runs P c t h .ret t1 h1 := by
  subst hc
  refine code_block (CodeWP.mono ha fun e1 t1' d1 h1' ⟨a1, a2, a3, a4⟩ => ?_)
  subst a1; subst a2; subst a3; subst a4
  exact ⟨rfl, rfl, rfl, rfl⟩

theorem runs_scope (hc : c = .scope a) (ha : Runs P a t h e t1 h1) : Runs P c t h e t1 h1 := by
  subst hc
  exact code_scope ha

theorem runs_loop (hc : c = .loop a) (ha : Runs P a t h .normal t1 h1) (hb : Runs P c t1 h1 e t2 h2) : Runs P c t h e t2 h2 := by
  subst hc
  refine code_loop (CodeWP.mono ha fun e1 t1' d1 h1' ⟨a1, a2, a3, a4⟩ => ?_)
  subst a1; subst a2; subst a3; subst a4
  exact hb

theorem runs_loop_out (hc : c = .loop a) (hn : isNorm e = false) (ha : Runs P a t h e t1 h1) : Runs P c t h e t1 h1 := by
  subst hc
  refine code_loop (CodeWP.mono ha fun e1 t1' d1 h1' ⟨a1, a2, a3, a4⟩ => ?_)
  subst a1; subst a2; subst a3; subst a4
  cases e1 with
  | normal => cases hn
  | exit i => exact ⟨rfl, rfl, rfl, rfl⟩
  | ret => exact ⟨rfl, rfl, rfl, rfl⟩

end

/-- The function hands back true, wherever it is called, and touches nothing that was there. -/
def TrueAt (P : Program) (f : Nat) : Prop := ∀ w : World,
    Calls P f #[] w fun e w' => e = .returned (.bool true) ∧ (∀ b, b < w.heap.size → w'.heap[b]? = w.heap[b]?) ∧ w'.os = w.os ∧ w'.tape = w.tape ∧ w'.output = w.output ∧ w.heap.size ≤ w'.heap.size

/-- A function of nothing, gone through so, that hands back true. -/
theorem true_of_runs {P : Program} {t1 : Tr V} {h1 : Heap} {f : Nat} {fn : Func} {xf : XFunc} (hf : P.funcs[f]? = some fn) (hname : fn.name ≠ "runtime.NumGoroutine") (hc : compFunc P fn = some xf) {e : XExit} (he : (match e with | .exit _ => false | _ => true) = true)
    (hr : @Runs ⟨0⟩ P xf.code .lf ⟨.lf, 0⟩ e t1 h1) (hv : resultsOf t1 h1 xf.results = some [.bool true]) : TrueAt P f := by
  intro w
  letI : RoLim := ⟨0⟩
  have hw : CallWP P false f [] ⟨.lf, 0⟩ fun v _ => v = .bool true := by
    refine call_of_code hf hname hc (CodeWP.mono hr fun e1 t1' d1 h1' ⟨a1, a2, a3, a4⟩ => ?_)
    subst a1; subst a2; subst a3; subst a4
    exact ⟨(fun id q => by rw [q] at he; cases he), defers_nil ⟨_, hv, rfl⟩⟩
  have := CallWP.calls (args' := #[]) hw (Rel.start w (Nat.zero_le _)) .nil
  refine this.mono fun e w' ⟨v, h1, μ', x, q1, r, e1⟩ => ?_
  subst q1
  have hv := r.val
  cases hv
  exact ⟨e1, fun b hb => (r.rel.kept b hb).2, r.rel.os, r.rel.tape, r.rel.output, r.rel.size⟩

/-- Such a function, at any heap: what it made is left. -/
def worksHook (f : Nat) : Task → Option Out
  | .call false g [] h => match Nat.beq g f with
    | true => some (.call (.bool true) h)
    | false => none
  | _ => none

theorem worksHook_sound [RoLim] {P : Program} {f : Nat} {fn : Func} (hf : P.funcs[f]? = some fn) (hreal : Func.real fn) (ht : TrueAt P f) : HookOk P (worksHook f) := by
  intro k r hk
  unfold worksHook at hk
  split at hk
  · split at hk
    · rename_i hb
      have e1 := Nat.eq_of_beq_eq_true hb
      subst e1
      simp only [Option.some.injEq] at hk
      subst hk
      refine callWP_of_calls hf hreal fun K w0 μ w args' R hv => ?_
      cases hv
      refine (ht w).mono fun e w' ⟨e1, e2, e3, e4, e5, e6⟩ => ?_
      exact ⟨_, _, μ, _, ⟨rfl, rfl⟩, ⟨Mu.le_refl μ, R.below ⟨e3, e4, e5, e6, e2⟩, .bool true⟩, e1⟩
    · cases hk
  · cases hk
end Go.Xr
/- The first heap: what the world holds, as X's heap: an object for each block, only read. -/
namespace Go.Xr
open Go.RowKit

/-- Each block stands for itself. -/
def mu0 (n : Nat) : Mu := fun o g => if o < n ∧ g = 0 then some ⟨o, 0, 0, 1⟩ else none

theorem mu0_some {n o : Nat} (h : o < n) : mu0 n o 0 = some ⟨o, 0, 0, 1⟩ := if_pos ⟨h, rfl⟩
theorem mu0_inv {n o g : Nat} {l : Loc} (h : mu0 n o g = some l) : o < n ∧ g = 0 ∧ l = ⟨o, 0, 0, 1⟩ := by
  unfold mu0 at h
  by_cases e : o < n ∧ g = 0
  · rw [if_pos e] at h; cases h; exact ⟨e.1, e.2, rfl⟩
  · rw [if_neg e] at h; cases h

theorem VRs_of_all {μ : Mu} : ∀ {xs : List Value}, (∀ x ∈ xs, ∃ v, VR μ v x) → ∃ vs, VRs μ vs xs
  | [], _ => ⟨[], .nil⟩
  | x :: xs, h => by
    obtain ⟨v, hv⟩ := h x List.mem_cons_self
    obtain ⟨vs, hvs⟩ := VRs_of_all fun y hy => h y (List.mem_cons_of_mem _ hy)
    exact ⟨v :: vs, .cons hv hvs⟩

theorem exists_VR {μ : Mu} : ∀ (m : Nat) (x : Value), _root_.SizeOf.sizeOf x ≤ m → ∃ v, VR μ v x
  | 0, x, h => by cases x <;> simp at h
  | m + 1, x, h => by
    cases x with
    | agg cs =>
      obtain ⟨vs, hvs⟩ := VRs_of_all (μ := μ) (xs := cs.toList) fun y hy => exists_VR m y (by
        have := Array.sizeOf_lt_of_mem (Array.mem_def.2 hy)
        simp at h
        omega)
      exact ⟨.agg vs, by simpa using VR.agg hvs⟩
    | _ => exact ⟨.any, .any rfl⟩

open Classical in
/-- A value, where blocks stand for themselves. -/
noncomputable def tr (n : Nat) : Value → V
  | .int k m => .int k m
  | .bool b => .bool b
  | .string s => .str s
  | .nilIface => .nili
  | .slice none 0 0 => .nils
  | .slice (some a) len cap => if a.spot = none ∧ a.block < n ∧ len ≤ cap then .slice a.block 0 a.off len (.exact cap) else if len = 0 ∧ cap = 0 then .slice 0 0 0 0 (.exact 0) else .any
  | .agg cs => if h : ∃ v, VR (mu0 n) v (.agg cs) then h.choose else .any
  | _ => .any

theorem tr_slice (n : Nat) (a : Addr) (len cap : Nat) : tr n (.slice (some a) len cap) = if a.spot = none ∧ a.block < n ∧ len ≤ cap then .slice a.block 0 a.off len (.exact cap) else if len = 0 ∧ cap = 0 then .slice 0 0 0 0 (.exact 0) else .any := by
  simp only [tr]
theorem tr_nil (n : Nat) : tr n (.slice none 0 0) = .nils := by simp only [tr]

theorem tr_VR {n : Nat} (hn : 0 < n) (x : Value) : VR (mu0 n) (tr n x) x := by
  unfold tr
  split
  · exact .int ..
  · exact .bool ..
  · exact .str ..
  · exact .nili
  · exact .nils
  · rename_i a len cap
    split
    · rename_i h
      obtain ⟨h1, h2, h3⟩ := h
      refine .exact (mu0_some h2) a (.inl ?_) h3
      cases a
      simp only at h1
      subst h1
      simp
    · split
      · rename_i h
        obtain ⟨rfl, rfl⟩ := h
        exact .exact (mu0_some hn) a (.inr ⟨rfl, rfl⟩) (Nat.le_refl 0)
      · exact .any rfl
  · rename_i cs
    have : ∃ v, VR (mu0 n) v (.agg cs) := exists_VR _ _ (Nat.le_refl _)
    rw [dif_pos this]
    exact this.choose_spec
  · rename_i h1 h2 h3 h4 h5 h6 h7
    cases x with
    | agg cs => exact absurd rfl (h7 cs)
    | _ => exact .any rfl

/-- A block's object. -/
noncomputable def objOf (n : Nat) : Option Obj → XObj
  | some (.cells a _ _) => .cells { cs := a.toList.map (tr n), g := 0, lens := [a.size], ro := true, esz := 1, spare := false }
  | _ => .dead false

noncomputable def heapOf (f : Nat → XObj) : Nat → Heap
  | 0 => ⟨.lf, 0⟩
  | n + 1 => (heapOf f n).push (f n)

theorem heapOf_next (f : Nat → XObj) : ∀ n, (heapOf f n).next = n
  | 0 => rfl
  | n + 1 => by show (heapOf f n).next + 1 = _; rw [heapOf_next f n]
theorem heapOf_get (f : Nat → XObj) : ∀ n o, (heapOf f n).get o = if o < n then some (f o) else none
  | 0, o => by rw [if_neg (Nat.not_lt_zero o)]; exact Tr.get_lf o
  | n + 1, o => by
    show ((heapOf f n).push (f n)).get o = _
    rw [Heap.get_push, heapOf_next, heapOf_get f n]
    by_cases e : o = n
    · subst e; rw [if_pos rfl, if_pos (Nat.lt_succ_self o)]
    · rw [if_neg e]
      by_cases e2 : o < n
      · rw [if_pos e2, if_pos (by omega)]
      · rw [if_neg e2, if_neg (by omega)]

/-- The first heap. -/
noncomputable def first (w : World) : Heap := heapOf (fun b => objOf w.heap.size w.heap[b]?) w.heap.size
theorem first_next (w : World) : (first w).next = w.heap.size := heapOf_next _ _
theorem first_get (w : World) (o : Nat) : (first w).get o = if o < w.heap.size then some (objOf w.heap.size w.heap[o]?) else none := heapOf_get _ _ _

theorem first_cells {w : World} {b : Nat} {a : Array Value} {t : TypeId} {fz : Nat × Nat} (h : w.heap[b]? = some (.cells a t fz)) :
    (first w).get b = some (.cells { cs := a.toList.map (tr w.heap.size), g := 0, lens := [a.size], ro := true, esz := 1, spare := false }) := by
  have hb := (Array.getElem?_eq_some_iff.1 h).1
  rw [first_get, if_pos hb, h]
  rfl

theorem objOf_live {n : Nat} {x : Option Obj} {g : Nat} (h : LiveX (objOf n x) g) : ∃ a t fz, x = some (.cells a t fz) ∧ g = 0 := by
  unfold objOf at h
  split at h
  · rename_i a t fz
    obtain ⟨L, hL⟩ := h
    exact ⟨a, t, fz, rfl, (lenOf_only rfl hL).1⟩
  · exact h.elim

theorem first_rel [RoLim] {P : Program} (w : World) (hlim : RoLim.lim = w.heap.size) : Rel P (fun b => b < w.heap.size) w (mu0 w.heap.size) (first w) w := by
  have hget : ∀ o x, (first w).get o = some x → o < w.heap.size ∧ x = objOf w.heap.size w.heap[o]? := by
    intro o x h
    rw [first_get] at h
    by_cases e : o < w.heap.size
    · rw [if_pos e] at h; cases h; exact ⟨e, rfl⟩
    · rw [if_neg e] at h; cases h
  have hlive : ∀ o g, Live (first w) o g → o < w.heap.size ∧ g = 0 ∧ ∃ a t fz, w.heap[o]? = some (.cells a t fz) := by
    intro o g ⟨x, hx, hl⟩
    obtain ⟨h1, rfl⟩ := hget o x hx
    obtain ⟨a, t, fz, h2, h3⟩ := objOf_live hl
    exact ⟨h1, h3, a, t, fz, h2⟩
  refine ⟨fun o g l hm => ?_, fun o g l x hm hx => ?_, fun o x hx => ?_, fun o mo ins seen cur kd es ins' h1 h2 => ?_, fun o g l o' g' l' hl hl' hm hm' e => ?_, fun o g l hl hm => ?_, fun b hb => ⟨hb, rfl⟩, rfl, rfl, rfl, Nat.le_refl _, Nat.le_of_eq hlim⟩
  · obtain ⟨h1, _, rfl⟩ := mu0_inv hm
    rw [first_next]
    exact ⟨h1, h1⟩
  · obtain ⟨_, rfl, _⟩ := mu0_inv hm
    obtain ⟨_, rfl⟩ := hget o x hx
    unfold objOf
    split
    · exact Nat.le_refl 0
    · rfl
  · obtain ⟨hb, rfl⟩ := hget o x hx
    rw [first_next]
    refine ⟨hb, ?_⟩
    have hn : 0 < w.heap.size := by omega
    unfold objOf
    split
    · rename_i a t fz e
      refine ⟨fun g L hL => ?_, by simp, fun g g' L L' l l' hL hL' m m' _ => ?_⟩
      · obtain ⟨rfl, rfl⟩ := lenOf_only rfl hL
        refine ⟨⟨o, 0, 0, 1⟩, a, t, fz, mu0_some hb, rfl, e, (fun h => by cases h), (by simp), (fun i v hi hv => ?_), (fun _ h => by cases h), (fun _ => rfl)⟩
        simp only [List.getElem?_map, Array.getElem?_toList] at hv
        cases ha : a[i]? with
        | none => rw [ha] at hv; cases hv
        | some x =>
          rw [ha] at hv
          simp only [Option.map_some, Option.some.injEq] at hv
          subst hv
          exact ⟨x, by simpa using ha, tr_VR hn x⟩
      · obtain ⟨rfl, _⟩ := lenOf_only rfl hL
        obtain ⟨rfl, _⟩ := lenOf_only rfl hL'
        rw [m] at m'
        cases m'
        rfl
    · trivial
  · obtain ⟨_, e⟩ := hget o _ h1
    unfold objOf at e
    split at e <;> cases e
  · obtain ⟨_, rfl, rfl⟩ := mu0_inv hm
    obtain ⟨_, rfl, rfl⟩ := mu0_inv hm'
    exact .inl e
  · obtain ⟨h1, rfl, rfl⟩ := mu0_inv hm
    obtain ⟨_, _, a, t, fz, e⟩ := hlive o 0 hl
    exact .inl ⟨⟨_, first_cells e, rfl⟩, by rw [hlim]; exact h1⟩

/-! ## What is read -/
section
variable {H : Type} {enc : TypeId × Value → H} {P : Program} {w : World}

theorem first_read {b : Nat} {a : Array Value} {t : TypeId} {fz : Nat × Nat} {off n : Nat} (h : w.heap[b]? = some (.cells a t fz)) (hn : off + n ≤ a.size) :
    readCells (first w) b 0 off n = some (((a.toList.drop off).take n).map (tr w.heap.size)) := by
  unfold readCells Heap.cells?
  rw [first_cells h]
  simp only [Cells.lenOf]
  simp [Nat.ble_eq_true_of_le hn, List.map_drop, List.map_take]

theorem mapM_mem {α β : Type} {f : α → Option β} : ∀ {l : List α} {r : List β}, l.mapM f = some r → ∀ x ∈ l, ∃ y, f x = some y
  | [], _, _, x, hx => by cases hx
  | a :: l, r, h, x, hx => by
    rw [List.mapM_cons] at h
    simp only [bind, Option.bind_eq_some_iff, pure, Option.some.injEq] at h
    obtain ⟨y, h1, ys, h2, _⟩ := h
    cases hx with
    | head => exact ⟨y, h1⟩
    | tail _ hx => exact mapM_mem h2 x hx

theorem trod_slice {base : Nat} {sp : Nat → Bool} {held : Bool} {m : Nat} {t e : TypeId} {c : Value} {d : DataW H} {ps : List MemPlace} (hsp : ∀ b, sp b = true) (ht : P.underlying t = some (.slice e)) (h : DataW.trod enc P w base sp held m t [c] = some (d, ps)) :
    c = .slice none 0 0 ∨ ∃ a len cap m', c = .slice (some a) len cap ∧ len ≤ cap ∧ cap ≤ maxLen ∧ ∀ i, i < cap → ∃ vs x, w.cells? base (a.add (i * P.cellsOf e)) (P.cellsOf e) = some vs ∧ DataW.trod enc P w base sp held m' e vs = some x := by
  cases m with
  | zero => simp [DataW.trod] at h
  | succ m =>
    unfold DataW.trod at h
    rw [ht] at h
    cases c <;> simp only at h <;> try (cases h; done)
    rename_i ao len cap
    cases ao with
    | none =>
      left
      cases len <;> cases cap <;> first | rfl | (simp at h)
    | some a =>
      right
      simp only at h
      split at h
      · rename_i hle
        refine ⟨a, len, cap, m, rfl, hle.2.1, hle.2.2, fun i hi => ?_⟩
        rw [Option.bind_eq_some_iff] at h
        obtain ⟨elems, h1, h4⟩ := h
        rw [hsp] at h4
        simp only [if_true] at h4
        rw [Option.map_eq_some_iff] at h4
        obtain ⟨rest, h5, _⟩ := h4
        have key : ∃ y, ((w.cells? base (a.add (i * P.cellsOf e)) (P.cellsOf e)).bind (DataW.trod enc P w base sp held m e)) = some y := by
          by_cases hl : i < len
          · exact mapM_mem h1 i (by simpa using hl)
          · obtain ⟨y, hy⟩ := mapM_mem h5 (i - len) (by simp; omega)
            rw [show len + (i - len) = i from by omega] at hy
            exact ⟨y, hy⟩
        obtain ⟨y, hy⟩ := key
        rw [Option.bind_eq_some_iff] at hy
        obtain ⟨vs, h2, h3⟩ := hy
        exact ⟨vs, y, h2, h3⟩
      · cases h

/-- One cell. -/
theorem cells_one {base : Nat} {a : Addr} {vs : List Value} (h : w.cells? base a 1 = some vs) : ∃ v arr t fz, vs = [v] ∧ a.spot = none ∧ w.heap[a.block]? = some (.cells arr t fz) ∧ arr[a.off]? = some v := by
  unfold World.cells? at h
  split at h
  · rw [show List.range 1 = [0] from rfl] at h
    simp only [List.mapM_cons, List.mapM_nil, bind, Option.bind_eq_some_iff, pure, Option.some.injEq] at h
    obtain ⟨y, hy, ys, rfl, rfl⟩ := h
    have h0 : a.add 0 = a := by unfold Addr.add; rfl
    rw [h0] at hy
    unfold World.cell? at hy
    split at hy
    · rename_i arr t fz e
      split at hy
      · cases hy
      · rename_i hs
        exact ⟨y, arr, t, fz, rfl, by simpa using hs, e, hy⟩
    · cases hy
  · cases h

/-- A slice of one-cell elements that is read is one in X's first heap. -/
theorem first_slice {base : Nat} {sp : Nat → Bool} {held : Bool} {m : Nat} {t e : TypeId} {c : Value} {d : DataW H} {ps : List MemPlace} (hsp : ∀ b, sp b = true) (ht : P.underlying t = some (.slice e)) (he : P.cellsOf e = 1) (h : DataW.trod enc P w base sp held m t [c] = some (d, ps)) :
    ∃ xs : List Value, Sl (first w) (tr w.heap.size c) (xs.map (tr w.heap.size)) ∧ xs.length ≤ maxLen ∧ ∀ x ∈ xs, ∃ m' y, DataW.trod enc P w base sp held m' e [x] = some y := by
  rcases trod_slice hsp ht h with rfl | ⟨a, len, cap, m', rfl, h1, h1', h2⟩
  · exact ⟨[], .inl ⟨tr_nil _, rfl⟩, Nat.zero_le _, fun x hx => by cases hx⟩
  · rw [he] at h2
    simp only [Nat.mul_one] at h2
    by_cases hcap : cap = 0
    · have hl : len = 0 := by omega
      subst hl
      refine ⟨[], .inr ?_, Nat.zero_le _, fun x hx => by cases hx⟩
      rw [tr_slice]
      by_cases c1 : a.spot = none ∧ a.block < w.heap.size ∧ 0 ≤ cap
      · rw [if_pos c1]; exact ⟨_, _, _, _, rfl, fun q => by cases q⟩
      · rw [if_neg c1, if_pos ⟨rfl, hcap⟩]; exact ⟨_, _, _, _, rfl, fun q => by cases q⟩
    · have h0 : a.add 0 = a := by unfold Addr.add; rfl
      obtain ⟨vs0, x0, q1, q2⟩ := h2 0 (by omega)
      rw [h0] at q1
      obtain ⟨v0, arr, t0, fz, rfl, s1, s2, s3⟩ := cells_one q1
      have hat : ∀ i, i < cap → ∃ v y, arr[a.off + i]? = some v ∧ DataW.trod enc P w base sp held m' e [v] = some y := by
        intro i hi
        obtain ⟨vs, x, q3, q4⟩ := h2 i hi
        obtain ⟨v, arr', t', fz', rfl, r4, r5, r6⟩ := cells_one q3
        have e1 : (a.add i).block = a.block := by unfold Addr.add; split <;> rfl
        have e2 : (a.add i).off = a.off + i := by
          unfold Addr.add
          split
          · rename_i h; subst h; rfl
          · rfl
        rw [e1, s2] at r5
        cases r5
        rw [e2] at r6
        exact ⟨v, x, r6, q4⟩
      have hsz : a.off + len ≤ arr.size := by
        obtain ⟨v, y, q, _⟩ := hat (cap - 1) (by omega)
        have := (Array.getElem?_eq_some_iff.1 q).1
        omega
      have hblk := (Array.getElem?_eq_some_iff.1 s2).1
      have hlen : (((arr.toList.drop a.off).take len).map (tr w.heap.size)).length = len := by simp; omega
      refine ⟨(arr.toList.drop a.off).take len, .inr ?_, by simp; omega, fun x hx => ?_⟩
      · refine ⟨a.block, 0, a.off, .exact cap, ?_, fun _ => ⟨by rw [first_next]; exact hblk, ?_⟩⟩
        · rw [hlen, tr_slice, if_pos ⟨s1, hblk, h1⟩]
        · rw [hlen]
          exact first_read s2 hsz
      · obtain ⟨i, hi⟩ := List.getElem?_of_mem hx
        rw [List.getElem?_take] at hi
        split at hi
        · rename_i hil
          rw [List.getElem?_drop, Array.getElem?_toList] at hi
          obtain ⟨v, y, q1, q2⟩ := hat i (by omega)
          rw [q1] at hi
          cases hi
          exact ⟨m', y, q2⟩
        · cases hi

/-- A struct's field of one cell. -/
theorem trod_field {base : Nat} {sp : Nat → Bool} {held : Bool} {m : Nat} {t : TypeId} {fs : Array Field} {cs : List Value} {x : DataW H × List MemPlace} (ht : P.underlying t = some (.struct fs)) (h : DataW.trod enc P w base sp held m t cs = some x)
    (i : Nat) {f : Field} (hi : fs[i]? = some f) (h1 : P.cellsOf f.type = 1) {c : Value} (hc : cs[f.offset]? = some c) : ∃ n y, DataW.trod enc P w base sp held n f.type [c] = some y := by
  obtain ⟨xs, n, _, _, _, hxs, hf⟩ := DataW.trod_struct ht h
  have h2 := hf i f hi
  rw [h1] at h2
  obtain ⟨hl, e⟩ := List.getElem?_eq_some_iff.1 hc
  have e2 : (cs.drop f.offset).take 1 = [c] := by
    rw [List.drop_eq_getElem_cons hl, e]
    rfl
  rw [e2] at h2
  have hi' := (Array.getElem?_eq_some_iff.1 hi).1
  exact ⟨n, xs[i]'(by rw [hxs]; exact hi'), by rw [h2]; exact List.getElem?_eq_getElem (by rw [hxs]; exact hi')⟩

theorem trod_int {base : Nat} {sp : Nat → Bool} {held : Bool} {m : Nat} {t : TypeId} {k : IntKind} {c : Value} {y : DataW H × List MemPlace} (ht : P.underlying t = some (.int k)) (h : DataW.trod enc P w base sp held m t [c] = some y) : ∃ n, c = .int k n ∧ (Lit.int k n).wf = true := by
  cases m with
  | zero => simp [DataW.trod] at h
  | succ m =>
    unfold DataW.trod at h
    rw [ht] at h
    cases c <;> simp only at h <;> try (cases h; done)
    split at h
    · rename_i k' n hk
      obtain ⟨rfl, h2⟩ := hk
      exact ⟨n, rfl, h2⟩
    · cases h
theorem trod_bool {base : Nat} {sp : Nat → Bool} {held : Bool} {m : Nat} {t : TypeId} {c : Value} {y : DataW H × List MemPlace} (ht : P.underlying t = some .bool) (h : DataW.trod enc P w base sp held m t [c] = some y) : ∃ b, c = .bool b := by
  cases m with
  | zero => simp [DataW.trod] at h
  | succ m =>
    unfold DataW.trod at h
    rw [ht] at h
    cases c <;> simp only at h <;> first | (cases h; done) | exact ⟨_, rfl⟩

theorem ints_of {k : IntKind} : ∀ {xs : List Value}, (∀ x ∈ xs, ∃ n, x = .int k n ∧ (Lit.int k n).wf = true) → ∃ ns : List Int, xs = ns.map (.int k) ∧ ∀ n ∈ ns, (Lit.int k n).wf = true
  | [], _ => ⟨[], rfl, fun _ h => by cases h⟩
  | x :: xs, h => by
    obtain ⟨n, rfl, hw⟩ := h x List.mem_cons_self
    obtain ⟨ns, rfl, hns⟩ := ints_of fun y hy => h y (List.mem_cons_of_mem _ hy)
    exact ⟨n :: ns, rfl, fun m hm => by cases hm with | head => exact hw | tail _ hm => exact hns m hm⟩
theorem bools_of : ∀ {xs : List Value}, (∀ x ∈ xs, ∃ b, x = .bool b) → ∃ bs : List Bool, xs = bs.map .bool
  | [], _ => ⟨[], rfl⟩
  | x :: xs, h => by
    obtain ⟨b, rfl⟩ := h x List.mem_cons_self
    obtain ⟨bs, rfl⟩ := bools_of fun y hy => h y (List.mem_cons_of_mem _ hy)
    exact ⟨b :: bs, rfl⟩

/-- A slice of integers. -/
theorem first_ints {base : Nat} {sp : Nat → Bool} {held : Bool} {m : Nat} {t e : TypeId} {k : IntKind} {c : Value} {d : DataW H} {ps : List MemPlace} (hsp : ∀ b, sp b = true) (ht : P.underlying t = some (.slice e)) (he : P.cellsOf e = 1) (hk : P.underlying e = some (.int k)) (h : DataW.trod enc P w base sp held m t [c] = some (d, ps)) :
    ∃ ns : List Int, Sl (first w) (tr w.heap.size c) (ns.map (.int k)) ∧ ns.length ≤ maxLen ∧ ∀ n ∈ ns, (Lit.int k n).wf = true := by
  obtain ⟨xs, h1, h2, h3⟩ := first_slice hsp ht he h
  obtain ⟨ns, rfl, h4⟩ := ints_of fun x hx => let ⟨_, _, q⟩ := h3 x hx; trod_int hk q
  refine ⟨ns, ?_, by simpa using h2, h4⟩
  have : (ns.map (Value.int k)).map (tr w.heap.size) = ns.map (.int k) := by
    rw [List.map_map]
    apply List.map_congr_left
    intro n _
    simp [tr]
  rw [this] at h1
  exact h1
theorem first_bools {base : Nat} {sp : Nat → Bool} {held : Bool} {m : Nat} {t e : TypeId} {c : Value} {d : DataW H} {ps : List MemPlace} (hsp : ∀ b, sp b = true) (ht : P.underlying t = some (.slice e)) (he : P.cellsOf e = 1) (hk : P.underlying e = some .bool) (h : DataW.trod enc P w base sp held m t [c] = some (d, ps)) :
    ∃ bs : List Bool, Sl (first w) (tr w.heap.size c) (bs.map .bool) ∧ bs.length ≤ maxLen := by
  obtain ⟨xs, h1, h2, h3⟩ := first_slice hsp ht he h
  obtain ⟨bs, rfl⟩ := bools_of fun x hx => let ⟨_, _, q⟩ := h3 x hx; trod_bool hk q
  refine ⟨bs, ?_, by simpa using h2⟩
  have : (bs.map Value.bool).map (tr w.heap.size) = bs.map .bool := by
    rw [List.map_map]
    apply List.map_congr_left
    intro n _
    simp [tr]
  rw [this] at h1
  exact h1
end
end Go.Xr

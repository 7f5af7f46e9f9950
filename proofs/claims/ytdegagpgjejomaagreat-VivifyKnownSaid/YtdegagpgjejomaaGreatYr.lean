/- A function's code gone through in pieces: each piece a declaration of its own, from told slots and a told heap to others. -/
import Derived.Test.YtdegagpgjejomaaGreatYp
namespace Go.Xr
open Go.RowKit

def XCode.a1 : XCode → XCode
  | .seq a _ => a
  | .cond _ a _ => a
  | .block _ a => a
  | .loop a => a
  | .scope a => a
  | c => c
def XCode.a2 : XCode → XCode
  | .seq _ b => b
  | .cond _ _ b => b
  | c => c

noncomputable def mkT (l : List (Nat × V)) : Tr V := List.rec .lf (fun p _ t => setR t p.1 p.2) l
noncomputable def mkO (l : List (Nat × XObj)) : Tr XObj := List.rec .lf (fun p _ t => setR t p.1 p.2) l
noncomputable def mkH (l : List (Nat × XObj)) (next : Nat) : Heap := ⟨mkO l, next⟩

def fitsTo (o : Option Out) (M : Out) : Bool :=
  match o with
  | some r => outFits r M
  | none => false

/-- From slots t and heap h code comes to exit e with slots t' and heap h', or with more told. -/
def Runs [RoLim] (P : Program) (c : XCode) (t : Tr V) (h : Heap) (e : XExit) (t' : Tr V) (h' : Heap) : Prop :=
  CodeWP P c none t [] h fun e1 t1 d1 h1 => e1 = e ∧ t1 = t' ∧ d1 = [] ∧ h1 = h'

section
variable [RoLim] {P : Program} {c a b : XCode} {t t1 t2 : Tr V} {h h1 h2 : Heap} {e : XExit}

theorem runs_leaf {E : Task → Option Out} (S : Sound P E) (hk : fitsTo (E (.code c none t [] h)) (.code e t1 [] h1) = true) : Runs P c t h e t1 h1 := by
  unfold fitsTo at hk
  split at hk
  · rename_i r hr
    have := S _ _ hr
    cases r with
    | code e0 t0 d0 h0 => exact outFits_sound (rnd := none) this hk
    | call v h => simp [outFits] at hk
    | heap h => simp [outFits] at hk
  · cases hk

theorem runs_seq (hc : c = .seq a b) (ha : Runs P a t h .normal t1 h1) (hb : Runs P b t1 h1 e t2 h2) : Runs P c t h e t2 h2 := by
  subst hc
  refine code_seq (CodeWP.mono ha fun e1 t1' d1 h1' ⟨a1, a2, a3, a4⟩ => ?_)
  subst a1; subst a2; subst a3; subst a4
  exact hb

theorem runs_seq_out (hc : c = .seq a b) (hn : isNorm e = false) (ha : Runs P a t h e t1 h1) : Runs P c t h e t1 h1 := by
  subst hc
  refine code_seq (CodeWP.mono ha fun e1 t1' d1 h1' ⟨a1, a2, a3, a4⟩ => ?_)
  subst a1; subst a2; subst a3; subst a4
  cases e1 with
  | normal => cases hn
  | exit i => exact ⟨rfl, rfl, rfl, rfl⟩
  | ret => exact ⟨rfl, rfl, rfl, rfl⟩

theorem runs_cond {x : Opd} {v : Bool} (hc : c = .cond x a b) (hx : rd t x = .bool v) (ha : Runs P (if v then a else b) t h e t1 h1) : Runs P c t h e t1 h1 := by
  subst hc
  exact code_cond hx ha

theorem runs_cond_t {x : Opd} (hc : c = .cond x a b) (hx : rd t x = .bool true) (ha : Runs P a t h e t1 h1) : Runs P c t h e t1 h1 := runs_cond hc hx ha
theorem runs_cond_f {x : Opd} (hc : c = .cond x a b) (hx : rd t x = .bool false) (ha : Runs P b t h e t1 h1) : Runs P c t h e t1 h1 := runs_cond hc hx ha

theorem runs_block {id : Nat} (hc : c = .block id a) (ha : Runs P a t h .normal t1 h1) : Runs P c t h .normal t1 h1 := by
  subst hc
  refine code_block (CodeWP.mono ha fun e1 t1' d1 h1' ⟨a1, a2, a3, a4⟩ => ?_)
  subst a1; subst a2; subst a3; subst a4
  exact ⟨rfl, rfl, rfl, rfl⟩

theorem runs_block_in {id : Nat} (hc : c = .block id a) (ha : Runs P a t h (.exit id) t1 h1) : Runs P c t h .normal t1 h1 := by
  subst hc
  refine code_block (CodeWP.mono ha fun e1 t1' d1 h1' ⟨a1, a2, a3, a4⟩ => ?_)
  subst a1; subst a2; subst a3; subst a4
  exact ⟨fun _ => ⟨rfl, rfl, rfl, rfl⟩, fun hne => absurd rfl hne⟩

theorem runs_block_out {id i : Nat} (hc : c = .block id a) (hi : Nat.beq i id = false) (ha : Runs P a t h (.exit i) t1 h1) : Runs P c t h (.exit i) t1 h1 := by
  subst hc
  refine code_block (CodeWP.mono ha fun e1 t1' d1 h1' ⟨a1, a2, a3, a4⟩ => ?_)
  subst a1; subst a2; subst a3; subst a4
  exact ⟨fun he => absurd he (nat_beq_ne hi), fun _ => ⟨rfl, rfl, rfl, rfl⟩⟩

theorem runs_block_ret {id : Nat} (hc : c = .block id a) (ha : Runs P a t h .ret t1 h1) : Runs P c t h .ret t1 h1 := by
  subst hc
  refine code_block (CodeWP.mono ha fun e1 t1' d1 h1' ⟨a1, a2, a3, a4⟩ => ?_)
  subst a1; subst a2; subst a3; subst a4
  exact ⟨rfl, rfl, rfl, rfl⟩

theorem runs_scope (hc : c = .scope a) (ha : Runs P a t h e t1 h1) : Runs P c t h e t1 h1 := by
  subst hc
  exact code_scope ha

theorem runs_loop (hc : c = .loop a) (ha : Runs P a t h .normal t1 h1) (hb : Runs P c t1 h1 e t2 h2) : Runs P c t h e t2 h2 := by
  subst hc
  refine code_loop (CodeWP.mono ha fun e1 t1' d1 h1' ⟨a1, a2, a3, a4⟩ => ?_)
  subst a1; subst a2; subst a3; subst a4
  exact hb

theorem runs_loop_out (hc : c = .loop a) (hn : isNorm e = false) (ha : Runs P a t h e t1 h1) : Runs P c t h e t1 h1 := by
  subst hc
  refine code_loop (CodeWP.mono ha fun e1 t1' d1 h1' ⟨a1, a2, a3, a4⟩ => ?_)
  subst a1; subst a2; subst a3; subst a4
  cases e1 with
  | normal => cases hn
  | exit i => exact ⟨rfl, rfl, rfl, rfl⟩
  | ret => exact ⟨rfl, rfl, rfl, rfl⟩

end

/-- The function hands back true, wherever it is called, and touches nothing that was there. -/
def TrueAt (P : Program) (f : Nat) : Prop := ∀ w : World,
    Calls P f #[] w fun e w' => e = .returned (.bool true) ∧ (∀ b, b < w.heap.size → w'.heap[b]? = w.heap[b]?) ∧ w'.os = w.os ∧ w'.tape = w.tape ∧ w'.output = w.output ∧ w.heap.size ≤ w'.heap.size

/-- A function of nothing, gone through so, that hands back true. -/
theorem true_of_runs {P : Program} {t1 : Tr V} {h1 : Heap} {f : Nat} {fn : Func} {xf : XFunc} (hf : P.funcs[f]? = some fn) (hname : fn.name ≠ "runtime.NumGoroutine") (hc : compFunc P fn = some xf) {e : XExit} (he : (match e with | .exit _ => false | _ => true) = true)
    (hr : @Runs ⟨0⟩ P xf.code .lf ⟨.lf, 0⟩ e t1 h1) (hv : resultsOf t1 h1 xf.results = some [.bool true]) : TrueAt P f := by
  intro w
  letI : RoLim := ⟨0⟩
  have hw : CallWP P false f [] ⟨.lf, 0⟩ fun v _ => v = .bool true := by
    refine call_of_code hf hname hc (CodeWP.mono hr fun e1 t1' d1 h1' ⟨a1, a2, a3, a4⟩ => ?_)
    subst a1; subst a2; subst a3; subst a4
    exact ⟨(fun id q => by rw [q] at he; cases he), defers_nil ⟨_, hv, rfl⟩⟩
  have := CallWP.calls (args' := #[]) hw (Rel.start w (Nat.zero_le _)) .nil
  refine this.mono fun e w' ⟨v, h1, μ', x, q1, r, e1⟩ => ?_
  subst q1
  have hv := r.val
  cases hv
  exact ⟨e1, fun b hb => (r.rel.kept b hb).2, r.rel.os, r.rel.tape, r.rel.output, r.rel.size⟩

/-- Such a function, at any heap: what it made is left. -/
def worksHook (f : Nat) : Task → Option Out
  | .call false g [] h => match Nat.beq g f with
    | true => some (.call (.bool true) h)
    | false => none
  | _ => none

theorem worksHook_sound [RoLim] {P : Program} {f : Nat} {fn : Func} (hf : P.funcs[f]? = some fn) (hreal : Func.real fn) (ht : TrueAt P f) : HookOk P (worksHook f) := by
  intro k r hk
  unfold worksHook at hk
  split at hk
  · split at hk
    · rename_i hb
      have e1 := Nat.eq_of_beq_eq_true hb
      subst e1
      simp only [Option.some.injEq] at hk
      subst hk
      refine callWP_of_calls hf hreal fun K w0 μ w args' R hv => ?_
      cases hv
      refine (ht w).mono fun e w' ⟨e1, e2, e3, e4, e5, e6⟩ => ?_
      exact ⟨_, _, μ, _, ⟨rfl, rfl⟩, ⟨Mu.le_refl μ, R.below ⟨e3, e4, e5, e6, e2⟩, .bool true⟩, e1⟩
    · cases hk
  · cases hk
end Go.Xr

/- X's executor by recursors: the same function as Xb's. -/
import Derived.Test.YtdegagpgjejomaaGreatYn
namespace Go.Xr
open Go.RowKit

section
noncomputable def guardSome (t : Tr V) (skip run : Option Out) (p : Nat × Bool) : Option Out := wantK (slotR t p.1) skip none fun b => Bool.rec (Bool.rec run skip p.2) (Bool.rec skip run p.2) b
noncomputable def guardK (t : Tr V) (g : Option (Nat × Bool)) (skip run : Option Out) : Option Out := Option.rec run (guardSome t skip run) g
theorem guardK_eq (t : Tr V) (g : Option (Nat × Bool)) (skip run : Option Out) : guardK t g skip run = (match wantedV t g with | none => none | some false => skip | some true => run) := by
  cases g with
  | none => rfl
  | some p =>
    obtain ⟨i, want⟩ := p
    show guardSome t skip run (i, want) = _
    unfold guardSome wantedV
    simp only [slotR_eq]
    cases slotOf t i <;> try rfl
    rename_i b
    cases b <;> cases want <;> rfl

def stay1 (t : Tr V) (h : Heap) (s : XStep) : Bool :=
  match wantedV t s.guard with
  | none => false
  | some false => true
  | some true => match s.dst, opEv s.op (rd t) h with
    | some i, some (v, _) => V.same v (slotOf t i)
    | _, _ => false
noncomputable def stay1R (t : Tr V) (h : Heap) (s : XStep) : Bool :=
  match wantedV t s.guard with
  | none => false
  | some false => true
  | some true => Option.rec false (fun i => Option.rec false (fun p => V.same p.1 (slotR t i)) (opEv s.op (rdR t) h)) s.dst
theorem stay1R_eq (t : Tr V) (h : Heap) (s : XStep) : stay1R t h s = stay1 t h s := by
  unfold stay1R stay1
  rw [rdR_eq]
  simp only [slotR_eq]
  cases wantedV t s.guard with
  | none => rfl
  | some b =>
    cases b with
    | false => rfl
    | true =>
      cases s.dst with
      | none => rfl
      | some i => cases opEv s.op (rd t) h <;> rfl
noncomputable def staysR (t : Tr V) (h : Heap) (ss : List XStep) : Bool := List.rec true (fun s _ ih => Bool.rec false ih (stay1R t h s)) ss
theorem staysR_eq (t : Tr V) (h : Heap) : ∀ ss, staysR t h ss = stays t h ss
  | [] => rfl
  | s :: ss => by
    show (Bool.rec false (staysR t h ss) (stay1R t h s) : Bool) = (stay1 t h s && stays t h ss)
    rw [staysR_eq t h ss, stay1R_eq]
    cases stay1 t h s <;> rfl
noncomputable def againK (ag : List XStep) (t : Tr V) (h : Heap) (r : Option Out) : Option Out := List.rec r (fun _ _ _ => Bool.rec none r (staysR t h ag)) ag
theorem againK_eq (ag : List XStep) (t : Tr V) (h : Heap) (r : Option Out) : againK ag t h r = (match stays t h ag with | true => r | false => none) := by
  cases ag with
  | nil => rfl
  | cons s ss =>
    show (Bool.rec none r (staysR t h (s :: ss)) : Option Out) = _
    rw [staysR_eq]
    cases stays t h (s :: ss) <;> rfl

noncomputable def aftR (l : XLine) (go : Tr V → List XDef → Heap → Option Out) (t : Tr V) (v : V) (d : List XDef) (h : Heap) : Option Out := againK l.again (putR t l.step.dst v) h (go (putR t l.step.dst v) d h)
noncomputable def linesR (ih : Task → Option Out) (rnd : Option Nat) (fin : Tr V → List XDef → Heap → Option Out) (ls : List XLine) : Tr V → List XDef → Heap → Option Out :=
  List.rec (motive := fun _ => Tr V → List XDef → Heap → Option Out) fin (fun l _ go t d h => guardK t l.step.guard (aftR l go t .undef d h) (opR l.step.op ih rnd t d h (aftR l go t))) ls

theorem linesR_eq (ih : Task → Option Out) (rnd : Option Nat) (fin : Tr V → List XDef → Heap → Option Out) : ∀ (ls : List XLine) (t : Tr V) (d : List XDef) (h : Heap), linesR ih rnd fin ls t d h = (runLines ih rnd ls t d h).bind fun p => fin p.1 p.2.1 p.2.2
  | [], t, d, h => rfl
  | l :: ls, t, d, h => by
    show guardK t l.step.guard (aftR l (linesR ih rnd fin ls) t .undef d h) (opR l.step.op ih rnd t d h (aftR l (linesR ih rnd fin ls) t)) = _
    have hgo : ∀ v d h, aftR l (linesR ih rnd fin ls) t v d h = (match stays (putOpt t l.step.dst v) h l.again with | true => runLines ih rnd ls (putOpt t l.step.dst v) d h | false => none).bind fun p => fin p.1 p.2.1 p.2.2 := by
      intro v d h
      unfold aftR
      rw [againK_eq, putR_eq, linesR_eq ih rnd fin ls]
      cases stays (putOpt t l.step.dst v) h l.again <;> rfl
    have e : runLines ih rnd (l :: ls) t d h = (runStep ih l.step rnd t d h).bind fun p => match stays (putOpt t l.step.dst p.1) p.2.2 l.again with | true => runLines ih rnd ls (putOpt t l.step.dst p.1) p.2.1 p.2.2 | false => none := by
      simp only [runLines]
      cases runStep ih l.step rnd t d h with
      | none => rfl
      | some p => rfl
    have e2 : runStep ih l.step rnd t d h = (match wantedV t l.step.guard with | none => none | some false => some (.undef, d, h) | some true => stepRes ih l.step.op rnd t d h) := by
      unfold runStep stepRes
      cases wantedV t l.step.guard with
      | none => rfl
      | some b => cases b <;> rfl
    rw [guardK_eq, e, e2, opR_ok, hgo]
    cases wantedV t l.step.guard with
    | none => rfl
    | some b =>
      cases b with
      | false => rfl
      | true =>
        simp only
        cases stepRes ih l.step.op rnd t d h with
        | none => rfl
        | some p => simp only [Option.bind_some]; rw [hgo]

noncomputable def outCode (o : Option Out) (k : XExit → Tr V → List XDef → Heap → Option Out) : Option Out := Option.rec none (fun r => Out.rec (motive := fun _ => Option Out) k (fun _ _ => none) (fun _ => none) r) o
noncomputable def outHeap (o : Option Out) (k : Heap → Option Out) : Option Out := Option.rec none (fun r => Out.rec (motive := fun _ => Option Out) (fun _ _ _ _ => none) (fun _ _ => none) k r) o
end

section
variable (X : XProg) (hook ih : Task → Option Out)

noncomputable def argsR (xs : List V) : Tr V → Nat → Tr V := List.rec (motive := fun _ => Tr V → Nat → Tr V) (fun t _ => t) (fun v _ go t i => go (setR t i v) (Nat.succ i)) xs
theorem argsR_eq : ∀ (xs : List V) (t : Tr V) (i : Nat), argsR xs t i = argsFrom t i xs
  | [], t, i => rfl
  | v :: xs, t, i => by show argsR xs (setR t i v) (Nat.succ i) = _; rw [argsR_eq xs, setR_eq]; rfl

noncomputable def resR (t : Tr V) (h : Heap) (rs : List XRes) : Option (List V) :=
  List.rec (some []) (fun x _ go => XRes.casesOn (motive := fun _ => Option (List V)) x (fun i => Option.rec none (fun vs => some (slotR t i :: vs)) go) (fun i agg n => Option.rec none (fun p => Option.rec none (fun vs => some (p.1 :: vs)) go) (opEv (.load agg n (.slot i)) (rdR t) h))) rs
theorem resR_eq (t : Tr V) (h : Heap) : ∀ rs, resR t h rs = resultsOf t h rs
  | [] => rfl
  | .tmp i :: rs => by
    show (Option.rec none (fun vs => some (slotR t i :: vs)) (resR t h rs) : Option (List V)) = _
    rw [resR_eq t h rs, slotR_eq, resultsOf]
    cases resultsOf t h rs <;> rfl
  | .cell i agg n :: rs => by
    show (Option.rec none (fun p => Option.rec none (fun vs => some (p.1 :: vs)) (resR t h rs)) (opEv (.load agg n (.slot i)) (rdR t) h) : Option (List V)) = _
    rw [resR_eq t h rs, rdR_eq, resultsOf]
    cases opEv (.load agg n (.slot i)) (rd t) h <;> cases resultsOf t h rs <;> rfl

noncomputable def finR (fn : XFunc) (t : Tr V) (d : List XDef) (h : Heap) : Option Out := outHeap (ih (.defers d h)) fun h => Option.rec none (fun vs => some (.call (oneOf vs) h)) (resR t h fn.results)
noncomputable def callR (dk : Bool) (f : Nat) (args : List V) (h : Heap) : Option Out :=
  Option.rec (Option.rec none (fun fn => outCode (ih (.code fn.code none (argsR args .lf 0) [] h)) fun e t d h => XExit.casesOn (motive := fun _ => Option Out) e (finR ih fn t d h) (fun _ => none) (finR ih fn t d h)) (getR X.funcs f)) some (hook (.call dk f args h))

noncomputable def cSeq (a b : XCode) (rnd : Option Nat) (t : Tr V) (d : List XDef) (h : Heap) : Option Out :=
  outCode (ih (.code a rnd t d h)) fun e t d h => XExit.casesOn (motive := fun _ => Option Out) e (ih (.code b rnd t d h)) (fun i => some (.code (.exit i) t d h)) (some (.code .ret t d h))
noncomputable def cCond (c : Opd) (a b : XCode) (rnd : Option Nat) (t : Tr V) (d : List XDef) (h : Heap) : Option Out := boolK (rdR t c) (ih (.code a rnd t d h)) (ih (.code b rnd t d h))
noncomputable def cBlock (id : Nat) (a : XCode) (rnd : Option Nat) (t : Tr V) (d : List XDef) (h : Heap) : Option Out :=
  Option.rec none (fun r => Out.casesOn (motive := fun _ => Option Out) r (fun e t d h => XExit.casesOn (motive := fun _ => Option Out) e (some (.code .normal t d h)) (fun i => Bool.rec (some (.code (.exit i) t d h)) (some (.code .normal t d h)) (Nat.beq i id)) (some (.code .ret t d h))) (fun v h => some (.call v h)) (fun h => some (.heap h))) (ih (.code a rnd t d h))
noncomputable def cLoop (a : XCode) (rnd : Option Nat) (t : Tr V) (d : List XDef) (h : Heap) : Option Out :=
  Option.rec (Option.rec none (fun r => Out.casesOn (motive := fun _ => Option Out) r (fun e t d h => XExit.casesOn (motive := fun _ => Option Out) e (ih (.code (.loop a) rnd t d h)) (fun i => some (.code (.exit i) t d h)) (some (.code .ret t d h))) (fun v h => some (.call v h)) (fun h => some (.heap h))) (ih (.code a rnd t d h))) some (hook (.code (.loop a) rnd t d h))
noncomputable def cRegion (ls : List XLine) (rnd : Option Nat) (t : Tr V) (d : List XDef) (h : Heap) : Option Out := linesR ih rnd (fun t d h => some (.code .normal t d h)) ls t d h

noncomputable def codeR (c : XCode) : Option Nat → Tr V → List XDef → Heap → Option Out :=
  XCode.casesOn (motive := fun _ => Option Nat → Tr V → List XDef → Heap → Option Out) c (fun _ t d h => some (.code .normal t d h)) (fun _ ls => cRegion ih ls) (cSeq ih) (cCond ih) (cBlock ih) (cLoop hook ih) (fun f ps asg bo rnd t d h => evStep X hook ih (.code (.rangeFunc f ps asg bo) rnd t d h)) (fun id _ t d h => some (.code (.exit id) t d h)) (fun _ t d h => some (.code .ret t d h)) (fun a rnd t d h => ih (.code a rnd t d h)) (fun _ t d h => some (.code .normal t d h))

noncomputable def stepR (k : Task) : Option Out :=
  Task.casesOn (motive := fun _ => Option Out) k (codeR X hook ih) (callR X hook ih) (fun o args h => evStep X hook ih (.round o args h)) (fun d h => evStep X hook ih (.defers d h))

theorem stepR_eq (k : Task) : stepR X hook ih k = evStep X hook ih k := by
  cases k with
  | code c rnd t d h =>
    show codeR X hook ih c rnd t d h = _
    cases c with
    | skip => rfl
    | region dr ls =>
      show cRegion ih ls rnd t d h = _
      unfold cRegion
      rw [linesR_eq]
      simp only [evStep]
      cases runLines ih rnd ls t d h <;> rfl
    | seq a b =>
      show cSeq ih a b rnd t d h = _
      unfold cSeq outCode
      simp only [evStep]
      cases ih (.code a rnd t d h) with
      | none => rfl
      | some r => cases r with
        | code e t d h => cases e <;> rfl
        | call v h => rfl
        | heap h => rfl
    | cond c a b =>
      show boolK (rdR t c) _ _ = _
      rw [rdR_eq]
      simp only [evStep]
      cases hc : rd t c <;> simp [boolK]
      rename_i b
      cases b <;> rfl
    | block id a =>
      show cBlock ih id a rnd t d h = _
      unfold cBlock
      simp only [evStep]
      cases ih (.code a rnd t d h) with
      | none => rfl
      | some r => cases r with
        | code e t d h => cases e with
          | exit i => cases hb : Nat.beq i id <;> simp [hb]
          | _ => rfl
        | call v h => rfl
        | heap h => rfl
    | loop a =>
      show cLoop hook ih a rnd t d h = _
      unfold cLoop
      simp only [evStep]
      cases hook (.code (.loop a) rnd t d h) with
      | some r => rfl
      | none =>
        cases ih (.code a rnd t d h) with
        | none => rfl
        | some r => cases r with
          | code e t d h => cases e <;> rfl
          | call v h => rfl
          | heap h => rfl
    | rangeFunc f ps asg bo => rfl
    | exit id => rfl
    | ret => rfl
    | scope a => rfl
    | label => rfl
  | call dk f args h =>
    show callR X hook ih dk f args h = _
    unfold callR
    simp only [evStep, argsR_eq, getR_eq]
    cases hook (.call dk f args h) with
    | some r => rfl
    | none =>
      cases X.funcs.get f with
      | none => rfl
      | some fn =>
        simp only [outCode]
        cases ih (.code fn.code none (argsFrom .lf 0 args) [] h) with
        | none => rfl
        | some r => cases r with
          | call v h => rfl
          | heap h => rfl
          | code e t d h =>
            have hfin : finR ih fn t d h = (match ih (.defers d h) with | some (.heap h) => (match resultsOf t h fn.results with | some vs => some (.call (oneOf vs) h) | none => none) | _ => none) := by
              unfold finR outHeap
              cases ih (.defers d h) with
              | none => rfl
              | some r => cases r with
                | heap h2 => simp only [resR_eq]; cases resultsOf t h2 fn.results <;> rfl
                | call v h => rfl
                | code e t d h => rfl
            cases e with
            | normal => exact hfin
            | exit i => rfl
            | ret => exact hfin
  | round o args h => rfl
  | defers d h => rfl
end

noncomputable def evR (X : XProg) (hook : Task → Option Out) (n : Nat) : Task → Option Out :=
  Nat.rec (motive := fun _ => Task → Option Out) (fun _ => none) (fun _ ih => stepR X hook ih) n
theorem evR_eq (X : XProg) (hook : Task → Option Out) : ∀ n, evR X hook n = ev X hook n
  | 0 => by funext k; rfl
  | n + 1 => by
    funext k
    show stepR X hook (evR X hook n) k = _
    rw [evR_eq X hook n, stepR_eq]
    rfl

noncomputable def orElseR (a b : Task → Option Out) (k : Task) : Option Out := Option.rec (b k) some (a k)
theorem orElseR_eq (a b : Task → Option Out) : orElseR a b = orElse a b := by
  funext k
  unfold orElseR orElse
  cases a k <;> rfl

noncomputable def isNext (op : XOp) : Bool :=
  XOp.rec (motive := fun _ => Bool) (fun _ => false) (fun _ _ _ => false) (fun _ => false) (fun _ => false) (fun _ _ => false) (fun _ _ _ _ => false) (fun _ _ _ => false) (fun _ _ _ => false) (fun _ => false) (fun _ _ _ _ _ => false) (fun _ _ => false) (fun _ _ => false) (fun _ _ => false) (fun _ _ _ => false) (fun _ => false) (fun _ _ _ _ => false) (fun _ _ _ _ _ => false) (fun _ _ => false) (fun _ _ _ _ => false) (fun _ _ _ => false) (fun _ _ _ _ => false) (fun _ _ => false) (fun _ _ _ _ _ => false) (fun _ _ _ _ => false) (fun _ _ => false)
    (fun _ => true) (fun _ => false) (fun _ _ _ _ => false) (fun _ _ => false) (fun _ _ => false) (fun _ => false) (fun _ _ _ _ => false) (fun _ _ _ _ _ => false) (fun _ _ _ => false) (fun _ _ => false) (fun _ => false) (fun _ _ _ => false) (fun _ _ _ => false) (fun _ _ => false) (fun _ _ _ => false) (fun _ _ => false) false (fun _ _ _ => false) (fun _ _ _ => false) op
noncomputable def headNext (ls : List XLine) : Bool := List.rec false (fun l _ _ => isNext l.step.op) ls
noncomputable def regNext (c : XCode) : Bool := XCode.rec (motive := fun _ => Bool) false (fun _ ls => headNext ls) (fun _ _ _ _ => false) (fun _ _ _ _ _ => false) (fun _ _ _ => false) (fun _ _ => false) (fun _ _ _ _ _ _ => false) (fun _ => false) false (fun _ _ => false) false c
noncomputable def seqNext (c : XCode) : Bool := XCode.rec (motive := fun _ => Bool) false (fun _ _ => false) (fun a _ _ _ => regNext a) (fun _ _ _ _ _ => false) (fun _ _ _ => false) (fun _ _ => false) (fun _ _ _ _ _ _ => false) (fun _ => false) false (fun _ _ => false) false c
/-- Could it be a range over a map? -/
noncomputable def isMapLoop (c : XCode) : Bool := XCode.rec (motive := fun _ => Bool) false (fun _ _ => false) (fun _ _ _ _ => false) (fun _ _ _ _ _ => false) (fun _ _ _ => false) (fun a _ => seqNext a) (fun _ _ _ _ _ _ => false) (fun _ => false) false (fun _ _ => false) false c
theorem parse_none {c : XCode} (h : isMapLoop c = false) : parseLoop c = none := by
  cases hp : parseLoop c with
  | none => rfl
  | some m =>
    have := parseLoop_eq hp
    subst this
    cases h

/-- The hooks that are no function's own are asked at ranges over maps alone. -/
noncomputable def onCode (a : Task → Option Out) (k : Task) : Option Out := Task.rec (motive := fun _ => Option Out) (fun c rnd t d h => Bool.rec none (a (.code c rnd t d h)) (isMapLoop c)) (fun _ _ _ _ => none) (fun _ _ _ => none) (fun _ _ => none) k

noncomputable def hooksR (X : XProg) (base : Task → Option Out) (F : Nat) (n : Nat) : Task → Option Out :=
  Nat.rec (motive := fun _ => Task → Option Out) base (fun _ go => orElseR base (onCode (orElseR (searchHook (evR X go F)) (permHook (evR X go F))))) n
theorem hooksR_eq (X : XProg) (base : Task → Option Out) (F : Nat) : ∀ n, hooksR X base F n = hooks X base F n
  | 0 => rfl
  | n + 1 => by
    show orElseR base (onCode (orElseR (searchHook (evR X (hooksR X base F n) F)) (permHook (evR X (hooksR X base F n) F)))) = _
    rw [evR_eq, hooksR_eq X base F n, orElseR_eq, orElseR_eq]
    have : ∀ ih : Task → Option Out, onCode (orElse (searchHook ih) (permHook ih)) = orElse (searchHook ih) (permHook ih) := by
      intro ih
      funext k
      cases k with
      | code c rnd t d h =>
        show (Bool.rec none (orElse (searchHook ih) (permHook ih) (.code c rnd t d h)) (isMapLoop c) : Option Out) = _
        cases hm : isMapLoop c with
        | true => rfl
        | false =>
          have := parse_none hm
          simp [orElse, searchHook, permHook, this]
      | _ => rfl
    rw [this]
    rfl

noncomputable def sortedR (fS fK : Nat) (k : Task) : Option Out := Task.rec (motive := fun _ => Option Out) (fun _ _ _ _ _ => none) (fun dk f args h => Bool.rec none (sortedHook fS fK (.call dk f args h)) (Nat.beq f fS)) (fun _ _ _ => none) (fun _ _ => none) k
theorem sortedR_eq (fS fK : Nat) : sortedR fS fK = sortedHook fS fK := by
  funext k
  cases k with
  | call dk f args h =>
    show (Bool.rec none (sortedHook fS fK (.call dk f args h)) (Nat.beq f fS) : Option Out) = _
    cases hb : Nat.beq f fS with
    | true => rfl
    | false =>
      unfold sortedHook
      split
      · rename_i e
        cases e
        simp [hb]
      · rfl
  | _ => rfl
end Go.Xr

/- The executor X: its code, reckoned with so much fuel. Nothing is proved here but that values that are told the same are. -/
import Derived.Test.YtdegagpgjejomaaGreatXa
namespace Go.Xr

mutual
def V.same : V → V → Bool
  | .int k n, .int k' n' => kindEq k k' && decide (n = n')
  | .bool a, .bool b => a == b
  | .str a, .str b => decide (a = b)
  | .nilp, .nilp => true
  | .ptr a b c, .ptr a' b' c' => Nat.beq a a' && Nat.beq b b' && Nat.beq c c'
  | .nils, .nils => true
  | .slice a b c d e, .slice a' b' c' d' e' => Nat.beq a a' && Nat.beq b b' && Nat.beq c c' && Nat.beq d d' && decide (e = e')
  | .nilm, .nilm => true
  | .map a, .map b => Nat.beq a b
  | .nilf, .nilf => true
  | .func f x y, .func g x' y' => Nat.beq f g && V.sames x x' && V.sames y y'
  | .yield a, .yield b => Nat.beq a b
  | .nili, .nili => true
  | .iface t v, .iface t' v' => Nat.beq t t' && V.same v v'
  | .iter a, .iter b => Nat.beq a b
  | .agg a, .agg b => V.sames a b
  | .tup a, .tup b => V.sames a b
  | .any, .any => true
  | .hole a, .hole b => Nat.beq a b
  | .stamp a, .stamp b => Nat.beq a b
  | _, _ => false
def V.sames : List V → List V → Bool
  | [], [] => true
  | a :: x, b :: y => V.same a b && V.sames x y
  | _, _ => false
end

structure XProg where
  funcs : Tr XFunc

inductive XExit where
  | normal
  | exit (id : Nat)
  | ret
  deriving DecidableEq

inductive Task where
  | code (c : XCode) (rnd : Option Nat) (t : Tr V) (d : List XDef) (h : Heap)
  | call (dk : Bool) (f : Nat) (args : List V) (h : Heap)      -- dk: a deferred one
  | round (o : Nat) (args : List V) (h : Heap)
  | defers (d : List XDef) (h : Heap)

inductive Out where
  | code (e : XExit) (t : Tr V) (d : List XDef) (h : Heap)
  | call (v : V) (h : Heap)
  | heap (h : Heap)

def slotOf (t : Tr V) (i : Nat) : V :=
  match t.get i with
  | some v => v
  | none => .undef

def rd (t : Tr V) : Rd
  | .slot i => slotOf t i
  | .const v => v

def putOpt (t : Tr V) : Option Nat → V → Tr V
  | some i, v => t.set i v
  | none, _ => t

def argsFrom (t : Tr V) : Nat → List V → Tr V
  | _, [] => t
  | i, v :: vs => argsFrom (t.set i v) (Nat.succ i) vs

def setAll (t : Tr V) : List Nat → List V → Tr V
  | p :: ps, v :: vs => setAll (t.set p v) ps vs
  | _, _ => t

def wantedV (t : Tr V) : Option (Nat × Bool) → Option Bool
  | none => some true
  | some (g, want) => match slotOf t g with
    | .bool b => some (b == want)
    | .any => none
    | .hole _ => none
    | _ => some false

def resultsOf (t : Tr V) (h : Heap) : List XRes → Option (List V)
  | [] => some []
  | .tmp i :: r => match resultsOf t h r with
    | some vs => some (slotOf t i :: vs)
    | none => none
  | .cell i isAgg n :: r => match opEv (.load isAgg n (.slot i)) (rd t) h, resultsOf t h r with
    | some (v, _), some vs => some (v :: vs)
    | _, _ => none

def oneOf : List V → V
  | [v] => v
  | vs => .tup vs

def jumpOf : XExit → Option (Option Nat)
  | .normal => none
  | .ret => some none
  | .exit id => some (some id)

def isNorm : XExit → Bool
  | .normal => true
  | _ => false

def stateOf : XExit → LoopState
  | .normal => .ready
  | _ => .done

/-- What a range over a function begins with. -/
def begunV (rnd : Option Nat) (d : List XDef) (h : Heap) : Option (Heap × List XDef × Nat) :=
  match rnd with
  | none => some (h.push (.deferred false), .collected h.next :: d, h.next)
  | some o => match h.get o with
    | some (.loop _ _ _ _ _ _ k) => some (h, d, k)
    | _ => none

section
variable (X : XProg) (hook : Task → Option Out) (ih : Task → Option Out)

def applyF (f : V) (args : List V) (h : Heap) : Option (V × Heap) :=
  match f with
  | .func f first caps => match ih (.call false f (first ++ (args ++ caps)) h) with
    | some (.call v h) => some (v, h)
    | _ => none
  | .yield o => match ih (.round o args h) with
    | some (.call v h) => some (v, h)
    | _ => none
  | _ => none

def rowOf (ty : Nat) : List (Nat × Nat × Option (Bool × Nat)) → Option (Nat × Option (Bool × Nat))
  | [] => none
  | (t, f, r) :: l => match Nat.beq ty t with
    | true => some (f, r)
    | false => rowOf ty l

/-- What a method is handed as its receiver. -/
def recvOf (h : Heap) (v : V) : Option (Bool × Nat) → Option V
  | none => some v
  | some (g, n) => match opEv (.load g n (.const v)) (rd .lf) h with
    | some (r, _) => some r
    | none => none

def invokeF (x : V) (rows : List (Nat × Nat × Option (Bool × Nat))) (args : List V) (h : Heap) : Option (V × Heap) :=
  match x with
  | .iface ty v => match rowOf ty rows with
    | some (f, r) => match recvOf h v r with
      | some y => match ih (.call false f (y :: args) h) with
        | some (.call v h) => some (v, h)
        | _ => none
      | none => none
    | none => none
  | _ => none

/-- The keys that a range over a map has not met yet. -/
def leftOf (seen : List Int) : List (Int × V) → List (Int × V)
  | [] => []
  | (k, v) :: r => match seen.any (fun a => decide (a = k)) with
    | true => leftOf seen r
    | false => (k, v) :: leftOf seen r

/-- One step of a range over a map, where there is no choice. -/
def nextEv (it : V) (h : Heap) : Option (V × Heap) :=
  match it with
  | .iter o => match h.get o with
    | some (.miter none _ _ _) => some (.tup [.bool false], h)
    | some (.miter (some m) ins seen _) => match h.get m with
      | some (.map kd es ins') => match Nat.beq ins ins', leftOf seen es with
        | true, [] => some (.tup [.bool false], h)
        | true, [(k, v)] => some (.tup [.bool true, .int kd k, v], h.put o (.miter (some m) ins (k :: seen) (some k)))
        | _, _ => none
      | _ => none
    | _ => none
  | _ => none

def runStep (s : XStep) (rnd : Option Nat) (t : Tr V) (d : List XDef) (h : Heap) : Option (V × List XDef × Heap) :=
  match wantedV t s.guard with
  | none => none
  | some false => some (.undef, d, h)
  | some true =>
    let fin (r : Option (V × Heap)) : Option (V × List XDef × Heap) :=
      match r with
      | some (v, h) => some (v, d, h)
      | none => none
    match s.op with
    | .call f args => fin (applyF ih (rd t f) (vals (rd t) args) h)
    | .defer f args => match rnd, rd t f with
      | none, .func f first caps => some (.undef, .call f (first ++ (vals (rd t) args ++ caps)) :: d, h)
      | _, _ => none
    | .next it => fin (nextEv (rd t it) h)
    | .invoke x rows args => fin (invokeF ih (rd t x) rows (vals (rd t) args) h)
    | op => fin (opEv op (rd t) h)

/-- Does what was read read the same once more? -/
def stays (t : Tr V) (h : Heap) : List XStep → Bool
  | [] => true
  | s :: r => (match wantedV t s.guard with
    | none => false
    | some false => true
    | some true => match s.dst, opEv s.op (rd t) h with
      | some i, some (v, _) => V.same v (slotOf t i)
      | _, _ => false) && stays t h r

def runLines (rnd : Option Nat) : List XLine → Tr V → List XDef → Heap → Option (Tr V × List XDef × Heap)
  | [], t, d, h => some (t, d, h)
  | l :: ls, t, d, h => match runStep ih l.step rnd t d h with
    | some (v, d, h) => match putOpt t l.step.dst v with
      | t => match stays t h l.again with
        | true => runLines rnd ls t d h
        | false => none
    | none => none

def evStep : Task → Option Out
  | .code c rnd t d h => match c with
    | .skip => some (.code .normal t d h)
    | .region _ ls => match runLines ih rnd ls t d h with
      | some (t, d, h) => some (.code .normal t d h)
      | none => none
    | .seq a b => match ih (.code a rnd t d h) with
      | some (.code .normal t d h) => ih (.code b rnd t d h)
      | some (.code e t d h) => some (.code e t d h)
      | _ => none
    | .cond c a b => match rd t c with
      | .bool true => ih (.code a rnd t d h)
      | .bool false => ih (.code b rnd t d h)
      | _ => none
    | .block id body => match ih (.code body rnd t d h) with
      | some (.code (.exit i) t d h) => match Nat.beq i id with
        | true => some (.code .normal t d h)
        | false => some (.code (.exit i) t d h)
      | r => r
    | .loop body => match hook (.code (.loop body) rnd t d h) with
      | some r => some r
      | none => match ih (.code body rnd t d h) with
        | some (.code .normal t d h) => ih (.code (.loop body) rnd t d h)
        | r => r
    | .exit id => some (.code (.exit id) t d h)
    | .ret => some (.code .ret t d h)
    | .scope body => ih (.code body rnd t d h)
    | .label => some (.code .normal t d h)
    | .rangeFunc f ps assign body =>
      match begunV rnd d h with
      | none => none
      | some (h, d, k) =>
        let l := h.next
        match applyF ih (rd t f) [.yield l] (h.push (.loop .ready none t ps assign body k)) with
        | none => none
        | some (_, h) => match h.get l with
          | some (.loop s jump _ _ _ _ _) =>
            let h := h.put l (.dead false)
            match s, jump with
            | .busy, _ => none
            | _, none => some (.code .normal t d h)
            | _, some none => some (.code .ret t d h)
            | _, some (some id) => some (.code (.exit id) t d h)
          | _ => none
  | .call dk f args h =>
    match hook (.call dk f args h) with
    | some r => some r
    | none => match X.funcs.get f with
      | none => none
      | some fn => match ih (.code fn.code none (argsFrom .lf 0 args) [] h) with
        | some (.code (.exit _) _ _ _) => none
        | some (.code _ t d h) => match ih (.defers d h) with
          | some (.heap h) => match resultsOf t h fn.results with
            | some vs => some (.call (oneOf vs) h)
            | none => none
          | _ => none
        | _ => none
  | .defers d h => match d with
    | [] => some (.heap h)
    | .call f args :: ds => match ih (.call true f args h) with
      | some (.call _ h) => ih (.defers ds h)
      | _ => none
    | .collected o :: ds => match h.get o with
      | some (.deferred false) => ih (.defers ds (h.put o (.deferred true)))
      | _ => none
  | .round o args h => match h.get o with
    | some (.loop .ready _ t ps as bo _) => match Nat.beq args.length ps.length with
      | false => none
      | true => match ih (.code as (some o) (setAll t ps args) [] h) with
        | some (.code .normal t1 [] h) => match h.get o with
          | some (.loop .ready jump1 t0 ps0 as0 bo0 k0) =>
            match ih (.code bo (some o) t1 [] (h.put o (.loop .busy jump1 t0 ps0 as0 bo0 k0))) with
            | some (.code e _ _ h) => match h.get o with
              | some (.loop _ _ t0 ps0 as0 bo0 k0) => some (.call (.bool (isNorm e)) (h.put o (.loop (stateOf e) (jumpOf e) t0 ps0 as0 bo0 k0)))
              | _ => none
            | _ => none
          | _ => none
        | _ => none
    | _ => none
end

def ev (X : XProg) (hook : Task → Option Out) : Nat → Task → Option Out
  | 0, _ => none
  | n + 1, k => evStep X hook (ev X hook n) k

def noHook : Task → Option Out := fun _ => none

def told : Option Out → Option Bool
  | some (.call (.bool b) _) => some b
  | _ => none

end Go.Xr

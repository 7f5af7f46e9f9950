/- The program's code, turned to X's. Nothing is proved here. -/
import Derived.Test.YtdegagpgjejomaaGreatXb
namespace Go.Xr

def scalarV : Value → Option V
  | .int k n => some (.int k n)
  | .bool b => some (.bool b)
  | .string s => some (.str s)
  | .pointer none => some .nilp
  | .slice none 0 0 => some .nils
  | .map none => some .nilm
  | .nilFunc => some .nilf
  | .nilIface => some .nili
  | .func (.func f) first caps => match first.toList, caps.toList with
    | [], [] => some (.func f [] [])
    | _, _ => none
  | _ => none

def scalars : List Value → Option (List V)
  | [] => some []
  | v :: r => match scalarV v, scalars r with
    | some v, some r => some (v :: r)
    | _, _ => none

def constV : Value → Option V
  | .agg cs => match scalars cs.toList with
    | some vs => some (.agg vs)
    | none => none
  | v => scalarV v

section
variable (P : Program)

def zeroOf (t : TypeId) : Option V :=
  match P.info? t with
  | some i => match i.zero with
    | some z => constV z
    | none => none
  | none => none

def sizOf (t : TypeId) : Option Nat :=
  match P.info? t with
  | some i => some i.size
  | none => none

def bytOf (t : TypeId) : Option Nat :=
  match P.info? t with
  | some i => some i.bytes
  | none => none

def aggOf (t : TypeId) : Option Bool :=
  match P.underlying t with
  | some (.struct _) | some (.array _ _) => some true
  | some _ => some false
  | none => none

def elemOfSlice (t : TypeId) : Option TypeId :=
  match P.underlying t with
  | some (.slice e) => some e
  | _ => none

def mapOf (t : TypeId) : Option (IntKind × TypeId) :=
  match P.underlying t with
  | some (.map k e) => match P.underlying k with
    | some (.int kd) => some (kd, e)
    | _ => none
  | _ => none

def clsOf (t : TypeId) : Option Cls :=
  match P.underlying t with
  | some (.int _) => some .num
  | some .bool => some .bool
  | some .string => some .str
  | some (.pointer _) => some .ptr
  | some (.slice _) => some .slice
  | some (.map _ _) => some .map
  | some (.func _ _ _) => some .func
  | some (.interface _) => some .iface
  | _ => none

def isIface (t : TypeId) : Bool :=
  match P.underlying t with
  | some (.interface _) => true
  | _ => false

def isConst : Operand → Bool
  | .const _ => true
  | _ => false

def opd : Operand → Option Opd
  | .tmp t => some (.slot t)
  | .const v => match constV v with
    | some v => some (.const v)
    | none => none
  | .func f => some (.const (.func f [] []))
  | .global _ => none

def opds : List Operand → Option (List Opd)
  | [] => some []
  | x :: r => match opd x, opds r with
    | some x, some r => some (x :: r)
    | _, _ => none

def opt : Option Operand → Option (Option Opd)
  | none => some none
  | some x => match opd x with
    | some x => some (some x)
    | none => none

/-- Where a struct's fields lie. -/
def placesOf : List Field → Option (List (Nat × Nat))
  | [] => some []
  | f :: r => match sizOf P f.type, placesOf r with
    | some n, some r => some ((f.offset, n) :: r)
    | _, _ => none

/-- The parts of a struct. -/
def partsAt (pl : List (Nat × Nat)) : List (Nat × Operand) → Option (List (Nat × Nat × Opd))
  | [] => some []
  | (i, x) :: r => match pl[i]?, opd x, partsAt pl r with
    | some (off, n), some x, some r => some ((off, n, x) :: r)
    | _, _, _ => none

def partsBy (n : Nat) : List (Nat × Operand) → Option (List (Nat × Nat × Opd))
  | [] => some []
  | (i, x) :: r => match opd x, partsBy n r with
    | some x, some r => some ((i * n, n, x) :: r)
    | _, _ => none

/-- A type's method of this name. -/
def methodRow (name : String) (t : Nat) : Option (Nat × Nat × Option (Bool × Nat)) :=
  match P.info? t with
  | none => none
  | some i => match i.methods.find? (fun m => m.name == name) with
    | none => none
    | some m => match m.path.toList, m.func, P.underlying t with
      | [], some (f, true), some (.pointer _) => some (t, f, none)
      | [], some (f, false), some (.pointer e) => match aggOf P e, sizOf P e with
        | some g, some n => some (t, f, some (g, match g with | true => n | false => 1))
        | _, _ => none
      | [], some (f, false), some _ => some (t, f, none)
      | _, _, _ => none

def methodRows (name : String) : List (Nat × Nat × Option (Bool × Nat)) := (List.range P.types.size).filterMap (methodRow P name)

def compCall (c : Call) : Option XOp :=
  match c.callee, c.args.toList with
  | .value f, args => match opd f, opds args with
    | some f, some args => some (.call f args)
    | _, _ => none
  | .invoke x name, args => match opd x, opds args with
    | some x, some args => some (.invoke x (methodRows P name) args)
    | _, _ => none
  | .builtin .len, [x] => match opd x, c.argTypes[0]? with
    | some x, some t => match P.underlying t with
      | some (.slice _) => some (.len .slice x)
      | some .string => some (.len .str x)
      | some (.map _ _) => some (.len .map x)
      | _ => none
    | _, _ => none
  | .builtin .cap, [x] => match opd x, c.argTypes[0]? with
    | some x, some t => match P.underlying t with
      | some (.slice _) => some (.cap x)
      | _ => none
    | _, _ => none
  | .builtin .append, [x, y] => match opd x, opd y, c.argTypes[0]? with
    | some x, some y, some t => match elemOfSlice P t with
      | some e => match sizOf P e, bytOf P e, c.argTypes[1]? with
        | some n, some b, some u => match P.underlying u, zeroOf P e with
          | some (.int _), some z => match Nat.beq z.cellsOf.length n && Nat.blt 0 b with
            | true => some (.appendZ n b z.cellsOf x y)
            | false => none
          | some (.slice _), some z => match Nat.beq z.cellsOf.length n && Nat.blt 0 b with
            | true => some (.append n b x y)
            | false => none
          | some .string, some z => match Nat.beq z.cellsOf.length n && Nat.blt 0 b with
            | true => some (.append n b x y)
            | false => none
          | _, _ => none
        | _, _, _ => none
      | none => none
    | _, _, _ => none
  | .builtin .copy, [x, y] => match opd x, opd y, c.argTypes[0]? with
    | some x, some y, some t => match elemOfSlice P t with
      | some e => match sizOf P e with
        | some n => some (.copy n x y)
        | none => none
      | none => none
    | _, _, _ => none
  | .builtin .clear, [x] => match opd x, c.argTypes[0]? with
    | some x, some t => match P.underlying t with
      | some (.slice e) => match sizOf P e, zeroOf P e with
        | some n, some z => match Nat.beq z.cellsOf.length n && Nat.blt 0 n with
          | true => some (.clear z.cellsOf x)
          | false => none
        | _, _ => none
      | some (.map _ _) => some (.clearM x)
      | _ => none
    | _, _ => none
  | .builtin .delete, [x, y] => match opd x, opd y, c.argTypes[0]? with
    | some x, some y, some t => match mapOf P t with
      | some (kd, _) => some (.delete kd x y)
      | none => none
    | _, _, _ => none
  | .builtin .min, [x, y] => match opd x, opd y with
    | some x, some y => some (.minmax true x y)
    | _, _ => none
  | .builtin .max, [x, y] => match opd x, opd y with
    | some x, some y => some (.minmax false x y)
    | _, _ => none
  | _, _ => none

def compOp (o : Oper) : Option XOp :=
  match o.op with
  | .move x | .assign x => match opd x with
    | some x => some (.mv x)
    | none => none
  | .pick c a b => match opd c, opd a, opd b with
    | some c, some a, some b => some (.pick c a b)
    | _, _, _ => none
  | .alloc e => match zeroOf P e with
    | some z => some (.alloc z.cellsOf)
    | none => none
  | .box _ x => match opd x with
    | some x => some (.box x)
    | none => none
  | .build t ps => match P.underlying t, zeroOf P t with
    | some (.struct fs), some z => match placesOf P fs.toList with
      | some pl => match partsAt pl ps.toList with
        | some ps => some (.build z.cellsOf ps)
        | none => none
      | none => none
    | some (.array _ e), some z => match sizOf P e with
      | some n => match partsBy n ps.toList with
        | some ps => some (.build z.cellsOf ps)
        | none => none
      | none => none
    | _, _ => none
  | .buildSlice t len ps => match elemOfSlice P t with
    | some e => match sizOf P e, zeroOf P e with
      | some n, some z => match partsBy n ps.toList, Nat.beq z.cellsOf.length n && Nat.ble (len * n) 16777216 && Nat.blt 0 n with
        | some ps, true => some (.bslice n (repl len z.cellsOf) ps len)
        | _, _ => none
      | _, _ => none
    | none => none
  | .load t a => match aggOf P t, sizOf P t, opd a with
    | some g, some n, some a => some (.load g (match g with | true => n | false => 1) a)
    | _, _, _ => none
  | .store t a v => match sizOf P t, opd a, opd v with
    | some n, some a, some v => some (.store n a v)
    | _, _, _ => none
  | .nilCheck x => match opd x with
    | some x => some (.nilCheck x)
    | none => none
  | .binOp op t x y _ => match clsOf P t, opd x, opd y with
    | some cls, some x', some y' => match isIface P t && !(isConst x || isConst y) with
      | false => some (.bin op t cls x' y')
      | true => none
    | _, _, _ => none
  | .unOp op _ x => match opd x with
    | some x => some (.un op x)
    | none => none
  | .convert s d x => match P.underlying s, P.underlying d, opd x with
    | some _, some (.int k), some x => some (.conv k x)
    | _, _, _ => none
  | .makeInterface t x => match P.underlying t, opd x with
    | some (.interface _), _ => none
    | some _, some x => some (.mkif t x)
    | _, _ => none
  | .makeFunc (.func f) first caps => match opds first.toList, opds caps.toList with
    | some a, some b => some (.mkfunc f a b)
    | _, _ => none
  | .makeMap t r => match mapOf P t, r with
    | some (kd, _), none => some (.mkmap kd)
    | some (kd, _), some (.const (.int _ _)) => some (.mkmap kd)
    | _, _ => none
  | .makeSlice t l c => match elemOfSlice P t with
    | some e => match sizOf P e, zeroOf P e, bytOf P e, opd l, opd c with
      | some n, some z, some b, some l, some c => match Nat.beq z.cellsOf.length n && Nat.blt 0 n && Nat.blt 0 b with
        | true => some (.mkslice z.cellsOf b l c)
        | false => none
      | _, _, _, _, _ => none
    | none => none
  | .slice t x lo hi mx => match elemOfSlice P t, opd x, opt lo, opt hi, opt mx with
    | some e, some x, some lo, some hi, some mx => match sizOf P e, mx.isSome && hi.isNone with
      | some (n + 1), false => some (.slc (n + 1) x lo hi mx)
      | _, _ => none
    | _, _, _, _, _ => none
  | .fieldAddr s x f => match P.underlying s, opd x with
    | some (.struct fs), some x => match fs[f]? with
      | some fd => match sizOf P fd.type with
        | some (_ + 1) => some (.faddr fd.offset x)
        | _ => none
      | none => none
    | _, _ => none
  | .field s x f => match P.underlying s, opd x with
    | some (.struct fs), some x => match fs[f]? with
      | some fd => match sizOf P fd.type, aggOf P fd.type with
        | some n, some g => some (.fld g fd.offset (match g with | true => n | false => 1) x)
        | _, _ => none
      | none => none
    | _, _ => none
  | .indexAddr t x i => match P.underlying t, opd x, opd i with
    | some (.slice e), some x, some i => match sizOf P e with
      | some n => some (.iaddr n x i)
      | none => none
    | some (.array len e), some x, some i => match sizOf P e with
      | some n => some (.iaddrA len n x i)
      | none => none
    | _, _, _ => none
  | .index t x i => match P.underlying t, opd x, opd i with
    | some .string, some x, some i => some (.sidx x i)
    | _, _, _ => none
  | .lookup t x i ok => match mapOf P t, opd x, opd i with
    | some (kd, e), some x, some i => match zeroOf P e with
      | some z => some (.lookup kd z x i ok)
      | none => none
    | _, _, _ => none
  | .mapUpdate t m k v | .insert t m k v => match mapOf P t, opd m, opd k, opd v with
    | some (kd, _), some m, some k, some v => some (.mapup kd m k v)
    | _, _, _, _ => none
  | .mapEntry t m k => match mapOf P t, opd m, opd k with
    | some (_, e), some m, some k => match zeroOf P e with
      | some z => some (.mentry z m k)
      | none => none
    | _, _, _ => none
  | .entryStore _ m s v => match opd m, opd s, opd v with
    | some m, some s, some v => some (.estore m s v)
    | _, _, _ => none
  | .range t x => match mapOf P t, opd x with
    | some (kd, _), some x => some (.range kd x)
    | _, _ => none
  | .next it false => match opd it with
    | some it => some (.next it)
    | none => none
  | .entry it => match opd it with
    | some it => some (.entry it)
    | none => none
  | .typeAssert x _ t ok => match P.underlying t, opd x, zeroOf P t with
    | some (.interface _), _, _ => none
    | some _, some x, some z => some (.tassert t z ok x)
    | _, _, _ => none
  | .extract x i => match opd x with
    | some x => some (.extract x i)
    | none => none
  | .call c => compCall P c
  | .defer c => match c.callee, opds c.args.toList with
    | .value f, some args => match opd f with
      | some f => some (.defer f args)
      | none => none
    | _, _ => none
  | _ => none

/-! ### Regions -/
inductive Sort' where
  | quiet | reads | makes | acts
  deriving DecidableEq

def XOp.sort : XOp → Sort'
  | .alloc .. | .box .. | .bslice .. | .mkmap .. | .mkslice .. => .makes
  | .store .. | .mapup .. | .range .. | .next .. | .append .. | .appendZ .. | .copy .. | .clear .. | .clearM .. | .delete .. | .call .. | .invoke .. | .defer .. | .mentry .. | .estore .. => .acts
  | .load .. | .lookup .. | .entry .. | .len .. | .slc .. => .reads
  | _ => .quiet

/-- The slot in which an operation of a region tells a bool. -/
def guardOf (ops : Array Oper) : Option (Nat × Bool) → Option (Option (Nat × Bool))
  | none => some none
  | some (j, want) => match ops[j]? with
    | some o => match o.dst with
      | some d => some (some (d, want))
      | none => none
    | none => none

def compStep (ntmps : Nat) (ops : Array Oper) (o : Oper) : Option XStep :=
  match (match compOp P o with | some op => some op | none => some .bad), guardOf ops o.guard with
  | some op, some g => match o.dst with
    | some d => match Nat.blt d ntmps with
      | true => some { op, dst := some d, guard := g }
      | false => none
    | none => some { op, dst := none, guard := g }
  | _, _ => none

def compSteps (ntmps : Nat) (ops : Array Oper) : List Oper → Option (List XStep)
  | [] => some []
  | o :: r => match compStep P ntmps ops o, compSteps ntmps ops r with
    | some s, some r => some (s :: r)
    | _, _ => none

def names (ops : Array Oper) (o : Oper) : List Nat :=
  (o.op.operands.toList.filterMap fun | .tmp t => some t | _ => none) ++
  (match o.guard with
   | some (j, _) => ((ops[j]?).bind (·.dst)).toList
   | none => [])

/-- What stands ahead of what, as the edges have it: bit i of place j: i stands ahead of j. -/
def aheadOf (b : List Nat) (i j : Nat) : Bool := (b.getD j 0).testBit i

structure Info where
  n : Nat
  step : XStep
  sort : Sort'
  names : List Nat
  dst : Option Nat

def infos (ops : Array Oper) : Nat → List Oper → List XStep → List Info
  | n, o :: os, s :: ss => { n, step := s, sort := s.op.sort, names := names ops o, dst := o.dst } :: infos ops (n + 1) os ss
  | _, _, _ => []

def unordered (b : List Nat) (i j : Info) : Bool := !(aheadOf b i.n j.n) && !(aheadOf b j.n i.n) && !(Nat.beq i.n j.n)

/-- Do two operations that no edge orders leave each other's slots alone? -/
def slotsOk (b : List Nat) (l : List Info) : Bool :=
  l.all fun i => l.all fun j =>
    !(unordered b i j) ||
      (match i.dst with
        | some d => !(j.names.contains d) && decide (j.dst ≠ some d)
        | none => true)

def loud : Sort' → Bool
  | .acts | .makes => true
  | _ => false

mutual
/-- A value that names no object. -/
def closedV : V → Bool
  | .int .. | .bool _ | .str _ | .nilp | .nils | .nilm | .nilf | .nili => true
  | .func _ a b => closedVs a && closedVs b
  | .iface _ v => closedV v
  | .agg vs => closedVs vs
  | .tup vs => closedVs vs
  | _ => false
def closedVs : List V → Bool
  | [] => true
  | v :: r => closedV v && closedVs r
end

def opdOk (names : List Nat) : Opd → Bool
  | .slot i => names.contains i
  | .const v => closedV v

/-- What makes, and looks at nothing but its own slots. -/
def okMake (i : Info) : Bool :=
  match i.step.op with
  | .alloc zs => closedVs zs
  | .box x => opdOk i.names x
  | .bslice _ zs ps _ => closedVs zs && ps.all (fun p => opdOk i.names p.2.2)
  | .mkmap _ => true
  | .mkslice zs _ l c => closedVs zs && (opdOk i.names l && opdOk i.names c)
  | _ => false

/-- What stands behind j stands behind i. -/
def depsOk (b : List Nat) (l : List Info) (i j : Info) : Bool := l.all fun r => !(aheadOf b j.n r.n) || aheadOf b i.n r.n

/-- i stands ahead of j in the order chosen: may they stand so, where no edge orders them? What acts is ordered by edges; what reads goes ahead of what acts; what makes may go anywhere, where what wants it waits for the others. -/
def pairOk (b : List Nat) (l : List Info) (i j : Info) : Bool :=
  !(unordered b i j) || !(loud i.sort) || (match j.sort with | .quiet => true | .makes => okMake j && depsOk b l i j | _ => false)

/-- What is read is written by nothing else, and where it is read is written by nothing behind it. -/
def readsOk (b : List Nat) (l : List Info) : Bool :=
  l.all fun r => (match r.sort with | .reads => false | _ => true) || l.all fun j =>
    (match j.dst with
      | none => true
      | some d => (Nat.beq j.n r.n || decide (r.dst ≠ some d)) && (!(r.names.contains d) || (aheadOf b j.n r.n && !(Nat.beq j.n r.n))))

/-- Edges lead to other operations of the region. -/
def edgesOk (size : Nat) : Nat → List Oper → Bool
  | _, [] => true
  | j, o :: r => (o.after.toList.all fun e => !(Region.binds .any e) || (Nat.blt e.on size && !(Nat.beq e.on j))) && edgesOk size (Nat.succ j) r

def pairsOk (b : List Nat) (l : List Info) : List Info → Bool
  | [] => true
  | i :: r => (r.all fun j => pairOk b l i j && !(aheadOf b j.n i.n) && !(Nat.beq i.n j.n)) && pairsOk b l r

def readyIn (b : List Nat) (left : List Info) (i : Info) : Bool := left.all fun j => !(aheadOf b j.n i.n)

/-- The next one: the first that only looks and for which nothing is wanting; else the first that acts; else the first that makes and is wanted by what acts next; else the first that makes. -/
def nextOf (b : List Nat) (left : List Info) : Option Info :=
  match left.find? (fun i => decide (i.sort = .quiet ∨ i.sort = .reads) && readyIn b left i) with
  | some i => some i
  | none => match left.find? (fun i => decide (i.sort = .acts) && readyIn b left i) with
    | some i => some i
    | none => match left.find? (fun a => decide (a.sort = .acts)) with
      | none => left.find? (fun i => readyIn b left i)
      | some a => match left.find? (fun i => aheadOf b i.n a.n && readyIn b left i) with
        | some i => some i
        | none => left.find? (fun i => readyIn b left i)

def orderFrom (b : List Nat) : Nat → List Info → List Info
  | 0, _ => []
  | k + 1, left =>
    match nextOf b left with
    | some i => i :: orderFrom b k (left.filter fun j => !(Nat.beq j.n i.n))
    | none => []

/-- Behind what acts: the reads ahead of it that might stand behind it. -/
def linesOf (b : List Nat) : List Info → List Info → List XLine
  | _, [] => []
  | done, i :: r =>
    { step := i.step
      again := match loud i.sort with
        | true => (done.filter fun j => decide (j.sort = .reads) && !(aheadOf b j.n i.n)).map (·.step)
        | false => [] } :: linesOf b (done ++ [i]) r

def compRegion (ntmps : Nat) (ops : Array Oper) (draw : Bool) : Option XCode :=
  match compSteps P ntmps ops ops.toList with
  | none => none
  | some ss => match draw with
    | false => some (.region false (ss.map fun s => { step := s, again := [] }))
    | true =>
      let b := (Region.before ops).toList
      let l := infos ops 0 ops.toList ss
      let o := orderFrom b l.length l
      match slotsOk b l && readsOk b l && pairsOk b o o && edgesOk ops.size 0 ops.toList && Nat.beq o.length l.length with
      | true => some (.region true (linesOf b [] o))
      | false => none

def compCode (ntmps : Nat) : Code → Option XCode
  | .skip => some .skip
  | .region _ ops draw => compRegion P ntmps ops draw
  | .seq a b => match compCode ntmps a, compCode ntmps b with
    | some a, some b => some (.seq a b)
    | _, _ => none
  | .cond c t e => match opd c, compCode ntmps t, compCode ntmps e with
    | some c, some t, some e => some (.cond c t e)
    | _, _, _ => none
  | .block id c => match compCode ntmps c with
    | some c => some (.block id c)
    | none => none
  | .loop c => match compCode ntmps c with
    | some c => some (.loop c)
    | none => none
  | .rangeFunc f ps as bo => match opd f, compCode ntmps as, compCode ntmps bo with
    | some f, some as, some bo => match ps.toList.all (fun p => Nat.blt p ntmps) with
      | true => some (.rangeFunc f ps.toList as bo)
      | false => none
    | _, _, _ => none
  | .exit id => some (.exit id)
  | .ret => some .ret
  | .scope c => match compCode ntmps c with
    | some c => some (.scope c)
    | none => none
  | .label _ => some .label
  | _ => none

def compRes : List ResultVar → Option (List XRes)
  | [] => some []
  | .tmp t :: r => match compRes r with
    | some r => some (.tmp t :: r)
    | none => none
  | .cell a t :: r => match aggOf P t, sizOf P t, compRes r with
    | some g, some n, some r => some (.cell a g (match g with | true => n | false => 1) :: r)
    | _, _, _ => none

def compFunc (f : Func) : Option XFunc :=
  match f.body with
  | none => none
  | some c => match compCode P f.ntmps c, compRes P f.results.toList with
    | some code, some results => some { code, results }
    | _, _ => none
end
end Go.Xr

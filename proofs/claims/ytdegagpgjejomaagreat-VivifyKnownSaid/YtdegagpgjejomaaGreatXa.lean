/- The words of the executor X: values, heap, operations, code. Nothing is proved here. -/
import Derived.Calls
import Derived.Defers
import Derived.Below
namespace Go.Xr

/-! ## A tree over numbers -/
inductive Tr (α : Type) where
  | lf
  | nd (l : Tr α) (v : Option α) (r : Tr α)

namespace Tr
variable {α : Type}
def get : Tr α → Nat → Option α
  | .lf, _ => none
  | .nd l v r, n =>
    match n with
    | 0 => v
    | k + 1 => match Nat.beq (Nat.mod k 2) 0 with
      | true => l.get (Nat.div k 2)
      | false => r.get (Nat.div k 2)

def setF : Nat → Tr α → Nat → α → Tr α
  | 0, t, _, _ => t
  | f + 1, t, n, x =>
    match t with
    | .lf => match n with
      | 0 => .nd .lf (some x) .lf
      | k + 1 => match Nat.beq (Nat.mod k 2) 0 with
        | true => .nd (setF f .lf (Nat.div k 2) x) none .lf
        | false => .nd .lf none (setF f .lf (Nat.div k 2) x)
    | .nd l v r => match n with
      | 0 => .nd l (some x) r
      | k + 1 => match Nat.beq (Nat.mod k 2) 0 with
        | true => .nd (setF f l (Nat.div k 2) x) v r
        | false => .nd l v (setF f r (Nat.div k 2) x)

def set (t : Tr α) (n : Nat) (x : α) : Tr α := setF (n + 1) t n x
end Tr

/-! ## Values -/
/-- What a slice may hold: known; or what its array's generation has behind place n (in elements, of e cells each). -/
inductive Cap where
  | exact (c : Nat)
  | rest (n e : Nat)
  deriving DecidableEq

inductive V where
  | int (k : IntKind) (n : Int)
  | bool (b : Bool)
  | str (s : ByteArray)
  | nilp
  | ptr (o g off : Nat)
  | nils
  | slice (o g off len : Nat) (cap : Cap)
  | nilm
  | map (o : Nat)
  | nilf
  | func (f : Nat) (first captured : List V)
  | yield (o : Nat)
  | nili
  | iface (t : Nat) (v : V)
  | iter (o : Nat)
  | agg (vs : List V)
  | tup (vs : List V)
  | any                 -- not known
  | hole (o : Nat)      -- a map's value under an entry that is held open
  | stamp (o : Nat)     -- that entry's stamp

def V.undef : V := .tup []
def V.cellsOf : V → List V
  | .agg vs => vs
  | v => [v]

/-- Does it fill one cell? -/
def V.one : V → Bool
  | .agg _ => false
  | .tup _ => false
  | .any => false
  | .hole _ => false
  | _ => true

/-- Is it no place that is held open? -/
def V.whole : V → Bool
  | .hole _ => false
  | _ => true

/-! ## Operations -/
inductive Opd where
  | slot (t : Nat)
  | const (v : V)

/-- What kind of type is compared. -/
inductive Cls where
  | num | bool | str | ptr | slice | map | func | iface
  deriving DecidableEq

inductive XOp where
  | mv (x : Opd)
  | pick (c a b : Opd)
  | alloc (zs : List V)
  | box (x : Opd)
  | build (zs : List V) (parts : List (Nat × Nat × Opd))            -- offset, size
  | bslice (esz : Nat) (cells : List V) (parts : List (Nat × Nat × Opd)) (len : Nat)
  | load (agg : Bool) (n : Nat) (x : Opd)
  | store (n : Nat) (x v : Opd)
  | nilCheck (x : Opd)
  | bin (op : BinOp) (t : Nat) (cls : Cls) (x y : Opd)
  | un (op : UnOp) (x : Opd)
  | conv (k : IntKind) (x : Opd)
  | mkif (t : Nat) (x : Opd)
  | mkfunc (f : Nat) (first captured : List Opd)
  | mkmap (kd : IntKind)
  | mkslice (zs : List V) (bytes : Nat) (len cap : Opd)
  | slc (esz : Nat) (x : Opd) (lo hi mx : Option Opd)
  | faddr (off : Nat) (x : Opd)
  | fld (agg : Bool) (off n : Nat) (x : Opd)
  | iaddr (esz : Nat) (x i : Opd)
  | iaddrA (len esz : Nat) (x i : Opd)
  | sidx (x i : Opd)
  | lookup (kd : IntKind) (zero : V) (x i : Opd) (ok : Bool)
  | mapup (kd : IntKind) (m k v : Opd)
  | range (kd : IntKind) (x : Opd)
  | next (it : Opd)
  | entry (it : Opd)
  | tassert (t : Nat) (zero : V) (ok : Bool) (x : Opd)
  | extract (x : Opd) (i : Nat)
  | len (c : Cls) (x : Opd)
  | cap (x : Opd)
  | append (esz bytes : Nat) (x y : Opd)
  | appendZ (esz bytes : Nat) (zs : List V) (x n : Opd)
  | copy (esz : Nat) (x y : Opd)
  | clear (zs : List V) (x : Opd)
  | clearM (x : Opd)
  | delete (kd : IntKind) (m k : Opd)
  | minmax (isMin : Bool) (x y : Opd)
  | call (f : Opd) (args : List Opd)
  | invoke (x : Opd) (rows : List (Nat × Nat × Option (Bool × Nat))) (args : List Opd)      -- rows: a type, its function, what is loaded of the receiver
  | defer (f : Opd) (args : List Opd)
  | bad
  | mentry (zero : V) (m k : Opd)
  | estore (m s v : Opd)

structure XStep where
  op : XOp
  dst : Option Nat
  guard : Option (Nat × Bool)

/-- An operation of a region; behind it the earlier reads that may as well stand behind it (what they read is looked at once more). -/
structure XLine where
  step : XStep
  again : List XStep

inductive XCode where
  | skip
  | region (draw : Bool) (ls : List XLine)
  | seq (a b : XCode)
  | cond (c : Opd) (t e : XCode)
  | block (id : Nat) (body : XCode)
  | loop (body : XCode)
  | rangeFunc (f : Opd) (params : List Nat) (assign body : XCode)
  | exit (id : Nat)
  | ret
  | scope (body : XCode)
  | label

inductive XRes where
  | tmp (t : Nat)
  | cell (t : Nat) (agg : Bool) (n : Nat)

structure XFunc where
  code : XCode
  results : List XRes

/-! ## The heap -/
structure Cells where
  cs : List V
  g : Nat               -- the last generation
  lens : List Nat       -- how many cells there are of it, and of those ahead of it (the last one first)
  ro : Bool
  esz : Nat
  spare : Bool          -- is what is behind the last generation its own?

inductive XDef where
  | call (f : Nat) (args : List V)
  | collected (o : Nat)

inductive XObj where
  | cells (c : Cells)
  | map (kd : IntKind) (es : List (Int × V)) (ins : Nat)
  | miter (m : Option Nat) (ins : Nat) (seen : List Int) (cur : Option Int)
  | loop (state : LoopState) (pending : Option (Option Nat)) (tmps : Tr V) (params : List Nat) (assign body : XCode) (defers : Nat)      -- pending: some none: return; some (some id): exit
  | deferred (taken : Bool)
  | dead (many : Bool)

structure Heap where
  objs : Tr XObj
  next : Nat

namespace Heap
def get (h : Heap) (o : Nat) : Option XObj := h.objs.get o
def put (h : Heap) (o : Nat) (x : XObj) : Heap := { h with objs := h.objs.set o x }
def push (h : Heap) (x : XObj) : Heap := { objs := h.objs.set h.next x, next := Nat.succ h.next }

def cells? (h : Heap) (o : Nat) : Option Cells :=
  match h.get o with
  | some (.cells c) => some c
  | _ => none
end Heap

def Cells.lenOf (c : Cells) (g : Nat) : Option Nat :=
  match Nat.ble g c.g with
  | true => c.lens[Nat.sub c.g g]?
  | false => none

/-- n cells from place off on, of a generation. -/
def readCells (h : Heap) (o g off n : Nat) : Option (List V) :=
  match h.cells? o with
  | some c => match c.lenOf g with
    | some l => match Nat.ble (off + n) l with
      | true => some ((c.cs.drop off).take n)
      | false => none
    | none => none
  | none => none

def over : List V → Nat → List V → List V
  | cs, _, [] => cs
  | [], _, _ :: _ => []
  | _ :: cs, 0, v :: vs => v :: over cs 0 vs
  | c :: cs, i + 1, vs => c :: over cs i vs

def writeCells (h : Heap) (o g off : Nat) (vs : List V) : Option Heap :=
  match h.cells? o with
  | some c => match c.ro, Nat.beq g c.g, c.lens with
    | false, true, l :: _ => match Nat.ble (off + vs.length) l && vs.all V.one with
      | true => some (h.put o (.cells { c with cs := over c.cs off vs, lens := [l] }))
      | false => none
    | _, _, _ => none
  | none => none

def newCells (h : Heap) (cs : List V) (esz : Nat) (spare : Bool) : Heap :=
  h.push (.cells { cs, g := 0, lens := [cs.length], ro := false, esz, spare })

/-! ## Operations, reckoned -/
def natOf : Int → Option Nat
  | .ofNat n => some n
  | .negSucc _ => none

def asNat : V → Option Nat
  | .int _ n => natOf n
  | _ => none

def kindEq : IntKind → IntKind → Bool
  | .i8, .i8 | .i16, .i16 | .i32, .i32 | .i64, .i64 | .u8, .u8 | .u16, .u16 | .u32, .u32 | .u64, .u64 => true
  | _, _ => false

/-- Is a value of a type that has a nil nil? -/
def nilOf : Cls → V → Option Bool
  | .ptr, .nilp => some true
  | .ptr, .ptr .. => some false
  | .slice, .nils => some true
  | .slice, .slice .. => some false
  | .map, .nilm => some true
  | .map, .map _ => some false
  | .func, .nilf => some true
  | .func, .func .. => some false
  | .iface, .nili => some true
  | .iface, .iface .. => some false
  | _, _ => none

def nilCmp (op : BinOp) (cls : Cls) (x y : V) : Option V :=
  match nilOf cls x, nilOf cls y, op with
  | some true, some b, .eql => some (.bool b)
  | some true, some b, .neq => some (.bool !b)
  | some false, some true, .eql => some (.bool false)
  | some false, some true, .neq => some (.bool true)
  | _, _, _ => none

def intBin (op : BinOp) (t : Nat) (k : IntKind) (a : Int) : V → Option V
  | .int k' b => match binOp op t (.int k a) (.int k' b) with
    | .pure (.int k n) => some (.int k n)
    | .pure (.bool b) => some (.bool b)
    | _ => none
  | _ => none

def boolBin (op : BinOp) (cls : Cls) (a : Bool) : V → Option V
  | .bool b => match cls, op with
    | .bool, .eql => some (.bool (a == b))
    | .bool, .neq => some (.bool (a != b))
    | _, _ => none
  | _ => none

def strBin (op : BinOp) (t : Nat) (a : ByteArray) : V → Option V
  | .str b => match binOp op t (.string a) (.string b) with
    | .pure (.string s) => some (.str s)
    | .pure (.bool b) => some (.bool b)
    | _ => none
  | _ => none

def binV (op : BinOp) (t : Nat) (cls : Cls) (x y : V) : Option V :=
  match x with
  | .int k a => intBin op t k a y
  | .bool a => boolBin op cls a y
  | .str a => strBin op t a y
  | x => nilCmp op cls x y

def unV (op : UnOp) (x : V) : Option V :=
  match x with
  | .int k n =>
    match Op.unary op (.int k n) with
    | .pure (.int k n) => some (.int k n)
    | _ => none
  | .bool b => match op with
    | .not => some (.bool !b)
    | _ => none
  | _ => none

def fillV (cs : List V) : List (Nat × Nat × V) → Option (List V)
  | [] => some cs
  | (off, n, v) :: r => match Nat.beq v.cellsOf.length n, Nat.ble (off + n) cs.length with
    | true, true => fillV (over cs off v.cellsOf) r
    | _, _ => none

def sliceV (h : Heap) (esz : Nat) (x : V) (lo hi mx : Option Nat) : Option V :=
  match x with
  | .nils => match lo.getD 0, hi.getD 0, mx.getD 0 with
    | 0, 0, 0 => some .nils
    | _, _, _ => none
  | .slice o g off len (.exact c) =>
    match Nat.ble (mx.getD c) c && Nat.ble (hi.getD len) (mx.getD c) && Nat.ble (lo.getD 0) (hi.getD len) with
    | true => some (.slice o g (match Nat.beq (mx.getD c) (lo.getD 0) with | true => off | false => off + lo.getD 0 * esz) (hi.getD len - lo.getD 0) (.exact (mx.getD c - lo.getD 0)))
    | false => none
  | .slice o g off len (.rest n e) =>
    match Nat.beq e esz && Nat.ble (lo.getD 0) (hi.getD len), mx with
    | true, none =>
      match Nat.ble (hi.getD len) len || (match h.cells? o with
        | some c => c.spare && (match c.lenOf g with | some l => Nat.beq g c.g && Nat.ble (off + hi.getD len * esz) l | none => false)
        | none => false) with
      | true => some (.slice o g (off + lo.getD 0 * esz) (hi.getD len - lo.getD 0) (.rest (n + lo.getD 0) esz))
      | false => none
    | true, some m => match Nat.ble (hi.getD len) m && Nat.ble m len with
      | true => some (.slice o g (match Nat.beq m (lo.getD 0) with | true => off | false => off + lo.getD 0 * esz) (hi.getD len - lo.getD 0) (.exact (m - lo.getD 0)))
      | false => none
    | _, _ => none
  | _ => none

def addKey (k : Int) (v : V) : List (Int × V) → List (Int × V)
  | [] => [(k, v)]
  | (a, x) :: r => match decide (k < a) with
    | true => (k, v) :: (a, x) :: r
    | false => match decide (a < k) with
      | true => (a, x) :: addKey k v r
      | false => (k, v) :: r

def hasKey (k : Int) : List (Int × V) → Option V
  | [] => none
  | (a, x) :: r => match decide (a = k) with
    | true => some x
    | false => hasKey k r

/-- Where a place is held open. -/
def holeKey (o : Nat) : List (Int × V) → Option Int
  | [] => none
  | (a, x) :: r => match x with
    | .hole o' => match Nat.beq o o' with
      | true => some a
      | false => holeKey o r
    | _ => holeKey o r

def dropKey (k : Int) : List (Int × V) → List (Int × V)
  | [] => []
  | (a, x) :: r => match decide (a = k) with
    | true => r
    | false => (a, x) :: dropKey k r

/-- Elements behind a slice's own. -/
def appendV (h : Heap) (esz bytes : Nat) (s : V) (xs : List V) (n : Nat) : Option (V × Heap) :=
  match n with
  | 0 => match s with
    | .nils => some (.nils, h)
    | .slice o g off len cap => some (.slice o g off len cap, h)
    | _ => none
  | Nat.succ _ =>
    let fresh (h : Heap) (old : List V) (need : Nat) : Option (V × Heap) :=
      match Nat.ble (need * bytes) 140737488355328, esz with
      | true, _ + 1 => some (.slice h.next 0 0 need (.rest 0 esz), newCells h (old ++ xs) esz true)
      | _, _ => none
    match s with
    | .nils => fresh h [] n
    | .slice o g off len cap =>
      let need := len + n
      match cap with
      | .exact c => match Nat.ble need c with
        | true => match writeCells h o g (off + len * esz) xs with
          | some h => some (.slice o g off need cap, h)
          | none => none
        | false => match readCells h o g off (len * esz) with
          | some old => fresh h old need
          | none => none
      | .rest _ _ =>
        match h.cells? o with
        | none => none
        | some c => match c.spare && Nat.beq g c.g && Nat.beq c.esz esz && !c.ro, c.lens with
          | true, l :: lens => match Nat.ble (off + need * esz) l with
            | true => match writeCells h o g (off + len * esz) xs with
              | some h => some (.slice o g off need cap, h)
              | none => none
            | false => match readCells h o g off (len * esz), Nat.ble (need * bytes) 140737488355328 && xs.all V.one, esz with
              | some old, true, _ + 1 => match off with
                | 0 =>
                  let last := Nat.succ g
                  some (.slice o last 0 need (.rest 0 esz),
                    h.put o (.cells { c with cs := old ++ xs, g := last, lens := (old ++ xs).length :: (match Nat.beq (len * esz) l with | true => l :: lens | false => []) }))
                | _ + 1 => some (.slice h.next 0 0 need (.rest 0 esz), newCells (h.put o (.cells { c with lens := [] })) (old ++ xs) esz true)
              | _, _, _ => none
          | _, _ => none
    | _ => none

abbrev Rd := Opd → V

def vals (ρ : Rd) (xs : List Opd) : List V := xs.map ρ
def parts (ρ : Rd) (xs : List (Nat × Nat × Opd)) : List (Nat × Nat × V) := xs.map fun (a, b, x) => (a, b, ρ x)

def optNat (ρ : Rd) : Option Opd → Option (Option Nat)
  | none => some none
  | some x => match asNat (ρ x) with
    | some n => some (some n)
    | none => none

def elemsOf (h : Heap) (esz : Nat) (n : Nat) : V → Option (List V)
  | .nils => some []
  | .slice o g off _ _ => readCells h o g off (n * esz)
  | .str s => some ((s.data.toList.take n).map fun b => .int .u8 b.toNat)
  | _ => none

def lenV : V → Option Nat
  | .nils => some 0
  | .slice _ _ _ n _ => some n
  | .str s => some s.size
  | _ => none

def repl (n : Nat) (zs : List V) : List V := (List.replicate n zs).flatten

/-- What a lookup tells. -/
def tellV : Bool → V → Option V → V
  | true, _, some v => .tup [v, .bool true]
  | true, z, none => .tup [z, .bool false]
  | false, _, some v => v
  | false, z, none => z

/-- An operation that calls nothing, and is no step of a range. -/
def opEv (op : XOp) (ρ : Rd) (h : Heap) : Option (V × Heap) :=
  let pure (o : Option V) : Option (V × Heap) := match o with | some v => some (v, h) | none => none
  match op with
  | .mv x => some (ρ x, h)
  | .pick c a b => match ρ c with
    | .bool true => some (ρ a, h)
    | .bool false => some (ρ b, h)
    | _ => none
  | .alloc zs => some (.ptr h.next 0 0, newCells h zs 1 false)
  | .box x => some (.ptr h.next 0 0, newCells h (ρ x).cellsOf 1 false)
  | .build zs ps => match fillV zs (parts ρ ps) with
    | some cs => some (.agg cs, h)
    | none => none
  | .bslice esz zs ps n => match fillV zs (parts ρ ps) with
    | some cs => some (.slice h.next 0 0 n (.exact n), newCells h cs esz false)
    | none => none
  | .load isAgg n x => match ρ x with
    | .ptr o g off => match readCells h o g off n, isAgg with
      | some vs, true => some (.agg vs, h)
      | some [v], false => some (v, h)
      | _, _ => none
    | _ => none
  | .store n x v => match ρ x, Nat.beq (ρ v).cellsOf.length n with
    | .ptr o g off, true => match writeCells h o g off (ρ v).cellsOf with
      | some h => some (.undef, h)
      | none => none
    | _, _ => none
  | .nilCheck x => match ρ x with
    | .nilp | .nili | .nilf | .tup _ | .any | .hole _ | .stamp _ => none
    | v => some (v, h)
  | .bin op t cls x y => pure (binV op t cls (ρ x) (ρ y))
  | .un op x => pure (unV op (ρ x))
  | .conv k x => match ρ x with
    | .int _ n => some (.int k (k.wrap n), h)
    | _ => none
  | .mkif t x => some (.iface t (ρ x), h)
  | .mkfunc f first caps => some (.func f (vals ρ first) (vals ρ caps), h)
  | .mkmap kd => some (.map h.next, h.push (.map kd [] 0))
  | .mkslice zs bytes l c => match asNat (ρ l), asNat (ρ c) with
    | some l, some c => match Nat.ble l c, Nat.ble (c * bytes) 140737488355328 with
      | true, true => some (.slice h.next 0 0 l (.exact c), newCells h (repl c zs) zs.length false)
      | _, _ => none
    | _, _ => none
  | .slc esz x lo hi mx => match optNat ρ lo, optNat ρ hi, optNat ρ mx with
    | some lo, some hi, some mx => pure (sliceV h esz (ρ x) lo hi mx)
    | _, _, _ => none
  | .faddr off x => match ρ x with
    | .ptr o g a => some (.ptr o g (a + off), h)
    | _ => none
  | .fld isAgg off n x => match ρ x with
    | .agg cs => match isAgg, (cs.drop off).take n with
      | true, vs => match Nat.ble (off + n) cs.length with
        | true => some (.agg vs, h)
        | false => none
      | false, [v] => some (v, h)
      | _, _ => none
    | _ => none
  | .iaddr esz x i => match ρ x, asNat (ρ i) with
    | .slice o g off len _, some i => match Nat.blt i len with
      | true => some (.ptr o g (off + i * esz), h)
      | false => none
    | _, _ => none
  | .iaddrA len esz x i => match ρ x, asNat (ρ i) with
    | .ptr o g off, some i => match Nat.blt i len with
      | true => some (.ptr o g (off + i * esz), h)
      | false => none
    | _, _ => none
  | .sidx x i => match ρ x, asNat (ρ i) with
    | .str s, some i => match s.data.toList[i]? with
      | some b => some (.int .u8 (.ofNat b.toNat), h)
      | none => none
    | _, _ => none
  | .lookup kd zero x i ok =>
    match ρ x, ρ i with
    | .nilm, .int k _ => match kindEq k kd with
      | true => some (tellV ok zero none, h)
      | false => none
    | .map o, .int k n => match h.get o with
      | some (.map kd' es _) => match kindEq k kd' with
        | true => some (tellV ok zero (hasKey n es), h)
        | false => none
      | _ => none
    | _, _ => none
  | .mapup _ m k v => match ρ m, ρ k with
    | .map o, .int k n => match h.get o with
      | some (.map kd es ins) => match kindEq k kd && (ρ v).whole with
        | true => some (.undef, h.put o (.map kd (addKey n (ρ v) es) (match hasKey n es with | some _ => ins | none => Nat.succ ins)))
        | false => none
      | _ => none
    | _, _ => none
  | .range _ x => match ρ x with
    | .nilm => some (.iter h.next, h.push (.miter none 0 [] none))
    | .map o => match h.get o with
      | some (.map _ _ ins) => some (.iter h.next, h.push (.miter (some o) ins [] none))
      | _ => none
    | _ => none
  | .entry it => match ρ it with
    | .iter o => match h.get o with
      | some (.miter (some m) ins _ (some k)) => match h.get m with
        | some (.map kd es ins') => match Nat.beq ins ins', hasKey k es with
          | true, some v => some (.tup [.int kd k, v], h)
          | _, _ => none
        | _ => none
      | _ => none
    | _ => none
  | .tassert t zero ok x => match ρ x with
    | .iface t' v => match Nat.beq t t', ok with
      | true, true => some (.tup [v, .bool true], h)
      | true, false => some (v, h)
      | false, true => some (.tup [zero, .bool false], h)
      | false, false => none
    | .nili => match ok with
      | true => some (.tup [zero, .bool false], h)
      | false => none
    | _ => none
  | .extract x i => match ρ x with
    | .tup vs => pure vs[i]?
    | _ => none
  | .len c x => match c, ρ x with
    | .map, .nilm => some (.int .i64 (.ofNat 0), h)
    | .map, .map o => match h.get o with
      | some (.map _ es _) => some (.int .i64 (.ofNat es.length), h)
      | _ => none
    | .slice, .nils => some (.int .i64 (.ofNat 0), h)
    | .slice, .slice _ _ _ n _ => some (.int .i64 (.ofNat n), h)
    | .str, .str s => some (.int .i64 (.ofNat s.size), h)
    | _, _ => none
  | .cap x => match ρ x with
    | .nils => some (.int .i64 (.ofNat 0), h)
    | .slice _ _ _ _ (.exact c) => some (.int .i64 (.ofNat c), h)
    | _ => none
  | .append esz bytes x y => match lenV (ρ y) with
    | some n => match elemsOf h esz n (ρ y) with
      | some xs => match Nat.beq xs.length (n * esz) with
        | true => appendV h esz bytes (ρ x) xs n
        | false => none
      | none => none
    | none => none
  | .appendZ esz bytes zs x n => match asNat (ρ n) with
    | some n => match Nat.ble (n * bytes) 140737488355328 with
      | true => appendV h esz bytes (ρ x) (repl n zs) n
      | false => none
    | none => none
  | .copy esz x y => match lenV (ρ x), lenV (ρ y) with
    | some a, some b =>
      let n := Nat.min b a
      match elemsOf h esz n (ρ y), ρ x with
      | some _, .nils => some (.int .i64 (.ofNat n), h)
      | some xs, .slice o g off _ _ => match writeCells h o g off xs with
        | some h => some (.int .i64 (.ofNat n), h)
        | none => none
      | _, _ => none
    | _, _ => none
  | .clear zs x => match ρ x with
    | .nils => some (.undef, h)
    | .slice o g off len _ => match len with
      | 0 => some (.undef, h)
      | Nat.succ _ => match writeCells h o g off (repl len zs) with
        | some h => some (.undef, h)
        | none => none
    | _ => none
  | .clearM x => match ρ x with
    | .nilm => some (.undef, h)
    | .map o => match h.get o with
      | some (.map kd _ ins) => some (.undef, h.put o (.map kd [] ins))
      | _ => none
    | _ => none
  | .delete _ m k => match ρ m, ρ k with
    | .nilm, .int _ _ => some (.undef, h)
    | .map o, .int k n => match h.get o with
      | some (.map kd es ins) => match kindEq k kd with
        | true => some (.undef, h.put o (.map kd (dropKey n es) ins))
        | false => none
      | _ => none
    | _, _ => none
  | .minmax isMin x y => match ρ x, ρ y with
    | .int k a, .int k' b => match kindEq k k' with
      | true => some (.int k (match isMin with
        | true => (if b < a then b else a)
        | false => (if b > a then b else a)), h)
      | false => none
    | _, _ => none
  | .mentry zero m k => match ρ m, ρ k with
    | .map o, .int k n => match h.get o with
      | some (.map kd es ins) => match kindEq k kd, hasKey n es with
        | true, some v0 => match v0.one with
          | true => some (.tup [v0, .stamp h.next], (h.push (.dead false)).put o (.map kd (addKey n (.hole h.next) es) ins))
          | false => none
        | true, none => match zero.one with
          | true => some (.tup [zero, .stamp h.next], (h.push (.dead false)).put o (.map kd (addKey n (.hole h.next) es) (Nat.succ ins)))
          | false => none
        | _, _ => none
      | _ => none
    | _, _ => none
  | .estore m s v => match ρ m, ρ s with
    | .map o, .stamp o2 => match h.get o with
      | some (.map kd es ins) => match holeKey o2 es, (ρ v).whole with
        | some k, true => some (.undef, h.put o (.map kd (addKey k (ρ v) es) ins))
        | _, _ => none
      | _ => none
    | _, _ => none
  | .next _ | .call .. | .invoke .. | .defer .. | .bad => none

end Go.Xr

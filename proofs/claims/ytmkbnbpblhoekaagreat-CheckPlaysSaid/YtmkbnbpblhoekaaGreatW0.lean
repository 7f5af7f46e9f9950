/- X, an executor of the program's compiled code, with its proof: part 1. -/
import Derived.Calls
import Derived.Defers
import Derived.Below
import Derived.Laws.Sem
import Derived.Laws.World
import Derived.Laws.Cells
import Derived.Laws.Entries
import Derived.Laws.AppendOwn
import Derived.Laws.MakeOwn
import Derived.Laws.Wrap64
namespace Go.Xr
inductive Tr (α : Type) where
 | lf
 | nd (l : Tr α) (v : Option α) (r : Tr α)
namespace Tr
variable {α : Type}
def get : Tr α -> Nat -> Option α
 | .lf,_ => none
 | .nd l v r,n =>
  match n with
  | 0 => v
  | k + 1 => match Nat.beq (Nat.mod k 2) 0 with
   | true => l.get (Nat.div k 2)
   | false => r.get (Nat.div k 2)
def setF : Nat -> Tr α -> Nat -> α -> Tr α
 | 0,t,_,_ => t
 | f + 1,t,n,x =>
  match t with
  | .lf => match n with
   | 0 => .nd .lf (some x) .lf
   | k + 1 => match Nat.beq (Nat.mod k 2) 0 with
    | true => .nd (setF f .lf (Nat.div k 2) x) none .lf
    | false => .nd .lf none (setF f .lf (Nat.div k 2) x)
  | .nd l v r => match n with
   | 0 => .nd l (some x) r
   | k + 1 => match Nat.beq (Nat.mod k 2) 0 with
    | true => .nd (setF f l (Nat.div k 2) x) v r
    | false => .nd l v (setF f r (Nat.div k 2) x)
def set (t : Tr α) (n : Nat) (x : α) : Tr α := setF (n + 1) t n x
end Tr
inductive Cap where
 | exact (c : Nat)
 | rest (n e : Nat)
 deriving DecidableEq
inductive V where
 | int (k : IntKind) (n : Int)
 | bool (b : Bool)
 | str (s : ByteArray)
 | nilp
 | ptr (o g off : Nat)
 | nils
 | slice (o g off len : Nat) (cap : Cap)
 | nilm
 | map (o : Nat)
 | nilf
 | func (f : Nat) (first captured : List V)
 | yield (o : Nat)
 | nili
 | iface (t : Nat) (v : V)
 | iter (o : Nat)
 | agg (vs : List V)
 | tup (vs : List V)
 | any                 -- not known
 | hole (o : Nat)      -- a map's value under an entry that is held open
 | stamp (o : Nat)     -- that entry's stamp
def V.undef : V := .tup []
def V.cellsOf : V -> List V
 | .agg vs => vs
 | v => [v]
def V.one : V -> Bool
 | .agg _ => false
 | .tup _ => false
 | .any => false
 | .hole _ => false
 | _ => true
def V.whole : V -> Bool
 | .hole _ => false
 | _ => true
inductive Opd where
 | slot (t : Nat)
 | const (v : V)
inductive Cls where
 | num | bool | str | ptr | slice | map | func | iface
 deriving DecidableEq
inductive XOp where
 | mv (x : Opd)
 | pick (c a b : Opd)
 | alloc (zs : List V)
 | box (x : Opd)
 | build (zs : List V) (parts : List (Nat × Nat × Opd))            -- offset,size
 | bslice (esz : Nat) (cells : List V) (parts : List (Nat × Nat × Opd)) (len : Nat)
 | load (agg : Bool) (n : Nat) (x : Opd)
 | store (n : Nat) (x v : Opd)
 | nilCheck (x : Opd)
 | bin (op : BinOp) (t : Nat) (cls : Cls) (x y : Opd)
 | un (op : UnOp) (x : Opd)
 | conv (k : IntKind) (x : Opd)
 | mkif (t : Nat) (x : Opd)
 | mkfunc (f : Nat) (first captured : List Opd)
 | mkmap (kd : IntKind)
 | mkslice (zs : List V) (bytes : Nat) (len cap : Opd)
 | slc (esz : Nat) (x : Opd) (lo hi mx : Option Opd)
 | faddr (off : Nat) (x : Opd)
 | fld (agg : Bool) (off n : Nat) (x : Opd)
 | iaddr (esz : Nat) (x i : Opd)
 | iaddrA (len esz : Nat) (x i : Opd)
 | sidx (x i : Opd)
 | lookup (kd : IntKind) (zero : V) (x i : Opd) (ok : Bool)
 | mapup (kd : IntKind) (m k v : Opd)
 | range (kd : IntKind) (x : Opd)
 | next (it : Opd)
 | entry (it : Opd)
 | tassert (t : Nat) (zero : V) (ok : Bool) (x : Opd)
 | extract (x : Opd) (i : Nat)
 | len (c : Cls) (x : Opd)
 | cap (x : Opd)
 | append (esz bytes : Nat) (x y : Opd)
 | appendZ (esz bytes : Nat) (zs : List V) (x n : Opd)
 | copy (esz : Nat) (x y : Opd)
 | clear (zs : List V) (x : Opd)
 | clearM (x : Opd)
 | delete (kd : IntKind) (m k : Opd)
 | minmax (isMin : Bool) (x y : Opd)
 | call (f : Opd) (args : List Opd)
 | invoke (x : Opd) (rows : List (Nat × Nat × Option (Bool × Nat))) (args : List Opd)      -- rows: a type,its function,what is loaded of the receiver
 | defer (f : Opd) (args : List Opd)
 | bad
 | mentry (zero : V) (m k : Opd)
 | estore (m s v : Opd)
structure XStep where
 op : XOp
 dst : Option Nat
 guard : Option (Nat × Bool)
structure XLn where
 step : XStep
 again : List XStep
inductive XCode where
 | skip
 | region (draw : Bool) (ls : List XLn)
 | seq (a b : XCode)
 | cond (c : Opd) (t e : XCode)
 | block (id : Nat) (body : XCode)
 | loop (body : XCode)
 | rangeFunc (f : Opd) (params : List Nat) (assign body : XCode)
 | exit (id : Nat)
 | ret
 | scope (body : XCode)
 | label
inductive XRes where
 | tmp (t : Nat)
 | cell (t : Nat) (agg : Bool) (n : Nat)
structure XFunc where
 code : XCode
 results : List XRes
structure Cells where
 cs : List V
 g : Nat               -- the last generation
 lens : List Nat       -- how many cells there are of it,and of those ahead of it (the last one first)
 ro : Bool
 esz : Nat
 spare : Bool          -- is what is behind the last generation its own?
inductive XDef where
 | call (f : Nat) (args : List V)
 | collected (o : Nat)
inductive XObj where
 | cells (c : Cells)
 | map (kd : IntKind) (es : List (Int × V)) (ins : Nat)
 | miter (m : Option Nat) (ins : Nat) (seen : List Int) (cur : Option Int)
 | loop (state : LoopState) (pending : Option (Option Nat)) (tmps : Tr V) (params : List Nat) (assign body : XCode) (defers : Nat)      -- pending: some none: return; some (some id): exit
 | deferred (taken : Bool)
 | dead (many : Bool)
structure Heap where
 objs : Tr XObj
 next : Nat
namespace Heap
def get (h : Heap) (o : Nat) : Option XObj := h.objs.get o
def put (h : Heap) (o : Nat) (x : XObj) : Heap := { h with objs := h.objs.set o x }
def push (h : Heap) (x : XObj) : Heap := { objs := h.objs.set h.next x,next := Nat.succ h.next }
def cells? (h : Heap) (o : Nat) : Option Cells :=
 match h.get o with
 | some (.cells c) => some c
 | _ => none
end Heap
def Cells.lenOf (c : Cells) (g : Nat) : Option Nat :=
 match Nat.ble g c.g with
 | true => c.lens[Nat.sub c.g g]?
 | false => none
def rCs (h : Heap) (o g off n : Nat) : Option (List V) :=
 match h.cells? o with
 | some c => match c.lenOf g with
  | some l => match Nat.ble (off + n) l with
   | true => some ((c.cs.drop off).take n)
   | false => none
  | none => none
 | none => none
def over : List V -> Nat -> List V -> List V
 | cs,_,[] => cs
 | [],_,_ :: _ => []
 | _ :: cs,0,v :: vs => v :: over cs 0 vs
 | c :: cs,i + 1,vs => c :: over cs i vs
def writeCells (h : Heap) (o g off : Nat) (vs : List V) : Option Heap :=
 match h.cells? o with
 | some c => match c.ro,Nat.beq g c.g,c.lens with
  | false,true,l :: _ => match Nat.ble (off + vs.length) l && vs.all V.one with
   | true => some (h.put o (.cells { c with cs := over c.cs off vs,lens := [l] }))
   | false => none
  | _,_,_ => none
 | none => none
def nCs (h : Heap) (cs : List V) (esz : Nat) (spare : Bool) : Heap :=
 h.push (.cells { cs,g := 0,lens := [cs.length],ro := false,esz,spare })
def natOf : Int -> Option Nat
 | .ofNat n => some n
 | .negSucc _ => none
def asNat : V -> Option Nat
 | .int _ n => natOf n
 | _ => none
def kindEq : IntKind -> IntKind -> Bool
 | .i8,.i8 | .i16,.i16 | .i32,.i32 | .i64,.i64 | .u8,.u8 | .u16,.u16 | .u32,.u32 | .u64,.u64 => true
 | _,_ => false
def nilOf : Cls -> V -> Option Bool
 | .ptr,.nilp => some true
 | .ptr,.ptr .. => some false
 | .slice,.nils => some true
 | .slice,.slice .. => some false
 | .map,.nilm => some true
 | .map,.map _ => some false
 | .func,.nilf => some true
 | .func,.func .. => some false
 | .iface,.nili => some true
 | .iface,.iface .. => some false
 | _,_ => none
def nilCmp (op : BinOp) (cls : Cls) (x y : V) : Option V :=
 match nilOf cls x,nilOf cls y,op with
 | some true,some b,.eql => some (.bool b)
 | some true,some b,.neq => some (.bool !b)
 | some false,some true,.eql => some (.bool false)
 | some false,some true,.neq => some (.bool true)
 | _,_,_ => none
def intBin (op : BinOp) (t : Nat) (k : IntKind) (a : Int) : V -> Option V
 | .int k' b => match binOp op t (.int k a) (.int k' b) with
  | .pure (.int k n) => some (.int k n)
  | .pure (.bool b) => some (.bool b)
  | _ => none
 | _ => none
def boolBin (op : BinOp) (cls : Cls) (a : Bool) : V -> Option V
 | .bool b => match cls,op with
  | .bool,.eql => some (.bool (a == b))
  | .bool,.neq => some (.bool (a != b))
  | _,_ => none
 | _ => none
def strBin (op : BinOp) (t : Nat) (a : ByteArray) : V -> Option V
 | .str b => match binOp op t (.string a) (.string b) with
  | .pure (.string s) => some (.str s)
  | .pure (.bool b) => some (.bool b)
  | _ => none
 | _ => none
def binV (op : BinOp) (t : Nat) (cls : Cls) (x y : V) : Option V :=
 match x with
 | .int k a => intBin op t k a y
 | .bool a => boolBin op cls a y
 | .str a => strBin op t a y
 | x => nilCmp op cls x y
def unV (op : UnOp) (x : V) : Option V :=
 match x with
 | .int k n =>
  match Op.unary op (.int k n) with
  | .pure (.int k n) => some (.int k n)
  | _ => none
 | .bool b => match op with
  | .not => some (.bool !b)
  | _ => none
 | _ => none
def fillV (cs : List V) : List (Nat × Nat × V) -> Option (List V)
 | [] => some cs
 | (off,n,v) :: r => match Nat.beq v.cellsOf.length n,Nat.ble (off + n) cs.length with
  | true,true => fillV (over cs off v.cellsOf) r
  | _,_ => none
def sliceV (h : Heap) (esz : Nat) (x : V) (lo hi mx : Option Nat) : Option V :=
 match x with
 | .nils => match lo.getD 0,hi.getD 0,mx.getD 0 with
  | 0,0,0 => some .nils
  | _,_,_ => none
 | .slice o g off len (.exact c) =>
  match Nat.ble (mx.getD c) c && Nat.ble (hi.getD len) (mx.getD c) && Nat.ble (lo.getD 0) (hi.getD len) with
  | true => some (.slice o g (match Nat.beq (mx.getD c) (lo.getD 0) with | true => off | false => off + lo.getD 0 * esz) (hi.getD len - lo.getD 0) (.exact (mx.getD c - lo.getD 0)))
  | false => none
 | .slice o g off len (.rest n e) =>
  match Nat.beq e esz && Nat.ble (lo.getD 0) (hi.getD len),mx with
  | true,none =>
   match Nat.ble (hi.getD len) len || (match h.cells? o with
    | some c => c.spare && (match c.lenOf g with | some l => Nat.beq g c.g && Nat.ble (off + hi.getD len * esz) l | none => false)
    | none => false) with
   | true => some (.slice o g (off + lo.getD 0 * esz) (hi.getD len - lo.getD 0) (.rest (n + lo.getD 0) esz))
   | false => none
  | true,some m => match Nat.ble (hi.getD len) m && Nat.ble m len with
   | true => some (.slice o g (match Nat.beq m (lo.getD 0) with | true => off | false => off + lo.getD 0 * esz) (hi.getD len - lo.getD 0) (.exact (m - lo.getD 0)))
   | false => none
  | _,_ => none
 | _ => none
def addKey (k : Int) (v : V) : List (Int × V) -> List (Int × V)
 | [] => [(k,v)]
 | (a,x) :: r => match decide (k < a) with
  | true => (k,v) :: (a,x) :: r
  | false => match decide (a < k) with
   | true => (a,x) :: addKey k v r
   | false => (k,v) :: r
def hasKey (k : Int) : List (Int × V) -> Option V
 | [] => none
 | (a,x) :: r => match decide (a = k) with
  | true => some x
  | false => hasKey k r
def holeKey (o : Nat) : List (Int × V) -> Option Int
 | [] => none
 | (a,x) :: r => match x with
  | .hole o' => match Nat.beq o o' with
   | true => some a
   | false => holeKey o r
  | _ => holeKey o r
def dropKey (k : Int) : List (Int × V) -> List (Int × V)
 | [] => []
 | (a,x) :: r => match decide (a = k) with
  | true => r
  | false => (a,x) :: dropKey k r
def appendV (h : Heap) (esz bytes : Nat) (s : V) (xs : List V) (n : Nat) : Option (V × Heap) :=
 match n with
 | 0 => match s with
  | .nils => some (.nils,h)
  | .slice o g off len cap => some (.slice o g off len cap,h)
  | _ => none
 | Nat.succ _ =>
  let fresh (h : Heap) (old : List V) (need : Nat) : Option (V × Heap) :=
   match Nat.ble (need * bytes) 140737488355328,esz with
   | true,_ + 1 => some (.slice h.next 0 0 need (.rest 0 esz),nCs h (old ++ xs) esz true)
   | _,_ => none
  match s with
  | .nils => fresh h [] n
  | .slice o g off len cap =>
   let need := len + n
   match cap with
   | .exact c => match Nat.ble need c with
    | true => match writeCells h o g (off + len * esz) xs with
     | some h => some (.slice o g off need cap,h)
     | none => none
    | false => match rCs h o g off (len * esz) with
     | some old => fresh h old need
     | none => none
   | .rest _ _ =>
    match h.cells? o with
    | none => none
    | some c => match c.spare && Nat.beq g c.g && Nat.beq c.esz esz && !c.ro,c.lens with
     | true,l :: lens => match Nat.ble (off + need * esz) l with
      | true => match writeCells h o g (off + len * esz) xs with
       | some h => some (.slice o g off need cap,h)
       | none => none
      | false => match rCs h o g off (len * esz),Nat.ble (need * bytes) 140737488355328 && xs.all V.one,esz with
       | some old,true,_ + 1 => match off with
        | 0 =>
         let last := Nat.succ g
         some (.slice o last 0 need (.rest 0 esz),
          h.put o (.cells { c with cs := old ++ xs,g := last,lens := (old ++ xs).length :: (match Nat.beq (len * esz) l with | true => l :: lens | false => []) }))
        | _ + 1 => some (.slice h.next 0 0 need (.rest 0 esz),nCs (h.put o (.cells { c with lens := [] })) (old ++ xs) esz true)
       | _,_,_ => none
     | _,_ => none
  | _ => none
abbrev Rd := Opd -> V
def vals (ρ : Rd) (xs : List Opd) : List V := xs.map ρ
def parts (ρ : Rd) (xs : List (Nat × Nat × Opd)) : List (Nat × Nat × V) := xs.map fun (a,b,x) => (a,b,ρ x)
def optNat (ρ : Rd) : Option Opd -> Option (Option Nat)
 | none => some none
 | some x => match asNat (ρ x) with
  | some n => some (some n)
  | none => none
def elemsOf (h : Heap) (esz : Nat) (n : Nat) : V -> Option (List V)
 | .nils => some []
 | .slice o g off _ _ => match n with
  | 0 => some []
  | Nat.succ _ => rCs h o g off (n * esz)
 | .str s => some ((s.data.toList.take n).map fun b => .int .u8 b.toNat)
 | _ => none
def lenV : V -> Option Nat
 | .nils => some 0
 | .slice _ _ _ n _ => some n
 | .str s => some s.size
 | _ => none
def repl (n : Nat) (zs : List V) : List V := (List.replicate n zs).flatten
def tellV : Bool -> V -> Option V -> V
 | true,_,some v => .tup [v,.bool true]
 | true,z,none => .tup [z,.bool false]
 | false,_,some v => v
 | false,z,none => z
def oEv (op : XOp) (ρ : Rd) (h : Heap) : Option (V × Heap) :=
 let pure (o : Option V) : Option (V × Heap) := match o with | some v => some (v,h) | none => none
 match op with
 | .mv x => some (ρ x,h)
 | .pick c a b => match ρ c with
  | .bool true => some (ρ a,h)
  | .bool false => some (ρ b,h)
  | _ => none
 | .alloc zs => some (.ptr h.next 0 0,nCs h zs 1 false)
 | .box x => some (.ptr h.next 0 0,nCs h (ρ x).cellsOf 1 false)
 | .build zs ps => match fillV zs (parts ρ ps) with
  | some cs => some (.agg cs,h)
  | none => none
 | .bslice esz zs ps n => match fillV zs (parts ρ ps) with
  | some cs => some (.slice h.next 0 0 n (.exact n),nCs h cs esz false)
  | none => none
 | .load isAgg n x => match ρ x with
  | .ptr o g off => match rCs h o g off n,isAgg with
   | some vs,true => some (.agg vs,h)
   | some [v],false => some (v,h)
   | _,_ => none
  | _ => none
 | .store n x v => match ρ x,Nat.beq (ρ v).cellsOf.length n with
  | .ptr o g off,true => match writeCells h o g off (ρ v).cellsOf with
   | some h => some (.undef,h)
   | none => none
  | _,_ => none
 | .nilCheck x => match ρ x with
  | .nilp | .nili | .nilf | .tup _ | .any | .hole _ | .stamp _ => none
  | v => some (v,h)
 | .bin op t cls x y => pure (binV op t cls (ρ x) (ρ y))
 | .un op x => pure (unV op (ρ x))
 | .conv k x => match ρ x with
  | .int _ n => some (.int k (k.wrap n),h)
  | _ => none
 | .mkif t x => some (.iface t (ρ x),h)
 | .mkfunc f first caps => some (.func f (vals ρ first) (vals ρ caps),h)
 | .mkmap kd => some (.map h.next,h.push (.map kd [] 0))
 | .mkslice zs bytes l c => match asNat (ρ l),asNat (ρ c) with
  | some l,some c => match Nat.ble l c,Nat.ble (c * bytes) 140737488355328 with
   | true,true => some (.slice h.next 0 0 l (.exact c),nCs h (repl c zs) zs.length false)
   | _,_ => none
  | _,_ => none
 | .slc esz x lo hi mx => match optNat ρ lo,optNat ρ hi,optNat ρ mx with
  | some lo,some hi,some mx => pure (sliceV h esz (ρ x) lo hi mx)
  | _,_,_ => none
 | .faddr off x => match ρ x with
  | .ptr o g a => some (.ptr o g (a + off),h)
  | _ => none
 | .fld isAgg off n x => match ρ x with
  | .agg cs => match isAgg,(cs.drop off).take n with
   | true,vs => match Nat.ble (off + n) cs.length with
    | true => some (.agg vs,h)
    | false => none
   | false,[v] => some (v,h)
   | _,_ => none
  | _ => none
 | .iaddr esz x i => match ρ x,asNat (ρ i) with
  | .slice o g off len _,some i => match Nat.blt i len with
   | true => some (.ptr o g (off + i * esz),h)
   | false => none
  | _,_ => none
 | .iaddrA len esz x i => match ρ x,asNat (ρ i) with
  | .ptr o g off,some i => match Nat.blt i len with
   | true => some (.ptr o g (off + i * esz),h)
   | false => none
  | _,_ => none
 | .sidx x i => match ρ x,asNat (ρ i) with
  | .str s,some i => match s.data.toList[i]? with
   | some b => some (.int .u8 (.ofNat b.toNat),h)
   | none => none
  | _,_ => none
 | .lookup kd zero x i ok =>
  match ρ x,ρ i with
  | .nilm,.int k _ => match kindEq k kd with
   | true => some (tellV ok zero none,h)
   | false => none
  | .map o,.int k n => match h.get o with
   | some (.map kd' es _) => match kindEq k kd' with
    | true => some (tellV ok zero (hasKey n es),h)
    | false => none
   | _ => none
  | _,_ => none
 | .mapup _ m k v => match ρ m,ρ k with
  | .map o,.int k n => match h.get o with
   | some (.map kd es ins) => match kindEq k kd && (ρ v).whole with
    | true => some (.undef,h.put o (.map kd (addKey n (ρ v) es) (match hasKey n es with | some _ => ins | none => Nat.succ ins)))
    | false => none
   | _ => none
  | _,_ => none
 | .range _ x => match ρ x with
  | .nilm => some (.iter h.next,h.push (.miter none 0 [] none))
  | .map o => match h.get o with
   | some (.map _ _ ins) => some (.iter h.next,h.push (.miter (some o) ins [] none))
   | _ => none
  | _ => none
 | .entry it => match ρ it with
  | .iter o => match h.get o with
   | some (.miter (some m) ins _ (some k)) => match h.get m with
    | some (.map kd es ins') => match Nat.beq ins ins',hasKey k es with
     | true,some v => some (.tup [.int kd k,v],h)
     | _,_ => none
    | _ => none
   | _ => none
  | _ => none
 | .tassert t zero ok x => match ρ x with
  | .iface t' v => match Nat.beq t t',ok with
   | true,true => some (.tup [v,.bool true],h)
   | true,false => some (v,h)
   | false,true => some (.tup [zero,.bool false],h)
   | false,false => none
  | .nili => match ok with
   | true => some (.tup [zero,.bool false],h)
   | false => none
  | _ => none
 | .extract x i => match ρ x with
  | .tup vs => pure vs[i]?
  | _ => none
 | .len c x => match c,ρ x with
  | .map,.nilm => some (.int .i64 (.ofNat 0),h)
  | .map,.map o => match h.get o with
   | some (.map _ es _) => some (.int .i64 (.ofNat es.length),h)
   | _ => none
  | .slice,.nils => some (.int .i64 (.ofNat 0),h)
  | .slice,.slice _ _ _ n _ => some (.int .i64 (.ofNat n),h)
  | .str,.str s => some (.int .i64 (.ofNat s.size),h)
  | _,_ => none
 | .cap x => match ρ x with
  | .nils => some (.int .i64 (.ofNat 0),h)
  | .slice _ _ _ _ (.exact c) => some (.int .i64 (.ofNat c),h)
  | _ => none
 | .append esz bytes x y => match lenV (ρ y) with
  | some n => match elemsOf h esz n (ρ y) with
   | some xs => match Nat.beq xs.length (n * esz) with
    | true => appendV h esz bytes (ρ x) xs n
    | false => none
   | none => none
  | none => none
 | .appendZ esz bytes zs x n => match asNat (ρ n) with
  | some n => match Nat.ble (n * bytes) 140737488355328 with
   | true => appendV h esz bytes (ρ x) (repl n zs) n
   | false => none
  | none => none
 | .copy esz x y => match lenV (ρ x),lenV (ρ y) with
  | some a,some b =>
   let n := Nat.min b a
   match elemsOf h esz n (ρ y),ρ x with
   | some _,.nils => some (.int .i64 (.ofNat n),h)
   | some xs,.slice o g off _ _ => match writeCells h o g off xs with
    | some h => some (.int .i64 (.ofNat n),h)
    | none => none
   | _,_ => none
  | _,_ => none
 | .clear zs x => match ρ x with
  | .nils => some (.undef,h)
  | .slice o g off len _ => match len with
   | 0 => some (.undef,h)
   | Nat.succ _ => match writeCells h o g off (repl len zs) with
    | some h => some (.undef,h)
    | none => none
  | _ => none
 | .clearM x => match ρ x with
  | .nilm => some (.undef,h)
  | .map o => match h.get o with
   | some (.map kd _ ins) => some (.undef,h.put o (.map kd [] ins))
   | _ => none
  | _ => none
 | .delete _ m k => match ρ m,ρ k with
  | .nilm,.int _ _ => some (.undef,h)
  | .map o,.int k n => match h.get o with
   | some (.map kd es ins) => match kindEq k kd with
    | true => some (.undef,h.put o (.map kd (dropKey n es) ins))
    | false => none
   | _ => none
  | _,_ => none
 | .minmax isMin x y => match ρ x,ρ y with
  | .int k a,.int k' b => match kindEq k k' with
   | true => some (.int k (match isMin with
    | true => (if b < a then b else a)
    | false => (if b > a then b else a)),h)
   | false => none
  | _,_ => none
 | .mentry zero m k => match ρ m,ρ k with
  | .map o,.int k n => match h.get o with
   | some (.map kd es ins) => match kindEq k kd,hasKey n es with
    | true,some v0 => match v0.one with
     | true => some (.tup [v0,.stamp h.next],(h.push (.dead false)).put o (.map kd (addKey n (.hole h.next) es) ins))
     | false => none
    | true,none => match zero.one with
     | true => some (.tup [zero,.stamp h.next],(h.push (.dead false)).put o (.map kd (addKey n (.hole h.next) es) (Nat.succ ins)))
     | false => none
    | _,_ => none
   | _ => none
  | _,_ => none
 | .estore m s v => match ρ m,ρ s with
  | .map o,.stamp o2 => match h.get o with
   | some (.map kd es ins) => match holeKey o2 es,(ρ v).whole with
    | some k,true => some (.undef,h.put o (.map kd (addKey k (ρ v) es) ins))
    | _,_ => none
   | _ => none
  | _,_ => none
 | .next _ | .call .. | .invoke .. | .defer .. | .bad => none
end Go.Xr
namespace Go.Xr
mutual
def V.same : V -> V -> Bool
 | .int k n,.int k' n' => kindEq k k' && decide (n = n')
 | .bool a,.bool b => a == b
 | .str a,.str b => decide (a = b)
 | .nilp,.nilp => true
 | .ptr a b c,.ptr a' b' c' => Nat.beq a a' && Nat.beq b b' && Nat.beq c c'
 | .nils,.nils => true
 | .slice a b c d e,.slice a' b' c' d' e' => Nat.beq a a' && Nat.beq b b' && Nat.beq c c' && Nat.beq d d' && decide (e = e')
 | .nilm,.nilm => true
 | .map a,.map b => Nat.beq a b
 | .nilf,.nilf => true
 | .func f x y,.func g x' y' => Nat.beq f g && V.sames x x' && V.sames y y'
 | .yield a,.yield b => Nat.beq a b
 | .nili,.nili => true
 | .iface t v,.iface t' v' => Nat.beq t t' && V.same v v'
 | .iter a,.iter b => Nat.beq a b
 | .agg a,.agg b => V.sames a b
 | .tup a,.tup b => V.sames a b
 | .any,.any => true
 | .hole a,.hole b => Nat.beq a b
 | .stamp a,.stamp b => Nat.beq a b
 | _,_ => false
def V.sames : List V -> List V -> Bool
 | [],[] => true
 | a :: x,b :: y => V.same a b && V.sames x y
 | _,_ => false
end
def sameO : Option V -> Option V -> Bool
 | none,none => true
 | some a,some b => V.same a b
 | _,_ => false
def sameT : Tr V -> Tr V -> Bool
 | .lf,.lf => true
 | .nd l v r,.nd l' v' r' => sameO v v' && sameT l l' && sameT r r'
 | _,_ => false
def sameE : List (Int × V) -> List (Int × V) -> Bool
 | [],[] => true
 | (k,v) :: l,(k',v') :: l' => decide (k = k') && V.same v v' && sameE l l'
 | _,_ => false
def sameX : XObj -> XObj -> Bool
 | .cells c,.cells c' => V.sames c.cs c'.cs && Nat.beq c.g c'.g && decide (c.lens = c'.lens) && (c.ro == c'.ro) && Nat.beq c.esz c'.esz && (c.spare == c'.spare)
 | .map kd es i,.map kd' es' i' => kindEq kd kd' && sameE es es' && Nat.beq i i'
 | .miter m i s c,.miter m' i' s' c' => decide (m = m') && Nat.beq i i' && decide (s = s') && decide (c = c')
 | .deferred a,.deferred b => a == b
 | .dead a,.dead b => a == b
 | _,_ => false
def sameXO : Option XObj -> Option XObj -> Bool
 | none,none => true
 | some a,some b => sameX a b
 | _,_ => false
def sameTX : Tr XObj -> Tr XObj -> Bool
 | .lf,.lf => true
 | .nd l v r,.nd l' v' r' => sameXO v v' && sameTX l l' && sameTX r r'
 | _,_ => false
def sameH (h h' : Heap) : Bool := Nat.beq h.next h'.next && sameTX h.objs h'.objs
def sameD : List XDef -> List XDef -> Bool
 | [],[] => true
 | .call f a :: l,.call f' a' :: l' => Nat.beq f f' && V.sames a a' && sameD l l'
 | .collected o :: l,.collected o' :: l' => Nat.beq o o' && sameD l l'
 | _,_ => false
structure XProg where
 funcs : Tr XFunc
inductive XExit where
 | normal
 | exit (id : Nat)
 | ret
 deriving DecidableEq
inductive Task where
 | code (c : XCode) (rnd : Option Nat) (t : Tr V) (d : List XDef) (h : Heap)
 | call (dk : Bool) (f : Nat) (args : List V) (h : Heap)      -- dk: a deferred one
 | round (o : Nat) (args : List V) (h : Heap)
 | defers (d : List XDef) (h : Heap)
inductive Out where
 | code (e : XExit) (t : Tr V) (d : List XDef) (h : Heap)
 | call (v : V) (h : Heap)
 | heap (h : Heap)
def sO (t : Tr V) (i : Nat) : V :=
 match t.get i with
 | some v => v
 | none => .undef
def rd (t : Tr V) : Rd
 | .slot i => sO t i
 | .const v => v
def putOpt (t : Tr V) : Option Nat -> V -> Tr V
 | some i,v => t.set i v
 | none,_ => t
def argsFrom (t : Tr V) : Nat -> List V -> Tr V
 | _,[] => t
 | i,v :: vs => argsFrom (t.set i v) (Nat.succ i) vs
def setAll (t : Tr V) : List Nat -> List V -> Tr V
 | p :: ps,v :: vs => setAll (t.set p v) ps vs
 | _,_ => t
def wantedV (t : Tr V) : Option (Nat × Bool) -> Option Bool
 | none => some true
 | some (g,want) => match sO t g with
  | .bool b => some (b == want)
  | .any => none
  | .hole _ => none
  | _ => some false
def resultsOf (t : Tr V) (h : Heap) : List XRes -> Option (List V)
 | [] => some []
 | .tmp i :: r => match resultsOf t h r with
  | some vs => some (sO t i :: vs)
  | none => none
 | .cell i isAgg n :: r => match oEv (.load isAgg n (.slot i)) (rd t) h,resultsOf t h r with
  | some (v,_),some vs => some (v :: vs)
  | _,_ => none
def o1f : List V -> V
 | [v] => v
 | vs => .tup vs
def jumpOf : XExit -> Option (Option Nat)
 | .normal => none
 | .ret => some none
 | .exit id => some (some id)
def isNorm : XExit -> Bool
 | .normal => true
 | _ => false
def stateOf : XExit -> LoopState
 | .normal => .ready
 | _ => .done
def begunV (rnd : Option Nat) (d : List XDef) (h : Heap) : Option (Heap × List XDef × Nat) :=
 match rnd with
 | none => some (h.push (.deferred false),.collected h.next :: d,h.next)
 | some o => match h.get o with
  | some (.loop _ _ _ _ _ _ k) => some (h,d,k)
  | _ => none
section
variable (X : XProg) (hook : Task -> Option Out) (ih : Task -> Option Out)
def applyF (f : V) (args : List V) (h : Heap) : Option (V × Heap) :=
 match f with
 | .func f first caps => match ih (.call false f (first ++ (args ++ caps)) h) with
  | some (.call v h) => some (v,h)
  | _ => none
 | .yield o => match ih (.round o args h) with
  | some (.call v h) => some (v,h)
  | _ => none
 | _ => none
def rowOf (ty : Nat) : List (Nat × Nat × Option (Bool × Nat)) -> Option (Nat × Option (Bool × Nat))
 | [] => none
 | (t,f,r) :: l => match Nat.beq ty t with
  | true => some (f,r)
  | false => rowOf ty l
def recvOf (h : Heap) (v : V) : Option (Bool × Nat) -> Option V
 | none => some v
 | some (g,n) => match oEv (.load g n (.const v)) (rd .lf) h with
  | some (r,_) => some r
  | none => none
def invokeF (x : V) (rows : List (Nat × Nat × Option (Bool × Nat))) (args : List V) (h : Heap) : Option (V × Heap) :=
 match x with
 | .iface ty v => match rowOf ty rows with
  | some (f,r) => match recvOf h v r with
   | some y => match ih (.call false f (y :: args) h) with
    | some (.call v h) => some (v,h)
    | _ => none
   | none => none
  | none => none
 | _ => none
def leftOf (seen : List Int) : List (Int × V) -> List (Int × V)
 | [] => []
 | (k,v) :: r => match seen.any (fun a => decide (a = k)) with
  | true => leftOf seen r
  | false => (k,v) :: leftOf seen r
def nextEv (it : V) (h : Heap) : Option (V × Heap) :=
 match it with
 | .iter o => match h.get o with
  | some (.miter none _ _ _) => some (.tup [.bool false],h)
  | some (.miter (some m) ins seen _) => match h.get m with
   | some (.map kd es ins') => match Nat.beq ins ins',leftOf seen es with
    | true,[] => some (.tup [.bool false],h)
    | true,[(k,v)] => some (.tup [.bool true,.int kd k,v],h.put o (.miter (some m) ins (k :: seen) (some k)))
    | _,_ => none
   | _ => none
  | _ => none
 | _ => none
def runStep (s : XStep) (rnd : Option Nat) (t : Tr V) (d : List XDef) (h : Heap) : Option (V × List XDef × Heap) :=
 match wantedV t s.guard with
 | none => none
 | some false => some (.undef,d,h)
 | some true =>
  let fin (r : Option (V × Heap)) : Option (V × List XDef × Heap) :=
   match r with
   | some (v,h) => some (v,d,h)
   | none => none
  match s.op with
  | .call f args => fin (applyF ih (rd t f) (vals (rd t) args) h)
  | .defer f args => match rnd,rd t f with
   | none,.func f first caps => some (.undef,.call f (first ++ (vals (rd t) args ++ caps)) :: d,h)
   | _,_ => none
  | .next it => fin (nextEv (rd t it) h)
  | .invoke x rows args => fin (invokeF ih (rd t x) rows (vals (rd t) args) h)
  | op => fin (oEv op (rd t) h)
def stays (t : Tr V) (h : Heap) : List XStep -> Bool
 | [] => true
 | s :: r => (match wantedV t s.guard with
  | none => false
  | some false => true
  | some true => match s.dst,oEv s.op (rd t) h with
   | some i,some (v,_) => V.same v (sO t i)
   | _,_ => false) && stays t h r
def runLines (rnd : Option Nat) : List XLn -> Tr V -> List XDef -> Heap -> Option (Tr V × List XDef × Heap)
 | [],t,d,h => some (t,d,h)
 | l :: ls,t,d,h => match runStep ih l.step rnd t d h with
  | some (v,d,h) => match putOpt t l.step.dst v with
   | t => match stays t h l.again with
    | true => runLines rnd ls t d h
    | false => none
  | none => none
def markLine : XLn := ⟨⟨.bad,none,none⟩,[⟨.bad,none,none⟩]⟩
def isMark (l : XLn) : Bool :=
 match l.step.op with
 | .bad => match l.step.guard,l.again with
  | none,_ :: _ => true
  | _,_ => false
 | _ => false
def marked : List (List XLn) -> List XLn
 | [] => []
 | v :: vs => markLine :: (v ++ marked vs)
def splitM : List XLn -> List XLn × List (List XLn)
 | [] => ([],[])
 | l :: ls => match isMark l with
  | true => ([],(splitM ls).1 :: (splitM ls).2)
  | false => (l :: (splitM ls).1,(splitM ls).2)
def anyOf : List XLn -> Option (List (List XLn))
 | l :: ls => match isMark l with
  | true => some ((splitM ls).1 :: (splitM ls).2)
  | false => none
 | [] => none
def oneEnd : List (Option (Tr V × List XDef × Heap)) -> Option (Tr V × List XDef × Heap)
 | [] => none
 | [r] => r
 | some r :: l => match oneEnd l with
  | some r' => match sameT r.1 r'.1 && sameD r.2.1 r'.2.1 && sameH r.2.2 r'.2.2 with
   | true => some r'
   | false => none
  | none => none
 | none :: _ => none
def runRegion (dr : Bool) (rnd : Option Nat) (ls : List XLn) (t : Tr V) (d : List XDef) (h : Heap) : Option (Tr V × List XDef × Heap) :=
 match dr with
 | false => runLines ih rnd ls t d h
 | true => match anyOf ls with
  | none => runLines ih rnd ls t d h
  | some vs => oneEnd (vs.map fun ls => runLines ih rnd ls t d h)
def evStep : Task -> Option Out
 | .code c rnd t d h => match c with
  | .skip => some (.code .normal t d h)
  | .region dr ls => match runRegion ih dr rnd ls t d h with
   | some (t,d,h) => some (.code .normal t d h)
   | none => none
  | .seq a b => match ih (.code a rnd t d h) with
   | some (.code .normal t d h) => ih (.code b rnd t d h)
   | some (.code e t d h) => some (.code e t d h)
   | _ => none
  | .cond c a b => match rd t c with
   | .bool true => ih (.code a rnd t d h)
   | .bool false => ih (.code b rnd t d h)
   | _ => none
  | .block id body => match ih (.code body rnd t d h) with
   | some (.code (.exit i) t d h) => match Nat.beq i id with
    | true => some (.code .normal t d h)
    | false => some (.code (.exit i) t d h)
   | r => r
  | .loop body => match hook (.code (.loop body) rnd t d h) with
   | some r => some r
   | none => match ih (.code body rnd t d h) with
    | some (.code .normal t d h) => ih (.code (.loop body) rnd t d h)
    | r => r
  | .exit id => some (.code (.exit id) t d h)
  | .ret => some (.code .ret t d h)
  | .scope body => ih (.code body rnd t d h)
  | .label => some (.code .normal t d h)
  | .rangeFunc f ps assign body =>
   match begunV rnd d h with
   | none => none
   | some (h,d,k) =>
    let l := h.next
    match applyF ih (rd t f) [.yield l] (h.push (.loop .ready none t ps assign body k)) with
    | none => none
    | some (_,h) => match h.get l with
     | some (.loop s jump _ _ _ _ _) =>
      let h := h.put l (.dead false)
      match s,jump with
      | .busy,_ => none
      | _,none => some (.code .normal t d h)
      | _,some none => some (.code .ret t d h)
      | _,some (some id) => some (.code (.exit id) t d h)
     | _ => none
 | .call dk f args h =>
  match hook (.call dk f args h) with
  | some r => some r
  | none => match X.funcs.get f with
   | none => none
   | some fn => match ih (.code fn.code none (argsFrom .lf 0 args) [] h) with
    | some (.code (.exit _) _ _ _) => none
    | some (.code _ t d h) => match ih (.defers d h) with
     | some (.heap h) => match resultsOf t h fn.results with
      | some vs => some (.call (o1f vs) h)
      | none => none
     | _ => none
    | _ => none
 | .defers d h => match d with
  | [] => some (.heap h)
  | .call f args :: ds => match ih (.call true f args h) with
   | some (.call _ h) => ih (.defers ds h)
   | _ => none
  | .collected o :: ds => match h.get o with
   | some (.deferred false) => ih (.defers ds (h.put o (.deferred true)))
   | _ => none
 | .round o args h => match h.get o with
  | some (.loop .ready _ t ps as bo _) => match Nat.beq args.length ps.length with
   | false => none
   | true => match ih (.code as (some o) (setAll t ps args) [] h) with
    | some (.code .normal t1 [] h) => match h.get o with
     | some (.loop .ready jump1 t0 ps0 as0 bo0 k0) =>
      match ih (.code bo (some o) t1 [] (h.put o (.loop .busy jump1 t0 ps0 as0 bo0 k0))) with
      | some (.code e _ _ h) => match h.get o with
       | some (.loop _ _ t0 ps0 as0 bo0 k0) => some (.call (.bool (isNorm e)) (h.put o (.loop (stateOf e) (jumpOf e) t0 ps0 as0 bo0 k0)))
       | _ => none
      | _ => none
     | _ => none
    | _ => none
  | _ => none
end
def ev (X : XProg) (hook : Task -> Option Out) : Nat -> Task -> Option Out
 | 0,_ => none
 | n + 1,k => evStep X hook (ev X hook n) k
def told : Option Out -> Option Bool
 | some (.call (.bool b) _) => some b
 | _ => none
end Go.Xr
namespace Go.Xr
def scalarV : Value -> Option V
 | .int k n => some (.int k n)
 | .bool b => some (.bool b)
 | .string s => some (.str s)
 | .pointer none => some .nilp
 | .slice none 0 0 => some .nils
 | .map none => some .nilm
 | .nilFunc => some .nilf
 | .nilIface => some .nili
 | .func (.func f) first caps => match first.toList,caps.toList with
  | [],[] => some (.func f [] [])
  | _,_ => none
 | _ => none
def scalars : List Value -> Option (List V)
 | [] => some []
 | v :: r => match scalarV v,scalars r with
  | some v,some r => some (v :: r)
  | _,_ => none
def constV : Value -> Option V
 | .agg cs => match scalars cs.toList with
  | some vs => some (.agg vs)
  | none => none
 | v => scalarV v
section
variable (P : Program)
def zeroOf (t : TypeId) : Option V :=
 match P.info? t with
 | some i => match i.zero with
  | some z => constV z
  | none => none
 | none => none
def sizOf (t : TypeId) : Option Nat :=
 match P.info? t with
 | some i => some i.size
 | none => none
def bytOf (t : TypeId) : Option Nat :=
 match P.info? t with
 | some i => some i.bytes
 | none => none
def aggOf (t : TypeId) : Option Bool :=
 match P.underlying t with
 | some (.struct _) | some (.array _ _) => some true
 | some _ => some false
 | none => none
def elemOfSlice (t : TypeId) : Option TypeId :=
 match P.underlying t with
 | some (.slice e) => some e
 | _ => none
def mapOf (t : TypeId) : Option (IntKind × TypeId) :=
 match P.underlying t with
 | some (.map k e) => match P.underlying k with
  | some (.int kd) => some (kd,e)
  | _ => none
 | _ => none
def clsOf (t : TypeId) : Option Cls :=
 match P.underlying t with
 | some (.int _) => some .num
 | some .bool => some .bool
 | some .string => some .str
 | some (.pointer _) => some .ptr
 | some (.slice _) => some .slice
 | some (.map _ _) => some .map
 | some (.func _ _ _) => some .func
 | some (.interface _) => some .iface
 | _ => none
def isIface (t : TypeId) : Bool :=
 match P.underlying t with
 | some (.interface _) => true
 | _ => false
def isConst : Operand -> Bool
 | .const _ => true
 | _ => false
def opd : Operand -> Option Opd
 | .tmp t => some (.slot t)
 | .const v => match constV v with
  | some v => some (.const v)
  | none => none
 | .func f => some (.const (.func f [] []))
 | .global _ => none
def opds : List Operand -> Option (List Opd)
 | [] => some []
 | x :: r => match opd x,opds r with
  | some x,some r => some (x :: r)
  | _,_ => none
def opt : Option Operand -> Option (Option Opd)
 | none => some none
 | some x => match opd x with
  | some x => some (some x)
  | none => none
def placesOf : List Field -> Option (List (Nat × Nat))
 | [] => some []
 | f :: r => match sizOf P f.type,placesOf r with
  | some n,some r => some ((f.offset,n) :: r)
  | _,_ => none
def partsAt (pl : List (Nat × Nat)) : List (Nat × Operand) -> Option (List (Nat × Nat × Opd))
 | [] => some []
 | (i,x) :: r => match pl[i]?,opd x,partsAt pl r with
  | some (off,n),some x,some r => some ((off,n,x) :: r)
  | _,_,_ => none
def partsBy (n : Nat) : List (Nat × Operand) -> Option (List (Nat × Nat × Opd))
 | [] => some []
 | (i,x) :: r => match opd x,partsBy n r with
  | some x,some r => some ((i * n,n,x) :: r)
  | _,_ => none
def methodRow (name : String) (t : Nat) : Option (Nat × Nat × Option (Bool × Nat)) :=
 match P.info? t with
 | none => none
 | some i => match i.methods.find? (fun m => m.name == name) with
  | none => none
  | some m => match m.path.toList,m.func,P.underlying t with
   | [],some (f,true),some (.pointer _) => some (t,f,none)
   | [],some (f,false),some (.pointer e) => match aggOf P e,sizOf P e with
    | some g,some n => some (t,f,some (g,match g with | true => n | false => 1))
    | _,_ => none
   | [],some (f,false),some _ => some (t,f,none)
   | _,_,_ => none
def methodRows (name : String) : List (Nat × Nat × Option (Bool × Nat)) := (List.range P.types.size).filterMap (methodRow P name)
def compCall (c : Call) : Option XOp :=
 match c.callee,c.args.toList with
 | .value f,args => match opd f,opds args with
  | some f,some args => some (.call f args)
  | _,_ => none
 | .invoke x name,args => match opd x,opds args with
  | some x,some args => some (.invoke x (methodRows P name) args)
  | _,_ => none
 | .builtin .len,[x] => match opd x,c.argTypes[0]? with
  | some x,some t => match P.underlying t with
   | some (.slice _) => some (.len .slice x)
   | some .string => some (.len .str x)
   | some (.map _ _) => some (.len .map x)
   | _ => none
  | _,_ => none
 | .builtin .cap,[x] => match opd x,c.argTypes[0]? with
  | some x,some t => match P.underlying t with
   | some (.slice _) => some (.cap x)
   | _ => none
  | _,_ => none
 | .builtin .append,[x,y] => match opd x,opd y,c.argTypes[0]? with
  | some x,some y,some t => match elemOfSlice P t with
   | some e => match sizOf P e,bytOf P e,c.argTypes[1]? with
    | some n,some b,some u => match P.underlying u,zeroOf P e with
     | some (.int _),some z => match Nat.beq z.cellsOf.length n && Nat.blt 0 b with
      | true => some (.appendZ n b z.cellsOf x y)
      | false => none
     | some (.slice _),some z => match Nat.beq z.cellsOf.length n && Nat.blt 0 b with
      | true => some (.append n b x y)
      | false => none
     | some .string,some z => match Nat.beq z.cellsOf.length n && Nat.blt 0 b with
      | true => some (.append n b x y)
      | false => none
     | _,_ => none
    | _,_,_ => none
   | none => none
  | _,_,_ => none
 | .builtin .copy,[x,y] => match opd x,opd y,c.argTypes[0]? with
  | some x,some y,some t => match elemOfSlice P t with
   | some e => match sizOf P e with
    | some n => some (.copy n x y)
    | none => none
   | none => none
  | _,_,_ => none
 | .builtin .clear,[x] => match opd x,c.argTypes[0]? with
  | some x,some t => match P.underlying t with
   | some (.slice e) => match sizOf P e,zeroOf P e with
    | some n,some z => match Nat.beq z.cellsOf.length n && Nat.blt 0 n with
     | true => some (.clear z.cellsOf x)
     | false => none
    | _,_ => none
   | some (.map _ _) => some (.clearM x)
   | _ => none
  | _,_ => none
 | .builtin .delete,[x,y] => match opd x,opd y,c.argTypes[0]? with
  | some x,some y,some t => match mapOf P t with
   | some (kd,_) => some (.delete kd x y)
   | none => none
  | _,_,_ => none
 | .builtin .min,[x,y] => match opd x,opd y with
  | some x,some y => some (.minmax true x y)
  | _,_ => none
 | .builtin .max,[x,y] => match opd x,opd y with
  | some x,some y => some (.minmax false x y)
  | _,_ => none
 | _,_ => none
def compOp (o : Oper) : Option XOp :=
 match o.op with
 | .move x | .assign x => match opd x with
  | some x => some (.mv x)
  | none => none
 | .pick c a b => match opd c,opd a,opd b with
  | some c,some a,some b => some (.pick c a b)
  | _,_,_ => none
 | .alloc e => match zeroOf P e with
  | some z => some (.alloc z.cellsOf)
  | none => none
 | .box _ x => match opd x with
  | some x => some (.box x)
  | none => none
 | .build t ps => match P.underlying t,zeroOf P t with
  | some (.struct fs),some z => match placesOf P fs.toList with
   | some pl => match partsAt pl ps.toList with
    | some ps => some (.build z.cellsOf ps)
    | none => none
   | none => none
  | some (.array _ e),some z => match sizOf P e with
   | some n => match partsBy n ps.toList with
    | some ps => some (.build z.cellsOf ps)
    | none => none
   | none => none
  | _,_ => none
 | .buildSlice t len ps => match elemOfSlice P t with
  | some e => match sizOf P e,zeroOf P e with
   | some n,some z => match partsBy n ps.toList,Nat.beq z.cellsOf.length n && Nat.ble (len * n) 16777216 && Nat.blt 0 n with
    | some ps,true => some (.bslice n (repl len z.cellsOf) ps len)
    | _,_ => none
   | _,_ => none
  | none => none
 | .load t a => match aggOf P t,sizOf P t,opd a with
  | some g,some n,some a => some (.load g (match g with | true => n | false => 1) a)
  | _,_,_ => none
 | .store t a v => match sizOf P t,opd a,opd v with
  | some n,some a,some v => some (.store n a v)
  | _,_,_ => none
 | .nilCheck x => match opd x with
  | some x => some (.nilCheck x)
  | none => none
 | .binOp op t x y _ => match clsOf P t,opd x,opd y with
  | some cls,some x',some y' => match isIface P t && !(isConst x || isConst y) with
   | false => some (.bin op t cls x' y')
   | true => none
  | _,_,_ => none
 | .unOp op _ x => match opd x with
  | some x => some (.un op x)
  | none => none
 | .convert s d x => match P.underlying s,P.underlying d,opd x with
  | some _,some (.int k),some x => some (.conv k x)
  | _,_,_ => none
 | .makeInterface t x => match P.underlying t,opd x with
  | some (.interface _),_ => none
  | some _,some x => some (.mkif t x)
  | _,_ => none
 | .makeFunc (.func f) first caps => match opds first.toList,opds caps.toList with
  | some a,some b => some (.mkfunc f a b)
  | _,_ => none
 | .makeMap t r => match mapOf P t,r with
  | some (kd,_),none => some (.mkmap kd)
  | some (kd,_),some (.const (.int _ _)) => some (.mkmap kd)
  | _,_ => none
 | .makeSlice t l c => match elemOfSlice P t with
  | some e => match sizOf P e,zeroOf P e,bytOf P e,opd l,opd c with
   | some n,some z,some b,some l,some c => match Nat.beq z.cellsOf.length n && Nat.blt 0 n && Nat.blt 0 b with
    | true => some (.mkslice z.cellsOf b l c)
    | false => none
   | _,_,_,_,_ => none
  | none => none
 | .slice t x lo hi mx => match elemOfSlice P t,opd x,opt lo,opt hi,opt mx with
  | some e,some x,some lo,some hi,some mx => match sizOf P e,mx.isSome && hi.isNone with
   | some (n + 1),false => some (.slc (n + 1) x lo hi mx)
   | _,_ => none
  | _,_,_,_,_ => none
 | .fieldAddr s x f => match P.underlying s,opd x with
  | some (.struct fs),some x => match fs[f]? with
   | some fd => match sizOf P fd.type with
    | some (_ + 1) => some (.faddr fd.offset x)
    | _ => none
   | none => none
  | _,_ => none
 | .field s x f => match P.underlying s,opd x with
  | some (.struct fs),some x => match fs[f]? with
   | some fd => match sizOf P fd.type,aggOf P fd.type with
    | some n,some g => some (.fld g fd.offset (match g with | true => n | false => 1) x)
    | _,_ => none
   | none => none
  | _,_ => none
 | .indexAddr t x i => match P.underlying t,opd x,opd i with
  | some (.slice e),some x,some i => match sizOf P e with
   | some n => some (.iaddr n x i)
   | none => none
  | some (.array len e),some x,some i => match sizOf P e with
   | some n => some (.iaddrA len n x i)
   | none => none
  | _,_,_ => none
 | .index t x i => match P.underlying t,opd x,opd i with
  | some .string,some x,some i => some (.sidx x i)
  | _,_,_ => none
 | .lookup t x i ok => match mapOf P t,opd x,opd i with
  | some (kd,e),some x,some i => match zeroOf P e with
   | some z => some (.lookup kd z x i ok)
   | none => none
  | _,_,_ => none
 | .mapUpdate t m k v | .insert t m k v => match mapOf P t,opd m,opd k,opd v with
  | some (kd,_),some m,some k,some v => some (.mapup kd m k v)
  | _,_,_,_ => none
 | .mapEntry t m k => match mapOf P t,opd m,opd k with
  | some (_,e),some m,some k => match zeroOf P e with
   | some z => some (.mentry z m k)
   | none => none
  | _,_,_ => none
 | .entryStore _ m s v => match opd m,opd s,opd v with
  | some m,some s,some v => some (.estore m s v)
  | _,_,_ => none
 | .range t x => match mapOf P t,opd x with
  | some (kd,_),some x => some (.range kd x)
  | _,_ => none
 | .next it false => match opd it with
  | some it => some (.next it)
  | none => none
 | .entry it => match opd it with
  | some it => some (.entry it)
  | none => none
 | .typeAssert x _ t ok => match P.underlying t,opd x,zeroOf P t with
  | some (.interface _),_,_ => none
  | some _,some x,some z => some (.tassert t z ok x)
  | _,_,_ => none
 | .extract x i => match opd x with
  | some x => some (.extract x i)
  | none => none
 | .call c => compCall P c
 | .defer c => match c.callee,opds c.args.toList with
  | .value f,some args => match opd f with
   | some f => some (.defer f args)
   | none => none
  | _,_ => none
 | _ => none
inductive Sort' where
 | quiet | reads | makes | acts
 deriving DecidableEq
def XOp.sort : XOp -> Sort'
 | .alloc .. | .box .. | .bslice .. | .mkmap .. | .mkslice .. => .makes
 | .store .. | .mapup .. | .range .. | .next .. | .append .. | .appendZ .. | .copy .. | .clear .. | .clearM .. | .delete .. | .call .. | .invoke .. | .defer .. | .mentry .. | .estore .. => .acts
 | .load .. | .lookup .. | .entry .. | .len .. | .slc .. => .reads
 | _ => .quiet
def guardOf (ops : Array Oper) : Option (Nat × Bool) -> Option (Option (Nat × Bool))
 | none => some none
 | some (j,want) => match ops[j]? with
  | some o => match o.dst with
   | some d => some (some (d,want))
   | none => none
  | none => none
def compStep (ntmps : Nat) (ops : Array Oper) (o : Oper) : Option XStep :=
 match (match compOp P o with | some op => some op | none => some .bad),guardOf ops o.guard with
 | some op,some g => match o.dst with
  | some d => match Nat.blt d ntmps with
   | true => some { op,dst := some d,guard := g }
   | false => none
  | none => some { op,dst := none,guard := g }
 | _,_ => none
def compSteps (ntmps : Nat) (ops : Array Oper) : List Oper -> Option (List XStep)
 | [] => some []
 | o :: r => match compStep P ntmps ops o,compSteps ntmps ops r with
  | some s,some r => some (s :: r)
  | _,_ => none
def names (ops : Array Oper) (o : Oper) : List Nat :=
 (o.op.operands.toList.filterMap fun | .tmp t => some t | _ => none) ++
 (match o.guard with
  | some (j,_) => ((ops[j]?).bind (·.dst)).toList
  | none => [])
def ahO (b : List Nat) (i j : Nat) : Bool := (b.getD j 0).testBit i
structure Info where
 n : Nat
 step : XStep
 sort : Sort'
 names : List Nat
 dst : Option Nat
def infos (ops : Array Oper) : Nat -> List Oper -> List XStep -> List Info
 | n,o :: os,s :: ss => { n,step := s,sort := s.op.sort,names := names ops o,dst := o.dst } :: infos ops (n + 1) os ss
 | _,_,_ => []
def unordered (b : List Nat) (i j : Info) : Bool := !(ahO b i.n j.n) && !(ahO b j.n i.n) && !(Nat.beq i.n j.n)
def slotsOk (b : List Nat) (l : List Info) : Bool :=
 l.all fun i => l.all fun j =>
  !(unordered b i j) ||
   (match i.dst with
    | some d => !(j.names.contains d) && decide (j.dst ≠ some d)
    | none => true)
def loud : Sort' -> Bool
 | .acts | .makes => true
 | _ => false
mutual
def closedV : V -> Bool
 | .int .. | .bool _ | .str _ | .nilp | .nils | .nilm | .nilf | .nili => true
 | .func _ a b => closedVs a && closedVs b
 | .iface _ v => closedV v
 | .agg vs => closedVs vs
 | .tup vs => closedVs vs
 | _ => false
def closedVs : List V -> Bool
 | [] => true
 | v :: r => closedV v && closedVs r
end
def opdOk (names : List Nat) : Opd -> Bool
 | .slot i => names.contains i
 | .const v => closedV v
def okMake (i : Info) : Bool :=
 match i.step.op with
 | .alloc zs => closedVs zs
 | .box x => opdOk i.names x
 | .bslice _ zs ps _ => closedVs zs && ps.all (fun p => opdOk i.names p.2.2)
 | .mkmap _ => true
 | .mkslice zs _ l c => closedVs zs && (opdOk i.names l && opdOk i.names c)
 | _ => false
def depsOk (b : List Nat) (l : List Info) (i j : Info) : Bool := l.all fun r => !(ahO b j.n r.n) || ahO b i.n r.n
def pairOk (b : List Nat) (l : List Info) (i j : Info) : Bool :=
 !(unordered b i j) || !(loud i.sort) || (match j.sort with | .quiet => true | .makes => okMake j && depsOk b l i j | _ => false)
def readsOk (b : List Nat) (l : List Info) : Bool :=
 l.all fun r => (match r.sort with | .reads => false | _ => true) || l.all fun j =>
  (match j.dst with
   | none => true
   | some d => (Nat.beq j.n r.n || decide (r.dst ≠ some d)) && (!(r.names.contains d) || (ahO b j.n r.n && !(Nat.beq j.n r.n))))
def edgesOk (size : Nat) : Nat -> List Oper -> Bool
 | _,[] => true
 | j,o :: r => (o.after.toList.all fun e => !(Region.binds .any e) || (Nat.blt e.on size && !(Nat.beq e.on j))) && edgesOk size (Nat.succ j) r
def pairsOk (b : List Nat) (l : List Info) : List Info -> Bool
 | [] => true
 | i :: r => (r.all fun j => pairOk b l i j && !(ahO b j.n i.n) && !(Nat.beq i.n j.n)) && pairsOk b l r
def readyIn (b : List Nat) (left : List Info) (i : Info) : Bool := left.all fun j => !(ahO b j.n i.n)
def nextOf (b : List Nat) (left : List Info) : Option Info :=
 match left.find? (fun i => decide (i.sort = .quiet \/ i.sort = .reads) && readyIn b left i) with
 | some i => some i
 | none => match left.find? (fun i => decide (i.sort = .acts) && readyIn b left i) with
  | some i => some i
  | none => match left.find? (fun a => decide (a.sort = .acts)) with
   | none => left.find? (fun i => readyIn b left i)
   | some a => match left.find? (fun i => ahO b i.n a.n && readyIn b left i) with
    | some i => some i
    | none => left.find? (fun i => readyIn b left i)
def orderFrom (b : List Nat) : Nat -> List Info -> List Info
 | 0,_ => []
 | k + 1,left =>
  match nextOf b left with
  | some i => i :: orderFrom b k (left.filter fun j => !(Nat.beq j.n i.n))
  | none => []
def linesOf (b : List Nat) : List Info -> List Info -> List XLn
 | _,[] => []
 | done,i :: r =>
  { step := i.step,again := match loud i.sort with
    | true => (done.filter fun j => decide (j.sort = .reads) && !(ahO b j.n i.n)).map (·.step)
    | false => [] } :: linesOf b (done ++ [i]) r
def addEdge (b : List Nat) (x y : Nat) : List Nat :=
 b.zipIdx.map fun (m,j) => match Nat.beq j y || m.testBit y with
  | true => m ||| 2 ^ x ||| b.getD x 0
  | false => m
def conflict (b : List Nat) (l : List Info) : Option (Nat × Nat) :=
 (l.findSome? fun i => (l.find? fun j => decide (i.sort = .acts) && decide (j.sort = .acts) && unordered b i j).map fun j => (i.n,j.n))
def vars (ops : Array Oper) (l : List Info) : Nat -> List Nat -> Option (List (List XLn))
 | k,b => match conflict b l with
  | none =>
   let o := orderFrom b l.length l
   match slotsOk b l && readsOk b l && pairsOk b o o && edgesOk ops.size 0 ops.toList && Nat.beq o.length l.length && !((linesOf b [] o).any isMark) with
   | true => some [linesOf b [] o]
   | false => none
  | some (x,y) => match k with
   | 0 => none
   | k + 1 => match Nat.beq x y || !(Nat.blt x b.length) || !(Nat.blt y b.length) with
    | true => none
    | false => match vars ops l k (addEdge b x y),vars ops l k (addEdge b y x) with
     | some u,some v => some (u ++ v)
     | _,_ => none
def total (b : List Nat) (n : Nat) : Bool := (List.range n).all fun j => (List.range j).all fun i => ahO b i j && !(ahO b j i)
def compRegion (ntmps : Nat) (ops : Array Oper) (draw : Bool) : Option XCode :=
 match compSteps P ntmps ops ops.toList with
 | none => none
 | some ss => match draw with
  | false => some (.region false (ss.map fun s => { step := s,again := [] }))
  | true =>
   let b := (Region.before ops).toList
   let l := infos ops 0 ops.toList ss
   match total b ops.size && edgesOk ops.size 0 ops.toList && P.follows .mixedOrders with
   | true => some (.region false (ss.map fun s => { step := s,again := [] }))
   | false => match vars ops l 3 b with
    | some [ls] => some (.region true ls)
    | some vs => some (.region true (marked vs))
    | none => none
def compCode (ntmps : Nat) : Code -> Option XCode
 | .skip => some .skip
 | .region _ ops draw => compRegion P ntmps ops draw
 | .seq a b => match compCode ntmps a,compCode ntmps b with
  | some a,some b => some (.seq a b)
  | _,_ => none
 | .cond c t e => match opd c,compCode ntmps t,compCode ntmps e with
  | some c,some t,some e => some (.cond c t e)
  | _,_,_ => none
 | .block id c => match compCode ntmps c with
  | some c => some (.block id c)
  | none => none
 | .loop c => match compCode ntmps c with
  | some c => some (.loop c)
  | none => none
 | .rangeFunc f ps as bo => match opd f,compCode ntmps as,compCode ntmps bo with
  | some f,some as,some bo => match ps.toList.all (fun p => Nat.blt p ntmps) with
   | true => some (.rangeFunc f ps.toList as bo)
   | false => none
  | _,_,_ => none
 | .exit id => some (.exit id)
 | .ret => some .ret
 | .scope c => match compCode ntmps c with
  | some c => some (.scope c)
  | none => none
 | .label _ => some .label
 | _ => none
def compRes : List ResultVar -> Option (List XRes)
 | [] => some []
 | .tmp t :: r => match compRes r with
  | some r => some (.tmp t :: r)
  | none => none
 | .cell a t :: r => match aggOf P t,sizOf P t,compRes r with
  | some g,some n,some r => some (.cell a g (match g with | true => n | false => 1) :: r)
  | _,_,_ => none
def cmF (f : Func) : Option XFunc :=
 match f.body with
 | none => none
 | some c => match compCode P f.ntmps c,compRes P f.results.toList with
  | some code,some results => some { code,results }
  | _,_ => none
end
@[reducible] def xM (d a : Nat) : XLn := ⟨⟨.mv (.slot a),some d,none⟩,[]⟩
@[reducible] def xL (d : Nat) (op : XOp) : XLn := ⟨⟨op,some d,none⟩,[]⟩
end Go.Xr
namespace Go.Xr
open Go.RowKit
namespace Tr
variable {α : Type}
theorem get_lf (m : Nat) : (Tr.lf : Tr α).get m = none := by unfold get; rfl
theorem get_nd_zero (l r : Tr α) (v : Option α) : (Tr.nd l v r).get 0 = v := by unfold get; rfl
theorem get_nd_succ (l r : Tr α) (v : Option α) (k : Nat) : (Tr.nd l v r).get (k + 1) = if k % 2 = 0 then l.get (k / 2) else r.get (k / 2) := by
 rw [get]
 show (match Nat.beq (k % 2) 0 with | true => l.get (k / 2) | false => r.get (k / 2)) = _
 by_cases h : k % 2 = 0
 ·have : Nat.beq (k % 2) 0 = true := by rw [Nat.beq_eq]; exact h
  rw [if_pos h,this]
 ·have : Nat.beq (k % 2) 0 = false := by
   cases hb : Nat.beq (k % 2) 0 with
   | false => rfl
   | true => exact absurd (Nat.eq_of_beq_eq_true hb) h
  rw [if_neg h,this]
theorem parity (k : Nat) : (k % 2 = 0 /\ Nat.beq (Nat.mod k 2) 0 = true) \/ (k % 2 ≠ 0 /\ Nat.beq (Nat.mod k 2) 0 = false) := by
 show (k % 2 = 0 /\ Nat.beq (k % 2) 0 = true) \/ (k % 2 ≠ 0 /\ Nat.beq (k % 2) 0 = false)
 by_cases h : k % 2 = 0
 ·exact .inl ⟨h,by rw [Nat.beq_eq]; exact h⟩
 ·refine .inr ⟨h,?_⟩
  cases hb : Nat.beq (k % 2) 0 with
  | false => rfl
  | true => exact absurd (Nat.eq_of_beq_eq_true hb) h
theorem get_setF (x : α) : ∀ (f n : Nat) (t : Tr α) (m : Nat),n < f -> (setF f t n x).get m = if m = n then some x else t.get m := by
 intro f
 induction f with
 | zero => intro n t m h; omega
 | succ f ih =>
  intro n t m h
  cases t with
  | lf =>
   cases n with
   | zero =>
    simp only [setF]
    cases m with
    | zero => simp [get_nd_zero]
    | succ m => simp [get_nd_succ,get_lf]
   | succ k =>
    simp only [setF]
    cases m with
    | zero => rcases parity k with ⟨_,hb⟩ | ⟨_,hb⟩ <;> simp [hb,get_nd_zero,get_lf]
    | succ m =>
     rcases parity k with ⟨hk,hb⟩ | ⟨hk,hb⟩ <;> simp only [hb]
     ·rw [get_nd_succ,ih _ _ _ (by show k / 2 < f; omega)]
      simp only [get_lf]
      by_cases hm : m % 2 = 0
      ·rw [if_pos hm]
       by_cases e : m + 1 = k + 1
       ·rw [if_pos e,if_pos (by show m / 2 = k / 2; omega)]
       ·rw [if_neg e,if_neg (by show ¬ m / 2 = k / 2; omega)]
      ·rw [if_neg hm,if_neg (by omega)]
     ·rw [get_nd_succ,ih _ _ _ (by show k / 2 < f; omega)]
      simp only [get_lf]
      by_cases hm : m % 2 = 0
      ·rw [if_pos hm,if_neg (by omega)]
      ·rw [if_neg hm]
       by_cases e : m + 1 = k + 1
       ·rw [if_pos e,if_pos (by show m / 2 = k / 2; omega)]
       ·rw [if_neg e,if_neg (by show ¬ m / 2 = k / 2; omega)]
  | nd l v r =>
   cases n with
   | zero =>
    simp only [setF]
    cases m with
    | zero => simp [get_nd_zero]
    | succ m => simp [get_nd_succ]
   | succ k =>
    simp only [setF]
    cases m with
    | zero => rcases parity k with ⟨_,hb⟩ | ⟨_,hb⟩ <;> simp [hb,get_nd_zero]
    | succ m =>
     rcases parity k with ⟨hk,hb⟩ | ⟨hk,hb⟩ <;> simp only [hb]
     ·rw [get_nd_succ,get_nd_succ,ih _ _ _ (by show k / 2 < f; omega)]
      by_cases hm : m % 2 = 0
      ·rw [if_pos hm,if_pos hm]
       by_cases e : m + 1 = k + 1
       ·rw [if_pos e,if_pos (by show m / 2 = k / 2; omega)]
       ·rw [if_neg e,if_neg (by show ¬ m / 2 = k / 2; omega)]
      ·rw [if_neg hm,if_neg hm,if_neg (by omega)]
     ·rw [get_nd_succ,get_nd_succ,ih _ _ _ (by show k / 2 < f; omega)]
      by_cases hm : m % 2 = 0
      ·rw [if_pos hm,if_pos hm,if_neg (by omega)]
      ·rw [if_neg hm,if_neg hm]
       by_cases e : m + 1 = k + 1
       ·rw [if_pos e,if_pos (by show m / 2 = k / 2; omega)]
       ·rw [if_neg e,if_neg (by show ¬ m / 2 = k / 2; omega)]
theorem get_set (t : Tr α) (n m : Nat) (x : α) : (t.set n x).get m = if m = n then some x else t.get m := get_setF x _ _ _ _ (Nat.lt_succ_self n)
end Tr
theorem Heap.get_put (h : Heap) (o o' : Nat) (x : XObj) : (h.put o x).get o' = if o' = o then some x else h.get o' := Tr.get_set _ _ _ _
theorem Heap.get_push (h : Heap) (o' : Nat) (x : XObj) : (h.push x).get o' = if o' = h.next then some x else h.get o' := Tr.get_set _ _ _ _
@[simp] theorem Heap.next_put (h : Heap) (o : Nat) (x : XObj) : (h.put o x).next = h.next := rfl
@[simp] theorem Heap.next_push (h : Heap) (x : XObj) : (h.push x).next = h.next + 1 := rfl
theorem sSe (t : Tr V) (i j : Nat) (v : V) : sO (t.set i v) j = if j = i then v else sO t j := by
 unfold sO
 rw [Tr.get_set]
 by_cases h : j = i
 ·rw [if_pos h,if_pos h]
 ·rw [if_neg h,if_neg h]
structure Loc where
 blk : Nat
 base : Nat
 kap : Nat
 esz : Nat
class RoLim where
 lim : Nat
abbrev Mu := Nat -> Nat -> Option Loc
def Mu.le (μ μ' : Mu) : Prop := ∀ o g l,μ o g = some l -> μ' o g = some l
theorem Mu.le_refl (μ : Mu) : μ.le μ := fun _ _ _ h => h
theorem Mu.le_trans {a b c : Mu} (h : a.le b) (h' : b.le c) : a.le c := fun _ _ _ x => h' _ _ _ (h _ _ _ x)
def Mu.put (μ : Mu) (o g : Nat) (l : Loc) : Mu := fun o' g' => if o' = o /\ g' = g then some l else μ o' g'
theorem Mu.put_same (μ : Mu) (o g : Nat) (l : Loc) : (μ.put o g l) o g = some l := if_pos ⟨rfl,rfl⟩
theorem Mu.put_other (μ : Mu) {o g o' g' : Nat} (l : Loc) (h : ¬ (o' = o /\ g' = g)) : (μ.put o g l) o' g' = μ o' g' := if_neg h
theorem Mu.le_put {μ : Mu} {o g : Nat} (l : Loc) (h : μ o g = none) : μ.le (μ.put o g l) := fun o' g' l' h' => by
 rw [Mu.put_other]
 ·exact h'
 ·rintro ⟨rfl,rfl⟩
  rw [h] at h'
  cases h'
mutual
inductive VR (μ : Mu) : V -> Value -> Prop
 | int (k : IntKind) (n : Int) : VR μ (.int k n) (.int k n)
 | bool (b : Bool) : VR μ (.bool b) (.bool b)
 | str (s : ByteArray) : VR μ (.str s) (.string s)
 | nilp : VR μ .nilp (.pointer none)
 | ptr {o g off : Nat} {l : Loc} (h : μ o g = some l) : VR μ (.ptr o g off) (.pointer (some ⟨l.blk,l.base + off,none⟩))
 | nils : VR μ .nils (.slice none 0 0)
 | exact {o g off len c : Nat} {l : Loc} (h : μ o g = some l) (a : Addr) (ha : a = ⟨l.blk,l.base + off,none⟩ \/ (len = 0 /\ c = 0)) (hc : len <= c) : VR μ (.slice o g off len (.exact c)) (.slice (some a) len c)
 | rest {o g off len n e : Nat} {l : Loc} (h : μ o g = some l) (a : Addr) (ha : a = ⟨l.blk,l.base + off,none⟩ \/ (len = 0 /\ l.kap = n)) (hn : len + n <= l.kap) (ho : off = n * l.esz) (he : l.esz = e) :
   VR μ (.slice o g off len (.rest n e)) (.slice (some a) len (l.kap - n))
 | nilm : VR μ .nilm (.map none)
 | map {o : Nat} {l : Loc} (h : μ o 0 = some l) : VR μ (.map o) (.map (some l.blk))
 | nilf : VR μ .nilf .nilFunc
 | func {f : Nat} {a b : List V} {a' b' : List Value} (h : VRs μ a a') (h' : VRs μ b b') : VR μ (.func f a b) (.func (.func f) a'.toArray b'.toArray)
 | yield {o : Nat} {l : Loc} (h : μ o 0 = some l) : VR μ (.yield o) (.func (.yield l.blk) #[] #[])
 | nili : VR μ .nili .nilIface
 | iface {t : Nat} {v : V} {v' : Value} (h : VR μ v v') : VR μ (.iface t v) (.iface t v')
 | iter {o : Nat} {l : Loc} (h : μ o 0 = some l) : VR μ (.iter o) (.pointer (some ⟨l.blk,0,none⟩))
 | agg {a : List V} {a' : List Value} (h : VRs μ a a') : VR μ (.agg a) (.agg a'.toArray)
 | tup {a : List V} {a' : List Value} (h : VRs μ a a') : VR μ (.tup a) (.tuple a'.toArray)
 | any {x : Value} (h : x.cells = #[x]) : VR μ .any x
 | hole {o : Nat} {x : Value} (h : x.cells = #[x]) : VR μ (.hole o) x
 | stamp {o : Nat} {l : Loc} (h : μ o 0 = some l) : VR μ (.stamp o) (.int .i64 (l.base : Int))
inductive VRs (μ : Mu) : List V -> List Value -> Prop
 | nil : VRs μ [] []
 | cons {v : V} {v' : Value} {a : List V} {a' : List Value} (h : VR μ v v') (h' : VRs μ a a') : VRs μ (v :: a) (v' :: a')
end
mutual
theorem VR.mono {μ μ' : Mu} (hm : μ.le μ') : ∀ {v : V} {x : Value},VR μ v x -> VR μ' v x
 | _,_,.int k n => .int k n
 | _,_,.bool b => .bool b
 | _,_,.str s => .str s
 | _,_,.nilp => .nilp
 | _,_,.ptr h => .ptr (hm _ _ _ h)
 | _,_,.nils => .nils
 | _,_,.exact h a ha hc => .exact (hm _ _ _ h) a ha hc
 | _,_,.rest h a ha hn ho he => .rest (hm _ _ _ h) a ha hn ho he
 | _,_,.nilm => .nilm
 | _,_,.map h => .map (hm _ _ _ h)
 | _,_,.nilf => .nilf
 | _,_,.func h h' => .func (VRs.mono hm h) (VRs.mono hm h')
 | _,_,.yield h => .yield (hm _ _ _ h)
 | _,_,.nili => .nili
 | _,_,.iface h => .iface (VR.mono hm h)
 | _,_,.iter h => .iter (hm _ _ _ h)
 | _,_,.agg h => .agg (VRs.mono hm h)
 | _,_,.tup h => .tup (VRs.mono hm h)
 | _,_,.any h => .any h
 | _,_,.hole h => .hole h
 | _,_,.stamp h => .stamp (hm _ _ _ h)
theorem VRs.mono {μ μ' : Mu} (hm : μ.le μ') : ∀ {v : List V} {x : List Value},VRs μ v x -> VRs μ' v x
 | _,_,.nil => .nil
 | _,_,.cons h h' => .cons (VR.mono hm h) (VRs.mono hm h')
end
theorem VRs.length {μ : Mu} : ∀ {a : List V} {b : List Value},VRs μ a b -> a.length = b.length
 | _,_,.nil => rfl
 | _,_,.cons _ h => by simp [VRs.length h]
theorem VRs.get {μ : Mu} : ∀ {a : List V} {b : List Value},VRs μ a b -> ∀ {i : Nat} {v : V},a[i]? = some v -> ∃ x,b[i]? = some x /\ VR μ v x
 | _,_,.nil,i,v,h => by simp at h
 | _,_,.cons h h',0,v,e => by simp at e; subst e; exact ⟨_,rfl,h⟩
 | _,_,.cons h h',i + 1,v,e => by simp at e ⊢; exact VRs.get h' e
theorem VRs.append {μ : Mu} : ∀ {a : List V} {b : List Value},VRs μ a b -> ∀ {c : List V} {d : List Value},VRs μ c d -> VRs μ (a ++ c) (b ++ d)
 | _,_,.nil,_,_,h => h
 | _,_,.cons h h',_,_,k => .cons h (VRs.append h' k)
theorem VRs.take {μ : Mu} (n : Nat) : ∀ {a : List V} {b : List Value},VRs μ a b -> VRs μ (a.take n) (b.take n) := by
 induction n with
 | zero => intro a b _; simp; exact .nil
 | succ n ih => intro a b h; cases h with
  | nil => simp; exact .nil
  | cons h h' => simp; exact .cons h (ih h')
theorem VRs.drop {μ : Mu} (n : Nat) : ∀ {a : List V} {b : List Value},VRs μ a b -> VRs μ (a.drop n) (b.drop n) := by
 induction n with
 | zero => intro a b h; simpa using h
 | succ n ih => intro a b h; cases h with
  | nil => simp; exact .nil
  | cons h h' => simp; exact ih h'
theorem VRs.of_get {μ : Mu} : ∀ (a : List V) (b : List Value),a.length = b.length -> (∀ (i : Nat) (v : V) (x : Value),a[i]? = some v -> b[i]? = some x -> VR μ v x) -> VRs μ a b
 | [],[],_,_ => .nil
 | v :: a,x :: b,hl,h => .cons (h 0 v x rfl rfl) (VRs.of_get a b (by simpa using hl) fun i v x e e' => h (i + 1) v x (by simpa using e) (by simpa using e'))
 | [],_ :: _,hl,_ => by simp at hl
 | _ :: _,[],hl,_ => by simp at hl
theorem VRs.replicate {μ : Mu} {v : V} {x : Value} (h : VR μ v x) (n : Nat) : VRs μ (List.replicate n v) (List.replicate n x) := by
 induction n with
 | zero => exact .nil
 | succ n ih => simp only [List.replicate_succ]; exact .cons h ih
theorem VRs.repl {μ : Mu} {a : List V} {b : List Value} (h : VRs μ a b) (n : Nat) : VRs μ (Xr.repl n a) ((List.replicate n b).flatten) := by
 unfold Xr.repl
 induction n with
 | zero => exact .nil
 | succ n ih => simp only [List.replicate_succ,List.flatten_cons]; exact h.append ih
theorem VR.cells {μ : Mu} {v : V} {x : Value} (h : VR μ v x) : VRs μ v.cellsOf x.cells.toList := by
 cases h with
 | agg h => simpa [V.cellsOf,Value.cells] using h
 | any h => rw [h]; exact .cons (.any h) .nil
 | hole h => rw [h]; exact .cons (.hole h) .nil
 | _ => simp only [V.cellsOf,Value.cells]; exact .cons (by constructor <;> assumption) .nil
theorem VR.one {μ : Mu} {v : V} {x : Value} (h : VR μ v x) (ho : v.one = true) : x.oneCell' = true := by
 cases h <;> first | rfl | (simp [V.one] at ho)
theorem VR.undef (μ : Mu) : VR μ V.undef Go.undef := .tup .nil
end Go.Xr
namespace Go.Xr
open Go.RowKit
def LiveX : XObj -> Nat -> Prop
 | .cells c,g => ∃ L,c.lenOf g = some L
 | .dead _,_ => False
 | _,g => g = 0
def Live (h : Heap) (o g : Nat) : Prop := ∃ x,h.get o = some x /\ LiveX x g
def roX : XObj -> Prop
 | .cells c => c.ro = true
 | _ => False
def isRo (h : Heap) (o : Nat) : Prop := ∃ x,h.get o = some x /\ roX x
def genX : XObj -> Nat -> Prop
 | .cells c,g => g <= c.g
 | .dead true,_ => True
 | _,g => g = 0
def CellsAt (μ : Mu) (w : World) (c : Cells) (o g L : Nat) : Prop :=
 ∃ l arr et fz,μ o g = some l /\ l.esz = c.esz /\ w.heap[l.blk]? = some (.cells arr et fz) /\ (c.ro = false -> fz = (0,0)) /\
  L <= c.cs.length /\ (∀ (i : Nat) (v : V),i < L -> c.cs[i]? = some v -> ∃ x,arr[l.base + i]? = some x /\ VR μ v x) /\
  (g = c.g -> c.spare = true -> L <= l.kap * l.esz /\ l.base + l.kap * l.esz <= arr.size /\ 0 < l.esz) /\ (c.spare = false -> l.base = 0)
def SameBase (μ : Mu) (c : Cells) (o : Nat) : Prop :=
 ∀ g g' L L' l l',c.lenOf g = some L -> c.lenOf g' = some L' -> μ o g = some l -> μ o g' = some l' -> l.blk = l'.blk -> l.base = l'.base
structure MR (μ : Mu) (kd : IntKind) (es : List (Int × V)) (es' : List MapEntry) (clock : Nat) : Prop where
 there : ∀ e ∈ es', ∃ n v,e.key = .int kd n /\ hasKey n es = some v /\ VR μ v e.val
 back : ∀ n v,hasKey n es = some v -> ∃ e ∈ es',e.key = .int kd n
 size : es.length = es'.length
 keys : es'.Pairwise fun a b => a.key ≠ b.key
 stamps : es'.Pairwise fun a b => a.born ≠ b.born
 young : ∀ e ∈ es',e.born < clock
 sorted : es.Pairwise fun a b => a.1 < b.1
 open_ : ∀ e ∈ es', ∀ n o,e.key = .int kd n -> hasKey n es = some (.hole o) -> ∃ l,μ o 0 = some l /\ l.base = e.born
def jumpR : Option (Option Nat) -> Option Code -> Prop
 | none,none => True
 | some none,some .ret => True
 | some (some id),some (.exit id') => id = id'
 | _,_ => False
def SR (μ : Mu) (t : Tr V) (tmps : Array Value) : Prop := ∀ i,VR μ (sO t i) (tmps.getD i undef)
structure LoopR (P : Program) (μ : Mu) (s : LoopState) (jump : Option (Option Nat)) (t : Tr V) (ps : List Nat) (as bo : XCode) (k : Nat) (r : Loop) : Prop where
 state : r.state = s
 jump : jumpR jump r.pending
 tmps : SR μ t r.tmps
 code : ∃ n,n <= r.tmps.size /\ compCode P n r.assign = some as /\ compCode P n r.body = some bo /\ ∀ p ∈ ps,p < n
 params : r.params.toList = ps
 defers : ∃ lk,μ k 0 = some lk /\ r.defers = lk.blk
def OR (P : Program) (μ : Mu) (w : World) (o : Nat) : XObj -> Prop
 | .cells c => (∀ g L,c.lenOf g = some L -> CellsAt μ w c o g L) /\ c.lens.Pairwise (fun a b => b <= a) /\ SameBase μ c o
 | .map kd es _ => ∃ l es' clock,μ o 0 = some l /\ w.heap[l.blk]? = some (.map es' clock) /\ MR μ kd es es'.toList clock
 | .miter none _ _ _ => ∃ l,μ o 0 = some l /\ ∃ s se st,w.heap[l.blk]? = some (.mapIter none s se st)
 | .miter (some m) _ _ _ => ∃ l,μ o 0 = some l /\ ∃ lm,μ m 0 = some lm /\ ∃ s se st,w.heap[l.blk]? = some (.mapIter (some lm.blk) s se st)
 | .loop s jump t ps as bo k => ∃ l,μ o 0 = some l /\ ∃ r,w.heap[l.blk]? = some (.loop r) /\ LoopR P μ s jump t ps as bo k r
 | .deferred taken => ∃ l,μ o 0 = some l /\ w.heap[l.blk]? = some (.deferred (match taken with | true => none | false => some []))
 | .dead _ => True
def IterOk (μ : Mu) (w : World) (kd : IntKind) (mo o : Nat) (seen : List Int) (cur : Option Int) : Prop :=
 ∀ lm l es' clock,μ mo 0 = some lm -> μ o 0 = some l -> w.heap[lm.blk]? = some (.map es' clock) ->
  ∃ seen',w.heap[l.blk]? = some (.mapIter (some lm.blk) clock seen' clock) /\
   (∀ e ∈ es'.toList, ∀ n,e.key = .int kd n -> (seen'.contains e.born = true ↔ n ∈ seen)) /\
   (∀ k,cur = some k -> ∃ st,seen'.back? = some st /\ ∀ e ∈ es'.toList,(e.born = st ↔ e.key = .int kd k))
structure Rel [RoLim] (P : Program) (K : Nat -> Prop) (w0 : World) (μ : Mu) (h : Heap) (w : World) : Prop where
 dom : ∀ o g l,μ o g = some l -> o < h.next /\ l.blk < w.heap.size
 gens : ∀ o g l x,μ o g = some l -> h.get o = some x -> genX x g
 obj : ∀ o x,h.get o = some x -> o < h.next /\ OR P μ w o x
 iters : ∀ o mo ins seen cur kd es ins',h.get o = some (.miter (some mo) ins seen cur) -> h.get mo = some (.map kd es ins') -> ins <= ins' /\ (ins = ins' -> IterOk μ w kd mo o seen cur)
 apart : ∀ o g l o' g' l',Live h o g -> Live h o' g' -> μ o g = some l -> μ o' g' = some l' -> l.blk = l'.blk -> o = o' \/ (isRo h o /\ isRo h o')
 own : ∀ o g l,Live h o g -> μ o g = some l -> (isRo h o /\ l.blk < RoLim.lim) \/ ¬ K l.blk
 kept : ∀ b,K b -> b < w0.heap.size /\ w.heap[b]? = w0.heap[b]?
 os : w.os = w0.os
 tape : w.tape = w0.tape
 output : w.output = w0.output
 size : w0.heap.size <= w.heap.size
 low : RoLim.lim <= w0.heap.size
def Mine (K : Nat -> Prop) (μ : Mu) (h : Heap) (o b : Nat) : Prop :=
 ¬ K b /\ ∀ o' g' l',o' ≠ o -> Live h o' g' -> μ o' g' = some l' -> l'.blk ≠ b
section
variable [RoLim] {P : Program} {K : Nat -> Prop} {w0 : World} {μ μ' : Mu} {h h' : Heap} {w w' : World}
theorem Rel.mine_fresh (R : Rel P K w0 μ h w) (o : Nat) {b : Nat} (hb : w.heap.size <= b) : Mine K μ h o b := by
 refine ⟨fun hk => ?_,fun o' g' l' _ _ hm e => ?_⟩
 ·have := (R.kept b hk).1; have := R.size; omega
 ·have := (R.dom o' g' l' hm).2; omega
theorem Rel.mine_live (R : Rel P K w0 μ h w) {o g : Nat} {l : Loc} (hl : Live h o g) (hm : μ o g = some l) (hro : ¬ isRo h o) : Mine K μ h o l.blk := by
 refine ⟨(R.own o g l hl hm).resolve_left fun q => hro q.1,fun o' g' l' hne hl' hm' e => ?_⟩
 rcases R.apart o' g' l' o g l hl' hl hm' hm e with h | h
 ·exact hne h
 ·exact hro h.2
omit [RoLim] in
theorem CellsAt.frame {c : Cells} {o g L : Nat} (hc : CellsAt μ w c o g L) (hle : μ.le μ') (hb : ∀ l,μ o g = some l -> w'.heap[l.blk]? = w.heap[l.blk]?) : CellsAt μ' w' c o g L := by
 obtain ⟨l,arr,et,fz,h1,h2,h3,h4,h5,h6,h7⟩ := hc
 exact ⟨l,arr,et,fz,hle _ _ _ h1,h2,(hb l h1).trans h3,h4,h5,fun i v hi hv => let ⟨x,hx,hr⟩ := h6 i v hi hv; ⟨x,hx,hr.mono hle⟩,h7⟩
omit [RoLim] in
theorem MR.mono {kd : IntKind} {es : List (Int × V)} {es' : List MapEntry} {clock : Nat} (hr : MR μ kd es es' clock) (hle : μ.le μ') : MR μ' kd es es' clock :=
 ⟨fun e he => let ⟨n,v,a,b,c⟩ := hr.there e he; ⟨n,v,a,b,c.mono hle⟩,hr.back,hr.size,hr.keys,hr.stamps,hr.young,hr.sorted,fun e he n o a b => let ⟨l,c,d⟩ := hr.open_ e he n o a b; ⟨l,hle _ _ _ c,d⟩⟩
omit [RoLim] in
theorem SR.mono {t : Tr V} {tmps : Array Value} (hs : SR μ t tmps) (hle : μ.le μ') : SR μ' t tmps := fun i => (hs i).mono hle
omit [RoLim] in
theorem LoopR.mono {s : LoopState} {jump : Option (Option Nat)} {t : Tr V} {ps : List Nat} {as bo : XCode} {k : Nat} {r : Loop} (hr : LoopR P μ s jump t ps as bo k r) (hle : μ.le μ') : LoopR P μ' s jump t ps as bo k r :=
 ⟨hr.state,hr.jump,hr.tmps.mono hle,hr.code,hr.params,let ⟨lk,a,b⟩ := hr.defers; ⟨lk,hle _ _ _ a,b⟩⟩
omit [RoLim] in
theorem OR.frame {o : Nat} {x : XObj} (hx : OR P μ w o x) (hle : μ.le μ') (hb : ∀ g l,LiveX x g -> μ o g = some l -> w'.heap[l.blk]? = w.heap[l.blk]?) : OR P μ' w' o x := by
 cases x with
 | cells c =>
  obtain ⟨h1,h2,h3⟩ := hx
  refine ⟨fun g L hL => (h1 g L hL).frame hle fun l hl => hb g l ⟨L,hL⟩ hl,h2,fun g g' L L' l l' hL hL' hm hm' => ?_⟩
  obtain ⟨l0,_,_,_,e0,_⟩ := h1 g L hL
  obtain ⟨l1,_,_,_,e1,_⟩ := h1 g' L' hL'
  have q0 := hle _ _ _ e0
  have q1 := hle _ _ _ e1
  rw [hm] at q0
  rw [hm'] at q1
  cases q0
  cases q1
  exact h3 g g' L L' l l' hL hL' e0 e1
 | map kd es ins =>
  obtain ⟨l,es',clock,h1,h2,h3⟩ := hx
  exact ⟨l,es',clock,hle _ _ _ h1,(hb 0 l rfl h1).trans h2,h3.mono hle⟩
 | miter m ins seen cur =>
  cases m with
  | none =>
   obtain ⟨l,h1,s,se,st,h2⟩ := hx
   exact ⟨l,hle _ _ _ h1,s,se,st,(hb 0 l rfl h1).trans h2⟩
  | some m =>
   obtain ⟨l,h1,lm,h3,s,se,st,h2⟩ := hx
   exact ⟨l,hle _ _ _ h1,lm,hle _ _ _ h3,s,se,st,(hb 0 l rfl h1).trans h2⟩
 | loop s jump t ps as bo k =>
  obtain ⟨l,h1,r,h2,h3⟩ := hx
  exact ⟨l,hle _ _ _ h1,r,(hb 0 l rfl h1).trans h2,h3.mono hle⟩
 | deferred taken =>
  obtain ⟨l,h1,h2⟩ := hx
  exact ⟨l,hle _ _ _ h1,(hb 0 l rfl h1).trans h2⟩
 | dead many => trivial
omit [RoLim] in
theorem OR.loc {o g : Nat} {x : XObj} (hx : OR P μ w o x) (hl : LiveX x g) : ∃ l,μ o g = some l := by
 cases x with
 | cells c => obtain ⟨L,hL⟩ := hl; obtain ⟨l,_,_,_,h1,_⟩ := hx.1 g L hL; exact ⟨l,h1⟩
 | map kd es ins => obtain ⟨l,_,_,h1,_⟩ := hx; cases hl; exact ⟨l,h1⟩
 | miter m ins seen cur => cases m <;> (obtain ⟨l,h1,_⟩ := hx; cases hl; exact ⟨l,h1⟩)
 | loop s jump t ps as bo k => obtain ⟨l,h1,_⟩ := hx; cases hl; exact ⟨l,h1⟩
 | deferred taken => obtain ⟨l,h1,_⟩ := hx; cases hl; exact ⟨l,h1⟩
 | dead many => exact hl.elim
theorem Rel.step (R : Rel P K w0 μ h w) (o : Nat) (x1 : XObj)
  (hle : μ.le μ') (hget : ∀ o',h'.get o' = if o' = o then some x1 else h.get o') (hnext : h.next <= h'.next) (ho : o < h'.next)
  (hsz : w.heap.size <= w'.heap.size) (hblk : ∀ b,b < w.heap.size -> w'.heap[b]? = w.heap[b]? \/ Mine K μ h o b)
  (hnew : ∀ o' g l,μ' o' g = some l -> μ o' g = some l \/ (o' = o /\ l.blk < w'.heap.size))
  (hlive : ∀ g l,LiveX x1 g -> μ' o g = some l -> Mine K μ h o l.blk)
  (hgen : ∀ g l,μ' o g = some l -> genX x1 g) (hor : OR P μ' w' o x1)
  (hit : ∀ oi mo ins seen cur kd es ins',h'.get oi = some (.miter (some mo) ins seen cur) -> h'.get mo = some (.map kd es ins') -> oi = o \/ mo = o -> ins <= ins' /\ (ins = ins' -> IterOk μ' w' kd mo oi seen cur))
  (hos : w'.os = w.os) (htape : w'.tape = w.tape) (hout : w'.output = w.output) : Rel P K w0 μ' h' w' := by
 have hother : ∀ o' g l,o' ≠ o -> μ' o' g = some l -> μ o' g = some l := fun o' g l hne hm => (hnew o' g l hm).resolve_right fun h => hne h.1
 have hliveo : ∀ o' g,o' ≠ o -> Live h' o' g -> Live h o' g := fun o' g hne ⟨x,hx,hl⟩ => ⟨x,by rw [hget,if_neg hne] at hx; exact hx,hl⟩
 have hlivex : ∀ g,Live h' o g -> LiveX x1 g := fun g ⟨x,hx,hl⟩ => by rw [hget,if_pos rfl] at hx; cases hx; exact hl
 have hsame : ∀ o' g l,o' ≠ o -> Live h o' g -> μ o' g = some l -> w'.heap[l.blk]? = w.heap[l.blk]? := fun o' g l hne hl hm =>
  (hblk l.blk (R.dom o' g l hm).2).resolve_right fun hmine => hmine.2 o' g l hne hl hm rfl
 have hroo : ∀ o',o' ≠ o -> (isRo h' o' ↔ isRo h o') := fun o' hne => by unfold isRo; rw [hget,if_neg hne]
 refine ⟨fun o' g l hm => ?_,fun o' g l x hm hx => ?_,fun o' x hx => ?_,fun oi mo ins seen cur kd es ins' h1 h2 => ?_,fun oa ga la ob gb lb hla hlb hma hmb e => ?_,
  fun o' g l hl hm => ?_,fun b hb => ?_,hos.trans R.os,htape.trans R.tape,hout.trans R.output,Nat.le_trans R.size hsz,R.low⟩
 ·rcases hnew o' g l hm with h1 | ⟨rfl,h2⟩
  ·have := R.dom o' g l h1; omega
  ·exact ⟨ho,h2⟩
 ·by_cases e : o' = o
  ·subst e
   rw [hget,if_pos rfl] at hx
   cases hx
   exact hgen g l hm
  ·rw [hget,if_neg e] at hx
   exact R.gens o' g l x (hother o' g l e hm) hx
 ·by_cases e : o' = o
  ·subst e
   rw [hget,if_pos rfl] at hx
   cases hx
   exact ⟨ho,hor⟩
  ·rw [hget,if_neg e] at hx
   exact ⟨Nat.lt_of_lt_of_le (R.obj o' x hx).1 hnext,(R.obj o' x hx).2.frame hle fun g l hl hm => hsame o' g l e ⟨x,hx,hl⟩ hm⟩
 ·by_cases e : oi = o \/ mo = o
  ·exact hit oi mo ins seen cur kd es ins' h1 h2 e
  ·have e1 : oi ≠ o := fun x => e (.inl x)
   have e2 : mo ≠ o := fun x => e (.inr x)
   rw [hget,if_neg e1] at h1
   rw [hget,if_neg e2] at h2
   obtain ⟨hi0,hi⟩ := R.iters oi mo ins seen cur kd es ins' h1 h2
   refine ⟨hi0,fun hins => ?_⟩
   have hi := hi hins
   intro lm l es' clock hm hl hw
   have hm' := hother _ _ _ e2 hm
   have hl' := hother _ _ _ e1 hl
   rw [hsame mo 0 lm e2 ⟨_,h2,rfl⟩ hm'] at hw
   obtain ⟨seen',a,b⟩ := hi lm l es' clock hm' hl' hw
   exact ⟨seen',(hsame oi 0 l e1 ⟨_,h1,rfl⟩ hl').trans a,b⟩
 ·by_cases ea : oa = o
  ·by_cases eb : ob = o
   ·exact .inl (ea.trans eb.symm)
   ·subst ea
    exact absurd e.symm ((hlive ga la (hlivex ga hla) hma).2 ob gb lb eb (hliveo ob gb eb hlb) (hother ob gb lb eb hmb))
  ·by_cases eb : ob = o
   ·subst eb
    exact absurd e ((hlive gb lb (hlivex gb hlb) hmb).2 oa ga la ea (hliveo oa ga ea hla) (hother oa ga la ea hma))
   ·rw [hroo _ ea,hroo _ eb]
    exact R.apart oa ga la ob gb lb (hliveo oa ga ea hla) (hliveo ob gb eb hlb) (hother oa ga la ea hma) (hother ob gb lb eb hmb) e
 ·by_cases e : o' = o
  ·subst e
   exact .inr (hlive g l (hlivex g hl) hm).1
  ·rw [hroo _ e]
   exact R.own o' g l (hliveo o' g e hl) (hother o' g l e hm)
 ·obtain ⟨h1,h2⟩ := R.kept b hb
  refine ⟨h1,?_⟩
  rw [<- h2]
  exact (hblk b (Nat.lt_of_lt_of_le h1 R.size)).resolve_right fun hm => hm.1 hb
theorem Rel.drawn (R : Rel P K w0 μ h w) {w' : World} (hh : w'.heap = w.heap) (hos : w'.os = w.os) (htape : w'.tape = w.tape) (hout : w'.output = w.output) : Rel P K w0 μ h w' := by
 refine ⟨fun o g l hm => by rw [hh]; exact R.dom o g l hm,R.gens,fun o x hx => ⟨(R.obj o x hx).1,(R.obj o x hx).2.frame (Mu.le_refl μ) fun _ _ _ _ => by rw [hh]⟩,
  fun o mo ins seen cur kd es ins' h1 h2 => ?_,R.apart,R.own,fun b hb => by rw [hh]; exact R.kept b hb,hos.trans R.os,htape.trans R.tape,hout.trans R.output,by rw [hh]; exact R.size,R.low⟩
 have := R.iters o mo ins seen cur kd es ins' h1 h2
 unfold IterOk at *
 rw [hh]
 exact this
theorem Rel.keep (R : Rel P K w0 μ h w) (K' : Nat -> Prop) (hK : ∀ b,K' b -> b < w.heap.size) (hown : ∀ o g l,Live h o g -> μ o g = some l -> (isRo h o /\ l.blk < RoLim.lim) \/ ¬ K' l.blk) : Rel P K' w μ h w :=
 ⟨R.dom,R.gens,R.obj,R.iters,R.apart,hown,fun b hb => ⟨hK b hb,rfl⟩,rfl,rfl,rfl,Nat.le_refl _,Nat.le_trans R.low R.size⟩
theorem Rel.loc (R : Rel P K w0 μ h w) {o g : Nat} (hl : Live h o g) : ∃ l,μ o g = some l :=
 let ⟨x,hx,hl⟩ := hl
 (R.obj o x hx).2.loc hl
end
end Go.Xr
namespace Go.Xr
open Go.RowKit
theorem addr_add (b off j : Nat) : (⟨b,off,none⟩ : Addr).add j = ⟨b,off + j,none⟩ := by
 unfold Addr.add
 split
 ·rename_i h; subst h; rfl
 ·rfl
theorem cell_of_block {w : World} {b i : Nat} {arr : Array Value} {et : TypeId} {fz : Nat × Nat} (h : w.heap[b]? = some (.cells arr et fz)) : w.cell? ⟨b,i,none⟩ = arr[i]? := by
 simp [World.cell?,h]
theorem frozen_of_block {w : World} {b i : Nat} {arr : Array Value} {et : TypeId} (h : w.heap[b]? = some (.cells arr et (0,0))) : w.frozen? ⟨b,i,none⟩ = false := by
 simp [World.frozen?,h]
theorem over_length : ∀ (cs : List V) (i : Nat) (vs : List V),(over cs i vs).length = cs.length
 | [],_,[] => by simp [over]
 | [],_,_ :: _ => by simp [over]
 | _ :: _,0,[] => by simp [over]
 | _ :: _,_ + 1,[] => by simp [over]
 | _ :: cs,0,_ :: vs => by simp [over,over_length cs 0 vs]
 | _ :: cs,i + 1,v :: vs => by simp [over,over_length cs i (v :: vs)]
theorem over_nil (cs : List V) (i : Nat) : over cs i [] = cs := by cases cs <;> cases i <;> rfl
theorem over_get : ∀ (cs : List V) (i : Nat) (vs : List V) (j : Nat),i + vs.length <= cs.length -> (over cs i vs)[j]? = if i <= j /\ j < i + vs.length then vs[j - i]? else cs[j]?
 | cs,i,[],j,_ => by rw [over_nil,if_neg (by simp)]
 | [],i,v :: vs,j,h => by simp at h
 | c :: cs,0,v :: vs,0,h => by simp [over]
 | c :: cs,0,v :: vs,j + 1,h => by
  simp only [over,List.getElem?_cons_succ]
  rw [over_get cs 0 vs j (by simp at h ⊢; omega)]
  by_cases e : j < vs.length
  ·rw [if_pos (by omega),if_pos (by simp; omega)]; simp
  ·rw [if_neg (by omega),if_neg (by simp; omega)]
 | c :: cs,i + 1,v :: vs,0,h => by
  simp only [over]; rw [if_neg (by omega)]; simp
 | c :: cs,i + 1,v :: vs,j + 1,h => by
  simp only [over,List.getElem?_cons_succ]
  rw [over_get cs i (v :: vs) j (by simp at h ⊢; omega)]
  by_cases e : i <= j /\ j < i + (v :: vs).length
  ·rw [if_pos e,if_pos (by omega)]; congr 1; omega
  ·rw [if_neg e,if_neg (by omega)]
theorem readCells_some {h : Heap} {o g off n : Nat} {vs : List V} (hr : rCs h o g off n = some vs) :
  ∃ c L,h.get o = some (.cells c) /\ c.lenOf g = some L /\ off + n <= L /\ vs = (c.cs.drop off).take n := by
 unfold rCs Heap.cells? at hr
 cases hg : h.get o with
 | none => simp [hg] at hr
 | some x =>
  cases x with
  | cells c =>
   simp only [hg] at hr
   cases hL : c.lenOf g with
   | none => simp [hL] at hr
   | some L =>
    simp only [hL] at hr
    cases hb : Nat.ble (off + n) L with
    | false => simp [hb] at hr
    | true =>
     simp only [hb] at hr
     exact ⟨c,L,rfl,hL,Nat.le_of_ble_eq_true hb,by cases hr; rfl⟩
  | _ => simp [hg] at hr
section
variable [RoLim] {P : Program} {K : Nat -> Prop} {w0 : World} {μ μ' : Mu} {h h' : Heap} {w w' : World}
theorem Rel.cellsAt (R : Rel P K w0 μ h w) {o g L : Nat} {c : Cells} (hg : h.get o = some (.cells c)) (hL : c.lenOf g = some L) : CellsAt μ w c o g L := (R.obj o _ hg).2.1 g L hL
theorem Rel.read (R : Rel P K w0 μ h w) {o g off n : Nat} {vs : List V} (hr : rCs h o g off n = some vs) {l : Loc} (hm : μ o g = some l) :
  ∃ xs,VRs μ vs xs /\ vs.length = n /\ xs.length = n /\ ∀ (j : Nat) x,xs[j]? = some x -> w.cell? ⟨l.blk,l.base + off + j,none⟩ = some x := by
 obtain ⟨c,L,hg,hL,hle,rfl⟩ := readCells_some hr
 obtain ⟨l',arr,et,fz,h1,h2,hblk,h4,h5,h6,h7⟩ := R.cellsAt hg hL
 rw [hm] at h1
 cases h1
 have hlen : ((c.cs.drop off).take n).length = n := by simp; omega
 have hget : ∀ j,j < n -> ∃ v x,((c.cs.drop off).take n)[j]? = some v /\ ((arr.toList.drop (l.base + off)).take n)[j]? = some x /\ arr[l.base + off + j]? = some x /\ VR μ v x := by
  intro j hj
  have hj2 : off + j < c.cs.length := by omega
  obtain ⟨x,hx,hv⟩ := h6 (off + j) c.cs[off + j] (by omega) (List.getElem?_eq_getElem hj2)
  refine ⟨c.cs[off + j],x,?_,?_,?_,hv⟩
  ·rw [List.getElem?_take,if_pos hj,List.getElem?_drop,List.getElem?_eq_getElem hj2]
  ·rw [List.getElem?_take,if_pos hj,List.getElem?_drop,Array.getElem?_toList, <- hx]; congr 1; omega
  ·rw [<- hx]; congr 1; omega
 have hlen' : ((arr.toList.drop (l.base + off)).take n).length = n := by
  cases n with
  | zero => simp
  | succ n =>
   obtain ⟨v,x,_,hx,_⟩ := hget n (by omega)
   have := (List.getElem?_eq_some_iff.1 hx).1
   have h2 := List.length_take_le (n + 1) (arr.toList.drop (l.base + off))
   omega
 refine ⟨(arr.toList.drop (l.base + off)).take n,VRs.of_get _ _ (by rw [hlen,hlen']) fun j v x e e' => ?_,hlen,hlen',fun j x e => ?_⟩
 ·have hj : j < n := by have := (List.getElem?_eq_some_iff.1 e).1; omega
  obtain ⟨v',x',h1,h2,_,h3⟩ := hget j hj
  rw [h1] at e; rw [h2] at e'
  cases e; cases e'
  exact h3
 ·have hj : j < n := by have := (List.getElem?_eq_some_iff.1 e).1; omega
  obtain ⟨v',x',_,h2,h3,_⟩ := hget j hj
  rw [h2] at e
  cases e
  rw [cell_of_block hblk]
  exact h3
omit [RoLim] in
theorem run_loadCells_read {b off : Nat} {xs : List Value} (hx : ∀ (j : Nat) x,xs[j]? = some x -> w.cell? ⟨b,off + j,none⟩ = some x) : (loadCells ⟨b,off,none⟩ xs.length).run P w = .ok xs.toArray w :=
 run_loadCells_list w _ _ fun j v hv => by rw [addr_add]; exact hx j v hv
omit [RoLim] in
theorem run_storeCells {b off : Nat} {et : TypeId} : ∀ (xs : List Value) (i : Nat) (w : World) (arr : Array Value),w.heap[b]? = some (.cells arr et (0,0)) -> (xs ≠ [] -> off + i + xs.length <= arr.size) ->
  (∀ x ∈ xs,x.oneCell' = true) ->
  ∃ w' arr',(storeCells ⟨b,off,none⟩ xs i).run P w = .ok () w' /\ w'.heap[b]? = some (.cells arr' et (0,0)) /\ arr'.size = arr.size /\
   (∀ j,arr'[j]? = if off + i <= j /\ j < off + i + xs.length then xs[j - (off + i)]? else arr[j]?) /\
   (∀ b',b' ≠ b -> w'.heap[b']? = w.heap[b']?) /\ w'.heap.size = w.heap.size /\ w'.os = w.os /\ w'.tape = w.tape /\ w'.output = w.output
 | [],i,w,arr,hb,_,_ => ⟨w,arr,rfl,hb,rfl,fun j => by rw [if_neg (by simp)],fun _ _ => rfl,rfl,rfl,rfl,rfl⟩
 | x :: xs,i,w,arr,hb,hs,ho => by
  have hs := hs (by simp)
  simp only [List.length_cons] at hs
  have hlt : off + i < arr.size := by omega
  have hcell : w.cell? ⟨b,off + i,none⟩ = some arr[off + i] := by rw [cell_of_block hb]; simp
  have hb1 : (w.setCell ⟨b,off + i,none⟩ x).heap[b]? = some (.cells (arr.setIfInBounds (off + i) x) et (0,0)) := by
   simp [World.setCell,Array.getElem?_modify,hb]
  obtain ⟨w',arr',h1,h2,h3,h4,h5,h6,h7,h8,h9⟩ := run_storeCells (off := off) xs (i + 1) (w.setCell ⟨b,off + i,none⟩ x) (arr.setIfInBounds (off + i) x) hb1 (fun _ => by simp only [Array.size_setIfInBounds]; omega) fun y hy => ho y (List.mem_cons_of_mem _ hy)
  refine ⟨w',arr',?_,h2,by simpa using h3,fun j => ?_,fun b' hb' => ?_,by simpa using h6,h7,h8,h9⟩
  ·unfold storeCells
   rw [Sem.run_bind,addr_add,run_store P w _ x .plain (ho x (List.mem_cons_self ..)),hcell]
   simp only [frozen_of_block hb,Bool.false_eq_true,if_false,Result.andThen_ok]
   exact h1
  ·rw [h4 j]
   by_cases e : off + (i + 1) <= j /\ j < off + (i + 1) + xs.length
   ·rw [if_pos e,if_pos (by simp; omega)]
    rw [show j - (off + i) = (j - (off + (i + 1))) + 1 from by omega,List.getElem?_cons_succ]
   ·rw [if_neg e]
    by_cases e2 : j = off + i
    ·subst e2
     rw [if_pos (by simp)]
     simp [hlt]
    ·rw [if_neg (by simp; omega),Array.getElem?_setIfInBounds,if_neg (by omega)]
  ·rw [h5 b' hb']
   exact Below.heap_setCell _ _ _ _ hb'
omit [RoLim] in
theorem lenOf_last {c : Cells} {L : Nat} {r : List Nat} (h : c.lens = L :: r) : c.lenOf c.g = some L := by
 unfold Cells.lenOf
 rw [show Nat.ble c.g c.g = true from Nat.ble_self_eq_true c.g]
 show c.lens[c.g - c.g]? = some L
 rw [Nat.sub_self,h]; rfl
omit [RoLim] in
theorem lenOf_only {c : Cells} {L g M : Nat} (h : c.lens = [L]) (hg : c.lenOf g = some M) : g = c.g /\ M = L := by
 unfold Cells.lenOf at hg
 cases hb : Nat.ble g c.g with
 | false => simp [hb] at hg
 | true =>
  simp only [hb] at hg
  have hle := Nat.le_of_ble_eq_true hb
  rw [h,show Nat.sub c.g g = c.g - g from rfl] at hg
  have hlt := (List.getElem?_eq_some_iff.1 hg).1
  simp at hlt
  have : c.g - g = 0 := by omega
  rw [this] at hg
  simp at hg
  exact ⟨by omega,hg.symm⟩
omit [RoLim] in
theorem writeCells_some {o g off : Nat} {vs : List V} (hw : writeCells h o g off vs = some h') :
  ∃ c L r,h.get o = some (.cells c) /\ c.ro = false /\ g = c.g /\ c.lens = L :: r /\ off + vs.length <= L /\ vs.all V.one = true /\ h' = h.put o (.cells { c with cs := over c.cs off vs,lens := [L] }) := by
 unfold writeCells Heap.cells? at hw
 cases hg : h.get o with
 | none => simp [hg] at hw
 | some x =>
  cases x with
  | cells c =>
   simp only [hg] at hw
   cases h1 : c.ro <;> cases h2 : Nat.beq g c.g <;> cases h3 : c.lens <;> simp only [h1,h2,h3] at hw <;> try (cases hw; done)
   rename_i L r
   cases h4 : (Nat.ble (off + vs.length) L && vs.all V.one) with
   | false => simp [h4] at hw
   | true =>
    simp only [h4,Option.some.injEq] at hw
    rw [Bool.and_eq_true] at h4
    exact ⟨c,L,r,rfl,h1,Nat.eq_of_beq_eq_true h2,h3,Nat.le_of_ble_eq_true h4.1,h4.2,by rw [<- hw,h1]⟩
  | _ => simp [hg] at hw
omit [RoLim] in
theorem VRs.ones : ∀ {vs : List V} {xs : List Value},VRs μ vs xs -> vs.all V.one = true -> ∀ x ∈ xs,x.oneCell' = true
 | _,_,.nil,_,x,hx => by cases hx
 | _,_,.cons h h',ho,x,hx => by
  simp only [List.all_cons,Bool.and_eq_true] at ho
  cases hx with
  | head => exact h.one ho.1
  | tail _ hx => exact VRs.ones h' ho.2 x hx
theorem Rel.write (R : Rel P K w0 μ h w) {o g off : Nat} {vs : List V} {xs : List Value} {l : Loc} (hw : writeCells h o g off vs = some h') (hx : VRs μ vs xs) (hm : μ o g = some l) :
  ∃ w',(storeCells ⟨l.blk,l.base + off,none⟩ xs).run P w = .ok () w' /\ Rel P K w0 μ h' w' := by
 obtain ⟨c,L,r,hg,hro,rfl,hlens,hle,hone,rfl⟩ := writeCells_some hw
 have hL := lenOf_last hlens
 obtain ⟨l',arr,et,fz,h1,h2,hblk,h4,h5,h6,h7⟩ := R.cellsAt hg hL
 rw [hm] at h1
 cases h1
 cases h4 hro
 have hxl := hx.length
 have hsz : xs ≠ [] -> l.base + off + 0 + xs.length <= arr.size := by
  intro hne
  have hpos : 0 < xs.length := List.length_pos_iff.2 hne
  have hi : off + xs.length - 1 < c.cs.length := by omega
  obtain ⟨x,hx1,_⟩ := h6 (off + xs.length - 1) _ (by omega) (List.getElem?_eq_getElem hi)
  have := (Array.getElem?_eq_some_iff.1 hx1).1
  omega
 obtain ⟨w',arr',g1,g2,g3,g4,g5,g6,g7,g8,g9⟩ := run_storeCells (P := P) (b := l.blk) (off := l.base + off) xs 0 w arr hblk hsz (hx.ones hone)
 have hlive : Live h o c.g := ⟨_,hg,L,hL⟩
 have hnro : ¬ isRo h o := by
  rintro ⟨x,hx',hr⟩
  rw [hg] at hx'
  cases hx'
  rw [show c.ro = true from hr] at hro
  cases hro
 have hmine := R.mine_live hlive hm hnro
 refine ⟨w',g1,R.step o (.cells { c with cs := over c.cs off vs,lens := [L] }) (Mu.le_refl μ) (fun o' => Heap.get_put ..) (Nat.le_refl _) (R.obj o _ hg).1 (by omega) (fun b _ => ?_)
  (fun o' g l' hm' => .inl hm') (fun g l' hl' hm' => ?_) (fun g l' hm' => (R.gens o g l' _ hm' hg : g <= c.g)) ?_ (fun oi mo ins seen cur kd es ins' q1 q2 q3 => ?_) g7 g8 g9⟩
 ·by_cases e : b = l.blk
  ·exact .inr (e ▸ hmine)
  ·exact .inl (g5 b e)
 ·obtain ⟨M,hM⟩ := hl'
  obtain ⟨rfl,rfl⟩ := lenOf_only rfl hM
  rw [hm] at hm'
  cases hm'
  exact hmine
 ·refine ⟨fun g M hM => ?_,by simp,fun g g' M M' l1 l2 hM hM' m1 m2 _ => ?_⟩
  rotate_left
  ·obtain ⟨rfl,rfl⟩ := lenOf_only rfl hM
   obtain ⟨rfl,rfl⟩ := lenOf_only rfl hM'
   rw [m1] at m2
   cases m2
   rfl
  obtain ⟨rfl,rfl⟩ := lenOf_only rfl hM
  refine ⟨l,arr',et,(0,0),hm,h2,g2,fun _ => rfl,by rw [over_length]; exact h5,fun i v hi hv => ?_,fun q1 q2 => ?_,h7.2⟩
  ·rw [over_get _ _ _ _ (by omega)] at hv
   rw [g4]
   by_cases e : off <= i /\ i < off + vs.length
   ·rw [if_pos e] at hv
    rw [if_pos (by omega),show l.base + i - (l.base + off + 0) = i - off from by omega]
    exact hx.get hv
   ·rw [if_neg e] at hv
    rw [if_neg (by omega)]
    exact h6 i v hi hv
  ·rw [g3]
   exact h7.1 q1 q2
 ·rw [Heap.get_put] at q1 q2
  rcases q3 with rfl | rfl
  ·rw [if_pos rfl] at q1
   cases q1
  ·rw [if_pos rfl] at q2
   cases q2
theorem Rel.fresh (R : Rel P K w0 μ h w) (g : Nat) : μ h.next g = none := by
 cases hm : μ h.next g with
 | none => rfl
 | some l => exact absurd (R.dom _ _ _ hm).1 (Nat.lt_irrefl _)
theorem Rel.push (R : Rel P K w0 μ h w) (x : XObj) (l : Loc) (hblk : l.blk = w.heap.size) {obj : Obj} (hw : w'.heap = w.heap.push obj) (hos : w'.os = w.os) (htape : w'.tape = w.tape) (hout : w'.output = w.output)
  (hg : genX x 0) (hor : OR P (μ.put h.next 0 l) w' h.next x)
  (hit : ∀ mo ins seen cur kd es ins',x = .miter (some mo) ins seen cur -> h.get mo = some (.map kd es ins') -> ins <= ins' /\ (ins = ins' -> IterOk (μ.put h.next 0 l) w' kd mo h.next seen cur)) :
  Rel P K w0 (μ.put h.next 0 l) (h.push x) w' := by
 have hle : μ.le (μ.put h.next 0 l) := Mu.le_put l (R.fresh 0)
 have hno : ∀ o' g l',(μ.put h.next 0 l) o' g = some l' -> μ o' g = some l' \/ (o' = h.next /\ g = 0 /\ l' = l) := by
  intro o' g l' hm
  by_cases e : o' = h.next /\ g = 0
  ·obtain ⟨rfl,rfl⟩ := e
   rw [Mu.put_same] at hm
   cases hm
   exact .inr ⟨rfl,rfl,rfl⟩
  ·rw [Mu.put_other _ _ e] at hm
   exact .inl hm
 have hsz : w'.heap.size = w.heap.size + 1 := by rw [hw]; simp
 refine R.step h.next x hle (fun o' => Heap.get_push ..) (Nat.le_succ _) (Nat.lt_succ_self _) (by omega) (fun b hb => .inl (by rw [hw,Array.getElem?_push,if_neg (by omega)]))
  (fun o' g l' hm => ?_) (fun g l' _ hm => ?_) (fun g l' hm => ?_) hor (fun oi mo ins seen cur kd es ins' q1 q2 q3 => ?_) hos htape hout
 ·rcases hno _ _ _ hm with h1 | ⟨rfl,_,rfl⟩
  ·exact .inl h1
  ·exact .inr ⟨rfl,by omega⟩
 ·rcases hno _ _ _ hm with h1 | ⟨_,_,rfl⟩
  ·rw [R.fresh] at h1; cases h1
  ·exact R.mine_fresh _ (by omega)
 ·rcases hno _ _ _ hm with h1 | ⟨_,rfl,rfl⟩
  ·rw [R.fresh] at h1; cases h1
  ·exact hg
 ·rw [Heap.get_push] at q1 q2
  by_cases e : oi = h.next
  ·subst e
   rw [if_pos rfl] at q1
   cases q1
   by_cases e2 : mo = h.next
   ·rw [if_pos e2] at q2; cases q2
   ·rw [if_neg e2] at q2
    exact hit _ _ _ _ _ _ _ rfl q2
  ·rw [if_neg e] at q1
   have e2 : mo = h.next := q3.resolve_left e
   -- an iterator that was there over a map that was not
   obtain ⟨l1,hl1,lm,hlm,_⟩ := (R.obj oi _ q1).2
   subst e2
   rw [R.fresh] at hlm
   cases hlm
theorem Rel.pushCells (R : Rel P K w0 μ h w) (cs : List V) (esz kap : Nat) (spare : Bool) (arr : Array Value) (et : TypeId) (hw : w'.heap = w.heap.push (.cells arr et (0,0))) (hos : w'.os = w.os) (htape : w'.tape = w.tape) (hout : w'.output = w.output)
  (hv : ∀ (i : Nat) v,cs[i]? = some v -> ∃ x,arr[i]? = some x /\ VR μ v x) (hs : spare = true -> cs.length <= kap * esz /\ kap * esz <= arr.size /\ 0 < esz) :
  Rel P K w0 (μ.put h.next 0 ⟨w.heap.size,0,kap,esz⟩) (nCs h cs esz spare) w' := by
 refine R.push _ _ rfl hw hos htape hout (Nat.le_refl 0) ?_ (fun _ _ _ _ _ _ _ q => by cases q)
 refine ⟨fun g L hL => ?_,by simp,fun g g' M M' l1 l2 hM hM' m1 m2 _ => ?_⟩
 rotate_left
 ·obtain ⟨rfl,rfl⟩ := lenOf_only rfl hM
  obtain ⟨rfl,rfl⟩ := lenOf_only rfl hM'
  rw [m1] at m2
  cases m2
  rfl
 obtain ⟨rfl,rfl⟩ := lenOf_only rfl hL
 refine ⟨⟨w.heap.size,0,kap,esz⟩,arr,et,(0,0),Mu.put_same ..,rfl,by rw [hw]; simp,fun _ => rfl,Nat.le_refl _,fun i v _ h => ?_,fun _ q => by simpa using hs q,fun _ => rfl⟩
 obtain ⟨x,h1,h2⟩ := hv i v h
 exact ⟨x,by simpa using h1,h2.mono (Mu.le_put _ (R.fresh 0))⟩
end
end Go.Xr
namespace Go.Xr
open Go.RowKit
def Res [RoLim] (P : Program) (K : Nat -> Prop) (w0 : World) (μ : Mu) (r : Result Next) (v : V) (h' : Heap) : Prop :=
 ∃ μ' x w' n,r = .ok n w' /\ (n = .value x \/ (n = .skip /\ x = undef)) /\ μ.le μ' /\ Rel P K w0 μ' h' w' /\ VR μ' v x
def Op2 (μ : Mu) (ρ : Rd) (ρ' : Operand -> Value) (x' : Operand) : Prop := ∀ x,opd x' = some x -> VR μ (ρ x) (ρ' x')
section
variable [RoLim] {P : Program} {K : Nat -> Prop} {w0 : World} {μ μ' : Mu} {h h' : Heap} {w w' : World} {ρ : Rd} {ρ' : Operand -> Value}
theorem Res.same {v : V} {x : Value} {r : Result Next} (hr : r = .ok (.value x) w) (R : Rel P K w0 μ h w) (hv : VR μ v x) : Res P K w0 μ r v h :=
 ⟨μ,x,w,_,hr,.inl rfl,Mu.le_refl μ,R,hv⟩
omit [RoLim] in
theorem run_typeInfo {t : TypeId} {i : TypeInfo} (hi : P.info? t = some i) : (typeInfo t).run P w = .ok i w := by simp [typeInfo,hi]
omit [RoLim] in
theorem run_und {t : TypeId} {d : TypeDesc} (hd : P.underlying t = some d) : (underlying t).run P w = .ok d w := run_underlying hd w
omit [RoLim] in
theorem run_sizeOf {t : TypeId} {n : Nat} (hn : sizOf P t = some n) : (sizeOf t).run P w = .ok n w := by
 unfold sizOf at hn
 cases hi : P.info? t with
 | none => simp [hi] at hn
 | some i => simp [hi] at hn; subst hn; simp [sizeOf,run_typeInfo hi]
omit [RoLim] in
theorem run_isAgg {t : TypeId} {g : Bool} (hg : aggOf P t = some g) : (isAgg t).run P w = .ok g w := by
 unfold aggOf at hg
 cases hd : P.underlying t with
 | none => simp [hd] at hg
 | some d => cases d <;> simp [hd] at hg <;> subst hg <;> simp [isAgg,run_und hd]
omit [RoLim] in
theorem scalar_VR : ∀ {x : Value} {v : V},scalarV x = some v -> VR μ v x := by
 intro x v hx
 unfold scalarV at hx
 split at hx <;> try (first | (injection hx with hx; subst hx; constructor; done) | (cases hx; done))
 rename_i f first caps
 split at hx <;> try (cases hx; done)
 rename_i h1 h2
 injection hx with hx
 subst hx
 have e1 : first = #[] := by simpa using h1
 have e2 : caps = #[] := by simpa using h2
 subst e1; subst e2
 exact VR.func .nil .nil
omit [RoLim] in
theorem scalars_VRs : ∀ {xs : List Value} {vs : List V},scalars xs = some vs -> VRs μ vs xs
 | [],vs,hx => by simp [scalars] at hx; subst hx; exact .nil
 | x :: xs,vs,hx => by
  simp only [scalars] at hx
  split at hx <;> simp at hx
  rename_i v vs' h1 h2
  subst hx
  exact .cons (scalar_VR h1) (scalars_VRs h2)
omit [RoLim] in
theorem const_VR {x : Value} {v : V} (hx : constV x = some v) : VR μ v x := by
 unfold constV at hx
 split at hx
 ·rename_i cs
  split at hx <;> simp at hx
  rename_i vs h1
  subst hx
  have := VR.agg (μ := μ) (scalars_VRs h1)
  simpa using this
 ·exact scalar_VR hx
omit [RoLim] in
theorem zeroOf_some {t : TypeId} {z : V} (hz : zeroOf P t = some z) : ∃ i x,P.info? t = some i /\ i.zero = some x /\ ∀ μ,VR μ z x := by
 unfold zeroOf at hz
 cases hi : P.info? t with
 | none => simp [hi] at hz
 | some i =>
  cases hx : i.zero with
  | none => simp [hi,hx] at hz
  | some x => simp [hi,hx] at hz; exact ⟨i,x,rfl,hx,fun μ => const_VR hz⟩
omit [RoLim] in
theorem run_zeroValue {t : TypeId} {i : TypeInfo} {x : Value} (hi : P.info? t = some i) (hx : i.zero = some x) : (zeroValue t).run P w = .ok x w := by
 simp [zeroValue,run_typeInfo hi,hx]
omit [RoLim] in
theorem elemOfSlice_some {t e : TypeId} (he : elemOfSlice P t = some e) : P.underlying t = some (.slice e) := by
 unfold elemOfSlice at he
 split at he <;> simp at he
 subst he
 assumption
omit [RoLim] in
theorem mapOf_some {t e : TypeId} {kd : IntKind} (he : mapOf P t = some (kd,e)) : ∃ k,P.underlying t = some (.map k e) /\ P.underlying k = some (.int kd) := by
 unfold mapOf at he
 split at he <;> try (cases he; done)
 rename_i k e' hk
 split at he <;> try (cases he; done)
 cases he
 exact ⟨k,hk,by assumption⟩
omit [RoLim] in
theorem opds_VRs : ∀ {xs' : List Operand} {xs : List Opd},opds xs' = some xs -> (∀ x' ∈ xs',Op2 μ ρ ρ' x') -> VRs μ (vals ρ xs) (xs'.map ρ')
 | [],xs,hx,_ => by simp [opds] at hx; subst hx; exact .nil
 | x' :: xs',xs,hx,ho => by
  simp only [opds] at hx
  split at hx <;> simp at hx
  rename_i x r h1 h2
  subst hx
  exact .cons (ho x' (List.mem_cons_self ..) x h1) (opds_VRs h2 fun y hy => ho y (List.mem_cons_of_mem _ hy))
theorem op_alloc (R : Rel P K w0 μ h w) {e : TypeId} {z : V} (hz : zeroOf P e = some z) {o : Oper} (ho : o.op = .alloc e) :
  Res P K w0 μ ((execOp ρ' o).run P w) (.ptr h.next 0 0) (nCs h z.cellsOf 1 false) := by
 obtain ⟨i,x,hi,hx,hv⟩ := zeroOf_some hz
 refine ⟨_,_,w.alloc (.cells x.cells e),_,?_,.inl rfl,Mu.le_put _ (R.fresh 0),R.pushCells (w' := w.alloc (.cells x.cells e)) z.cellsOf 1 0 false x.cells e rfl rfl rfl rfl (fun i v hg => ?_) (fun q => by cases q),VR.ptr (Mu.put_same ..)⟩
 ·simp [execOp,ho,Instr.alloc,run_zeroValue hi hx,newVar,newRow]
 ·obtain ⟨y,h1,h2⟩ := (hv μ).cells.get hg
  exact ⟨y,by simpa using h1,h2⟩
theorem op_box (R : Rel P K w0 μ h w) {e : TypeId} {v : V} {x' : Operand} (hv : VR μ v (ρ' x')) {o : Oper} (ho : o.op = .box e x') :
  Res P K w0 μ ((execOp ρ' o).run P w) (.ptr h.next 0 0) (nCs h v.cellsOf 1 false) := by
 refine ⟨_,_,w.alloc (.cells (ρ' x').cells e),_,?_,.inl rfl,Mu.le_put _ (R.fresh 0),R.pushCells (w' := w.alloc (.cells (ρ' x').cells e)) v.cellsOf 1 0 false (ρ' x').cells e rfl rfl rfl rfl (fun i v hg => ?_) (fun q => by cases q),VR.ptr (Mu.put_same ..)⟩
 ·simp [execOp,ho,Instr.box,newVar,newRow]
 ·obtain ⟨y,h1,h2⟩ := hv.cells.get hg
  exact ⟨y,by simpa using h1,h2⟩
theorem op_load (R : Rel P K w0 μ h w) {t : TypeId} {g : Bool} {n : Nat} {x' : Operand} {o1 g1 off : Nat} {vs : List V} (hag : aggOf P t = some g) (hn : sizOf P t = some n)
  (hx : VR μ (.ptr o1 g1 off) (ρ' x')) (hr : rCs h o1 g1 off (match g with | true => n | false => 1) = some vs) {v : V} (hv : match g with | true => v = .agg vs | false => vs = [v]) {o : Oper} (ho : o.op = .load t x') :
  Res P K w0 μ ((execOp ρ' o).run P w) v h := by
 generalize hx' : ρ' x' = val at hx
 cases hx with
 | @ptr _ _ _ l hm =>
  obtain ⟨xs,h1,h2,h3,h4⟩ := R.read hr hm
  cases g with
  | true =>
   have hv' : v = .agg vs := hv
   subst hv'
   refine Res.same (x := .agg xs.toArray) ?_ R (.agg h1)
   have := run_loadCells_read (P := P) h4
   rw [h3] at this
   simp [execOp,ho,Instr.loadAt,Instr.sureAddr,hx',loadVar,run_isAgg hag,run_sizeOf hn,this]
  | false =>
   have hv' : vs = [v] := hv
   subst hv'
   cases h1 with
   | @cons _ x _ _ hv hr =>
    cases hr
    refine Res.same (x := x) ?_ R hv
    have := h4 0 x rfl
    simp only [Nat.add_zero] at this
    simp [execOp,ho,Instr.loadAt,Instr.sureAddr,hx',loadVar,run_isAgg hag,this]
theorem op_store (R : Rel P K w0 μ h w) {t : TypeId} {n : Nat} {x' y' : Operand} {o1 g1 off : Nat} {v : V} (hn : sizOf P t = some n) (hx : VR μ (.ptr o1 g1 off) (ρ' x')) (hy : VR μ v (ρ' y'))
  (hl : v.cellsOf.length = n) (hw : writeCells h o1 g1 off v.cellsOf = some h') {o : Oper} (ho : o.op = .store t x' y') : Res P K w0 μ ((execOp ρ' o).run P w) .undef h' := by
 generalize hx' : ρ' x' = val at hx
 cases hx with
 | @ptr _ _ _ l hm =>
  obtain ⟨w',h1,h2⟩ := R.write hw hy.cells hm
  have h3 := hy.cells.length
  refine ⟨μ,undef,w',.skip,?_,.inr ⟨rfl,rfl⟩,Mu.le_refl μ,h2,VR.undef μ⟩
  simp only [Array.length_toList] at h3
  simp [execOp,ho,Instr.storeAt,Instr.sureAddr,hx',storeVar,run_sizeOf hn, <- h3,hl,h1]
theorem op_nilCheck (R : Rel P K w0 μ h w) {v : V} {x' : Operand} (hv : VR μ v (ρ' x')) (hn : v ≠ .nilp /\ v ≠ .nili /\ v ≠ .nilf /\ v ≠ .any /\ ∀ o,v ≠ .hole o) {o : Oper} (ho : o.op = .nilCheck x') : Res P K w0 μ ((execOp ρ' o).run P w) v h := by
 refine Res.same (x := ρ' x') ?_ R hv
 have hrun : ∀ val,ρ' x' = val -> VR μ v val -> (execOp ρ' o).run P w = .ok (.value val) w := by
  intro val hx' hv
  cases hv <;> first | (simp at hn; done) | (simp [execOp,ho,hx'])
 exact hrun _ rfl hv
theorem op_conv (R : Rel P K w0 μ h w) {s d : TypeId} {k k0 : IntKind} {n : Int} {x' : Operand} {sd : TypeDesc} (hs : P.underlying s = some sd) (hd : P.underlying d = some (.int k)) (hv : VR μ (.int k0 n) (ρ' x')) {o : Oper} (ho : o.op = .convert s d x') :
  Res P K w0 μ ((execOp ρ' o).run P w) (.int k (k.wrap n)) h := by
 generalize hx' : ρ' x' = val at hv
 cases hv
 exact Res.same (by simp [execOp,ho,hx',convert,run_und hs,run_und hd,Conv.intToInt]) R (.int ..)
end
end Go.Xr
namespace Go.Xr
open Go.RowKit
section
variable [RoLim] {P : Program} {K : Nat -> Prop} {w0 : World} {μ μ' : Mu} {h h' : Heap} {w w' : World} {ρ : Rd} {ρ' : Operand -> Value}
omit [RoLim] in
theorem clsOf_some {t : TypeId} {c : Cls} (hc : clsOf P t = some c) : ∃ d,P.underlying t = some d /\ (match c with
  | .num => ∃ k,d = .int k
  | .bool => d = .bool
  | .str => d = .string
  | .ptr => ∃ e,d = .pointer e
  | .slice => ∃ e,d = .slice e
  | .map => ∃ k e,d = .map k e
  | .func => ∃ a b c,d = .func a b c
  | .iface => ∃ m,d = .interface m) := by
 unfold clsOf at hc
 split at hc <;> try (cases hc; done)
 all_goals (rename_i hd; injection hc with hc; subst hc; exact ⟨_,hd,by simp⟩)
omit [RoLim] in
theorem run_eqGuard_num {op : BinOp} {t : TypeId} {x y : Operand} {k k' : IntKind} {a b : Int} : (eqGuard op t x y (.int k a) (.int k' b)).run P w = .ok () w := by
 unfold eqGuard
 split <;> simp
theorem op_bin_num (R : Rel P K w0 μ h w) {op : BinOp} {t u : TypeId} {x' y' : Operand} {k k' : IntKind} {a b : Int} {v : V} {r : Value} (hx : ρ' x' = .int k a) (hy : ρ' y' = .int k' b)
  (hb : binOp op t (.int k a) (.int k' b) = .pure r) (hv : VR μ v r) {o : Oper} (ho : o.op = .binOp op t x' y' u) : Res P K w0 μ ((execOp ρ' o).run P w) v h :=
 Res.same (by simp [execOp,ho,hx,hy,run_eqGuard_num,hb]) R hv
theorem op_bin_str (R : Rel P K w0 μ h w) {op : BinOp} {t u : TypeId} {x' y' : Operand} {a b : ByteArray} {v : V} {r : Value} (hx : ρ' x' = .string a) (hy : ρ' y' = .string b)
  (hb : binOp op t (.string a) (.string b) = .pure r) (hv : VR μ v r) {o : Oper} (ho : o.op = .binOp op t x' y' u) : Res P K w0 μ ((execOp ρ' o).run P w) v h := by
 refine Res.same (x := r) ?_ R hv
 have hg : (eqGuard op t x' y' (.string a) (.string b)).run P w = .ok () w := by unfold eqGuard; split <;> simp
 simp [execOp,ho,hx,hy,hg,hb]
omit [RoLim] in
theorem eqIn_bool {d : Nat} {t : TypeId} (ht : P.underlying t = some .bool) (a b : Bool) : (Op.equalIn (d + 1) t (.bool a) (.bool b)).run P w = .ok (a == b) w := by
 simp [Op.equalIn,run_und ht]
omit [RoLim] in
theorem run_eq_bool {t : TypeId} (ht : P.underlying t = some .bool) (a b : Bool) : (Op.equal t (.bool a) (.bool b)).run P w = .ok (a == b) w := eqIn_bool (d := 9999) ht a b
omit [RoLim] in
theorem run_binOp_eql {t : TypeId} {x y : Value} {a : Bool} (h1 : binOp .eql t x y = do pure (.bool (<- Op.equal t x y))) (h2 : (Op.equal t x y).run P w = .ok a w) : (binOp .eql t x y).run P w = .ok (.bool a) w := by
 rw [h1,Sem.run_bind,h2]; rfl
omit [RoLim] in
theorem run_binOp_neq {t : TypeId} {x y : Value} {a : Bool} (h1 : binOp .neq t x y = do pure (.bool (!(<- Op.equal t x y)))) (h2 : (Op.equal t x y).run P w = .ok a w) : (binOp .neq t x y).run P w = .ok (.bool !a) w := by
 rw [h1,Sem.run_bind,h2]; rfl
omit [RoLim] in
theorem exec_bin {op : BinOp} {t u : TypeId} {xo yo : Operand} {o : Oper} (ho : o.op = .binOp op t xo yo u) {r : Value} (hg : (eqGuard op t xo yo (ρ' xo) (ρ' yo)).run P w = .ok () w) (hb : (binOp op t (ρ' xo) (ρ' yo)).run P w = .ok r w) :
  (execOp ρ' o).run P w = .ok (.value r) w := by
 unfold execOp
 rw [ho]
 simp only [Sem.run_bind,hg,Result.andThen_ok,hb]
 rfl
theorem op_bin_bool (R : Rel P K w0 μ h w) {t u : TypeId} {x' y' : Operand} {a b : Bool} (ht : P.underlying t = some .bool) (hx : ρ' x' = .bool a) (hy : ρ' y' = .bool b) {o : Oper} :
  (o.op = .binOp .eql t x' y' u -> Res P K w0 μ ((execOp ρ' o).run P w) (.bool (a == b)) h) /\ (o.op = .binOp .neq t x' y' u -> Res P K w0 μ ((execOp ρ' o).run P w) (.bool (a != b)) h) := by
 refine ⟨fun ho => Res.same (x := .bool (a == b)) ?_ R (.bool _),fun ho => Res.same (x := .bool (a != b)) ?_ R (.bool _)⟩
 ·refine exec_bin ho ?_ ?_
  ·rw [hx,hy]; rfl
  ·rw [hx,hy]; exact run_binOp_eql rfl (run_eq_bool ht a b)
 ·refine exec_bin ho ?_ ?_
  ·rw [hx,hy]; rfl
  ·rw [hx,hy]
   have := run_binOp_neq (P := P) (w := w) (t := t) (x := .bool a) (y := .bool b) rfl (run_eq_bool ht a b)
   rw [this]
   cases a <;> cases b <;> rfl
def NilVal : Cls -> Value -> Bool -> Prop
 | .ptr,x,a => (a = true /\ x = .pointer none) \/ (a = false /\ ∃ p,x = .pointer (some p))
 | .slice,x,a => (a = true /\ x = .slice none 0 0) \/ (a = false /\ ∃ p n m,x = .slice (some p) n m)
 | .map,x,a => (a = true /\ x = .map none) \/ (a = false /\ ∃ p,x = .map (some p))
 | .func,x,a => (a = true /\ x = .nilFunc) \/ (a = false /\ ∃ f p q,x = .func f p q)
 | .iface,x,a => (a = true /\ x = .nilIface) \/ (a = false /\ ∃ t v,x = .iface t v)
 | _,_,_ => False
omit [RoLim] in
theorem nilVal {c : Cls} {x : V} {x' : Value} (hx : VR μ x x') {a : Bool} (ha : nilOf c x = some a) : NilVal c x' a := by
 unfold nilOf at ha
 split at ha <;> try (cases ha; done)
 all_goals
  injection ha with ha
  subst ha
  cases hx
  first
   | exact .inl ⟨rfl,rfl⟩
   | exact .inr ⟨rfl,_,rfl⟩
   | exact .inr ⟨rfl,_,_,rfl⟩
   | exact .inr ⟨rfl,_,_,_,rfl⟩
   | skip
 all_goals exact .inr ⟨rfl,_,_,_,rfl⟩
omit [RoLim] in
theorem eqIn_nil {n : Nat} {t : TypeId} {c : Cls} (hc : clsOf P t = some c) {x' y' : Value} {a b : Bool} (hx : NilVal c x' a) (hy : NilVal c y' b) (hab : a = true \/ b = true) :
  (Op.equalIn (n + 1) t x' y').run P w = .ok (a && b) w := by
 obtain ⟨d,hd,hk⟩ := clsOf_some hc
 cases c <;> simp only [NilVal] at hx hy
 ·obtain ⟨e,rfl⟩ := hk
  rcases hx with ⟨rfl,rfl⟩ | ⟨rfl,p,rfl⟩ <;> rcases hy with ⟨rfl,rfl⟩ | ⟨rfl,q,rfl⟩ <;> first | (simp at hab; done) | simp [Op.equalIn,run_und hd]
 ·obtain ⟨e,rfl⟩ := hk
  rcases hx with ⟨rfl,rfl⟩ | ⟨rfl,p,n,m,rfl⟩ <;> rcases hy with ⟨rfl,rfl⟩ | ⟨rfl,q,n',m',rfl⟩ <;> first | (simp at hab; done) | simp [Op.equalIn,run_und hd]
 ·obtain ⟨k,e,rfl⟩ := hk
  rcases hx with ⟨rfl,rfl⟩ | ⟨rfl,p,rfl⟩ <;> rcases hy with ⟨rfl,rfl⟩ | ⟨rfl,q,rfl⟩ <;> first | (simp at hab; done) | simp [Op.equalIn,run_und hd]
 ·obtain ⟨k,e,f,rfl⟩ := hk
  rcases hx with ⟨rfl,rfl⟩ | ⟨rfl,f,p,q,rfl⟩ <;> rcases hy with ⟨rfl,rfl⟩ | ⟨rfl,f',p',q',rfl⟩ <;> first | (simp at hab; done) | simp [Op.equalIn,run_und hd]
 ·obtain ⟨m,rfl⟩ := hk
  rcases hx with ⟨rfl,rfl⟩ | ⟨rfl,p,n,rfl⟩ <;> rcases hy with ⟨rfl,rfl⟩ | ⟨rfl,q,n',rfl⟩ <;> first | (simp at hab; done) | simp [Op.equalIn,run_und hd]
omit [RoLim] in
theorem run_equal_nil {t : TypeId} {c : Cls} (hc : clsOf P t = some c) {x' y' : Value} {a b : Bool} (hx : NilVal c x' a) (hy : NilVal c y' b) (hab : a = true \/ b = true) :
  (Op.equal t x' y').run P w = .ok (a && b) w := eqIn_nil (n := 9999) hc hx hy hab
omit [RoLim] in
theorem run_eqGuard_nil {op : BinOp} {t : TypeId} {c : Cls} {xo yo : Operand} {x' y' : Value} {a b : Bool} (hx : NilVal c x' a) (hy : NilVal c y' b)
  (hi : c = .iface -> (isConst xo || isConst yo) = true) : (eqGuard op t xo yo x' y').run P w = .ok () w := by
 cases c <;> simp only [NilVal] at hx hy
 ·rcases hx with ⟨rfl,rfl⟩ | ⟨rfl,p,rfl⟩ <;> cases op <;> rfl
 ·rcases hx with ⟨rfl,rfl⟩ | ⟨rfl,p,n,m,rfl⟩ <;> cases op <;> rfl
 ·rcases hx with ⟨rfl,rfl⟩ | ⟨rfl,p,rfl⟩ <;> cases op <;> rfl
 ·rcases hx with ⟨rfl,rfl⟩ | ⟨rfl,f,p,q,rfl⟩ <;> cases op <;> rfl
 ·have := hi rfl
  rcases hx with ⟨rfl,rfl⟩ | ⟨rfl,p,n,rfl⟩ <;> rcases hy with ⟨rfl,rfl⟩ | ⟨rfl,q,n',rfl⟩ <;> cases op <;> first
   | rfl
   | (cases xo <;> cases yo <;> first | rfl | (simp [isConst] at this))
omit [RoLim] in
theorem binOp_nil {op : BinOp} {t : TypeId} {c : Cls} {x' y' : Value} {a b : Bool} (hx : NilVal c x' a) (hy : NilVal c y' b) :
  (op = .eql -> binOp op t x' y' = do pure (.bool (<- Op.equal t x' y'))) /\ (op = .neq -> binOp op t x' y' = do pure (.bool (!(<- Op.equal t x' y')))) := by
 cases c <;> simp only [NilVal] at hx hy
 ·rcases hx with ⟨rfl,rfl⟩ | ⟨rfl,p,rfl⟩ <;> rcases hy with ⟨rfl,rfl⟩ | ⟨rfl,q,rfl⟩ <;> exact ⟨fun e => by subst e; rfl,fun e => by subst e; rfl⟩
 ·rcases hx with ⟨rfl,rfl⟩ | ⟨rfl,p,n,m,rfl⟩ <;> rcases hy with ⟨rfl,rfl⟩ | ⟨rfl,q,n',m',rfl⟩ <;> exact ⟨fun e => by subst e; rfl,fun e => by subst e; rfl⟩
 ·rcases hx with ⟨rfl,rfl⟩ | ⟨rfl,p,rfl⟩ <;> rcases hy with ⟨rfl,rfl⟩ | ⟨rfl,q,rfl⟩ <;> exact ⟨fun e => by subst e; rfl,fun e => by subst e; rfl⟩
 ·rcases hx with ⟨rfl,rfl⟩ | ⟨rfl,f,p,q,rfl⟩ <;> rcases hy with ⟨rfl,rfl⟩ | ⟨rfl,f',p',q',rfl⟩ <;> exact ⟨fun e => by subst e; rfl,fun e => by subst e; rfl⟩
 ·rcases hx with ⟨rfl,rfl⟩ | ⟨rfl,p,n,rfl⟩ <;> rcases hy with ⟨rfl,rfl⟩ | ⟨rfl,q,n',rfl⟩ <;> exact ⟨fun e => by subst e; rfl,fun e => by subst e; rfl⟩
theorem op_bin_nil (R : Rel P K w0 μ h w) {op : BinOp} {t u : TypeId} {c : Cls} (hc : clsOf P t = some c) {x y : V} {xo yo : Operand} (hx : VR μ x (ρ' xo)) (hy : VR μ y (ρ' yo)) {a b : Bool} (ha : nilOf c x = some a) (hb : nilOf c y = some b)
  (hab : a = true \/ b = true) (hi : c = .iface -> (isConst xo || isConst yo) = true) {o : Oper} (ho : o.op = .binOp op t xo yo u) :
  (op = .eql -> Res P K w0 μ ((execOp ρ' o).run P w) (.bool (a && b)) h) /\ (op = .neq -> Res P K w0 μ ((execOp ρ' o).run P w) (.bool !(a && b)) h) := by
 have hx := nilVal hx ha
 have hy := nilVal hy hb
 have hg := run_eqGuard_nil (P := P) (w := w) (op := op) (t := t) hx hy hi
 have he := run_equal_nil (w := w) hc hx hy hab
 have hbin := binOp_nil (op := op) (t := t) hx hy
 refine ⟨fun e => Res.same (x := .bool (a && b)) ?_ R (.bool _),fun e => Res.same (x := .bool !(a && b)) ?_ R (.bool _)⟩
 ·subst e; exact exec_bin ho hg (run_binOp_eql (hbin.1 rfl) he)
 ·subst e; exact exec_bin ho hg (run_binOp_neq (hbin.2 rfl) he)
theorem op_nilCmp (R : Rel P K w0 μ h w) {op : BinOp} {t u : TypeId} {c : Cls} (hc : clsOf P t = some c) {x y : V} {xo yo : Operand} (hx : VR μ x (ρ' xo)) (hy : VR μ y (ρ' yo))
  (hi : c = .iface -> (isConst xo || isConst yo) = true) {v : V} (hv : nilCmp op c x y = some v) {o : Oper} (ho : o.op = .binOp op t xo yo u) : Res P K w0 μ ((execOp ρ' o).run P w) v h := by
 unfold nilCmp at hv
 split at hv <;> try (cases hv; done)
 all_goals (injection hv with hv; subst hv; rename_i h1 h2)
 ·simpa using (op_bin_nil R hc hx hy h1 h2 (.inl rfl) hi ho).1 rfl
 ·simpa using (op_bin_nil R hc hx hy h1 h2 (.inl rfl) hi ho).2 rfl
 ·simpa using (op_bin_nil R hc hx hy h1 h2 (.inr rfl) hi ho).1 rfl
 ·simpa using (op_bin_nil R hc hx hy h1 h2 (.inr rfl) hi ho).2 rfl
theorem op_bin (R : Rel P K w0 μ h w) {op : BinOp} {t u : TypeId} {c : Cls} (hc : clsOf P t = some c) {x y : V} {xo yo : Operand} (hx : VR μ x (ρ' xo)) (hy : VR μ y (ρ' yo))
  (hi : c = .iface -> (isConst xo || isConst yo) = true) {v : V} (hv : binV op t c x y = some v) {o : Oper} (ho : o.op = .binOp op t xo yo u) : Res P K w0 μ ((execOp ρ' o).run P w) v h := by
 unfold binV at hv
 split at hv
 ·unfold intBin at hv
  split at hv <;> try (cases hv; done)
  generalize hx' : ρ' xo = x' at hx; generalize hy' : ρ' yo = y' at hy
  cases hx; cases hy
  split at hv <;> try (cases hv; done)
  ·rename_i hb; injection hv with hv; subst hv; exact op_bin_num R hx' hy' hb (.int ..) ho
  ·rename_i hb; injection hv with hv; subst hv; exact op_bin_num R hx' hy' hb (.bool ..) ho
 ·unfold boolBin at hv
  split at hv <;> try (cases hv; done)
  generalize hx' : ρ' xo = x' at hx; generalize hy' : ρ' yo = y' at hy
  cases hx; cases hy
  split at hv <;> try (cases hv; done)
  all_goals
   injection hv with hv; subst hv
   obtain ⟨d,hd,hk⟩ := clsOf_some hc
   simp only at hk
   subst hk
  ·exact (op_bin_bool R hd hx' hy').1 ho
  ·exact (op_bin_bool R hd hx' hy').2 ho
 ·unfold strBin at hv
  split at hv <;> try (cases hv; done)
  generalize hx' : ρ' xo = x' at hx; generalize hy' : ρ' yo = y' at hy
  cases hx; cases hy
  split at hv <;> try (cases hv; done)
  ·rename_i hb; injection hv with hv; subst hv; exact op_bin_str R hx' hy' hb (.str ..) ho
  ·rename_i hb; injection hv with hv; subst hv; exact op_bin_str R hx' hy' hb (.bool ..) ho
 ·exact op_nilCmp R hc hx hy hi hv ho
theorem op_un (R : Rel P K w0 μ h w) {op : UnOp} {t : TypeId} {x : V} {xo : Operand} (hx : VR μ x (ρ' xo)) {v : V} (hv : unV op x = some v) {o : Oper} (ho : o.op = .unOp op t xo) : Res P K w0 μ ((execOp ρ' o).run P w) v h := by
 unfold unV at hv
 generalize hx' : ρ' xo = x' at hx
 split at hv <;> try (cases hv; done)
 ·cases hx
  split at hv <;> try (cases hv; done)
  rename_i hu
  injection hv with hv; subst hv
  exact Res.same (by simp [execOp,ho,hx',hu]) R (.int ..)
 ·cases hx
  split at hv <;> try (cases hv; done)
  injection hv with hv; subst hv
  exact Res.same (by simp [execOp,ho,hx',Op.unary]) R (.bool ..)
theorem op_mkif (R : Rel P K w0 μ h w) {t : TypeId} {d : TypeDesc} (hd : P.underlying t = some d) (hn : ∀ m,d ≠ .interface m) {x : V} {xo : Operand} (hx : VR μ x (ρ' xo)) {o : Oper} (ho : o.op = .makeInterface t xo) :
  Res P K w0 μ ((execOp ρ' o).run P w) (.iface t x) h := by
 refine Res.same (x := .iface t (ρ' xo)) ?_ R (.iface hx)
 cases d <;> first | (exact absurd rfl (hn _)) | simp [execOp,ho,Instr.makeInterface,run_und hd]
theorem op_mkmap (R : Rel P K w0 μ h w) {t : TypeId} {r : Option Operand} {kd : IntKind} {e : TypeId} (hm : mapOf P t = some (kd,e)) (hr : r = none \/ ∃ k n,r = some (.const (.int k n))) (hρ : ∀ v,ρ' (.const v) = v) {o : Oper} (ho : o.op = .makeMap t r) :
  Res P K w0 μ ((execOp ρ' o).run P w) (.map h.next) (h.push (.map kd [] 0)) := by
 obtain ⟨k,hk,_⟩ := mapOf_some hm
 refine ⟨_,_,w.alloc (.map #[] 0),_,?_,.inl rfl,Mu.le_put ⟨w.heap.size,0,0,1⟩ (R.fresh 0),R.push (w' := w.alloc (.map #[] 0)) (.map kd [] 0) ⟨w.heap.size,0,0,1⟩ rfl rfl rfl rfl rfl rfl ?_ (fun _ _ _ _ _ _ _ q => by cases q),VR.map (Mu.put_same ..)⟩
 ·rcases hr with rfl | ⟨k',n,rfl⟩
  ·unfold execOp; rw [ho]; rfl
  ·unfold execOp; rw [ho]
   simp only [Option.map_some,hρ,Instr.makeMap,Sem.run_bind,run_und hk,Result.andThen_ok,asInt,asIntOf]
   rfl
 ·refine ⟨_, #[],0,Mu.put_same ..,(by show (w.heap.push (Obj.map #[] 0))[w.heap.size]? = _; simp),?_⟩
  exact ⟨by simp,fun n v q => by simp [hasKey] at q,rfl,by simp,by simp,by simp,by simp,by simp⟩
theorem op_faddr (R : Rel P K w0 μ h w) {s : TypeId} {fs : Array Field} {f : Nat} {fd : Field} {n : Nat} (hs : P.underlying s = some (.struct fs)) (hf : fs[f]? = some fd) (hn : sizOf P fd.type = some (n + 1)) {o1 g1 off : Nat} {xo : Operand}
  (hx : VR μ (.ptr o1 g1 off) (ρ' xo)) {o : Oper} (ho : o.op = .fieldAddr s xo f) : Res P K w0 μ ((execOp ρ' o).run P w) (.ptr o1 g1 (off + fd.offset)) h := by
 generalize hx' : ρ' xo = x' at hx
 cases hx with
 | @ptr _ _ _ l hm =>
  refine Res.same (x := .pointer (some ⟨l.blk,l.base + (off + fd.offset),none⟩)) ?_ R (.ptr hm)
  simp [execOp,ho,hx',Instr.fieldAt,run_und hs,hf,Instr.sureAddr,fieldPlace,run_sizeOf hn,addr_add,Nat.add_assoc]
omit [RoLim] in
theorem run_part {t : TypeId} {g : Bool} {n off : Nat} {cs : List V} {cs' : List Value} (hg : aggOf P t = some g) (hn : sizOf P t = some n) (hcs : VRs μ cs cs') {v : V}
  (hv : (g = true -> off + n <= cs.length /\ v = .agg ((cs.drop off).take n)) /\ (g = false -> (cs.drop off).take 1 = [v])) : ∃ x,(part t cs'.toArray off).run P w = .ok x w /\ VR μ v x := by
 cases g with
 | true =>
  obtain ⟨h1,rfl⟩ := hv.1 rfl
  refine ⟨.agg ((cs'.drop off).take n).toArray,?_,.agg ((hcs.drop off).take n)⟩
  simp [part,run_isAgg hg,run_sizeOf hn]
 | false =>
  have hv' : (cs.drop off).take 1 = [v] := hv.2 rfl
  have h1 : cs[off]? = some v := by
   have : ((cs.drop off).take 1)[0]? = some v := by rw [hv']; rfl
   simpa using this
  obtain ⟨x,h2,h3⟩ := hcs.get h1
  refine ⟨x,?_,h3⟩
  simp [part,run_isAgg hg,h2]
theorem op_fld (R : Rel P K w0 μ h w) {s : TypeId} {fs : Array Field} {f : Nat} {fd : Field} {n : Nat} {g : Bool} (hs : P.underlying s = some (.struct fs)) (hf : fs[f]? = some fd) (hn : sizOf P fd.type = some n) (hg : aggOf P fd.type = some g) {cs : List V} {xo : Operand}
  (hx : VR μ (.agg cs) (ρ' xo)) {v : V} (hv : (g = true -> fd.offset + n <= cs.length /\ v = .agg ((cs.drop fd.offset).take n)) /\ (g = false -> (cs.drop fd.offset).take 1 = [v])) {o : Oper} (ho : o.op = .field s xo f) :
  Res P K w0 μ ((execOp ρ' o).run P w) v h := by
 generalize hx' : ρ' xo = x' at hx
 cases hx with
 | agg hcs =>
  obtain ⟨x,h1,h2⟩ := run_part (w := w) hg hn hcs hv
  refine Res.same (x := x) ?_ R h2
  simp [execOp,ho,hx',Instr.field,run_und hs,hf,asAgg,h1]
omit [RoLim] in
theorem natOf_some {n : Int} {m : Nat} (hn : natOf n = some m) : n = (m : Int) := by
 cases n with
 | ofNat k => simp [natOf] at hn; subst hn; rfl
 | negSucc k => simp [natOf] at hn
omit [RoLim] in
theorem asNat_VR {v : V} {x : Value} {m : Nat} (hv : VR μ v x) (hm : asNat v = some m) : ∃ k,x = .int k (m : Int) := by
 cases hv <;> simp [asNat] at hm
 rename_i k n
 exact ⟨k,by rw [natOf_some hm]⟩
theorem op_iaddr (R : Rel P K w0 μ h w) {t e : TypeId} {n : Nat} (ht : P.underlying t = some (.slice e)) (hn : sizOf P e = some n) {o1 g1 off len : Nat} {cap : Cap} {xo io : Operand} {i : Nat} {iv : V}
  (hx : VR μ (.slice o1 g1 off len cap) (ρ' xo)) (hi : VR μ iv (ρ' io)) (hin : asNat iv = some i) (hlt : i < len) {o : Oper} (ho : o.op = .indexAddr t xo io) :
  Res P K w0 μ ((execOp ρ' o).run P w) (.ptr o1 g1 (off + i * n)) h := by
 obtain ⟨k,hk⟩ := asNat_VR hi hin
 generalize hx' : ρ' xo = x' at hx
 have fin : ∀ (l : Loc) (cap' : Nat),μ o1 g1 = some l -> x' = .slice (some ⟨l.blk,l.base + off,none⟩) len cap' -> Res P K w0 μ ((execOp ρ' o).run P w) (.ptr o1 g1 (off + i * n)) h := by
  intro l cap' hm e'
  refine Res.same (x := .pointer (some ⟨l.blk,l.base + (off + i * n),none⟩)) ?_ R (.ptr hm)
  have hlt' : (0 : Int) <= (i : Int) /\ (i : Int) < (len : Int) := by omega
  simp [execOp,ho,hx',e',hk,Instr.indexAt,asIntOf,run_und ht,hlt,run_sizeOf hn,addr_add,Nat.add_assoc]
 cases hx with
 | @exact _ _ _ _ c l hm a ha hc =>
  rcases ha with rfl | ⟨h0,_⟩
  ·exact fin l _ hm rfl
  ·omega
 | @rest _ _ _ _ m _ l hm a ha hc hoff _ =>
  rcases ha with rfl | ⟨h0,_⟩
  ·exact fin l _ hm rfl
  ·omega
theorem op_iaddrA (R : Rel P K w0 μ h w) {t e : TypeId} {n len : Nat} (ht : P.underlying t = some (.array len e)) (hn : sizOf P e = some n) {o1 g1 off : Nat} {xo io : Operand} {i : Nat} {iv : V}
  (hx : VR μ (.ptr o1 g1 off) (ρ' xo)) (hi : VR μ iv (ρ' io)) (hin : asNat iv = some i) (hlt : i < len) {o : Oper} (ho : o.op = .indexAddr t xo io) :
  Res P K w0 μ ((execOp ρ' o).run P w) (.ptr o1 g1 (off + i * n)) h := by
 obtain ⟨k,hk⟩ := asNat_VR hi hin
 generalize hx' : ρ' xo = x' at hx
 cases hx with
 | @ptr _ _ _ l hm =>
  refine Res.same (x := .pointer (some ⟨l.blk,l.base + (off + i * n),none⟩)) ?_ R (.ptr hm)
  simp [execOp,ho,hx',hk,Instr.indexAt,asIntOf,run_und ht,hlt,run_sizeOf hn,addr_add,Nat.add_assoc,Instr.sureAddr]
theorem op_extract (R : Rel P K w0 μ h w) {vs : List V} {i : Nat} {xo : Operand} (hx : VR μ (.tup vs) (ρ' xo)) {v : V} (hv : vs[i]? = some v) {o : Oper} (ho : o.op = .extract xo i) : Res P K w0 μ ((execOp ρ' o).run P w) v h := by
 generalize hx' : ρ' xo = x' at hx
 cases hx with
 | tup hvs =>
  obtain ⟨x,h1,h2⟩ := hvs.get hv
  exact Res.same (x := x) (by simp [execOp,ho,hx',Instr.extract,h1]) R h2
theorem op_pick (R : Rel P K w0 μ h w) {co ao bo : Operand} {c : Bool} (hc : VR μ (.bool c) (ρ' co)) {v : V} (hv : VR μ v (if c then ρ' ao else ρ' bo)) {o : Oper} (ho : o.op = .pick co ao bo) : Res P K w0 μ ((execOp ρ' o).run P w) v h := by
 generalize hc' : ρ' co = x' at hc
 cases hc
 exact Res.same (x := if c then ρ' ao else ρ' bo) (by simp [execOp,ho,hc',asBool]) R hv
theorem op_sidx (R : Rel P K w0 μ h w) {t : TypeId} (ht : P.underlying t = some .string) {s : ByteArray} {xo io : Operand} {i : Nat} {iv : V} (hx : VR μ (.str s) (ρ' xo)) (hi : VR μ iv (ρ' io)) (hin : asNat iv = some i)
  {b : UInt8} (hb : s.data.toList[i]? = some b) {o : Oper} (ho : o.op = .index t xo io) : Res P K w0 μ ((execOp ρ' o).run P w) (.int .u8 (.ofNat b.toNat)) h := by
 obtain ⟨k,hk⟩ := asNat_VR hi hin
 generalize hx' : ρ' xo = x' at hx
 cases hx
 have hb' : s[i]? = some b := by
  have hlt := (List.getElem?_eq_some_iff.1 hb).1
  have hlt' : i < s.size := by simpa using hlt
  have hg := (List.getElem?_eq_some_iff.1 hb).2
  rw [getElem?_pos s i hlt']
  congr 1
 exact Res.same (x := .int .u8 (b.toNat : Int)) (by simp [execOp,ho,hx',hk,Instr.index,asIntOf,run_und ht,hb']) R (.int ..)
end
end Go.Xr
namespace Go.Xr
open Go.RowKit
section
variable [RoLim] {P : Program} {K : Nat -> Prop} {w0 : World} {μ μ' : Mu} {h h' : Heap} {w w' : World} {ρ : Rd} {ρ' : Operand -> Value}
omit [RoLim] in
theorem foldl_set {off : Nat} : ∀ (vs : List Value) (i : Nat) (cells : Array Value),
  ((vs.zipIdx i).foldl (fun cs p => cs.setIfInBounds (off + p.2) p.1) cells).size = cells.size /\
  ∀ j : Nat,((vs.zipIdx i).foldl (fun cs p => cs.setIfInBounds (off + p.2) p.1) cells)[j]? = if off + i <= j /\ j < off + i + vs.length /\ j < cells.size then vs[j - (off + i)]? else cells[j]?
 | [],i,cells => ⟨rfl,fun j => by rw [if_neg (by simp; omega)]; rfl⟩
 | v :: vs,i,cells => by
  obtain ⟨h1,h2⟩ := foldl_set (off := off) vs (i + 1) (cells.setIfInBounds (off + i) v)
  refine ⟨by simpa [List.zipIdx_cons] using h1,fun j => ?_⟩
  have := h2 j
  simp only [List.zipIdx_cons,List.foldl_cons]
  rw [this]
  simp only [Array.size_setIfInBounds,List.length_cons]
  by_cases e : off + (i + 1) <= j /\ j < off + (i + 1) + vs.length /\ j < cells.size
  ·rw [if_pos e,if_pos (by omega),show j - (off + i) = (j - (off + (i + 1))) + 1 from by omega,List.getElem?_cons_succ]
  ·rw [if_neg e]
   by_cases e2 : j = off + i /\ j < cells.size
   ·obtain ⟨rfl,e3⟩ := e2
    rw [if_pos (by omega)]
    simp [e3]
   ·rw [if_neg (by omega),Array.getElem?_setIfInBounds]
    by_cases e4 : off + i = j
    ·rw [if_pos e4,if_neg (by omega),Array.getElem?_eq_none (by omega)]
    ·rw [if_neg e4]
omit [RoLim] in
theorem VRs.over {cs ws : List V} {cells : Array Value} {vs : Array Value} {off : Nat} (hc : VRs μ cs cells.toList) (hw : VRs μ ws vs.toList) (hle : off + ws.length <= cs.length) :
  VRs μ (Xr.over cs off ws) (vs.zipIdx.foldl (fun cs p => cs.setIfInBounds (off + p.2) p.1) cells).toList := by
 have h1 := hc.length
 have h2 := hw.length
 simp only [Array.length_toList] at h1 h2
 have e : vs.zipIdx.foldl (fun cs p => cs.setIfInBounds (off + p.2) p.1) cells = (vs.toList.zipIdx 0).foldl (fun cs p => cs.setIfInBounds (off + p.2) p.1) cells := by
  rw [<- Array.foldl_toList]; simp
 rw [e]
 obtain ⟨h3,h4⟩ := foldl_set (off := off) vs.toList 0 cells
 refine VRs.of_get _ _ (by rw [over_length,h1, <- h3]; exact Array.length_toList.symm) fun i v x hv hx => ?_
 rw [Array.getElem?_toList,h4 i] at hx
 rw [over_get _ _ _ _ hle] at hv
 by_cases e : off <= i /\ i < off + ws.length
 ·rw [if_pos e] at hv
  rw [if_pos (by simp; omega)] at hx
  obtain ⟨y,hy,hr⟩ := hw.get hv
  simp only [Nat.add_zero] at hx
  rw [hy] at hx
  cases hx
  exact hr
 ·rw [if_neg e] at hv
  rw [if_neg (by simp; omega)] at hx
  obtain ⟨y,hy,hr⟩ := hc.get hv
  rw [Array.getElem?_toList,hx] at hy
  cases hy
  exact hr
inductive PR (μ : Mu) (place : Nat -> Option (Nat × Nat)) : List (Nat × Nat × V) -> List (Nat × Value) -> Prop
 | nil : PR μ place [] []
 | cons {i off n : Nat} {v : V} {x : Value} {a : List (Nat × Nat × V)} {b : List (Nat × Value)} (hp : place i = some (off,n)) (hv : VR μ v x) (hr : PR μ place a b) : PR μ place ((off,n,v) :: a) ((i,x) :: b)
omit [RoLim] in
theorem fill_VRs {place : Nat -> Option (Nat × Nat)} : ∀ {ps : List (Nat × Nat × V)} {ps' : List (Nat × Value)} (_ : PR μ place ps ps') {cs cs' : List V} {cells : Array Value} (_ : VRs μ cs cells.toList) (_ : fillV cs ps = some cs'),
  ∃ cells',Instr.fill place cells ps' = some cells' /\ VRs μ cs' cells'.toList
 | _,_,.nil,cs,cs',cells,hc,hf => by simp [fillV] at hf; subst hf; exact ⟨cells,rfl,hc⟩
 | (off,n,v) :: a,(i,x) :: b,.cons hp hv hr,cs,cs',cells,hc,hf => by
  simp only [fillV] at hf
  cases h1 : Nat.beq v.cellsOf.length n <;> cases h2 : Nat.ble (off + n) cs.length <;> simp only [h1,h2] at hf <;> try (cases hf; done)
  have h1 := Nat.eq_of_beq_eq_true h1
  have h2 := Nat.le_of_ble_eq_true h2
  have h3 := hv.cells.length
  have h4 := hc.length
  simp only [Array.length_toList] at h3 h4
  obtain ⟨cells',h5,h6⟩ := fill_VRs hr (hc.over hv.cells (by omega)) hf
  refine ⟨cells',?_,h6⟩
  simp only [Instr.fill,hp]
  rw [if_neg (by simp; omega)]
  exact h5
omit [RoLim] in
theorem run_places : ∀ {fs : List Field} {pl : List (Nat × Nat)} (_ : placesOf P fs = some pl),(fs.mapM (m := Sem) fun f => do pure (f.offset, <- sizeOf f.type)).run P w = .ok pl w
 | [],pl,hp => by simp [placesOf] at hp; subst hp; rfl
 | f :: fs,pl,hp => by
  simp only [placesOf] at hp
  split at hp <;> try (cases hp; done)
  rename_i n r h1 h2
  injection hp with hp
  subst hp
  have ih := run_places h2
  simp at ih
  simp [run_sizeOf h1,ih]
theorem op_build_struct (R : Rel P K w0 μ h w) {t : TypeId} {fs : Array Field} {z : V} {pl : List (Nat × Nat)} {ps' : Array (Nat × Operand)} {ps : List (Nat × Nat × V)} {cs : List V} (ht : P.underlying t = some (.struct fs)) (hz : zeroOf P t = some z)
  (hpl : placesOf P fs.toList = some pl) (hps : PR μ (fun (i : Nat) => pl[i]?) ps (ps'.map fun (i,x) => (i,ρ' x)).toList) (hf : fillV z.cellsOf ps = some cs) {o : Oper} (ho : o.op = .build t ps') : Res P K w0 μ ((execOp ρ' o).run P w) (.agg cs) h := by
 obtain ⟨i,x,hi,hx,hv⟩ := zeroOf_some hz
 obtain ⟨cells,h1,h2⟩ := fill_VRs hps (hv μ).cells hf
 refine Res.same (x := .agg cells) ?_ R (by simpa using VR.agg h2)
 unfold execOp
 rw [ho]
 simp only [Instr.build,Sem.run_bind,run_zeroValue hi hx,run_und ht,Result.andThen_ok]
 rw [Array.mapM_eq_mapM_toList]
 simp only [Sem.run_map,run_places hpl,Result.andThen_ok]
 have e : (fun (i : Nat) => (pl.toArray)[i]?) = (fun (i : Nat) => pl[i]?) := by funext i; simp
 rw [e,h1]
 rfl
theorem op_build_array (R : Rel P K w0 μ h w) {t e : TypeId} {len n : Nat} {z : V} {ps' : Array (Nat × Operand)} {ps : List (Nat × Nat × V)} {cs : List V} (ht : P.underlying t = some (.array len e)) (hz : zeroOf P t = some z) (hn : sizOf P e = some n)
  (hps : PR μ (fun i => some (i * n,n)) ps (ps'.map fun (i,x) => (i,ρ' x)).toList) (hf : fillV z.cellsOf ps = some cs) {o : Oper} (ho : o.op = .build t ps') : Res P K w0 μ ((execOp ρ' o).run P w) (.agg cs) h := by
 obtain ⟨i,x,hi,hx,hv⟩ := zeroOf_some hz
 obtain ⟨cells,h1,h2⟩ := fill_VRs hps (hv μ).cells hf
 refine Res.same (x := .agg cells) ?_ R (by simpa using VR.agg h2)
 unfold execOp
 rw [ho]
 simp only [Instr.build,Sem.run_bind,run_zeroValue hi hx,run_und ht,Result.andThen_ok,run_sizeOf hn]
 rw [h1]
 rfl
omit [RoLim] in
theorem map_range_mod (z : Array Value) (n : Nat) (hz : 0 < z.size \/ n = 0) : ((Array.range (n * z.size)).map (z[· % z.size]!)).toList = (List.replicate n z.toList).flatten := by
 apply List.ext_getElem?
 intro j
 by_cases hj : j < n * z.size
 ·have hzp : 0 < z.size := by
   rcases hz with h | h
   ·exact h
   ·subst h; simp at hj
  have h1 : j % z.size < z.size := Nat.mod_lt _ hzp
  have h2 : j / z.size < n := Nat.div_lt_of_lt_mul (by rwa [Nat.mul_comm])
  rw [Array.getElem?_toList]
  simp only [Array.getElem?_map,Array.getElem?_range,hj,if_true,Option.map_some]
  have : ∀ (m : Nat) (j : Nat),j < m * z.size -> ((List.replicate m z.toList).flatten)[j]? = z[j % z.size]? := by
   intro m
   induction m with
   | zero => intro j hj; simp at hj
   | succ m ih =>
    intro j hj
    simp only [List.replicate_succ,List.flatten_cons]
    by_cases hlt : j < z.size
    ·rw [List.getElem?_append_left (by simpa using hlt),Nat.mod_eq_of_lt hlt,Array.getElem?_toList]
    ·rw [List.getElem?_append_right (by simpa using hlt),ih _ (by simp [Nat.succ_mul] at hj ⊢; omega),Array.length_toList, <- Nat.mod_eq_sub_mod (by omega)]
  rw [this n j hj]
  simp [h1]
 ·rw [List.getElem?_eq_none (by simp; omega),List.getElem?_eq_none]
  rw [List.length_flatten]
  simp
  omega
theorem op_bslice (R : Rel P K w0 μ h w) {t e : TypeId} {len n : Nat} {z : V} {ps' : Array (Nat × Operand)} {ps : List (Nat × Nat × V)} {cs : List V} (ht : P.underlying t = some (.slice e)) (hz : zeroOf P e = some z) (hn : sizOf P e = some n)
  (hzn : z.cellsOf.length = n) (hlim : len * n <= 16777216) (hpos : 0 < n)
  (hps : PR μ (fun i => some (i * n,n)) ps (ps'.map fun (i,x) => (i,ρ' x)).toList) (hf : fillV (repl len z.cellsOf) ps = some cs) {o : Oper} (ho : o.op = .buildSlice t len ps') :
  Res P K w0 μ ((execOp ρ' o).run P w) (.slice h.next 0 0 len (.exact len)) (nCs h cs n false) := by
 obtain ⟨i,x,hi,hx,hv⟩ := zeroOf_some hz
 have hxs := (hv μ).cells
 have hsz : x.cells.size = n := by have := hxs.length; simp only [Array.length_toList] at this; omega
 have hrow : VRs μ (repl len z.cellsOf) ((Array.range (len * n)).map (x.cells[· % x.cells.size]!)).toList := by
  rw [<- hsz,map_range_mod _ _ (by omega)]
  exact hxs.repl len
 obtain ⟨cells,h1,h2⟩ := fill_VRs hps hrow hf
 refine ⟨_,.slice (some ⟨w.heap.size,0,none⟩) len len,w.alloc (.cells cells e),_,?_,.inl rfl,Mu.le_put _ (R.fresh 0),R.pushCells (w' := w.alloc (.cells cells e)) cs n 0 false cells e rfl rfl rfl rfl (fun i v hg => ?_) (fun q => by cases q),VR.exact (Mu.put_same ..) _ (.inl rfl) (Nat.le_refl _)⟩
 ·unfold execOp
  rw [ho]
  simp only [Instr.buildSlice,Sem.run_bind,run_und ht,Result.andThen_ok,run_sizeOf hn]
  rw [if_neg (by omega)]
  by_cases h0 : len * n = 0
  ·rw [if_pos h0]
   have e1 : ∀ f : Nat -> Value,(Array.range (len * n)).map f = #[] := fun f => by rw [h0]; simp
   rw [e1] at h1
   simp only [pure_bind]
   rw [e1,h1]
   simp [newRow]
  ·rw [if_neg h0]
   simp only [Sem.run_bind,run_zeroValue hi hx,Result.andThen_ok,Sem.run_pure]
   rw [h1]
   simp [newRow]
 ·obtain ⟨y,h3,h4⟩ := h2.get hg
  exact ⟨y,by simpa using h3,h4⟩
theorem op_mkslice (R : Rel P K w0 μ h w) {t e : TypeId} {n b : Nat} {z : V} {l c : Nat} {lv cv : V} {lo co : Operand} (ht : P.underlying t = some (.slice e)) (hz : zeroOf P e = some z) (hn : sizOf P e = some n) (hb : bytOf P e = some b)
  (hzn : z.cellsOf.length = n) (hpos : 0 < n) (hbp : 0 < b) (hl : VR μ lv (ρ' lo)) (hc : VR μ cv (ρ' co)) (hln : asNat lv = some l) (hcn : asNat cv = some c) (hlc : l <= c) (hlim : c * b <= 140737488355328) {o : Oper} (ho : o.op = .makeSlice t lo co) :
  Res P K w0 μ ((execOp ρ' o).run P w) (.slice h.next 0 0 l (.exact c)) (nCs h (repl c z.cellsOf) z.cellsOf.length false) := by
 obtain ⟨i,x,hi,hx,hv⟩ := zeroOf_some hz
 obtain ⟨k1,e1⟩ := asNat_VR hl hln
 obtain ⟨k2,e2⟩ := asNat_VR hc hcn
 have hxs := (hv μ).cells
 have hsz : x.cells.size = n := by have := hxs.length; simp only [Array.length_toList] at this; omega
 have hin : i.size = n := by unfold sizOf at hn; simpa [hi] using hn
 have hib : i.bytes = b := by unfold bytOf at hb; simpa [hi] using hb
 have hle : c <= c * b := Nat.le_mul_of_pos_right c hbp
 have hb2 : (i.bytes : Int) * (c : Int) <= 281474976710656 := by
  rw [hib]
  have : ((b * c : Nat) : Int) <= 281474976710656 := by rw [Nat.mul_comm]; omega
  rwa [Int.natCast_mul] at this
 have hr := run_make (P := P) w t e i x ht hi hx k1 k2 l c (by omega) (by omega) hb2 (by omega)
 simp only [Int.toNat_natCast] at hr
 have hrow : VRs μ (repl c z.cellsOf) (madeCells x.cells (c * i.size)).toList := by
  rw [hin, <- hsz]
  show VRs μ _ ((Array.range (c * x.cells.size)).map (x.cells[· % x.cells.size]!)).toList
  rw [map_range_mod _ _ (by omega)]
  exact hxs.repl c
 refine ⟨_,.slice (some ⟨w.heap.size,0,none⟩) l c,w.alloc (.cells (madeCells x.cells (c * i.size)) e),_,?_,.inl rfl,Mu.le_put _ (R.fresh 0),
  R.pushCells (w' := w.alloc (.cells (madeCells x.cells (c * i.size)) e)) (repl c z.cellsOf) z.cellsOf.length 0 false (madeCells x.cells (c * i.size)) e rfl rfl rfl rfl (fun j v hg => ?_) (fun q => by cases q),VR.exact (Mu.put_same ..) _ (.inl rfl) hlc⟩
 ·unfold execOp
  rw [ho]
  simp only [e1,e2,Sem.run_bind,hr,Result.andThen_ok]
  rfl
 ·obtain ⟨y,h3,h4⟩ := hrow.get hg
  exact ⟨y,by simpa using h3,h4⟩
omit [RoLim] in
theorem lenV_run {v : V} {x : Value} (hv : VR μ v x) {n : Nat} (hl : lenV v = some n) : ∀ w : World,(Builtin.lenOf x).run P w = .ok n w := by
 intro w
 cases hv <;> simp [lenV] at hl <;> subst hl <;> simp [Builtin.lenOf]
omit [RoLim] in
theorem cell_heap {w w' : World} (hh : w'.heap = w.heap) (a : Addr) : w'.cell? a = w.cell? a := by simp [World.cell?,hh]
omit [RoLim] in
theorem elems_of_read {o g off n len esz : Nat} {cap : Cap} {xs : List V} (hr : rCs h o g off (n * esz) = some xs) : elemsOf h esz n (.slice o g off len cap) = some xs := by
 cases n with
 | zero =>
  obtain ⟨c,L,_,_,_,rfl⟩ := readCells_some hr
  simp [elemsOf]
 | succ n => exact hr
theorem elems_run (R : Rel P K w0 μ h w) {v : V} {x : Value} (hv : VR μ v x) {esz n m : Nat} {xs : List V} (hl : lenV v = some m) (hnm : n <= m) (he : elemsOf h esz n v = some xs) :
  ∃ ns,VRs μ xs ns /\ ∀ w' : World,w'.heap = w.heap -> (Builtin.firstCells esz n x).run P w' = .ok ns.toArray w' := by
 have slice : ∀ (o g off : Nat) (l : Loc) (cap len : Nat),μ o g = some l -> rCs h o g off (n * esz) = some xs ->
   ∃ ns,VRs μ xs ns /\ ∀ w' : World,w'.heap = w.heap -> (Builtin.firstCells esz n (.slice (some ⟨l.blk,l.base + off,none⟩) len cap)).run P w' = .ok ns.toArray w' := by
  intro o g off l cap len hm hr
  obtain ⟨ns,h1,h2,h3,h4⟩ := R.read hr hm
  refine ⟨ns,h1,fun w' hh => ?_⟩
  have := run_loadCells_read (P := P) (w := w') (xs := ns) (b := l.blk) (off := l.base + off) (fun j y hy => by rw [cell_heap hh]; exact h4 j y hy)
  rw [h3] at this
  simpa [Builtin.firstCells] using this
 cases hv <;> simp only [lenV,Option.some.injEq,reduceCtorEq] at hl <;> simp only [elemsOf,Option.some.injEq] at he
 ·rename_i s
  subst he
  refine ⟨(s.data.toList.take n).map fun b => Value.int .u8 (b.toNat : Int),?_,fun w' _ => ?_⟩
  ·generalize s.data.toList.take n = l
   induction l with
   | nil => exact .nil
   | cons b l ih => exact .cons (.int ..) ih
  ·simp only [Builtin.firstCells,Sem.run_pure]
   congr 1
   apply Array.ext'
   simp
 ·subst he
  exact ⟨[],.nil,fun w' _ => by simp [Builtin.firstCells]⟩
 ·rename_i o g off len c l hm a ha hlc
  cases n with
  | zero =>
   simp only [Option.some.injEq] at he
   subst he
   exact ⟨[],.nil,fun w' _ => by simp [Builtin.firstCells,loadCells,loadCellsFrom]⟩
  | succ n =>
   rcases ha with rfl | ⟨h0,_⟩
   ·exact slice o g off l _ _ hm he
   ·omega
 ·rename_i o g off len k e0 l hm a ha hc hoff he0
  cases n with
  | zero =>
   simp only [Option.some.injEq] at he
   subst he
   exact ⟨[],.nil,fun w' _ => by simp [Builtin.firstCells,loadCells,loadCellsFrom]⟩
  | succ n =>
   rcases ha with rfl | ⟨h0,_⟩
   ·exact slice o g off l _ _ hm he
   ·omega
end
end Go.Xr
namespace Go.Xr
open Go.RowKit
section
variable [RoLim] {P : Program} {K : Nat -> Prop} {w0 : World} {μ μ' : Mu} {h h' : Heap} {w w' : World} {ρ : Rd} {ρ' : Operand -> Value}
structure AppSpec (P : Program) (f : Result Value) (w : World) (e esz bytes : Nat) (base : Option Addr) (sLen sCap m : Nat) (ns : List Value) (zc : Array Value) : Prop where
 room : sLen + m <= sCap -> ∀ w',(match base with | some a => (storeCells (a.add (sLen * esz)) ns).run P w | none => .ok () w) = .ok () w' -> f = .ok (.slice base (sLen + m) sCap) w'
 grow : sCap < sLen + m -> (sLen + m) * bytes <= 140737488355328 -> ∀ olds : List Value,(Builtin.firstCells esz sLen (.slice base sLen sCap)).run P w.drew = .ok olds.toArray w.drew ->
  ∃ cap',sLen + m <= cap' /\ f = .ok (.slice (some ⟨w.heap.size,0,none⟩) (sLen + m) cap') (w.drew.alloc (.cells (olds.toArray ++ ns.toArray ++ Builtin.zeroCells zc (cap' - (sLen + m))) e))
omit [RoLim] in
theorem app_slice {t u e ty : TypeId} {d : TypeDesc} {i : TypeInfo} {z x : Value} {base : Option Addr} {sLen sCap m : Nat} {ns : List Value} (ht : P.underlying t = some (.slice e)) (hu : P.underlying u = some d) (hd : (∃ e',d = .slice e') \/ d = .string) (hi : P.info? e = some i) (hz : i.zero = some z) (hb : 0 < i.bytes)
  (hl : ∀ w,(Builtin.lenOf x).run P w = .ok m w) (hf : ∀ w',w'.heap = w.heap -> (Builtin.firstCells i.size m x).run P w' = .ok ns.toArray w') :
  AppSpec P ((Builtin.append_ #[t,u] ty #[.slice base sLen sCap,x]).run P w) w e i.size i.bytes base sLen sCap m ns z.cells := by
 have hf0 := hf w rfl
 have hf1 := hf w.drew rfl
 refine ⟨fun hr w' hs => ?_,fun hg hlim olds ho => ?_⟩
 ·cases base with
  | none =>
   cases hs
   rcases hd with ⟨e',rfl⟩ | rfl <;> simp [Builtin.append_,run_und ht,run_und hu,sizeOf,typeInfo,hi,hl,hr,hf0]
  | some a =>
   simp only at hs
   rcases hd with ⟨e',rfl⟩ | rfl <;> simp [Builtin.append_,run_und ht,run_und hu,sizeOf,typeInfo,hi,hl,hr,hf0,hs]
 ·refine ⟨grownCap w (sLen + m) sCap e,grownCap_ge ..,?_⟩
  have hle : sLen + m <= (sLen + m) * i.bytes := Nat.le_mul_of_pos_right _ hb
  have hn : ¬ (sLen + m <= sCap) := by omega
  have h63' : ¬ (9223372036854775807 < ((sLen : Int) + (m : Int))) := by omega
  have h48' : ¬ (281474976710656 < Builtin.nextslicecap (sLen + m) sCap * i.bytes) := by have := growslice_fits (bytes := i.bytes) hg hlim; omega
  rcases hd with ⟨e',rfl⟩ | rfl <;> simp [Builtin.append_,run_und ht,run_und hu,sizeOf,typeInfo,hi,hl,hn,h63',h48',Question.forced,hf1,ho,newRow,zeroValue,hz,grownCap]
  all_goals (congr 2; apply Array.ext'; simp [List.append_assoc])
omit [RoLim] in
theorem app_zero {t u e ty : TypeId} {k k' : IntKind} {i : TypeInfo} {z : Value} {base : Option Addr} {sLen sCap m : Nat} (ht : P.underlying t = some (.slice e)) (hu : P.underlying u = some (.int k)) (hi : P.info? e = some i) (hz : i.zero = some z) (hb : 0 < i.bytes) (hsz : z.cells.size = i.size)
  (hm : m * i.bytes <= 140737488355328) :
  AppSpec P ((Builtin.append_ #[t,u] ty #[.slice base sLen sCap,.int k' (m : Int)]).run P w) w e i.size i.bytes base sLen sCap m ((List.replicate m z.cells.toList).flatten) z.cells := by
 have hle : m <= m * i.bytes := Nat.le_mul_of_pos_right _ hb
 have hw : IntKind.i64.wrap (m : Int) = (m : Int) := by rw [IntKind.wrap_i64]; omega
 have hneg : ¬ ((m : Int) < 0) := by omega
 have hbig : ¬ (281474976710656 < (m : Int) * (i.bytes : Int)) := by
  have : ((m * i.bytes : Nat) : Int) <= 140737488355328 := by omega
  rw [Int.natCast_mul] at this
  omega
 have hzc : ∀ n,Builtin.zeroCells z.cells n = ((List.replicate n z.cells.toList).flatten).toArray := by
  intro n
  apply Array.ext'
  by_cases h0 : z.cells.size = 0
  ·have e1 : z.cells = #[] := Array.eq_empty_of_size_eq_zero h0
   simp [Builtin.zeroCells,e1]
  ·exact map_range_mod z.cells n (by omega)
 have hnil : m * i.size = 0 -> (List.replicate m z.cells.toList).flatten = [] := by
  intro h0
  apply List.eq_nil_of_length_eq_zero
  rw [List.length_flatten]
  simp [hsz]
  rcases Nat.mul_eq_zero.1 h0 with h | h <;> simp [h]
 refine ⟨fun hr w' hs => ?_,fun hg hlim olds ho => ?_⟩
 ·cases base with
  | none =>
   cases hs
   by_cases h0 : m * i.size = 0
   ·simp [Builtin.append_,run_und ht,run_und hu,sizeOf,typeInfo,hi,asInt,asIntOf,hw,hneg,hbig,hr,h0]
   ·simp [Builtin.append_,run_und ht,run_und hu,sizeOf,typeInfo,hi,asInt,asIntOf,hw,hneg,hbig,hr,zeroValue,hz]
  | some a =>
   simp only at hs
   by_cases h0 : m * i.size = 0
   ·rw [hnil h0] at hs
    simp [Builtin.append_,run_und ht,run_und hu,sizeOf,typeInfo,hi,asInt,asIntOf,hw,hneg,hbig,hr,h0,hs]
   ·simp [Builtin.append_,run_und ht,run_und hu,sizeOf,typeInfo,hi,asInt,asIntOf,hw,hneg,hbig,hr,h0,zeroValue,hz,hzc,hs]
 ·refine ⟨grownCap w (sLen + m) sCap e,grownCap_ge ..,?_⟩
  have hle : sLen + m <= (sLen + m) * i.bytes := Nat.le_mul_of_pos_right _ hb
  have hn : ¬ (sLen + m <= sCap) := by omega
  have h63' : ¬ (9223372036854775807 < ((sLen : Int) + (m : Int))) := by omega
  have h48' : ¬ (281474976710656 < Builtin.nextslicecap (sLen + m) sCap * i.bytes) := by have := growslice_fits (bytes := i.bytes) hg hlim; omega
  by_cases h0 : m * i.size = 0
  ·rw [hnil h0]
   simp [Builtin.append_,run_und ht,run_und hu,sizeOf,typeInfo,hi,asInt,asIntOf,hw,hneg,hbig,hn,h63',h48',Question.forced,ho,newRow,zeroValue,hz,grownCap,h0]
   all_goals (congr 2; apply Array.ext'; simp [List.append_assoc])
  ·simp [Builtin.append_,run_und ht,run_und hu,sizeOf,typeInfo,hi,asInt,asIntOf,hw,hneg,hbig,hn,h63',h48',Question.forced,ho,newRow,zeroValue,hz,grownCap,h0,hzc]
   all_goals (congr 2; apply Array.ext'; simp [List.append_assoc])
end
end Go.Xr
namespace Go.Xr
open Go.RowKit
section
variable [RoLim] {P : Program} {K : Nat -> Prop} {w0 : World} {μ μ' : Mu} {h h' : Heap} {w w' : World} {ρ : Rd} {ρ' : Operand -> Value}
def Res' (P : Program) (K : Nat -> Prop) (w0 : World) (μ : Mu) (r : Result Value) (v : V) (h' : Heap) : Prop :=
 ∃ μ' x w',r = .ok x w' /\ μ.le μ' /\ Rel P K w0 μ' h' w' /\ VR μ' v x
theorem Res'.res {r : Result Value} {v : V} (hr : Res' P K w0 μ r v h') {r' : Result Next} (he : ∀ x w',r = .ok x w' -> r' = .ok (.value x) w') : Res P K w0 μ r' v h' :=
 let ⟨μ',x,w',h1,h2,h3,h4⟩ := hr
 ⟨μ',x,w',_,he x w' h1,.inl rfl,h2,h3,h4⟩
omit [RoLim] in
theorem size_zc {z : Array Value} {n : Nat} : (Builtin.zeroCells z n).size = n * z.size := by simp [Builtin.zeroCells]
theorem grown_fresh (R : Rel P K w0 μ h w) {e esz cap need : Nat} {old xs : List V} {olds ns : List Value} {zc : Array Value} (ho : VRs μ old olds) (hx : VRs μ xs ns) (hsz : zc.size = esz) (hpos : 0 < esz) (hlen : (old ++ xs).length = need * esz) (hcap : need <= cap) :
  Res' P K w0 μ (.ok (.slice (some ⟨w.heap.size,0,none⟩) need cap) (w.drew.alloc (.cells (olds.toArray ++ ns.toArray ++ Builtin.zeroCells zc (cap - need)) e))) (.slice h.next 0 0 need (.rest 0 esz)) (nCs h (old ++ xs) esz true) := by
 have happ := ho.append hx
 have hl := happ.length
 have hmul : need * esz + (cap - need) * esz = cap * esz := by rw [<- Nat.add_mul]; congr 1; omega
 refine ⟨_,_,_,rfl,Mu.le_put _ (R.fresh 0),R.pushCells (w' := w.drew.alloc (.cells (olds.toArray ++ ns.toArray ++ Builtin.zeroCells zc (cap - need)) e)) (old ++ xs) esz cap true _ e rfl rfl rfl rfl (fun i v hg => ?_) (fun _ => ?_),?_⟩
 ·obtain ⟨y,h1,h2⟩ := happ.get hg
  refine ⟨y,?_,h2⟩
  have hlt := (List.getElem?_eq_some_iff.1 h1).1
  rw [Array.getElem?_append_left (by simp at hlt ⊢; omega)]
  rw [<- h1]
  simp
 ·refine ⟨?_,?_,hpos⟩
  ·rw [hlen]; exact Nat.mul_le_mul_right _ hcap
  ·simp only [Array.size_append,size_zc,hsz]
   simp only [List.length_append] at hl hlen
   simp
   omega
 ·have := VR.rest (μ := μ.put h.next 0 ⟨w.heap.size,0,cap,esz⟩) (o := h.next) (g := 0) (off := 0) (len := need) (n := 0) (Mu.put_same ..) ⟨w.heap.size,0,none⟩ (.inl rfl) (by simpa using hcap) (by simp) rfl
  simpa using this
theorem Rel.kill (R : Rel P K w0 μ h w) {o : Nat} {c : Cells} (hg : h.get o = some (.cells c)) : Rel P K w0 μ (h.put o (.cells { c with lens := [] })) w := by
 have hdead : ∀ g L,({ c with lens := [] } : Cells).lenOf g ≠ some L := by
  intro g L hL
  unfold Cells.lenOf at hL
  split at hL <;> simp at hL
 refine R.step o (.cells { c with lens := [] }) (Mu.le_refl μ) (fun o' => Heap.get_put ..) (Nat.le_refl _) (R.obj o _ hg).1 (Nat.le_refl _) (fun b _ => .inl rfl) (fun o' g l hm => .inl hm)
  (fun g l ⟨L,hL⟩ _ => absurd hL (hdead g L)) (fun g l hm => (R.gens o g l _ hm hg : g <= c.g)) ⟨fun g L hL => absurd hL (hdead g L),by simp,fun g g' L L' l l' hL => absurd hL (hdead g L)⟩ (fun oi mo ins seen cur kd es ins' q1 q2 q3 => ?_) rfl rfl rfl
 rw [Heap.get_put] at q1 q2
 rcases q3 with rfl | rfl
 ·rw [if_pos rfl] at q1; cases q1
 ·rw [if_pos rfl] at q2; cases q2
omit [RoLim] in
theorem lens_cons {c : Cells} {L M : Nat} {r : List Nat} {g : Nat} (h : c.lens = L :: r) (hg : c.lenOf g = some M) : (g = c.g /\ M = L) \/ (g < c.g /\ M ∈ r) := by
 unfold Cells.lenOf at hg
 cases hb : Nat.ble g c.g with
 | false => simp [hb] at hg
 | true =>
  simp only [hb] at hg
  have hle := Nat.le_of_ble_eq_true hb
  rw [h,show Nat.sub c.g g = c.g - g from rfl] at hg
  cases hs : c.g - g with
  | zero => rw [hs] at hg; simp at hg; exact .inl ⟨by omega,hg.symm⟩
  | succ n => rw [hs] at hg; simp at hg; exact .inr ⟨by omega,List.mem_of_getElem? hg⟩
omit [RoLim] in
theorem lenOf_next {c : Cells} {L g M : Nat} {r : List Nat} {cs : List V} (hg : ({ c with cs := cs,g := c.g + 1,lens := L :: r } : Cells).lenOf g = some M) :
  (g = c.g + 1 /\ M = L) \/ (g <= c.g /\ ({ c with lens := r } : Cells).lenOf g = some M) := by
 unfold Cells.lenOf at hg ⊢
 simp only at hg ⊢
 cases hb : Nat.ble g (c.g + 1) with
 | false => simp [hb] at hg
 | true =>
  simp only [hb] at hg
  have hle := Nat.le_of_ble_eq_true hb
  rw [show Nat.sub (c.g + 1) g = c.g + 1 - g from rfl] at hg
  cases hs : c.g + 1 - g with
  | zero => rw [hs] at hg; simp at hg; exact .inl ⟨by omega,hg.symm⟩
  | succ n =>
   rw [hs] at hg
   simp only [List.getElem?_cons_succ] at hg
   refine .inr ⟨by omega,?_⟩
   have hb2 : Nat.ble g c.g = true := Nat.ble_eq_true_of_le (by omega)
   rw [hb2]
   show r[c.g - g]? = some M
   rw [show c.g - g = n from by omega]
   exact hg
theorem Rel.nextGen (R : Rel P K w0 μ h w) {o L : Nat} {c : Cells} {r keep : List Nat} {old xs : List V} (hg : h.get o = some (.cells c)) (hro : c.ro = false) (hsp : c.spare = true) (hlens : c.lens = L :: r) (hkeep : keep = [] \/ (keep = c.lens /\ old = c.cs.take L))
  {l' : Loc} {arr' : Array Value} {et' : TypeId} (hesz : l'.esz = c.esz) (hblk : w'.heap[l'.blk]? = some (.cells arr' et' (0,0)))
  (hsz : w.heap.size <= w'.heap.size) (hoth : ∀ b,b < w.heap.size -> w'.heap[b]? = w.heap[b]? \/ (Mine K μ h o b /\ b = l'.blk)) (hmine : Mine K μ h o l'.blk) (hlt : l'.blk < w'.heap.size)
  (hos : w'.os = w.os) (htape : w'.tape = w.tape) (hout : w'.output = w.output)
  (hcells : ∀ (i : Nat) (v : V),(old ++ xs)[i]? = some v -> ∃ x,arr'[l'.base + i]? = some x /\ VR μ v x)
  (hkap : (old ++ xs).length <= l'.kap * l'.esz /\ l'.base + l'.kap * l'.esz <= arr'.size /\ 0 < l'.esz)
  (hbefore : ∀ g M l,c.lenOf g = some M -> keep = c.lens -> μ o g = some l -> l.blk = l'.blk -> l.base = l'.base /\ ∃ arr et,w.heap[l.blk]? = some (.cells arr et (0,0)) /\ ∀ i,i < M -> arr'[l.base + i]? = arr[l.base + i]?) :
  Rel P K w0 (μ.put o (c.g + 1) l') (h.put o (.cells { c with cs := old ++ xs,g := c.g + 1,lens := (old ++ xs).length :: keep })) w' := by
 have hnone : μ o (c.g + 1) = none := by
  cases hm : μ o (c.g + 1) with
  | none => rfl
  | some l =>
   have q : c.g + 1 <= c.g := R.gens o _ l _ hm hg
   omega
 have hle := Mu.le_put (μ := μ) l' hnone
 have hno : ∀ o' g l,(μ.put o (c.g + 1) l') o' g = some l -> μ o' g = some l \/ (o' = o /\ g = c.g + 1 /\ l = l') := by
  intro o' g l hm
  by_cases e : o' = o /\ g = c.g + 1
  ·obtain ⟨rfl,rfl⟩ := e
   rw [Mu.put_same] at hm
   cases hm
   exact .inr ⟨rfl,rfl,rfl⟩
  ·rw [Mu.put_other _ _ e] at hm
   exact .inl hm
 have hkept : ∀ g M,({ c with lens := keep } : Cells).lenOf g = some M -> keep = c.lens /\ old = c.cs.take L /\ c.lenOf g = some M := by
  intro g M hM
  rcases hkeep with rfl | ⟨rfl,h2⟩
  ·unfold Cells.lenOf at hM
   split at hM <;> simp at hM
  ·exact ⟨rfl,h2,hM⟩
 obtain ⟨hor1,hor2,hor3⟩ := (R.obj o _ hg).2
 refine R.step o _ hle (fun o' => Heap.get_put ..) (Nat.le_refl _) (R.obj o _ hg).1 hsz (fun b hb => (hoth b hb).imp id And.left) (fun o' g l hm => ?_) (fun g l hl hm => ?_) (fun g l hm => ?_) ⟨fun g M hM => ?_,?_,fun g g' M M' l1 l2 hM hM' m1 m2 e => ?_⟩
  (fun oi mo ins seen cur kd es ins' q1 q2 q3 => ?_) hos htape hout
 ·rcases hno _ _ _ hm with h1 | ⟨rfl,_,rfl⟩
  ·exact .inl h1
  ·exact .inr ⟨rfl,hlt⟩
 ·rcases hno _ _ _ hm with h1 | ⟨_,_,rfl⟩
  ·obtain ⟨M,hM⟩ := hl
   rcases lenOf_next hM with ⟨rfl,_⟩ | ⟨_,hM⟩
   ·rw [hnone] at h1; cases h1
   ·obtain ⟨_,_,hM⟩ := hkept g M hM
    refine R.mine_live ⟨_,hg,M,hM⟩ h1 ?_
    rintro ⟨x,hx',hr⟩
    rw [hg] at hx'
    cases hx'
    rw [show c.ro = true from hr] at hro
    cases hro
  ·exact hmine
 ·show g <= c.g + 1
  rcases hno _ _ _ hm with h1 | ⟨_,rfl,_⟩
  ·have : g <= c.g := R.gens o g l _ h1 hg
   omega
  ·exact Nat.le_refl _
 ·rcases lenOf_next hM with ⟨rfl,rfl⟩ | ⟨hgle,hM⟩
  ·exact ⟨l',arr',et',(0,0),Mu.put_same ..,hesz,hblk,fun _ => rfl,Nat.le_refl _,fun i v _ hv => let ⟨x,h1,h2⟩ := hcells i v hv; ⟨x,h1,h2.mono hle⟩,fun _ _ => hkap,fun q => by simp [hsp] at q⟩
  ·obtain ⟨hk1,hk2,hM⟩ := hkept g M hM
   obtain ⟨l,arr,et,fz,h1,h2,h3,h4,h5,h6,h7⟩ := hor1 g M hM
   have hML : M <= L := by
    rcases lens_cons hlens hM with ⟨_,rfl⟩ | ⟨_,hmem⟩
    ·exact Nat.le_refl _
    ·rw [hlens] at hor2
     exact (List.pairwise_cons.1 hor2).1 M hmem
   have hLc : L <= c.cs.length := by
    obtain ⟨_,_,_,_,_,_,_,_,q,_⟩ := hor1 c.g L (lenOf_last hlens)
    exact q
   have hget : ∀ i,i < M -> (old ++ xs)[i]? = c.cs[i]? := by
    intro i hi
    rw [hk2,List.getElem?_append_left (by simp; omega),List.getElem?_take,if_pos (by omega)]
   cases h4 hro
   have hcell' : ∃ arr2 et2,w'.heap[l.blk]? = some (.cells arr2 et2 (0,0)) /\ ∀ i,i < M -> arr2[l.base + i]? = arr[l.base + i]? := by
    by_cases e : l.blk = l'.blk
    ·obtain ⟨hb1,arr0,et0,hb2,hb3⟩ := hbefore g M l hM hk1 h1 e
     rw [h3] at hb2
     cases hb2
     exact ⟨arr',et',by rw [e]; exact hblk,hb3⟩
    ·have := (hoth l.blk (R.dom o g l h1).2).resolve_right fun q => e q.2
     exact ⟨arr,et,this.trans h3,fun _ _ => rfl⟩
   obtain ⟨arr2,et2,hb1,hb2⟩ := hcell'
   refine ⟨l,arr2,et2,(0,0),hle _ _ _ h1,h2,hb1,fun _ => rfl,?_,fun i v hi hv => ?_,fun q => by simp only at q; omega,fun q => by simp [hsp] at q⟩
   ·simp only [List.length_append]
    have : old.length = L := by rw [hk2]; simp; omega
    omega
   ·simp only at hv
    rw [hget i hi] at hv
    obtain ⟨x,hx1,hx2⟩ := h6 i v hi hv
    exact ⟨x,by rw [hb2 i hi]; exact hx1,hx2.mono hle⟩
 ·rcases hkeep with rfl | ⟨rfl,h2⟩
  ·simp
  ·have hLc : L <= c.cs.length := by
    obtain ⟨_,_,_,_,_,_,_,_,q,_⟩ := hor1 c.g L (lenOf_last hlens)
    exact q
   have hold : old.length = L := by rw [h2]; simp; omega
   rw [List.pairwise_cons]
   refine ⟨fun M hM => ?_,hor2⟩
   have hML : M <= L := by
    rw [hlens] at hM hor2
    cases hM with
    | head => exact Nat.le_refl _
    | tail _ hM => exact (List.pairwise_cons.1 hor2).1 M hM
   simp only [List.length_append]
   omega
 ·rcases lenOf_next hM with ⟨rfl,rfl⟩ | ⟨q1,hM⟩ <;> rcases lenOf_next hM' with ⟨rfl,rfl⟩ | ⟨q2,hM'⟩
  ·rw [m1] at m2; cases m2; rfl
  ·obtain ⟨hk1,hk2,hM'⟩ := hkept g' M' hM'
   rcases hno _ _ _ m1 with n1 | ⟨_,_,rfl⟩
   ·rw [hnone] at n1; cases n1
   ·rcases hno _ _ _ m2 with n2 | ⟨_,n2,_⟩
    ·exact ((hbefore g' M' l2 hM' hk1 n2 e.symm).1).symm
    ·omega
  ·obtain ⟨hk1,hk2,hM⟩ := hkept g M hM
   rcases hno _ _ _ m2 with n2 | ⟨_,_,rfl⟩
   ·rw [hnone] at n2; cases n2
   ·rcases hno _ _ _ m1 with n1 | ⟨_,n1,_⟩
    ·exact (hbefore g M l1 hM hk1 n1 e).1
    ·omega
  ·obtain ⟨_,_,hM⟩ := hkept g M hM
   obtain ⟨_,_,hM'⟩ := hkept g' M' hM'
   rcases hno _ _ _ m1 with n1 | ⟨_,n1,_⟩
   ·rcases hno _ _ _ m2 with n2 | ⟨_,n2,_⟩
    ·exact hor3 g g' M M' l1 l2 hM hM' n1 n2 e
    ·omega
   ·omega
 ·rw [Heap.get_put] at q1 q2
  rcases q3 with rfl | rfl
  ·rw [if_pos rfl] at q1; cases q1
  ·rw [if_pos rfl] at q2; cases q2
theorem Rel.pushAt (R : Rel P K w0 μ h w) (cs : List V) (l : Loc) (arr' : Array Value) (et' : TypeId) (hblk : w'.heap[l.blk]? = some (.cells arr' et' (0,0))) (hsz : w'.heap.size = w.heap.size) (hoth : ∀ b,b ≠ l.blk -> w'.heap[b]? = w.heap[b]?)
  (hmine : Mine K μ h h.next l.blk) (hlt : l.blk < w.heap.size) (hos : w'.os = w.os) (htape : w'.tape = w.tape) (hout : w'.output = w.output)
  (hcells : ∀ (i : Nat) (v : V),cs[i]? = some v -> ∃ x,arr'[l.base + i]? = some x /\ VR μ v x) (hkap : cs.length <= l.kap * l.esz /\ l.base + l.kap * l.esz <= arr'.size /\ 0 < l.esz) :
  Rel P K w0 (μ.put h.next 0 l) (nCs h cs l.esz true) w' := by
 have hle : μ.le (μ.put h.next 0 l) := Mu.le_put l (R.fresh 0)
 have hno : ∀ o' g l',(μ.put h.next 0 l) o' g = some l' -> μ o' g = some l' \/ (o' = h.next /\ g = 0 /\ l' = l) := by
  intro o' g l' hm
  by_cases e : o' = h.next /\ g = 0
  ·obtain ⟨rfl,rfl⟩ := e
   rw [Mu.put_same] at hm
   cases hm
   exact .inr ⟨rfl,rfl,rfl⟩
  ·rw [Mu.put_other _ _ e] at hm
   exact .inl hm
 refine R.step h.next _ hle (fun o' => Heap.get_push ..) (Nat.le_succ _) (Nat.lt_succ_self _) (by omega) (fun b _ => ?_) (fun o' g l' hm => ?_) (fun g l' _ hm => ?_) (fun g l' hm => ?_) ⟨fun g L hL => ?_,by simp,fun g g' M M' l1 l2 hM hM' m1 m2 _ => ?_⟩
  (fun oi mo ins seen cur kd es ins' q1 q2 q3 => ?_) hos htape hout
 ·by_cases e : b = l.blk
  ·exact .inr (e ▸ hmine)
  ·exact .inl (hoth b e)
 ·rcases hno _ _ _ hm with h1 | ⟨rfl,_,rfl⟩
  ·exact .inl h1
  ·exact .inr ⟨rfl,by omega⟩
 ·rcases hno _ _ _ hm with h1 | ⟨_,_,rfl⟩
  ·rw [R.fresh] at h1; cases h1
  ·exact hmine
 ·rcases hno _ _ _ hm with h1 | ⟨_,rfl,rfl⟩
  ·rw [R.fresh] at h1; cases h1
  ·exact Nat.le_refl 0
 ·obtain ⟨rfl,rfl⟩ := lenOf_only rfl hL
  exact ⟨l,arr',et',(0,0),Mu.put_same ..,rfl,hblk,fun _ => rfl,Nat.le_refl _,fun i v _ hv => let ⟨x,h1,h2⟩ := hcells i v hv; ⟨x,h1,h2.mono hle⟩,fun _ _ => hkap,fun q => by cases q⟩
 ·obtain ⟨rfl,rfl⟩ := lenOf_only rfl hM
  obtain ⟨rfl,rfl⟩ := lenOf_only rfl hM'
  rw [m1] at m2
  cases m2
  rfl
 ·unfold nCs at q1 q2
  rw [Heap.get_push] at q1 q2
  by_cases e : oi = h.next
  ·rw [if_pos e] at q1; cases q1
  ·rw [if_neg e] at q1
   have e2 : mo = h.next := q3.resolve_left e
   rw [if_pos e2] at q2
   cases q2
theorem appendV_ok (R : Rel P K w0 μ h w) {e esz bytes m : Nat} {s : V} {base : Option Addr} {sLen sCap : Nat} {xs : List V} {ns : List Value} {zc : Array Value} {f : Result Value} (hs : VR μ s (.slice base sLen sCap)) (hx : VRs μ xs ns) (hxl : xs.length = m * esz)
  (hsz : zc.size = esz) (hf : AppSpec P f w e esz bytes base sLen sCap m ns zc) {v : V} (ha : appendV h esz bytes s xs m = some (v,h')) : Res' P K w0 μ f v h' := by
 have hs0 := hs
 cases m with
 | zero =>
  have hns : ns = [] := by
   apply List.eq_nil_of_length_eq_zero
   rw [<- hx.length,hxl]
   simp
  subst hns
  have hsv : v = s /\ h' = h := by
   unfold appendV at ha
   simp only at ha
   split at ha
   ·injection ha with ha; injection ha with a1 a2; exact ⟨a1.symm,a2.symm⟩
   ·injection ha with ha; injection ha with a1 a2; exact ⟨a1.symm,a2.symm⟩
   ·cases ha
  obtain ⟨rfl,rfl⟩ := hsv
  have hle : sLen <= sCap := by
   cases hs
   ·exact Nat.le_refl _
   ·assumption
   ·omega
   all_goals (exfalso; simp [appendV] at ha)
  refine ⟨μ,.slice base sLen sCap,w,?_,Mu.le_refl μ,R,hs⟩
  have := hf.room (by omega) w (by cases base <;> rfl)
  simpa using this
 | succ m' =>
  generalize hm : m' + 1 = m at *
  have hmpos : 0 < m := by omega
  have fresh : ∀ (h0 : Heap) (_ : Rel P K w0 μ h0 w) (old : List V) (olds : List Value),VRs μ old olds -> old.length = sLen * esz -> (Builtin.firstCells esz sLen (.slice base sLen sCap)).run P w.drew = .ok olds.toArray w.drew -> sCap < sLen + m ->
    (sLen + m) * bytes <= 140737488355328 -> 0 < esz -> Res' P K w0 μ f (.slice h0.next 0 0 (sLen + m) (.rest 0 esz)) (nCs h0 (old ++ xs) esz true) := by
   intro h0 R0 old olds ho hol hrun hcap hlim hpos
   obtain ⟨cap',hc1,hc2⟩ := hf.grow hcap hlim olds hrun
   rw [hc2]
   exact grown_fresh R0 ho hx hsz hpos (by rw [List.length_append,hol,hxl,Nat.add_mul]) hc1
  subst hm
  unfold appendV at ha
  simp only at ha
  split at ha
  ·-- nil
   cases hs
   split at ha <;> try (cases ha; done)
   rename_i nz hlim
   injection ha with ha
   injection ha with ha1 ha2
   subst ha1; subst ha2
   have := fresh h R [] [] .nil (by simp) (by simp [Builtin.firstCells]) (by omega) (by simpa using Nat.le_of_ble_eq_true hlim) (by omega)
   simpa using this
  ·rename_i o g off len cap
   split at ha
   ·-- a known capacity
    rename_i c
    generalize hb : base = base' at hs
    cases hs with
    | @exact _ _ _ _ _ l hm a haddr hlc =>
     subst hb
     split at ha
     ·rename_i hle
      have hle := Nat.le_of_ble_eq_true hle
      split at ha <;> try (cases ha; done)
      rename_i h1 hw
      injection ha with ha
      injection ha with ha1 ha2
      subst ha1; subst ha2
      have hnorm : a = ⟨l.blk,l.base + off,none⟩ := by
       rcases haddr with q | ⟨q1,q2⟩
       ·exact q
       ·omega
      subst hnorm
      obtain ⟨w',g1,g2⟩ := R.write hw hx hm
      refine ⟨μ,_,w',hf.room hle w' ?_,Mu.le_refl μ,g2,.exact hm _ (.inl rfl) hle⟩
      simp only [addr_add]
      rw [show l.base + off + sLen * esz = l.base + (off + sLen * esz) from by omega]
      exact g1
     ·rename_i hle
      have hle : ¬ sLen + (m' + 1) <= sCap := fun q => by rw [Nat.ble_eq_true_of_le q] at hle; cases hle
      split at ha <;> try (cases ha; done)
      rename_i old hr
      split at ha <;> try (cases ha; done)
      rename_i nz hlim
      injection ha with ha
      injection ha with ha1 ha2
      subst ha1; subst ha2
      obtain ⟨olds,q1,q2⟩ := elems_run (P := P) R hs0 (n := sLen) (m := sLen) (xs := old) rfl (Nat.le_refl _) (elems_of_read hr)
      have q5 : old.length = sLen * (nz + 1) := by
       obtain ⟨_,_,q,_⟩ := R.read hr hm
       exact q
      exact fresh h R old olds q1 q5 (q2 w.drew rfl) (by omega) (Nat.le_of_ble_eq_true hlim) (by omega)
   ·-- what is behind the last generation
    rename_i k ek
    split at ha <;> try (cases ha; done)
    rename_i c hcells
    have hg : h.get o = some (.cells c) := by
     unfold Heap.cells? at hcells
     split at hcells <;> try (cases hcells; done)
     injection hcells with hcells
     subst hcells
     assumption
    split at ha <;> try (cases ha; done)
    rename_i L r hcond hlens
    simp only [Bool.and_eq_true,Bool.not_eq_true'] at hcond
    obtain ⟨⟨⟨hspare,hgen⟩,hesz⟩,hro⟩ := hcond
    have hgen := Nat.eq_of_beq_eq_true hgen
    have hesz := Nat.eq_of_beq_eq_true hesz
    subst hgen
    generalize hb : base = base' at hs
    generalize hsc : sCap = sCap' at hs
    cases hs with
    | @rest _ _ _ _ _ e0 l hm a haddr hn hoff he0 =>
     subst hb; subst hsc
     have hL := lenOf_last hlens
     obtain ⟨hor1,hor2,hor3⟩ := (R.obj o _ hg).2
     obtain ⟨l1,arr,et,fz,e1,e2,e3,e4,e5,e6,e7⟩ := hor1 c.g L hL
     rw [hm] at e1
     cases e1
     cases e4 hro
     obtain ⟨e8,e9,e10⟩ := e7.1 rfl hspare
     have hez : l.esz = esz := e2.trans hesz
     have hxl' := hx.length
     have hnorm : sLen + (m' + 1) <= l.kap - k -> a = ⟨l.blk,l.base + off,none⟩ := fun q => by
      rcases haddr with h | ⟨h1,h2⟩
      ·exact h
      ·omega
     subst he0
     have hko : off = k * esz := by rw [hoff,hez]
     split at ha
     ·-- within what is known
      rename_i hle
      have hle := Nat.le_of_ble_eq_true hle
      split at ha <;> try (cases ha; done)
      rename_i h1 hw
      injection ha with ha
      injection ha with ha1 ha2
      subst ha1; subst ha2
      have hroom : sLen + (m' + 1) + k <= l.kap := by
       have : (k + (sLen + (m' + 1))) * esz <= l.kap * esz := by rw [Nat.add_mul, <- hko, <- hez]; rw [<- hez] at hle; omega
       have := Nat.le_of_mul_le_mul_right this (by omega)
       omega
      have ha := hnorm (by omega)
      subst ha
      obtain ⟨w',g1,g2⟩ := R.write hw hx hm
      refine ⟨μ,_,w',hf.room (by omega) w' ?_,Mu.le_refl μ,g2,.rest hm _ (.inl rfl) (by omega) hoff rfl⟩
      simp only [addr_add]
      rw [show l.base + off + sLen * esz = l.base + (off + sLen * esz) from by omega]
      exact g1
     ·rename_i hle
      split at ha <;> try (cases ha; done)
      rename_i old nz hcond2 _ hr
      simp only [Bool.and_eq_true] at hcond2
      simp only [Nat.succ_eq_add_one] at *
      obtain ⟨hlim,hones⟩ := hcond2
      have hlim := Nat.le_of_ble_eq_true hlim
      obtain ⟨olds,q1,q2⟩ := elems_run (P := P) R hs0 (n := sLen) (m := sLen) (esz := nz + 1) (xs := old) rfl (Nat.le_refl _) (elems_of_read hr)
      have hrun := q2 w.drew rfl
      have hold : old.length = sLen * (nz + 1) := by
       obtain ⟨_,_,q,_⟩ := R.read hr hm
       exact q
      have holds := q1.length
      obtain ⟨c2,L2,r1,r2,r3,r4⟩ := readCells_some hr
      rw [hg] at r1
      cases r1
      rw [hL] at r2
      cases r2
      have hcur : ∀ (i : Nat) (v : V),old[i]? = some v -> ∃ x,arr[l.base + off + i]? = some x /\ VR μ v x := by
       intro i v hv
       have hi := (List.getElem?_eq_some_iff.1 hv).1
       rw [r4,List.getElem?_take,if_pos (by omega),List.getElem?_drop] at hv
       have := e6 (off + i) v (by omega) hv
       rwa [<- Nat.add_assoc] at this
      -- where there is room: what the cells come to
      have stored : sLen + (m' + 1) <= l.kap - k -> ∃ w' arr',(storeCells ⟨l.blk,l.base + off + sLen * (nz + 1),none⟩ ns).run P w = .ok () w' /\ w'.heap[l.blk]? = some (.cells arr' et (0,0)) /\ arr'.size = arr.size /\
        (∀ j,arr'[j]? = if l.base + off + sLen * (nz + 1) <= j /\ j < l.base + off + sLen * (nz + 1) + ns.length then ns[j - (l.base + off + sLen * (nz + 1))]? else arr[j]?) /\
        (∀ b',b' ≠ l.blk -> w'.heap[b']? = w.heap[b']?) /\ w'.heap.size = w.heap.size /\ w'.os = w.os /\ w'.tape = w.tape /\ w'.output = w.output := by
       intro q
       have hfit : (k + (sLen + (m' + 1))) * (nz + 1) <= l.kap * (nz + 1) := Nat.mul_le_mul_right _ (by omega)
       rw [hez] at e9
       have h5 : (k + (sLen + (m' + 1))) * (nz + 1) = k * (nz + 1) + sLen * (nz + 1) + (m' + 1) * (nz + 1) := by rw [Nat.add_mul,Nat.add_mul]; omega
       obtain ⟨w',arr',g1,g2,g3,g4,g5⟩ := run_storeCells (P := P) (b := l.blk) (off := l.base + off + sLen * (nz + 1)) ns 0 w arr e3 (fun _ => by omega) (hx.ones hones)
       exact ⟨w',arr',g1,g2,g3,by simpa using g4,g5⟩
      split at ha
      ·-- the array's begin
       injection ha with ha
       injection ha with ha1 ha2
       subst ha1; subst ha2
       have hk0 : k = 0 := by
        rcases Nat.eq_zero_or_pos k with q | q
        ·exact q
        ·have q2 : 0 < k * (nz + 1) := Nat.mul_pos q (Nat.succ_pos nz)
         omega
       subst hk0
       have hkeep : (match Nat.beq (sLen * (nz + 1)) L with | true => L :: r | false => []) = [] \/ ((match Nat.beq (sLen * (nz + 1)) L with | true => L :: r | false => []) = c.lens /\ old = c.cs.take L) := by
        cases hb : Nat.beq (sLen * (nz + 1)) L with
        | false => exact .inl rfl
        | true =>
         have := Nat.eq_of_beq_eq_true hb
         exact .inr ⟨hlens.symm,by rw [r4,this]; simp⟩
       have hkeepL : (match Nat.beq (sLen * (nz + 1)) L with | true => L :: r | false => []) = c.lens -> sLen * (nz + 1) = L := by
        intro q
        cases hb : Nat.beq (sLen * (nz + 1)) L with
        | false => rw [hb,hlens] at q; cases q
        | true => exact Nat.eq_of_beq_eq_true hb
       by_cases hroom : sLen + (m' + 1) <= l.kap - 0
       ·have ha := hnorm hroom
        subst ha
        obtain ⟨w',arr',g1,g2,g3,g4,g5,g6,g7,g8,g9⟩ := stored hroom
        have hlive : Live h o c.g := ⟨_,hg,L,hL⟩
        have hnro : ¬ isRo h o := by
         rintro ⟨x,hx',hr'⟩
         rw [hg] at hx'
         cases hx'
         rw [show c.ro = true from hr'] at hro
         cases hro
        have hmine := R.mine_live hlive hm hnro
        refine ⟨μ.put o (c.g + 1) l,.slice (some ⟨l.blk,l.base + 0,none⟩) (sLen + (m' + 1)) (l.kap - 0),w',hf.room hroom w' (by simp only [addr_add]; exact g1),?_,R.nextGen hg hro hspare hlens hkeep (l' := l) (arr' := arr') (et' := et) e2 g2 (by omega) (fun b hb => ?_) hmine (by have := (R.dom _ _ _ hm).2; omega) g7 g8 g9 (fun i v hv => ?_) ⟨?_,by rw [g3]; exact e9,e10⟩ (fun g M l2 hM hk hm2 e => ?_),?_⟩
        ·refine Mu.le_put l ?_
         cases hm2 : μ o (c.g + 1) with
         | none => rfl
         | some l2 =>
          have q : c.g + 1 <= c.g := R.gens o _ l2 _ hm2 hg
          omega
        ·by_cases e : b = l.blk
         ·exact .inr ⟨e ▸ hmine,e⟩
         ·exact .inl (g5 b e)
        ·rw [g4]
         by_cases hi : i < old.length
         ·rw [List.getElem?_append_left hi] at hv
          rw [if_neg (by omega)]
          simpa using hcur i v hv
         ·rw [List.getElem?_append_right (by omega)] at hv
          have hi2 := (List.getElem?_eq_some_iff.1 hv).1
          rw [if_pos (by omega),show l.base + i - (l.base + 0 + sLen * (nz + 1)) = i - old.length from by omega]
          exact hx.get hv
        ·rw [List.length_append,hold,hxl, <- Nat.add_mul,hez]
         exact Nat.mul_le_mul_right _ (by omega)
        ·have hb := hor3 g c.g M L l2 l hM hL hm2 hm e
         refine ⟨hb,arr,et,by rw [e]; exact e3,fun i hi => ?_⟩
         have hML : M <= L := by
          rcases lens_cons hlens hM with ⟨_,rfl⟩ | ⟨_,hmem⟩
          ·exact Nat.le_refl _
          ·rw [hlens] at hor2
           exact (List.pairwise_cons.1 hor2).1 M hmem
         have := hkeepL hk
         rw [g4,if_neg (by omega)]
        ·have := VR.rest (μ := μ.put o (c.g + 1) l) (o := o) (g := c.g + 1) (off := 0) (len := sLen + (m' + 1)) (n := 0) (Mu.put_same ..) ⟨l.blk,l.base + 0,none⟩ (.inl rfl) (by omega) (by simp) hez
         exact this
       ·obtain ⟨cap',hc1,hc2⟩ := hf.grow (by omega) hlim olds hrun
        have happ := q1.append hx
        have hal := happ.length
        have hmul : (sLen + (m' + 1)) * (nz + 1) + (cap' - (sLen + (m' + 1))) * (nz + 1) = cap' * (nz + 1) := by rw [<- Nat.add_mul]; congr 1; omega
        have hapl : (old ++ xs).length = (sLen + (m' + 1)) * (nz + 1) := by rw [List.length_append,hold,hxl, <- Nat.add_mul]
        refine ⟨μ.put o (c.g + 1) ⟨w.heap.size,0,cap',nz + 1⟩,_,_,hc2,?_,R.nextGen hg hro hspare hlens hkeep (l' := ⟨w.heap.size,0,cap',nz + 1⟩) (arr' := olds.toArray ++ ns.toArray ++ Builtin.zeroCells zc (cap' - (sLen + (m' + 1)))) (et' := e) hesz.symm ?_ ?_ (fun b hb => .inl ?_) (R.mine_fresh _ (Nat.le_refl _)) ?_ rfl rfl rfl (fun i v hv => ?_) ⟨?_,?_,Nat.succ_pos _⟩ (fun g M l2 hM hk hm2 e' => ?_),?_⟩
        ·refine Mu.le_put _ ?_
         cases hm2 : μ o (c.g + 1) with
         | none => rfl
         | some l2 =>
          have q : c.g + 1 <= c.g := R.gens o _ l2 _ hm2 hg
          omega
        ·show (w.heap.push _)[w.heap.size]? = _
         simp
        ·show w.heap.size <= (w.heap.push _).size
         simp
        ·show (w.heap.push _)[b]? = _
         rw [Array.getElem?_push,if_neg (by omega)]
        ·show w.heap.size < (w.heap.push _).size
         simp
        ·obtain ⟨y,h1,h2⟩ := happ.get hv
         refine ⟨y,?_,h2⟩
         have hlt := (List.getElem?_eq_some_iff.1 h1).1
         simp only [Nat.zero_add]
         rw [Array.getElem?_append_left (by simp at hlt ⊢; omega), <- h1]
         simp
        ·rw [hapl]; exact Nat.mul_le_mul_right _ hc1
        ·simp only [Array.size_append,size_zc,hsz]
         simp only [List.length_append] at hal hapl
         simp
         omega
        ·have := (R.dom _ _ _ hm2).2
         simp only at e'
         omega
        ·have := VR.rest (μ := μ.put o (c.g + 1) ⟨w.heap.size,0,cap',nz + 1⟩) (o := o) (g := c.g + 1) (off := 0) (len := sLen + (m' + 1)) (n := 0) (Mu.put_same ..) ⟨w.heap.size,0,none⟩ (.inl rfl) (by simpa using hc1) (by simp) rfl
         simpa using this
      ·-- behind its begin: another object,the old one not read any more
       rename_i off'
       injection ha with ha
       injection ha with ha1 ha2
       subst ha1; subst ha2
       have R0 := R.kill hg
       by_cases hroom : sLen + (m' + 1) <= l.kap - k
       ·have ha := hnorm hroom
        subst ha
        obtain ⟨w',arr',g1,g2,g3,g4,g5,g6,g7,g8,g9⟩ := stored hroom
        have hlive : Live h o c.g := ⟨_,hg,L,hL⟩
        have hnro : ¬ isRo h o := by
         rintro ⟨x,hx',hr'⟩
         rw [hg] at hx'
         cases hx'
         rw [show c.ro = true from hr'] at hro
         cases hro
        have hmine := R.mine_live hlive hm hnro
        have hmine0 : Mine K μ (h.put o (.cells { c with lens := [] })) h.next l.blk := by
         refine ⟨hmine.1,fun o' g' l2 hne ⟨x,hx1,hx2⟩ hm2 => ?_⟩
         rw [Heap.get_put] at hx1
         by_cases eo : o' = o
         ·rw [if_pos eo] at hx1
          cases hx1
          obtain ⟨M,hM⟩ := hx2
          unfold Cells.lenOf at hM
          split at hM <;> simp at hM
         ·rw [if_neg eo] at hx1
          exact hmine.2 o' g' l2 eo ⟨x,hx1,hx2⟩ hm2
        have hfit : (sLen + (m' + 1)) * (nz + 1) <= (l.kap - k) * (nz + 1) := Nat.mul_le_mul_right _ hroom
        have hkk : (l.kap - k) * (nz + 1) + k * (nz + 1) = l.kap * (nz + 1) := by rw [<- Nat.add_mul]; congr 1; omega
        have hpush := R0.pushAt (w' := w') (old ++ xs) ⟨l.blk,l.base + (off' + 1),l.kap - k,nz + 1⟩ arr' et g2 g6 g5 hmine0 (R.dom _ _ _ hm).2 g7 g8 g9 (fun i v hv => ?_) ⟨?_,?_,Nat.succ_pos _⟩
        ·refine ⟨_,_,w',hf.room hroom w' (by simp only [addr_add]; exact g1),Mu.le_put _ (R0.fresh 0),hpush,?_⟩
         have := VR.rest (μ := μ.put h.next 0 ⟨l.blk,l.base + (off' + 1),l.kap - k,nz + 1⟩) (o := h.next) (g := 0) (off := 0) (len := sLen + (m' + 1)) (n := 0) (Mu.put_same ..) ⟨l.blk,l.base + (off' + 1),none⟩ (.inl rfl) (by simpa using hroom) (by simp) rfl
         simpa using this
        ·simp only
         rw [g4]
         by_cases hi : i < old.length
         ·rw [List.getElem?_append_left hi] at hv
          rw [if_neg (by omega)]
          exact hcur i v hv
         ·rw [List.getElem?_append_right (by omega)] at hv
          have hi2 := (List.getElem?_eq_some_iff.1 hv).1
          rw [if_pos (by omega),show l.base + (off' + 1) + i - (l.base + (off' + 1) + sLen * (nz + 1)) = i - old.length from by omega]
          exact hx.get hv
        ·rw [List.length_append,hold,hxl, <- Nat.add_mul]
         exact hfit
        ·simp only
         rw [g3]
         rw [hez] at e9
         omega
       ·exact fresh _ R0 old olds q1 hold hrun (by omega) hlim (Nat.succ_pos _)
  ·cases ha
end
end Go.Xr
namespace Go.Xr
open Go.RowKit
theorem hasKey_mem {k : Int} {v : V} : ∀ {es : List (Int × V)},hasKey k es = some v -> (k,v) ∈ es
 | [],h => by simp [hasKey] at h
 | (a,x) :: r,h => by
  simp only [hasKey] at h
  by_cases e : a = k
  ·simp [e] at h; subst h; subst e; exact List.mem_cons_self ..
  ·simp [e] at h; exact List.mem_cons_of_mem _ (hasKey_mem h)
theorem hasKey_of_mem {k : Int} {v : V} : ∀ {es : List (Int × V)},es.Pairwise (fun a b => a.1 < b.1) -> (k,v) ∈ es -> hasKey k es = some v
 | [],_,h => by cases h
 | (a,x) :: r,hp,h => by
  rw [List.pairwise_cons] at hp
  simp only [hasKey]
  cases h with
  | head => simp
  | tail _ h =>
   have := hp.1 _ h
   simp only at this
   have e : ¬ a = k := by omega
   simp [e]
   exact hasKey_of_mem hp.2 h
theorem hasKey_none {k : Int} : ∀ {es : List (Int × V)},hasKey k es = none -> ∀ v,(k,v) ∉ es
 | [],_,v,h => by cases h
 | (a,x) :: r,hn,v,h => by
  simp only [hasKey] at hn
  by_cases e : a = k
  ·simp [e] at hn
  ·simp [e] at hn
   cases h with
   | head => exact e rfl
   | tail _ h => exact hasKey_none hn v h
theorem mem_addKey {k : Int} {v : V} {p : Int × V} : ∀ {es : List (Int × V)},es.Pairwise (fun a b => a.1 < b.1) -> (p ∈ addKey k v es ↔ p = (k,v) \/ (p ∈ es /\ p.1 ≠ k))
 | [],_ => by simp [addKey]
 | (a,x) :: r,hp => by
  rw [List.pairwise_cons] at hp
  simp only [addKey]
  by_cases h1 : k < a
  ·simp only [h1,decide_true]
   constructor
   ·intro h
    cases h with
    | head => exact .inl rfl
    | tail _ h =>
     refine .inr ⟨h,?_⟩
     cases h with
     | head => simp only; omega
     | tail _ h => have := hp.1 _ h; simp only at this; omega
   ·rintro (rfl | ⟨h,_⟩)
    ·exact List.mem_cons_self ..
    ·exact List.mem_cons_of_mem _ h
  ·by_cases h2 : a < k
   ·simp only [h1,h2,decide_true,decide_false,List.mem_cons,mem_addKey hp.2]
    constructor
    ·rintro (rfl | rfl | ⟨h,h3⟩)
     ·exact .inr ⟨.inl rfl,by simp only; omega⟩
     ·exact .inl rfl
     ·exact .inr ⟨.inr h,h3⟩
    ·rintro (rfl | ⟨rfl | h,h3⟩)
     ·exact .inr (.inl rfl)
     ·exact .inl rfl
     ·exact .inr (.inr ⟨h,h3⟩)
   ·have e : a = k := by omega
    subst e
    simp only [h1,decide_false,List.mem_cons]
    constructor
    ·rintro (rfl | h)
     ·exact .inl rfl
     ·have := hp.1 _ h
      exact .inr ⟨.inr h,by omega⟩
    ·rintro (rfl | ⟨rfl | h,h3⟩)
     ·exact .inl rfl
     ·exact absurd rfl h3
     ·exact .inr h
theorem addKey_sorted {k : Int} {v : V} : ∀ {es : List (Int × V)},es.Pairwise (fun a b => a.1 < b.1) -> (addKey k v es).Pairwise (fun a b => a.1 < b.1)
 | [],_ => by simp [addKey]
 | (a,x) :: r,hp => by
  have hp0 := hp
  rw [List.pairwise_cons] at hp
  simp only [addKey]
  by_cases h1 : k < a
  ·simp only [h1,decide_true]
   rw [List.pairwise_cons]
   refine ⟨fun p hpm => ?_,hp0⟩
   cases hpm with
   | head => exact h1
   | tail _ h => have := hp.1 _ h; simp only at this ⊢; omega
  ·by_cases h2 : a < k
   ·simp only [h1,h2,decide_true,decide_false]
    rw [List.pairwise_cons]
    refine ⟨fun p hpm => ?_,addKey_sorted hp.2⟩
    rcases (mem_addKey hp.2).1 hpm with rfl | ⟨h,_⟩
    ·exact h2
    ·exact hp.1 _ h
   ·have e : a = k := by omega
    subst e
    simp only [h1,decide_false]
    rw [List.pairwise_cons]
    exact ⟨fun p h => hp.1 p h,hp.2⟩
theorem addKey_length {k : Int} {v : V} : ∀ {es : List (Int × V)},es.Pairwise (fun a b => a.1 < b.1) -> (addKey k v es).length = match hasKey k es with | some _ => es.length | none => es.length + 1
 | [],_ => by simp [addKey,hasKey]
 | (a,x) :: r,hp => by
  rw [List.pairwise_cons] at hp
  simp only [addKey,hasKey]
  by_cases h1 : k < a
  ·have e : ¬ a = k := by omega
   have hn : hasKey k r = none := by
    cases hk : hasKey k r with
    | none => rfl
    | some y => have := hp.1 _ (hasKey_mem hk); simp only at this; omega
   simp [h1,e,hn]
  ·by_cases h2 : a < k
   ·have e : ¬ a = k := by omega
    simp only [h1,h2,e,decide_true,decide_false,List.length_cons,addKey_length hp.2]
    cases hasKey k r <;> rfl
   ·have e : a = k := by omega
    subst e
    simp
theorem mem_dropKey {k : Int} {p : Int × V} : ∀ {es : List (Int × V)},es.Pairwise (fun a b => a.1 < b.1) -> (p ∈ dropKey k es ↔ p ∈ es /\ p.1 ≠ k)
 | [],_ => by simp [dropKey]
 | (a,x) :: r,hp => by
  rw [List.pairwise_cons] at hp
  simp only [dropKey]
  by_cases e : a = k
  ·subst e
   simp only [decide_true,List.mem_cons]
   constructor
   ·intro h; have := hp.1 _ h; exact ⟨.inr h,by omega⟩
   ·rintro ⟨rfl | h,h2⟩
    ·exact absurd rfl h2
    ·exact h
  ·simp only [e,decide_false,List.mem_cons,mem_dropKey hp.2]
   constructor
   ·rintro (rfl | ⟨h,h2⟩)
    ·exact ⟨.inl rfl,e⟩
    ·exact ⟨.inr h,h2⟩
   ·rintro ⟨rfl | h,h2⟩
    ·exact .inl rfl
    ·exact .inr ⟨h,h2⟩
theorem dropKey_sorted {k : Int} : ∀ {es : List (Int × V)},es.Pairwise (fun a b => a.1 < b.1) -> (dropKey k es).Pairwise (fun a b => a.1 < b.1)
 | [],_ => by simp [dropKey]
 | (a,x) :: r,hp => by
  rw [List.pairwise_cons] at hp
  simp only [dropKey]
  by_cases e : a = k
  ·simp only [e,decide_true]; exact hp.2
  ·simp only [e,decide_false]
   rw [List.pairwise_cons]
   exact ⟨fun p h => hp.1 p ((mem_dropKey hp.2).1 h).1,dropKey_sorted hp.2⟩
theorem dropKey_length {k : Int} : ∀ {es : List (Int × V)},(dropKey k es).length = match hasKey k es with | some _ => es.length - 1 | none => es.length
 | [] => by simp [dropKey,hasKey]
 | (a,x) :: r => by
  simp only [dropKey,hasKey]
  by_cases e : a = k
  ·simp [e]
  ·simp only [e,decide_false,List.length_cons,dropKey_length]
   cases hk : hasKey k r with
   | none => rfl
   | some y =>
    have := List.length_pos_of_mem (hasKey_mem hk)
    simp only
    omega
theorem hasKey_addKey {k m : Int} {v : V} {es : List (Int × V)} (hp : es.Pairwise (fun a b => a.1 < b.1)) : hasKey m (addKey k v es) = if m = k then some v else hasKey m es := by
 by_cases e : m = k
 ·subst e
  rw [if_pos rfl]
  exact hasKey_of_mem (addKey_sorted hp) ((mem_addKey hp).2 (.inl rfl))
 ·rw [if_neg e]
  cases hk : hasKey m es with
  | some y => exact hasKey_of_mem (addKey_sorted hp) ((mem_addKey hp).2 (.inr ⟨hasKey_mem hk,e⟩))
  | none =>
   cases hk2 : hasKey m (addKey k v es) with
   | none => rfl
   | some y =>
    rcases (mem_addKey hp).1 (hasKey_mem hk2) with h | ⟨h,_⟩
    ·cases h; exact absurd rfl e
    ·exact absurd h (hasKey_none hk y)
theorem hasKey_dropKey {k m : Int} {es : List (Int × V)} (hp : es.Pairwise (fun a b => a.1 < b.1)) : hasKey m (dropKey k es) = if m = k then none else hasKey m es := by
 by_cases e : m = k
 ·subst e
  rw [if_pos rfl]
  cases hk2 : hasKey m (dropKey m es) with
  | none => rfl
  | some y => exact absurd rfl ((mem_dropKey hp).1 (hasKey_mem hk2)).2
 ·rw [if_neg e]
  cases hk : hasKey m es with
  | some y => exact hasKey_of_mem (dropKey_sorted hp) ((mem_dropKey hp).2 ⟨hasKey_mem hk,e⟩)
  | none =>
   cases hk2 : hasKey m (dropKey k es) with
   | none => rfl
   | some y => exact absurd ((mem_dropKey hp).1 (hasKey_mem hk2)).1 (hasKey_none hk y)
theorem findNow_int {kd k0 : IntKind} {m : Int} : ∀ (es : List MapEntry) (i : Nat),(∀ e ∈ es, ∃ n,e.key = .int kd n) ->
  (∃ j e,es[j]? = some e /\ e.key = .int kd m /\ Instr.findNow (.int k0) (.int kd m) es i = some (some (i + j,e.val))) \/ ((∀ e ∈ es,e.key ≠ .int kd m) /\ Instr.findNow (.int k0) (.int kd m) es i = some none)
 | [],i,_ => .inr ⟨fun e he => (by cases he),rfl⟩
 | e :: es,i,h => by
  obtain ⟨n,hn⟩ := h e (List.mem_cons_self ..)
  by_cases he : m = n
  ·subst he
   exact .inl ⟨0,e,rfl,hn,by simp [Instr.findNow,hn,Instr.sameNow]⟩
  ·have hb : (m == n) = false := by simpa using he
   have hs : Instr.findNow (.int k0) (.int kd m) (e :: es) i = Instr.findNow (.int k0) (.int kd m) es (i + 1) := by
    simp [Instr.findNow,hn,Instr.sameNow,hb]
   rcases findNow_int es (i + 1) (fun e' he' => h e' (List.mem_cons_of_mem _ he')) with ⟨j,e',h1,h2,h3⟩ | ⟨h1,h2⟩
   ·exact .inl ⟨j + 1,e',by simpa using h1,h2,by rw [hs,h3]; congr 3; omega⟩
   ·refine .inr ⟨fun e' he' => ?_,by rw [hs,h2]⟩
    cases he' with
    | head => rw [hn]; intro q; injection q with _ q; exact he q.symm
    | tail _ he' => exact h1 e' he'
section
variable [RoLim] {P : Program} {K : Nat -> Prop} {w0 : World} {μ μ' : Mu} {h h' : Heap} {w w' : World} {ρ : Rd} {ρ' : Operand -> Value}
omit [RoLim] in
theorem run_checkKey_succ {n : Nat} {b : Bool} {t : TypeId} {kd : IntKind} (ht : P.underlying t = some (.int kd)) (x : Value) : (Instr.checkKey b (n + 1) t x).run P w = .ok () w := by
 simp [Instr.checkKey,run_und ht]
omit [RoLim] in
theorem run_checkKey {b : Bool} {t : TypeId} {kd : IntKind} (ht : P.underlying t = some (.int kd)) (x : Value) : (Instr.checkKey b 10000 t x).run P w = .ok () w := run_checkKey_succ (n := 9999) ht x
omit [RoLim] in
theorem run_findKey {t : TypeId} {k0 kd : IntKind} {m : Int} {es : List MapEntry} (ht : P.underlying t = some (.int k0)) (hk : ∀ e ∈ es, ∃ n,e.key = .int kd n) :
  (∃ j e,es[j]? = some e /\ e.key = .int kd m /\ (Instr.findKey t (.int kd m) es).run P w = .ok (some (j,e.val)) w) \/ ((∀ e ∈ es,e.key ≠ .int kd m) /\ (Instr.findKey t (.int kd m) es).run P w = .ok none w) := by
 rcases findNow_int (k0 := k0) (m := m) es 0 hk with ⟨j,e,h1,h2,h3⟩ | ⟨h1,h2⟩
 ·exact .inl ⟨j,e,h1,h2,by simp [Instr.findKey,run_und ht,h3]⟩
 ·exact .inr ⟨h1,by simp [Instr.findKey,run_und ht,h2]⟩
omit [RoLim] in
theorem MR.key {kd : IntKind} {es : List (Int × V)} {es' : List MapEntry} {clock : Nat} (hr : MR μ kd es es' clock) : ∀ e ∈ es', ∃ n,e.key = .int kd n := fun e he => let ⟨n,_,h,_⟩ := hr.there e he; ⟨n,h⟩
omit [RoLim] in
theorem MR.find {kd : IntKind} {es : List (Int × V)} {es' : List MapEntry} {clock : Nat} (hr : MR μ kd es es' clock) {t : TypeId} {k0 : IntKind} (ht : P.underlying t = some (.int k0)) (m : Int) :
  (∃ j e v,es'[j]? = some e /\ e.key = .int kd m /\ hasKey m es = some v /\ VR μ v e.val /\ (Instr.findKey t (.int kd m) es').run P w = .ok (some (j,e.val)) w) \/
   (hasKey m es = none /\ (∀ e ∈ es',e.key ≠ .int kd m) /\ (Instr.findKey t (.int kd m) es').run P w = .ok none w) := by
 rcases run_findKey (P := P) (w := w) (m := m) ht hr.key with ⟨j,e,h1,h2,h3⟩ | ⟨h1,h2⟩
 ·obtain ⟨n,v,h4,h5,h6⟩ := hr.there e (List.mem_of_getElem? h1)
  rw [h2] at h4
  cases h4
  exact .inl ⟨j,e,v,h1,h2,h5,h6,h3⟩
 ·refine .inr ⟨?_,h1,h2⟩
  cases hk : hasKey m es with
  | none => rfl
  | some v =>
   obtain ⟨e,h3,h4⟩ := hr.back m v hk
   exact absurd h4 (h1 e h3)
omit [RoLim] in
theorem run_getObj {r : Nat} {o : Obj} (ho : w.heap[r]? = some o) (hn : ∀ c e f,o ≠ .cells c e f) : (getObj r).run P w = .ok o w := by
 cases o <;> first | (exact absurd rfl (hn _ _ _)) | simp [getObj,Sem.run,ho]
omit [RoLim] in
theorem run_setObj {r : Nat} {o o' : Obj} (ho : w.heap[r]? = some o) (hn : ∀ c e f,o ≠ .cells c e f) : (setObj r o').run P w = .ok () { w with heap := w.heap.setIfInBounds r o' } := by
 cases o <;> first | (exact absurd rfl (hn _ _ _)) | simp [setObj,Sem.run,ho]
theorem Rel.mapAt (R : Rel P K w0 μ h w) {o : Nat} {kd : IntKind} {es : List (Int × V)} {ins : Nat} (hg : h.get o = some (.map kd es ins)) :
  ∃ l es' clock,μ o 0 = some l /\ w.heap[l.blk]? = some (.map es' clock) /\ MR μ kd es es'.toList clock := (R.obj o _ hg).2
theorem Rel.turn (R : Rel P K w0 μ h w) {o : Nat} {x0 x1 : XObj} {l : Loc} {obj : Obj} (hg : h.get o = some x0) (hl : LiveX x0 0) (hro : ¬ roX x0) (hl1 : ∀ g,LiveX x1 g -> g = 0) (hgen : ∀ g,genX x0 g -> genX x1 g) (hm : μ o 0 = some l)
  (hor : OR P μ { w with heap := w.heap.setIfInBounds l.blk obj } o x1)
  (hit : ∀ oi mo ins seen cur kd es ins',(h.put o x1).get oi = some (.miter (some mo) ins seen cur) -> (h.put o x1).get mo = some (.map kd es ins') -> oi = o \/ mo = o -> ins <= ins' /\ (ins = ins' -> IterOk μ { w with heap := w.heap.setIfInBounds l.blk obj } kd mo oi seen cur)) :
  Rel P K w0 μ (h.put o x1) { w with heap := w.heap.setIfInBounds l.blk obj } := by
 have hnro : ¬ isRo h o := by rintro ⟨x,hx,hr⟩; rw [hg] at hx; cases hx; exact hro hr
 have hmine := R.mine_live ⟨_,hg,hl⟩ hm hnro
 refine R.step o x1 (Mu.le_refl μ) (fun o' => Heap.get_put ..) (Nat.le_refl _) (R.obj o _ hg).1 (by simp) (fun b _ => ?_) (fun o' g l' hm' => .inl hm') (fun g l' hl' hm' => ?_) (fun g l' hm' => hgen g (R.gens o g l' _ hm' hg)) hor hit rfl rfl rfl
 ·by_cases e : b = l.blk
  ·exact .inr (e ▸ hmine)
  ·left
   show (w.heap.setIfInBounds l.blk obj)[b]? = _
   rw [Array.getElem?_setIfInBounds,if_neg (fun q => e q.symm)]
 ·have := hl1 g hl'
  subst this
  rw [hm] at hm'
  cases hm'
  exact hmine
omit [RoLim] in
theorem set_at {l : Loc} {obj : Obj} (hlt : l.blk < w.heap.size) : ({ w with heap := w.heap.setIfInBounds l.blk obj } : World).heap[l.blk]? = some obj := by
 show (w.heap.setIfInBounds l.blk obj)[l.blk]? = _
 simp [hlt]
omit [RoLim] in
theorem set_other {b b' : Nat} {obj : Obj} (hne : b' ≠ b) : ({ w with heap := w.heap.setIfInBounds b obj } : World).heap[b']? = w.heap[b']? := by
 show (w.heap.setIfInBounds b obj)[b']? = _
 rw [Array.getElem?_setIfInBounds,if_neg (fun q => hne q.symm)]
theorem Rel.turnMap (R : Rel P K w0 μ h w) {o : Nat} {kd : IntKind} {es es1 : List (Int × V)} {ins ins1 : Nat} {l : Loc} {es' es1' : Array MapEntry} {clock clock1 : Nat} (hg : h.get o = some (.map kd es ins)) (hm : μ o 0 = some l) (hb : w.heap[l.blk]? = some (.map es' clock))
  (hr : MR μ kd es1 es1'.toList clock1) (hins : ins < ins1 \/ (ins1 = ins /\ clock1 = clock /\ ∀ e ∈ es1'.toList, ∃ e0 ∈ es'.toList,e0.key = e.key /\ e0.born = e.born)) :
  Rel P K w0 μ (h.put o (.map kd es1 ins1)) { w with heap := w.heap.setIfInBounds l.blk (.map es1' clock1) } := by
 have hlt := (R.dom o 0 l hm).2
 refine R.turn hg rfl (by simp [roX]) (fun g q => q) (fun g q => q) hm ⟨l,es1',clock1,hm,set_at hlt,hr⟩ (fun oi mo ins2 seen cur kd2 es2 ins3 q1 q2 q3 => ?_)
 rw [Heap.get_put] at q1 q2
 have hoi : oi ≠ o := by
  intro e
  rw [if_pos e] at q1
  cases q1
 have hmo : mo = o := q3.resolve_left hoi
 rw [if_neg hoi] at q1
 rw [if_pos hmo] at q2
 cases q2
 subst hmo
 obtain ⟨i1,i2⟩ := R.iters oi mo ins2 seen cur _ _ ins q1 hg
 rcases hins with hlt2 | ⟨rfl,rfl,hsub⟩
 ·exact ⟨by omega,fun e => by omega⟩
 ·refine ⟨i1,fun e => ?_⟩
  intro lm li es'' clock'' hlm hli hw
  rw [hm] at hlm
  cases hlm
  rw [set_at hlt] at hw
  cases hw
  obtain ⟨seen',s1,s2,s3⟩ := i2 e l li es' clock1 hm hli hb
  have hne : li.blk ≠ l.blk := by
   intro q
   rw [q,hb] at s1
   cases s1
  refine ⟨seen',(set_other hne).trans s1,fun e1 he1 n hn => ?_,fun k hk => ?_⟩
  ·obtain ⟨e0,h1,h2,h3⟩ := hsub e1 he1
   rw [<- h3]
   exact s2 e0 h1 n (h2.trans hn)
  ·obtain ⟨st,t1,t2⟩ := s3 k hk
   refine ⟨st,t1,fun e1 he1 => ?_⟩
   obtain ⟨e0,h1,h2,h3⟩ := hsub e1 he1
   rw [<- h3, <- h2]
   exact t2 e0 h1
end
end Go.Xr
namespace Go.Xr
open Go.RowKit
section
variable [RoLim] {P : Program} {K : Nat -> Prop} {w0 : World} {μ μ' : Mu} {h h' : Heap} {w w' : World} {ρ : Rd} {ρ' : Operand -> Value}
omit [RoLim] in
theorem kindEq_eq {a b : IntKind} (h : kindEq a b = true) : a = b := by cases a <;> cases b <;> first | rfl | (simp [kindEq] at h)
omit [RoLim] in
theorem modify_map {α β : Type} (a : Array α) (j : Nat) (f : α -> α) (g : α -> β) (hg : ∀ e,a[j]? = some e -> g (f e) = g e) : (a.modify j f).toList.map g = a.toList.map g := by
 apply List.ext_getElem?
 intro i
 simp only [List.getElem?_map,Array.getElem?_toList,Array.getElem?_modify]
 by_cases e : j = i
 ·subst e
  rw [if_pos rfl]
  cases ha : a[j]? with
  | none => rfl
  | some x => simp [hg x ha]
 ·rw [if_neg e]
omit [RoLim] in
theorem pairwise_at {α : Type} {R : α -> α -> Prop} {l : List α} (hs : ∀ a b,R a b -> R b a) (hp : l.Pairwise R) {i j : Nat} {a b : α} (ha : l[i]? = some a) (hb : l[j]? = some b) (hne : i ≠ j) : R a b := by
 obtain ⟨hi,rfl⟩ := List.getElem?_eq_some_iff.1 ha
 obtain ⟨hj,rfl⟩ := List.getElem?_eq_some_iff.1 hb
 rw [List.pairwise_iff_getElem] at hp
 rcases Nat.lt_or_gt_of_ne hne with h | h
 ·exact hp i j hi hj h
 ·exact hs _ _ (hp j i hj hi h)
omit [RoLim] in
theorem MR.update {kd : IntKind} {es : List (Int × V)} {es' : Array MapEntry} {clock : Nat} (hr : MR μ kd es es'.toList clock) {j : Nat} {e : MapEntry} {m : Int} {v0 v : V} {x : Value} (hj : es'[j]? = some e) (hk : e.key = .int kd m) (h0 : hasKey m es = some v0) (hv : VR μ v x) (hw : ∀ o,v = .hole o -> ∃ l,μ o 0 = some l /\ l.base = e.born) :
  MR μ kd (addKey m v es) (es'.modify j fun e => { e with key := .int kd m,val := x }).toList clock := by
 have hjl : es'.toList[j]? = some e := by simpa using hj
 have hkeys := modify_map es' j (fun e => { e with key := .int kd m,val := x }) (·.key) (fun e' h => by rw [hj] at h; cases h; exact hk.symm)
 have hborn := modify_map es' j (fun e => { e with key := .int kd m,val := x }) (·.born) (fun e' h => rfl)
 have hmem : ∀ e1 ∈ (es'.modify j fun e => { e with key := .int kd m,val := x }).toList,(e1 = { e with key := .int kd m,val := x }) \/ (e1 ∈ es'.toList /\ e1.key ≠ .int kd m) := by
  intro e1 h1
  obtain ⟨i,hi⟩ := List.getElem?_of_mem h1
  rw [Array.getElem?_toList,Array.getElem?_modify] at hi
  by_cases e2 : j = i
  ·subst e2
   rw [if_pos rfl,hj] at hi
   left
   simpa using hi.symm
  ·rw [if_neg e2] at hi
   have hi2 : es'.toList[i]? = some e1 := by simpa using hi
   refine .inr ⟨List.mem_of_getElem? hi2,?_⟩
   have := pairwise_at (fun a b h => fun q => h q.symm) hr.keys hi2 hjl (fun q => e2 q.symm)
   rw [hk] at this
   exact this
 refine ⟨fun e1 h1 => ?_,fun n y hn => ?_,?_,?_,?_,fun e1 h1 => ?_,addKey_sorted hr.sorted,fun e1 h1 n o hn ho => ?_⟩
 rotate_right
 ·rw [hasKey_addKey hr.sorted] at ho
  rcases hmem e1 h1 with rfl | ⟨h2,h3⟩
  ·injection hn with _ hn
   rw [if_pos hn.symm] at ho
   injection ho with ho
   exact hw o ho
  ·rw [if_neg (fun q => h3 (by rw [hn,q]))] at ho
   exact hr.open_ e1 h2 n o hn ho
 ·rcases hmem e1 h1 with rfl | ⟨h2,h3⟩
  ·exact ⟨m,v,rfl,by rw [hasKey_addKey hr.sorted,if_pos rfl],hv⟩
  ·obtain ⟨n,y,h4,h5,h6⟩ := hr.there e1 h2
   refine ⟨n,y,h4,?_,h6⟩
   rw [hasKey_addKey hr.sorted,if_neg (fun q => h3 (by rw [h4,q]))]
   exact h5
 ·rw [hasKey_addKey hr.sorted] at hn
  by_cases e2 : n = m
  ·subst e2
   refine ⟨{ e with key := .int kd n,val := x },?_,rfl⟩
   apply List.mem_of_getElem? (i := j)
   rw [Array.getElem?_toList,Array.getElem?_modify,if_pos rfl,hj]
   rfl
  ·rw [if_neg e2] at hn
   obtain ⟨e1,h1,h2⟩ := hr.back n y hn
   obtain ⟨i,hi⟩ := List.getElem?_of_mem h1
   refine ⟨e1,?_,h2⟩
   apply List.mem_of_getElem? (i := i)
   rw [Array.getElem?_toList,Array.getElem?_modify,if_neg]
   ·simpa using hi
   ·rintro rfl
    rw [hjl] at hi
    cases hi
    rw [hk] at h2
    injection h2 with _ q
    exact e2 q.symm
 ·rw [addKey_length hr.sorted,h0]
  simpa using hr.size
 ·have q : (es'.toList.map fun e : MapEntry => e.key).Pairwise (fun a b => a ≠ b) := List.pairwise_map.2 hr.keys
  rw [<- hkeys] at q
  exact List.pairwise_map.1 q
 ·have q : (es'.toList.map fun e : MapEntry => e.born).Pairwise (fun a b => a ≠ b) := List.pairwise_map.2 hr.stamps
  rw [<- hborn] at q
  exact List.pairwise_map.1 q
 ·have : e1.born ∈ (es'.modify j fun e => { e with key := .int kd m,val := x }).toList.map (·.born) := List.mem_map_of_mem h1
  rw [hborn] at this
  obtain ⟨e0,h2,h3⟩ := List.mem_map.1 this
  rw [<- h3]
  exact hr.young e0 h2
omit [RoLim] in
theorem MR.insert {kd : IntKind} {es : List (Int × V)} {es' : Array MapEntry} {clock : Nat} (hr : MR μ kd es es'.toList clock) {m : Int} {v : V} {x : Value} (h0 : hasKey m es = none) (hno : ∀ e ∈ es'.toList,e.key ≠ .int kd m) (hv : VR μ v x) (hw : ∀ o,v = .hole o -> ∃ l,μ o 0 = some l /\ l.base = clock) :
  MR μ kd (addKey m v es) (es'.push { key := .int kd m,val := x,born := clock }).toList (clock + 1) := by
 rw [Array.toList_push]
 refine ⟨fun e1 h1 => ?_,fun n y hn => ?_,?_,?_,?_,fun e1 h1 => ?_,addKey_sorted hr.sorted,fun e1 h1 n o hn ho => ?_⟩
 rotate_right
 ·rw [hasKey_addKey hr.sorted] at ho
  rcases List.mem_append.1 h1 with h2 | h2
  ·rw [if_neg (fun q => hno e1 h2 (by rw [hn,q]))] at ho
   exact hr.open_ e1 h2 n o hn ho
  ·rw [List.mem_singleton] at h2
   subst h2
   injection hn with _ hn
   rw [if_pos hn.symm] at ho
   injection ho with ho
   exact hw o ho
 ·rcases List.mem_append.1 h1 with h2 | h2
  ·obtain ⟨n,y,h4,h5,h6⟩ := hr.there e1 h2
   refine ⟨n,y,h4,?_,h6⟩
   rw [hasKey_addKey hr.sorted,if_neg (fun q => hno e1 h2 (by rw [h4,q]))]
   exact h5
  ·rw [List.mem_singleton] at h2
   subst h2
   exact ⟨m,v,rfl,by rw [hasKey_addKey hr.sorted,if_pos rfl],hv⟩
 ·rw [hasKey_addKey hr.sorted] at hn
  by_cases e2 : n = m
  ·subst e2
   exact ⟨_,List.mem_append.2 (.inr (List.mem_singleton.2 rfl)),rfl⟩
  ·rw [if_neg e2] at hn
   obtain ⟨e1,h1,h2⟩ := hr.back n y hn
   exact ⟨e1,List.mem_append.2 (.inl h1),h2⟩
 ·rw [addKey_length hr.sorted,h0]
  have := hr.size
  simp at this ⊢
  omega
 ·rw [List.pairwise_append]
  refine ⟨hr.keys,by simp,fun a ha b hb => ?_⟩
  rw [List.mem_singleton] at hb
  subst hb
  exact hno a ha
 ·rw [List.pairwise_append]
  refine ⟨hr.stamps,by simp,fun a ha b hb => ?_⟩
  rw [List.mem_singleton] at hb
  subst hb
  have := hr.young a ha
  simp only
  omega
 ·rcases List.mem_append.1 h1 with h2 | h2
  ·have := hr.young e1 h2; omega
  ·rw [List.mem_singleton] at h2
   subst h2
   simp only
   omega
omit [RoLim] in
theorem dropKey_none {k : Int} : ∀ {es : List (Int × V)},hasKey k es = none -> dropKey k es = es
 | [],_ => rfl
 | (a,x) :: r,h => by
  simp only [hasKey] at h
  by_cases e : a = k
  ·simp [e] at h
  ·simp only [e,decide_false] at h
   simp only [dropKey,e,decide_false,dropKey_none h]
omit [RoLim] in
theorem MR.erase {kd : IntKind} {es : List (Int × V)} {es' : Array MapEntry} {clock : Nat} (hr : MR μ kd es es'.toList clock) {j : Nat} {e : MapEntry} {m : Int} {v0 : V} (hj : es'[j]? = some e) (hk : e.key = .int kd m) (h0 : hasKey m es = some v0) :
  MR μ kd (dropKey m es) (es'.eraseIdxIfInBounds j).toList clock := by
 have hjl : es'.toList[j]? = some e := by simpa using hj
 have hlt : j < es'.size := (Array.getElem?_eq_some_iff.1 hj).1
 have he : (es'.eraseIdxIfInBounds j).toList = es'.toList.eraseIdx j := by
  unfold Array.eraseIdxIfInBounds
  rw [dif_pos hlt]
  simp
 rw [he]
 have hsub := List.eraseIdx_sublist es'.toList j
 refine ⟨fun e1 h1 => ?_,fun n y hn => ?_,?_,hr.keys.sublist hsub,hr.stamps.sublist hsub,fun e1 h1 => hr.young e1 (hsub.subset h1),dropKey_sorted hr.sorted,fun e1 h1 n o hn ho => ?_⟩
 rotate_right
 ·rw [hasKey_dropKey hr.sorted] at ho
  by_cases e2 : n = m
  ·rw [if_pos e2] at ho; cases ho
  ·rw [if_neg e2] at ho
   exact hr.open_ e1 (hsub.subset h1) n o hn ho
 ·obtain ⟨n,y,h4,h5,h6⟩ := hr.there e1 (hsub.subset h1)
  refine ⟨n,y,h4,?_,h6⟩
  rw [List.mem_eraseIdx_iff_getElem?] at h1
  obtain ⟨i,h7,h8⟩ := h1
  have := pairwise_at (fun a b h => fun q => h q.symm) hr.keys h8 hjl h7
  rw [hasKey_dropKey hr.sorted,if_neg]
  ·exact h5
  ·intro q
   exact this (by rw [h4,hk,q])
 ·rw [hasKey_dropKey hr.sorted] at hn
  by_cases e2 : n = m
  ·rw [if_pos e2] at hn; cases hn
  ·rw [if_neg e2] at hn
   obtain ⟨e1,h1,h2⟩ := hr.back n y hn
   refine ⟨e1,?_,h2⟩
   rw [List.mem_eraseIdx_iff_getElem?]
   obtain ⟨i,hi⟩ := List.getElem?_of_mem h1
   refine ⟨i,?_,hi⟩
   rintro rfl
   rw [hjl] at hi
   cases hi
   rw [hk] at h2
   injection h2 with _ q
   exact e2 q.symm
 ·rw [dropKey_length,h0]
  have := hr.size
  rw [List.length_eraseIdx]
  simp at this ⊢
  rw [if_pos hlt]
  omega
omit [RoLim] in
theorem sameBits_int (n : Nat) (k : IntKind) (m : Int) : Instr.sameBits n (.int k m) (.int k m) = true := by
 cases n <;> simp [Instr.sameBits]
omit [RoLim] in
theorem run_keyThatStays (k : IntKind) (m : Int) : (Instr.keyThatStays (.int k m) (.int k m)).run P w = .ok (.int k m) w := by
 unfold Instr.keyThatStays
 rw [sameBits_int]
 rfl
theorem op_lookup (R : Rel P K w0 μ h w) {t e : TypeId} {kd : IntKind} {z : V} {ok : Bool} {xo io : Operand} {k : IntKind} {n : Int} (hm : mapOf P t = some (kd,e)) (hz : zeroOf P e = some z) (hi : VR μ (.int k n) (ρ' io)) {x : V} (hx : VR μ x (ρ' xo))
  {r : Option V} (hr : (x = .nilm /\ r = none) \/ ∃ o es ins,x = .map o /\ h.get o = some (.map k es ins) /\ r = hasKey n es) {o : Oper} (ho : o.op = .lookup t xo io ok) :
  Res P K w0 μ ((execOp ρ' o).run P w) (tellV ok z r) h := by
 obtain ⟨kt,h1,h2⟩ := mapOf_some hm
 obtain ⟨i,zx,h3,h4,hzv⟩ := zeroOf_some hz
 generalize hx' : ρ' xo = x' at hx
 generalize hi' : ρ' io = i' at hi
 cases hi
 have tup : ∀ (v : V) (y : Value) (b : Bool),VR μ v y -> VR μ (.tup [v,.bool b]) (.tuple #[y,.bool b]) := fun v y b hv => VR.tup (.cons hv (.cons (.bool b) .nil))
 rcases hr with ⟨rfl,rfl⟩ | ⟨om,es,ins,rfl,hg,rfl⟩
 ·cases hx
  have q0 : (Instr.findKey kt (.int k n) []).run P w = .ok none w := by
   rcases run_findKey (P := P) (w := w) (m := n) (kd := k) (es := []) h2 (fun e he => by cases he) with ⟨j,e1,q1,_⟩ | ⟨_,q2⟩
   ·simp at q1
   ·exact q2
  have q : (Instr.lookup t (.map none) (.int k n) ok).run P w = .ok (if ok then .tuple #[zx,.bool false] else zx) w := by
   unfold Instr.lookup
   simp only [Sem.run_bind,run_und h1,Result.andThen_ok,pure_bind,run_checkKey h2,q0,run_zeroValue h3 h4]
   cases ok <;> rfl
  cases ok
  ·exact Res.same (x := zx) (by unfold execOp; rw [ho]; simp only [hx',hi',Sem.run_bind,q]; rfl) R (hzv μ)
  ·exact Res.same (x := .tuple #[zx,.bool false]) (by unfold execOp; rw [ho]; simp only [hx',hi',Sem.run_bind,q]; rfl) R (tup _ _ _ (hzv μ))
 ·obtain ⟨l,es',clock,hl,hb,hmr⟩ := R.mapAt hg
  cases hx with
  | @map _ l2 hl2 =>
   rw [hl] at hl2
   cases hl2
   have hobj := run_getObj (P := P) hb (fun _ _ _ q => by cases q)
   rcases hmr.find (P := P) (w := w) h2 n with ⟨j,e1,v,q1,q2,q3,q4,q5⟩ | ⟨q1,q2,q3⟩
   ·rw [q3]
    have q : (Instr.lookup t (.map (some l.blk)) (.int k n) ok).run P w = .ok (if ok then .tuple #[e1.val,.bool true] else e1.val) w := by
     unfold Instr.lookup
     simp only [Sem.run_bind,run_und h1,Result.andThen_ok,hobj,Sem.run_pure,run_checkKey h2,q5]
    cases ok
    ·exact Res.same (x := e1.val) (by unfold execOp; rw [ho]; simp only [hx',hi',Sem.run_bind,q]; rfl) R q4
    ·exact Res.same (x := .tuple #[e1.val,.bool true]) (by unfold execOp; rw [ho]; simp only [hx',hi',Sem.run_bind,q]; rfl) R (tup _ _ _ q4)
   ·rw [q1]
    have q : (Instr.lookup t (.map (some l.blk)) (.int k n) ok).run P w = .ok (if ok then .tuple #[zx,.bool false] else zx) w := by
     unfold Instr.lookup
     simp only [Sem.run_bind,run_und h1,Result.andThen_ok,hobj,pure_bind,run_checkKey h2,q3,run_zeroValue h3 h4]
     cases ok <;> rfl
    cases ok
    ·exact Res.same (x := zx) (by unfold execOp; rw [ho]; simp only [hx',hi',Sem.run_bind,q]; rfl) R (hzv μ)
    ·exact Res.same (x := .tuple #[zx,.bool false]) (by unfold execOp; rw [ho]; simp only [hx',hi',Sem.run_bind,q]; rfl) R (tup _ _ _ (hzv μ))
theorem op_mapup (R : Rel P K w0 μ h w) {t e : TypeId} {kd : IntKind} {mo ko vo : Operand} {om : Nat} {k : IntKind} {n : Int} {v : V} {es : List (Int × V)} {ins : Nat} (hm : mapOf P t = some (kd,e)) (hx : VR μ (.map om) (ρ' mo)) (hk : VR μ (.int k n) (ρ' ko)) (hv : VR μ v (ρ' vo))
  (hg : h.get om = some (.map k es ins)) (hw : v.whole = true) {o : Oper} (ho : o.op = .mapUpdate t mo ko vo \/ o.op = .insert t mo ko vo) :
  Res P K w0 μ ((execOp ρ' o).run P w) .undef (h.put om (.map k (addKey n v es) (match hasKey n es with | some _ => ins | none => Nat.succ ins))) := by
 obtain ⟨kt,h1,h2⟩ := mapOf_some hm
 obtain ⟨l,es',clock,hl,hb,hmr⟩ := R.mapAt hg
 have hnh : ∀ (c : Nat) o,v = .hole o -> ∃ l,μ o 0 = some l /\ l.base = c := fun c o q => by rw [q] at hw; cases hw
 generalize hx' : ρ' mo = x' at hx
 generalize hk' : ρ' ko = k' at hk
 cases hk
 cases hx with
 | @map _ l2 hl2 =>
  rw [hl] at hl2
  cases hl2
  have hobj := run_getObj (P := P) hb (fun _ _ _ q => by cases q)
  have fin : ∀ w',(Instr.mapUpdate t (.map (some l.blk)) (.int k n) (ρ' vo)).run P w = .ok () w' -> (execOp ρ' o).run P w = .ok .skip w' := by
   intro w' q
   unfold execOp
   rcases ho with ho | ho <;> rw [ho] <;> simp only [hx',hk',Sem.run_bind,q] <;> rfl
  rcases hmr.find (P := P) (w := w) h2 n with ⟨j,e1,v0,q1,q2,q3,q4,q5⟩ | ⟨q1,q2,q3⟩
  ·have q1' : es'[j]? = some e1 := by simpa using q1
   rw [q3]
   refine ⟨μ,undef,_,.skip,fin _ ?_,.inr ⟨rfl,rfl⟩,Mu.le_refl μ,R.turnMap hg hl hb (hmr.update q1' q2 q3 hv (hnh _)) (.inr ⟨rfl,rfl,fun e2 he2 => ?_⟩),VR.undef μ⟩
   ·unfold Instr.mapUpdate
    simp only [Sem.run_bind,run_und h1,Result.andThen_ok,hobj,run_checkKey h2,q5,q1',Option.map_some,Option.getD_some,q2,run_keyThatStays]
    exact run_setObj hb (fun _ _ _ q => by cases q)
   ·obtain ⟨i,hi⟩ := List.getElem?_of_mem he2
    rw [Array.getElem?_toList,Array.getElem?_modify] at hi
    by_cases e3 : j = i
    ·subst e3
     rw [if_pos rfl,q1'] at hi
     simp only [Option.map_some,Option.some.injEq] at hi
     subst hi
     exact ⟨e1,List.mem_of_getElem? q1,q2,rfl⟩
    ·rw [if_neg e3] at hi
     exact ⟨e2,List.mem_of_getElem? (i := i) (by simpa using hi),rfl,rfl⟩
  ·rw [q1]
   refine ⟨μ,undef,_,.skip,fin _ ?_,.inr ⟨rfl,rfl⟩,Mu.le_refl μ,R.turnMap hg hl hb (hmr.insert q1 q2 hv (hnh _)) (.inl (Nat.lt_succ_self _)),VR.undef μ⟩
   unfold Instr.mapUpdate
   simp only [Sem.run_bind,run_und h1,Result.andThen_ok,hobj,run_checkKey h2,q3]
   exact run_setObj hb (fun _ _ _ q => by cases q)
omit [RoLim] in
theorem VR.cellsOne {v : V} {x : Value} (h : VR μ v x) (ho : v.one = true) : x.cells = #[x] := by
 cases h <;> first | rfl | (simp [V.one] at ho)
theorem Rel.ghost (R : Rel P K w0 μ h w) (l : Loc) (hl : l.blk < w.heap.size) : Rel P K w0 (μ.put h.next 0 l) (h.push (.dead false)) w := by
 have hno : ∀ o' g l',(μ.put h.next 0 l) o' g = some l' -> μ o' g = some l' \/ (o' = h.next /\ g = 0 /\ l' = l) := by
  intro o' g l' hm
  by_cases e : o' = h.next /\ g = 0
  ·obtain ⟨rfl,rfl⟩ := e
   rw [Mu.put_same] at hm
   cases hm
   exact .inr ⟨rfl,rfl,rfl⟩
  ·rw [Mu.put_other _ _ e] at hm
   exact .inl hm
 refine R.step h.next (.dead false) (Mu.le_put l (R.fresh 0)) (fun o' => Heap.get_push ..) (Nat.le_succ _) (Nat.lt_succ_self _) (Nat.le_refl _) (fun b _ => .inl rfl)
  (fun o' g l' hm => ?_) (fun g l' hl' hm => hl'.elim) (fun g l' hm => ?_) trivial (fun oi mo ins seen cur kd es ins' q1 q2 q3 => ?_) rfl rfl rfl
 ·rcases hno _ _ _ hm with h1 | ⟨rfl,_,rfl⟩
  ·exact .inl h1
  ·exact .inr ⟨rfl,hl⟩
 ·rcases hno _ _ _ hm with h1 | ⟨_,rfl,rfl⟩
  ·rw [R.fresh] at h1; cases h1
  ·rfl
 ·rw [Heap.get_push] at q1 q2
  rcases q3 with rfl | rfl
  ·rw [if_pos rfl] at q1; cases q1
  ·rw [if_pos rfl] at q2; cases q2
omit [RoLim] in
theorem modify_congr {α : Type} (a : Array α) (j : Nat) (f g : α -> α) (hfg : ∀ e,a[j]? = some e -> f e = g e) : a.modify j f = a.modify j g := by
 apply Array.ext_getElem?
 intro i
 rw [Array.getElem?_modify,Array.getElem?_modify]
 by_cases e : j = i
 ·subst e
  rw [if_pos rfl,if_pos rfl]
  cases ha : a[j]? with
  | none => rfl
  | some x => simp [hfg x ha]
 ·rw [if_neg e,if_neg e]
omit [RoLim] in
theorem modify_old {es' : Array MapEntry} {j : Nat} {e1 : MapEntry} {f : MapEntry -> MapEntry} (q1 : es'[j]? = some e1) (hk : (f e1).key = e1.key) (hb : (f e1).born = e1.born) : ∀ e2 ∈ (es'.modify j f).toList, ∃ e0 ∈ es'.toList,e0.key = e2.key /\ e0.born = e2.born := by
 intro e2 he2
 obtain ⟨i,hi⟩ := List.getElem?_of_mem he2
 rw [Array.getElem?_toList,Array.getElem?_modify] at hi
 by_cases e3 : j = i
 ·subst e3
  rw [if_pos rfl,q1] at hi
  simp only [Option.map_some,Option.some.injEq] at hi
  subst hi
  exact ⟨e1,List.mem_of_getElem? (i := j) (by simpa using q1),hk.symm,hb.symm⟩
 ·rw [if_neg e3] at hi
  exact ⟨e2,List.mem_of_getElem? (i := i) (by simpa using hi),rfl,rfl⟩
theorem op_mentry (R : Rel P K w0 μ h w) {t e : TypeId} {kd : IntKind} {z v0 : V} {mo ko : Operand} {om ins1 : Nat} {k : IntKind} {n : Int} {es : List (Int × V)} {ins : Nat} (hm : mapOf P t = some (kd,e)) (hz : zeroOf P e = some z) (hx : VR μ (.map om) (ρ' mo)) (hk : VR μ (.int k n) (ρ' ko))
  (hg : h.get om = some (.map k es ins)) (hv : (hasKey n es = some v0 /\ ins1 = ins) \/ (hasKey n es = none /\ v0 = z /\ ins1 = Nat.succ ins)) (hone : v0.one = true) {o : Oper} (ho : o.op = .mapEntry t mo ko) :
  Res P K w0 μ ((execOp ρ' o).run P w) (.tup [v0,.stamp h.next]) ((h.push (.dead false)).put om (.map k (addKey n (.hole h.next) es) ins1)) := by
 obtain ⟨kt,h1,h2⟩ := mapOf_some hm
 obtain ⟨i,zx,h3,h4,hzv⟩ := zeroOf_some hz
 obtain ⟨l,es',clock,hl,hb,hmr⟩ := R.mapAt hg
 have hlt := (R.dom om 0 l hl).2
 have hne : om ≠ h.next := fun q => by have := (R.obj om _ hg).1; omega
 generalize hx' : ρ' mo = x' at hx
 generalize hk' : ρ' ko = k' at hk
 cases hk
 cases hx with
 | @map _ l2 hl2 =>
  rw [hl] at hl2
  cases hl2
  have hobj := run_getObj (P := P) hb (fun _ _ _ q => by cases q)
  have fin : ∀ x w',(Instr.mapEntry t (.map (some l.blk)) (.int k n)).run P w = .ok x w' -> (execOp ρ' o).run P w = .ok (.value x) w' := by
   intro x w' q
   unfold execOp
   rw [ho]
   simp only [hx',hk',Sem.run_bind,q]
   rfl
  have hgg : (h.push (.dead false)).get om = some (.map k es ins) := by rw [Heap.get_push,if_neg hne]; exact hg
  rcases hmr.find (P := P) (w := w) h2 n with ⟨j,e1,v1,q1,q2,q3,q4,q5⟩ | ⟨q1,q2,q3⟩
  ·have q1' : es'[j]? = some e1 := by simpa using q1
   obtain ⟨rfl,rfl⟩ : v1 = v0 /\ ins1 = ins := by
    rcases hv with ⟨a,b⟩ | ⟨a,_⟩
    ·rw [q3] at a; cases a; exact ⟨rfl,b⟩
    ·rw [q3] at a; cases a
   have R2 := R.ghost ⟨l.blk,e1.born,0,0⟩ hlt
   have hle : μ.le (μ.put h.next 0 ⟨l.blk,e1.born,0,0⟩) := Mu.le_put _ (R.fresh 0)
   have hcong : es'.modify j (fun e => { e with key := .int k n }) = es'.modify j (fun e => { e with key := .int k n,val := e1.val }) := modify_congr _ _ _ _ fun e h => by rw [q1'] at h; cases h; rfl
   refine ⟨μ.put h.next 0 ⟨l.blk,e1.born,0,0⟩,.tuple #[e1.val,goInt e1.born],_,.value (.tuple #[e1.val,goInt e1.born]),fin _ _ ?_,.inl rfl,hle,
    R2.turnMap hgg (hle _ _ _ hl) hb ((hmr.mono hle).update q1' q2 q3 (.hole (q4.cellsOne hone)) fun o q => ?_) (.inr ⟨rfl,rfl,modify_old q1' q2.symm rfl⟩),?_⟩
   ·unfold Instr.mapEntry
    simp only [Sem.run_bind,run_und h1,Result.andThen_ok,hobj,run_checkKey h2,q5,q1',Option.map_some,Option.getD_some,q2,run_keyThatStays,hcong]
    rw [run_setObj hb (fun _ _ _ q => by cases q)]
    rfl
   ·cases q
    exact ⟨_,Mu.put_same ..,rfl⟩
   ·exact VR.tup (.cons (q4.mono hle) (.cons (.stamp (Mu.put_same ..)) .nil))
  ·obtain ⟨rfl,rfl⟩ : v0 = z /\ ins1 = Nat.succ ins := by
    rcases hv with ⟨a,b⟩ | ⟨_,a⟩
    ·rw [q1] at a; cases a
    ·exact a
   have R2 := R.ghost ⟨l.blk,clock,0,0⟩ hlt
   have hle : μ.le (μ.put h.next 0 ⟨l.blk,clock,0,0⟩) := Mu.le_put _ (R.fresh 0)
   refine ⟨μ.put h.next 0 ⟨l.blk,clock,0,0⟩,.tuple #[zx,goInt clock],_,.value (.tuple #[zx,goInt clock]),fin _ _ ?_,.inl rfl,hle,
    R2.turnMap hgg (hle _ _ _ hl) hb ((hmr.mono hle).insert q1 q2 (x := zx) (.hole ((hzv μ).cellsOne hone)) fun o q => ?_) (.inl (Nat.lt_succ_self _)),?_⟩
   ·unfold Instr.mapEntry
    simp only [Sem.run_bind,run_und h1,Result.andThen_ok,hobj,run_checkKey h2,q3,run_zeroValue h3 h4]
    rw [run_setObj hb (fun _ _ _ q => by cases q)]
    rfl
   ·cases q
    exact ⟨_,Mu.put_same ..,rfl⟩
   ·exact VR.tup (.cons ((hzv _)) (.cons (.stamp (Mu.put_same ..)) .nil))
omit [RoLim] in
theorem holeKey_some {o : Nat} {k : Int} : ∀ {es : List (Int × V)},(es.Pairwise fun a b => a.1 < b.1) -> holeKey o es = some k -> hasKey k es = some (.hole o)
 | [],_,hk => by simp [holeKey] at hk
 | (a,x) :: r,hs,hk => by
  have hs' := List.pairwise_cons.1 hs
  have rest : holeKey o r = some k -> hasKey k ((a,x) :: r) = some (.hole o) := fun hr => by
   have := holeKey_some hs'.2 hr
   have hmem : ∀ {es : List (Int × V)} {y : V},hasKey k es = some y -> (k,y) ∈ es := by
    intro es
    induction es with
    | nil => intro y hy; simp [hasKey] at hy
    | cons p r ih =>
     intro y hy
     obtain ⟨b,z⟩ := p
     by_cases e : b = k
     ·subst e
      simp [hasKey] at hy
      subst hy
      simp
     ·simp [hasKey,e] at hy
      exact List.mem_cons_of_mem _ (ih hy)
   have hlt := hs'.1 _ (hmem this)
   have hne : a ≠ k := fun q => by subst q; exact absurd hlt (by simp)
   simp [hasKey,hne,this]
  cases x <;> simp only [holeKey] at hk <;> try exact rest hk
  split at hk
  ·rename_i hb
   cases hk
   rw [Nat.eq_of_beq_eq_true hb]
   simp [hasKey]
  ·exact rest hk
omit [RoLim] in
theorem find_stamp {es' : Array MapEntry} {j : Nat} {e1 : MapEntry} (q1 : es'[j]? = some e1) (hp : es'.toList.Pairwise fun a b => a.born ≠ b.born) : es'.findIdx? (fun e => (e.born : Int) == (e1.born : Int)) = some j := by
 obtain ⟨hj,hje⟩ := Array.getElem?_eq_some_iff.1 q1
 rw [Array.findIdx?_eq_some_iff_getElem]
 refine ⟨hj,by rw [hje]; simp,fun i hi hq => ?_⟩
 have hi' : es'.toList[i]? = some es'[i] := by simp
 have hj' : es'.toList[j]? = some e1 := by simpa using q1
 have := pairwise_at (fun a b h => fun q => h q.symm) hp hi' hj' (by omega)
 simp at hq
 exact this (by omega)
theorem op_estore (R : Rel P K w0 μ h w) {t : TypeId} {mo so vo : Operand} {om o2 : Nat} {kd : IntKind} {k : Int} {v : V} {es : List (Int × V)} {ins : Nat} (hx : VR μ (.map om) (ρ' mo)) (hs : VR μ (.stamp o2) (ρ' so)) (hv : VR μ v (ρ' vo))
  (hg : h.get om = some (.map kd es ins)) (hk : holeKey o2 es = some k) (hw : v.whole = true) {o : Oper} (ho : o.op = .entryStore t mo so vo) :
  Res P K w0 μ ((execOp ρ' o).run P w) .undef (h.put om (.map kd (addKey k v es) ins)) := by
 obtain ⟨l,es',clock,hl,hb,hmr⟩ := R.mapAt hg
 have hkey := holeKey_some hmr.sorted hk
 obtain ⟨e1,m1,m2⟩ := hmr.back _ _ hkey
 obtain ⟨l2,n1,n2⟩ := hmr.open_ e1 m1 k o2 m2 hkey
 obtain ⟨j,hj⟩ := List.getElem?_of_mem m1
 have q1' : es'[j]? = some e1 := by simpa using hj
 generalize hx' : ρ' mo = x' at hx
 generalize hs' : ρ' so = s' at hs
 cases hs with
 | @stamp _ l3 hl3 =>
  rw [n1] at hl3
  cases hl3
  cases hx with
  | @map _ l2 hl2 =>
   rw [hl] at hl2
   cases hl2
   have hobj := run_getObj (P := P) hb (fun _ _ _ q => by cases q)
   have hcong : es'.modify j (fun e => { e with val := ρ' vo }) = es'.modify j (fun e => { e with key := .int kd k,val := ρ' vo }) := modify_congr _ _ _ _ fun e h => by rw [q1'] at h; cases h; rw [<- m2]
   refine ⟨μ,undef,_,.skip,?_,.inr ⟨rfl,rfl⟩,Mu.le_refl μ,R.turnMap hg hl hb (hmr.update q1' m2 hkey hv fun o q => by rw [q] at hw; cases hw) (.inr ⟨rfl,rfl,modify_old q1' m2.symm rfl⟩),VR.undef μ⟩
   have q : (Instr.entryStore t (.map (some l.blk)) (.int .i64 (l2.base : Int)) (ρ' vo)).run P w = .ok () { w with heap := w.heap.setIfInBounds l.blk (.map (es'.modify j (fun e => { e with key := .int kd k,val := ρ' vo })) clock) } := by
    unfold Instr.entryStore
    rw [n2]
    simp only [Sem.run_bind,Result.andThen_ok,hobj,asInt,asIntOf,Sem.run_pure,find_stamp q1' hmr.stamps,hcong]
    exact run_setObj hb (fun _ _ _ q => by cases q)
   unfold execOp
   rw [ho]
   simp only [hx',hs',Sem.run_bind,q]
   rfl
theorem run_delete {t e ty u : TypeId} {kd k : IntKind} {om : Nat} {n : Int} {es : List (Int × V)} {ins : Nat} (R : Rel P K w0 μ h w) (hm : mapOf P t = some (kd,e)) {x' : Value} (hx : VR μ (.map om) x') (hg : h.get om = some (.map k es ins)) :
  Res' P K w0 μ ((Builtin.delete_ #[t,u] ty #[x',.int k n]).run P w) .undef (h.put om (.map k (dropKey n es) ins)) := by
 obtain ⟨kt,h1,h2⟩ := mapOf_some hm
 obtain ⟨l,es',clock,hl,hb,hmr⟩ := R.mapAt hg
 cases hx with
 | @map _ l2 hl2 =>
  rw [hl] at hl2
  cases hl2
  have hobj := run_getObj (P := P) hb (fun _ _ _ q => by cases q)
  rcases hmr.find (P := P) (w := w) h2 n with ⟨j,e1,v0,q1,q2,q3,q4,q5⟩ | ⟨q1,q2,q3⟩
  ·have q1' : es'[j]? = some e1 := by simpa using q1
   refine ⟨μ,undef,_,?_,Mu.le_refl μ,R.turnMap hg hl hb (hmr.erase q1' q2 q3) (.inr ⟨rfl,rfl,fun e2 he2 => ?_⟩),VR.undef μ⟩
   ·unfold Builtin.delete_
    simp only [List.getElem?_toArray,List.getElem?_cons_zero,List.getElem?_cons_succ,Sem.run_bind,run_und h1,Result.andThen_ok,hobj,run_checkKey h2,q5,run_setObj hb (fun _ _ _ q => by cases q)]
    rfl
   ·have hlt : j < es'.size := (Array.getElem?_eq_some_iff.1 q1').1
    have he : (es'.eraseIdxIfInBounds j).toList = es'.toList.eraseIdx j := by
     unfold Array.eraseIdxIfInBounds
     rw [dif_pos hlt]
     simp
    rw [he] at he2
    exact ⟨e2,(List.eraseIdx_sublist es'.toList j).subset he2,rfl,rfl⟩
  ·refine ⟨μ,undef,_,?_,Mu.le_refl μ,R.turnMap (es1 := dropKey n es) hg hl hb (by rw [dropKey_none q1]; exact hmr) (.inr ⟨rfl,rfl,fun e2 he2 => ⟨e2,he2,rfl,rfl⟩⟩),VR.undef μ⟩
   unfold Builtin.delete_
   simp only [List.getElem?_toArray,List.getElem?_cons_zero,List.getElem?_cons_succ,Sem.run_bind,run_und h1,Result.andThen_ok,hobj,run_checkKey h2,q3,run_setObj hb (fun _ _ _ q => by cases q)]
   rfl
end
end Go.Xr

/- How large are a formula and a proof? -/
import Derived.Test.YtmkbnbpblhoekaaVCkSq
set_option linter.unusedSimpArgs false
set_option linter.unusedVariables false
set_option linter.unusedSectionVars false
namespace Go.Proofs.Ytmkbnbpblhoekaa
open Go.Xr Go.Chk

/-- A step as it stands in memory. -/
structure StV where
  s : Stp
  lv : V
  hv : V
def StV.cells (s : StV) : List V := [.int .u8 s.s.kind, .int .i64 s.s.id, s.lv, s.hv]
/-- A row of steps. -/
structure Stps (h : Heap) (v : V) (l : List StV) : Prop where
  sl : SlE 4 h v (l.map StV.cells)
  lits : ∀ s ∈ l, Sw h s.lv (s.s.lits.map (.int .i32))
  hints : ∀ s ∈ l, Sw h s.hv (s.s.hints.map (.int .i64))
theorem Stps.ext {h h' : Heap} {v : V} {l : List StV} (hs : Stps h v l) (x : Ext h h') : Stps h' v l := ⟨hs.sl.ext x, fun s hm => (hs.lits s hm).ext x, fun s hm => (hs.hints s hm).ext x⟩
theorem Stps.at {h : Heap} {v : V} {l : List StV} (hs : Stps h v l) {i j : Nat} (hi : i < l.length) {x : V} (hx : (l[i]).cells[j]? = some x) : readCells h (objS v) (genS v) (offS v + i * 4 + j) 1 = some [x] :=
  hs.sl.at (i := i) (vs := (l[i]).cells) (by simp [hi]) hx
theorem Stps.len {h : Heap} {v : V} {l : List StV} (hs : Stps h v l) : lenS v = l.length := by rw [hs.sl.len, List.length_map]

end Go.Proofs.Ytmkbnbpblhoekaa

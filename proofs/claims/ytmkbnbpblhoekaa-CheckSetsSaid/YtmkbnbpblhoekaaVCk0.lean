/- What is known ahead: the library's sort at literals, bits.Len, slices.Sorted(maps.Keys(m)); functions that no hook answers. -/
import Derived.Test.YtmkbnbpblhoekaaVCkKw
import Derived.Test.YtmkbnbpblhoekaaW3
import Derived.Test.YtmkbnbpblhoekaaVYq
import Derived.Test.YtmkbnbpblhoekaaW4
import Derived.Shelf.SortM.Plain
import Derived.Shelf.SortM.SortNone
set_option linter.unusedSimpArgs false
set_option linter.unusedVariables false
set_option linter.unusedSectionVars false
namespace Go.Proofs
open Go.Shelf Go.RowKit Go.Maps Go.Sort
def Try.sortF_ren : Go.Shelf.Ren := ⟨fun | 14 => 81 | 20 => 99 | 21 => 100 | 22 => 101 | 23 => 102 | 24 => 103 | 25 => 104 | 26 => 105 | 27 => 106 | 46 => 115 | 47 => 110 | 48 => 111 | 49 => 116 | 50 => 117 | 15 => 78 | 57 => 119 | 28 => 96 | 29 => 97 | n => n, fun | 24 => 57 | 22 => 31 | 3 => 3 | 25 => 108 | 4 => 4 | 0 => 0 | 46 => 127 | 45 => 126 | 50 => 132 | 66 => 146 | 39 => 119 | 55 => 137 | 70 => 150 | 76 => 154 | 77 => 155 | 53 => 135 | 5 => 5 | 9 => 9 | n => n, fun | n => n⟩
theorem Try.sortF : Go.Proofs.SlLaysF.n14 Try.prog Try.sortF_ren := {
  mixed := by kernel_rfl
  f14 := ⟨Try.f81.name, by decide, Try.func81.trans (congrArg some (by kernel_rfl))⟩
  f15 := Try.func78.trans (congrArg some (by kernel_rfl))
  f20 := ⟨Try.f99.name, by decide, Try.func99.trans (congrArg some (by kernel_rfl))⟩
  f21 := ⟨Try.f100.name, by decide, Try.func100.trans (congrArg some (by kernel_rfl))⟩
  f22 := ⟨Try.f101.name, by decide, Try.func101.trans (congrArg some (by kernel_rfl))⟩
  f23 := ⟨Try.f102.name, by decide, Try.func102.trans (congrArg some (by kernel_rfl))⟩
  f24 := ⟨Try.f103.name, by decide, Try.func103.trans (congrArg some (by kernel_rfl))⟩
  f25 := ⟨Try.f104.name, by decide, Try.func104.trans (congrArg some (by kernel_rfl))⟩
  f26 := ⟨Try.f105.name, by decide, Try.func105.trans (congrArg some (by kernel_rfl))⟩
  f27 := ⟨Try.f106.name, by decide, Try.func106.trans (congrArg some (by kernel_rfl))⟩
  f28 := Try.func96.trans (congrArg some (by kernel_rfl))
  f29 := Try.func97.trans (congrArg some (by kernel_rfl))
  f46 := ⟨Try.f115.name, by decide, Try.func115.trans (congrArg some (by kernel_rfl))⟩
  f47 := Try.func110.trans (congrArg some (by kernel_rfl))
  f48 := Try.func111.trans (congrArg some (by kernel_rfl))
  f49 := ⟨Try.f116.name, by decide, Try.func116.trans (congrArg some (by kernel_rfl))⟩
  f50 := ⟨Try.f117.name, by decide, Try.func117.trans (congrArg some (by kernel_rfl))⟩
  f57 := ⟨Try.f119.name, by decide, Try.func119.trans (congrArg some (by kernel_rfl))⟩
  t0 := Try.underlying0
  a0 := Try.isAgg0
  z0 := Try.sizeOf0
  v0 := Try.zeroValue0
  t3 := Try.underlying3
  a3 := Try.isAgg3
  z3 := Try.sizeOf3
  v3 := Try.zeroValue3
  t4 := Try.underlying4
  a4 := Try.isAgg4
  z4 := Try.sizeOf4
  v4 := Try.zeroValue4
  t5 := Try.underlying5
  a5 := Try.isAgg5
  z5 := Try.sizeOf5
  v5 := Try.zeroValue5
  t9 := Try.underlying9
  a9 := Try.isAgg9
  z9 := Try.sizeOf9
  v9 := Try.zeroValue9
  t22 := Try.underlying31
  a22 := Try.isAgg31
  z22 := Try.sizeOf31
  v22 := Try.zeroValue31
  a24 := Try.isAgg57
  z24 := Try.sizeOf57
  t25 := Try.underlying108
  a25 := Try.isAgg108
  z25 := Try.sizeOf108
  v25 := Try.zeroValue108
  t39 := Try.underlying119
  a39 := Try.isAgg119
  z39 := Try.sizeOf119
  v39 := Try.zeroValue119
  t45 := Try.underlying126
  a45 := Try.isAgg126
  z45 := Try.sizeOf126
  v45 := Try.zeroValue126
  t46 := Try.underlying127
  a46 := Try.isAgg127
  z46 := Try.sizeOf127
  v46 := Try.zeroValue127
  t50 := Try.underlying132
  a50 := Try.isAgg132
  z50 := Try.sizeOf132
  v50 := Try.zeroValue132
  t53 := Try.underlying135
  a53 := Try.isAgg135
  z53 := Try.sizeOf135
  v53 := Try.zeroValue135
  t55 := Try.underlying137
  a55 := Try.isAgg137
  z55 := Try.sizeOf137
  v55 := Try.zeroValue137
  t66 := Try.underlying146
  a66 := Try.isAgg146
  z66 := Try.sizeOf146
  v66 := Try.zeroValue146
  t70 := Try.underlying150
  a70 := Try.isAgg150
  z70 := Try.sizeOf150
  v70 := Try.zeroValue150
  t76 := Try.underlying154
  a76 := Try.isAgg154
  z76 := Try.sizeOf154
  v76 := Try.zeroValue154
  t77 := Try.underlying155
  a77 := Try.isAgg155
  z77 := Try.sizeOf155
  v77 := Try.zeroValue155 }
def Try.bitsF_ren : Go.Shelf.Ren := ⟨fun | 15 => 78 | 28 => 96 | 29 => 97 | n => n, fun | 39 => 119 | 3 => 3 | 53 => 135 | 55 => 137 | 4 => 4 | 5 => 5 | 9 => 9 | n => n, fun | n => n⟩
theorem Try.bitsF : Go.Proofs.SlLaysF0.n15 Try.prog Try.bitsF_ren := {
  mixed := by kernel_rfl
  f15 := Try.func78.trans (congrArg some (by kernel_rfl))
  f28 := Try.func96.trans (congrArg some (by kernel_rfl))
  f29 := Try.func97.trans (congrArg some (by kernel_rfl))
  t3 := Try.underlying3
  a3 := Try.isAgg3
  z3 := Try.sizeOf3
  v3 := Try.zeroValue3
  t4 := Try.underlying4
  a4 := Try.isAgg4
  z4 := Try.sizeOf4
  v4 := Try.zeroValue4
  t5 := Try.underlying5
  a5 := Try.isAgg5
  z5 := Try.sizeOf5
  v5 := Try.zeroValue5
  t9 := Try.underlying9
  a9 := Try.isAgg9
  z9 := Try.sizeOf9
  v9 := Try.zeroValue9
  t39 := Try.underlying119
  a39 := Try.isAgg119
  z39 := Try.sizeOf119
  v39 := Try.zeroValue119
  t53 := Try.underlying135
  a53 := Try.isAgg135
  z53 := Try.sizeOf135
  v53 := Try.zeroValue135
  t55 := Try.underlying137
  a55 := Try.isAgg137
  z55 := Try.sizeOf137
  v55 := Try.zeroValue137 }
def Try.keysA0_ren : Go.Shelf.Ren := ⟨fun | 7 => 39 | 10 => 58 | n => n, fun | 23 => 58 | 26 => 2 | 3 => 80 | 28 => 78 | 0 => 0 | 27 => 77 | 33 => 95 | 4 => 4 | n => n, fun | n => n⟩
theorem Try.keysA0 : Go.Proofs.SlLaysZI.n7 Try.prog Try.keysA0_ren := {
  mixed := by kernel_rfl
  f7 := ⟨Try.f39.name, by decide, Try.func39.trans (congrArg some (by kernel_rfl))⟩
  f10 := ⟨Try.f58.name, by decide, Try.func58.trans (congrArg some (by kernel_rfl))⟩
  t0 := Try.underlying0
  a0 := Try.isAgg0
  z0 := Try.sizeOf0
  v0 := Try.zeroValue0
  t4 := Try.underlying4
  a4 := Try.isAgg4
  z4 := Try.sizeOf4
  v4 := Try.zeroValue4
  t23 := Try.underlying58
  a23 := Try.isAgg58
  z23 := Try.sizeOf58
  v23 := Try.zeroValue58
  t26 := Try.underlying2
  a26 := Try.isAgg2
  z26 := Try.sizeOf2
  v26 := Try.zeroValue2
  t27 := Try.underlying77
  a27 := Try.isAgg77
  z27 := Try.sizeOf77
  v27 := Try.zeroValue77
  t28 := Try.underlying78
  a28 := Try.isAgg78
  z28 := Try.sizeOf78
  v28 := Try.zeroValue78
  t33 := Try.underlying95
  a33 := Try.isAgg95
  z33 := Try.sizeOf95
  v33 := Try.zeroValue95 }
def Try.sortedA_ren : Go.Shelf.Ren := ⟨fun | 6 => 38 | 8 => 56 | 9 => 57 | 11 => 76 | 13 => 78 | 12 => 77 | 23 => 96 | 24 => 97 | 14 => 87 | 15 => 88 | 16 => 89 | 17 => 90 | 18 => 91 | 19 => 92 | 20 => 93 | 21 => 94 | 22 => 95 | 25 => 109 | 26 => 110 | 27 => 111 | 28 => 112 | 29 => 113 | 30 => 114 | 31 => 118 | n => n, fun | 26 => 2 | 28 => 78 | 24 => 33 | 0 => 0 | 3 => 3 | 37 => 119 | 48 => 135 | 50 => 137 | 4 => 4 | 40 => 127 | 39 => 126 | 45 => 132 | 5 => 5 | 9 => 9 | 51 => 146 | 55 => 150 | 57 => 154 | 58 => 155 | 33 => 95 | n => n, fun | n => n⟩
theorem Try.sortedA : Go.Proofs.SlLaysZI.n6 Try.prog Try.sortedA_ren := {
  mixed := by kernel_rfl
  f6 := ⟨Try.f38.name, by decide, Try.func38.trans (congrArg some (by kernel_rfl))⟩
  f8 := ⟨Try.f56.name, by decide, Try.func56.trans (congrArg some (by kernel_rfl))⟩
  f11 := ⟨Try.f76.name, by decide, Try.func76.trans (congrArg some (by kernel_rfl))⟩
  t0 := Try.underlying0
  a0 := Try.isAgg0
  z0 := Try.sizeOf0
  v0 := Try.zeroValue0
  t24 := Try.underlying33
  a24 := Try.isAgg33
  z24 := Try.sizeOf33
  v24 := Try.zeroValue33
  t26 := Try.underlying2
  a26 := Try.isAgg2
  z26 := Try.sizeOf2
  v26 := Try.zeroValue2
  t28 := Try.underlying78
  a28 := Try.isAgg78
  z28 := Try.sizeOf78
  v28 := Try.zeroValue78
  i26 := by kernel_rfl }
def Try.sortA_ren : Go.Shelf.Ren := ⟨fun | 5 => 57 | 8 => 78 | 7 => 77 | 19 => 96 | 20 => 97 | 10 => 87 | 11 => 88 | 12 => 89 | 13 => 90 | 14 => 91 | 15 => 92 | 16 => 93 | 17 => 94 | 18 => 95 | 30 => 109 | 31 => 110 | 32 => 111 | 33 => 112 | 34 => 113 | 35 => 114 | 40 => 118 | n => n, fun | 23 => 33 | 25 => 2 | 3 => 3 | 32 => 119 | 22 => 33 | 0 => 0 | 44 => 135 | 46 => 137 | 4 => 4 | 36 => 127 | 35 => 126 | 41 => 132 | 5 => 5 | 9 => 9 | 53 => 146 | 57 => 150 | 63 => 154 | 64 => 155 | n => n, fun | n => n⟩
theorem Try.sortA : Go.Proofs.SlLaysM.n5 Try.prog Try.sortA_ren := {
  mixed := by kernel_rfl
  f5 := ⟨Try.f57.name, by decide, Try.func57.trans (congrArg some (by kernel_rfl))⟩
  f7 := ⟨Try.f77.name, by decide, Try.func77.trans (congrArg some (by kernel_rfl))⟩
  f8 := Try.func78.trans (congrArg some (by kernel_rfl))
  f10 := ⟨Try.f87.name, by decide, Try.func87.trans (congrArg some (by kernel_rfl))⟩
  f11 := ⟨Try.f88.name, by decide, Try.func88.trans (congrArg some (by kernel_rfl))⟩
  f12 := ⟨Try.f89.name, by decide, Try.func89.trans (congrArg some (by kernel_rfl))⟩
  f13 := ⟨Try.f90.name, by decide, Try.func90.trans (congrArg some (by kernel_rfl))⟩
  f14 := ⟨Try.f91.name, by decide, Try.func91.trans (congrArg some (by kernel_rfl))⟩
  f15 := ⟨Try.f92.name, by decide, Try.func92.trans (congrArg some (by kernel_rfl))⟩
  f16 := ⟨Try.f93.name, by decide, Try.func93.trans (congrArg some (by kernel_rfl))⟩
  f17 := ⟨Try.f94.name, by decide, Try.func94.trans (congrArg some (by kernel_rfl))⟩
  f18 := ⟨Try.f95.name, by decide, Try.func95.trans (congrArg some (by kernel_rfl))⟩
  f19 := Try.func96.trans (congrArg some (by kernel_rfl))
  f20 := Try.func97.trans (congrArg some (by kernel_rfl))
  f30 := ⟨Try.f109.name, by decide, Try.func109.trans (congrArg some (by kernel_rfl))⟩
  f31 := Try.func110.trans (congrArg some (by kernel_rfl))
  f32 := Try.func111.trans (congrArg some (by kernel_rfl))
  f33 := ⟨Try.f112.name, by decide, Try.func112.trans (congrArg some (by kernel_rfl))⟩
  f34 := ⟨Try.f113.name, by decide, Try.func113.trans (congrArg some (by kernel_rfl))⟩
  f35 := ⟨Try.f114.name, by decide, Try.func114.trans (congrArg some (by kernel_rfl))⟩
  f40 := ⟨Try.f118.name, by decide, Try.func118.trans (congrArg some (by kernel_rfl))⟩
  t0 := Try.underlying0
  a0 := Try.isAgg0
  z0 := Try.sizeOf0
  v0 := Try.zeroValue0
  t3 := Try.underlying3
  a3 := Try.isAgg3
  z3 := Try.sizeOf3
  v3 := Try.zeroValue3
  t4 := Try.underlying4
  a4 := Try.isAgg4
  z4 := Try.sizeOf4
  v4 := Try.zeroValue4
  t5 := Try.underlying5
  a5 := Try.isAgg5
  z5 := Try.sizeOf5
  v5 := Try.zeroValue5
  t9 := Try.underlying9
  a9 := Try.isAgg9
  z9 := Try.sizeOf9
  v9 := Try.zeroValue9
  t22 := Try.underlying33
  a22 := Try.isAgg33
  z22 := Try.sizeOf33
  v22 := Try.zeroValue33
  t23 := Try.underlying33
  a23 := Try.isAgg33
  z23 := Try.sizeOf33
  v23 := Try.zeroValue33
  t25 := Try.underlying2
  a25 := Try.isAgg2
  z25 := Try.sizeOf2
  v25 := Try.zeroValue2
  t32 := Try.underlying119
  a32 := Try.isAgg119
  z32 := Try.sizeOf119
  v32 := Try.zeroValue119
  t35 := Try.underlying126
  a35 := Try.isAgg126
  z35 := Try.sizeOf126
  v35 := Try.zeroValue126
  t36 := Try.underlying127
  a36 := Try.isAgg127
  z36 := Try.sizeOf127
  v36 := Try.zeroValue127
  t41 := Try.underlying132
  a41 := Try.isAgg132
  z41 := Try.sizeOf132
  v41 := Try.zeroValue132
  t44 := Try.underlying135
  a44 := Try.isAgg135
  z44 := Try.sizeOf135
  v44 := Try.zeroValue135
  t46 := Try.underlying137
  a46 := Try.isAgg137
  z46 := Try.sizeOf137
  v46 := Try.zeroValue137
  t53 := Try.underlying146
  a53 := Try.isAgg146
  z53 := Try.sizeOf146
  v53 := Try.zeroValue146
  t57 := Try.underlying150
  a57 := Try.isAgg150
  z57 := Try.sizeOf150
  v57 := Try.zeroValue150
  t63 := Try.underlying154
  a63 := Try.isAgg154
  z63 := Try.sizeOf154
  v63 := Try.zeroValue154
  t64 := Try.underlying155
  a64 := Try.isAgg155
  z64 := Try.sizeOf155
  v64 := Try.zeroValue155 }
theorem Try.sortsA (m : Nat) : AnyZI.SortsIn Try.prog Try.sortedA_ren Fence.wide m :=
  ⟨fun blk off cap ss W hH hblk hsz => callsIn_wide.2 (AnyM.slices_Sort_int Try.sortA blk off cap ss W hH hblk hsz),
   fun p cap W => callsIn_wide.2 (AnyM.slices_Sort_int_none Try.sortA p cap W)⟩
end Go.Proofs
namespace Go.Proofs.Ytmkbnbpblhoekaa
open Go.Xr

def Hb : Task → Option Out := orElse (sortHook 81 67) (orElse (bitsHook 78) (sortedHook 38 58))

/-! ## The two ranges over maps -/
def slotsG : List Nat := [15, 16, 74, 75, 76, 77, 78, 79, 80, 81, 82, 83, 84, 85, 86, 87, 88, 89, 90, 91]
def slotsD : List Nat := [8, 33, 34, 35, 36, 37, 38, 39, 40, 41, 42, 43, 44, 45, 46, 47, 48, 49, 50, 51, 52, 53, 54, 55, 56, 57, 58]
/-- How many literals a clause has. -/
def heldLen (h : Heap) : V → Nat
  | .ptr ho _ _ => match h.cells? ho with
    | some c => lenS (c.cs.getD 0 .undef)
    | none => 0
  | _ => 0
def lenAt (h : Heap) (ces : List (Int × V)) (k : Int) : Nat := match hasKey k ces with
  | some v => heldLen h v
  | none => 0
/-- The heap where the clauses of a map's keys are deleted. -/
def dropOut (h : Heap) (oi mo : Nat) : V → Heap
  | .ptr o _ _ => match h.get mo, h.get o with
    | some (.map _ es _), some (.cells c) => match c.cs.getD 0 .undef, c.cs.getD 2 .undef with
      | .map cm, .int k n => match h.get cm with
        | some (.map kd ces ins) => ((h.put o (.cells { c with cs := c.cs.set 2 (.int k (n - ((es.map fun p => lenAt h ces p.1).sum : Nat))) })).put cm (.map kd (ces.filter fun p => (hasKey p.1 es).isNone) ins)).put oi (.dead true)
        | _ => h
      | _, _ => h
    | _, _ => h
  | _ => h
def W06 : Pick := fun m _ t d h => match rd t m.it with
  | .iter oi => match m.tnx with
    | 74 => [(.ret, (anyAll t slotsG).set 6 (.int .i64 61), d, h.put oi (.dead true)), (.exit m.L, anyAll t slotsG, d, h.put oi (.dead true))]
    | 33 => match h.get oi with
      | some (.miter (some mo) _ _ _) => [(.exit m.L, anyAll t slotsD, d, dropOut h oi mo (slotOf t 0))]
      | _ => []
    | _ => []
  | _ => []

noncomputable def H0 : Task → Option Out := orElse Hb (pickHook xprog Hb W06)

theorem Hb_ok [RoLim] : HookOk Try.prog Hb :=
  orElse_sound (sortHook_sound (ρ := Try.sortF_ren) Try.sortF Try.func81 ⟨fun e => absurd (beq_iff_eq.2 e) (by decide), rfl⟩ (enters_of Try.func67 (by kernel_rfl) rfl) order_w)
    (orElse_sound (bitsHook_sound (ρ := Try.bitsF_ren) Try.bitsF Try.func78 ⟨fun e => absurd (beq_iff_eq.2 e) (by decide), rfl⟩)
      (sortedHook_sound (ρK := Try.keysA0_ren) (ρS := Try.sortedA_ren) { Try.keysA0 with } Try.sortedA Try.sortsA (enters_of Try.func57 (by kernel_rfl) rfl) (enters_of Try.func58 (by kernel_rfl) rfl) Try.func38 ⟨fun e => absurd (beq_iff_eq.2 e) (by decide), rfl⟩))

theorem H0_ok [RoLim] : HookOk Try.prog H0 :=
  orElse_sound Hb_ok (pickHook_sound (ev_sound (by kernel_rfl) xprog_ok Hb_ok))

theorem H0_some {k : Task} {r : Out} (h : Hb k = some r) : H0 k = some r := by
  unfold H0 orElse
  rw [h]
theorem H0_call {dk : Bool} {f : Nat} {args : List V} {h : Heap} (hb : Hb (.call dk f args h) = none) : H0 (.call dk f args h) = none := by
  unfold H0 orElse
  rw [hb]
  rfl

theorem sorted_off {f : Nat} (hf : Nat.beq f 38 = false) (dk : Bool) (args : List V) (h : Heap) : sortedHook 38 58 (.call dk f args h) = none := by
  unfold sortedHook
  split
  · rename_i e; cases e; simp [hf]
  · rfl
theorem freeb (f : Nat) (hf : (Nat.beq f 81 || Nat.beq f 78 || Nat.beq f 38) = false) (dk : Bool) (args : List V) (h : Heap) : Hb (.call dk f args h) = none := by
  simp only [Bool.or_eq_false_iff] at hf
  obtain ⟨⟨h2, h3⟩, h4⟩ := hf
  have e2 : sortHook 81 67 (.call dk f args h) = none := by
    unfold sortHook
    split
    · rename_i e; cases e; simp [h2]
    · rfl
  have e3 : bitsHook 78 (.call dk f args h) = none := by
    unfold bitsHook
    split
    · rename_i e; cases e; simp [h3]
    · rfl
  have e4 := sorted_off h4 dk args h
  unfold Hb orElse
  rw [e2]
  simp only
  rw [e3]
  exact e4
theorem free (f : Nat) (hf : (Nat.beq f 81 || Nat.beq f 78 || Nat.beq f 38) = false) (dk : Bool) (args : List V) (h : Heap) : H0 (.call dk f args h) = none := H0_call (freeb f hf dk args h)
theorem freeb_code (c : XCode) (rnd : Option Nat) (t : Tr V) (d : List XDef) (h : Heap) : Hb (.code c rnd t d h) = none := by
  unfold Hb orElse sortHook bitsHook sortedHook
  rfl
theorem free_code (c : XCode) (rnd : Option Nat) (t : Tr V) (d : List XDef) (h : Heap) (hp : parseLoop c = none := by rfl) : H0 (.code c rnd t d h) = none := by
  unfold H0 orElse
  rw [freeb_code]
  simp only [pickHook, hp]
theorem pick_code (c : XCode) (rnd : Option Nat) (t : Tr V) (d : List XDef) (h : Heap) : H0 (.code c rnd t d h) = pickHook xprog Hb W06 (.code c rnd t d h) := by
  unfold H0 orElse
  rw [freeb_code]
end Go.Proofs.Ytmkbnbpblhoekaa

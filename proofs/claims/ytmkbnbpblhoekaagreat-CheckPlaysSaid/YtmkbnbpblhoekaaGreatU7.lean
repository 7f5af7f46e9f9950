/- Part of a proof for X's executor: what the program's functions answer. -/
import Derived.Test.YtmkbnbpblhoekaaGreatVCkKw
import Derived.Test.YtmkbnbpblhoekaaGreatW3
import Derived.Test.YtmkbnbpblhoekaaGreatVYq
import Derived.Test.YtmkbnbpblhoekaaGreatW4
import Derived.Shelf.SortM.Plain
import Derived.Shelf.SortM.SortNone
set_option linter.unusedSimpArgs false
set_option linter.unusedVariables false
set_option linter.unusedSectionVars false
namespace Go.Proofs
open Go.Shelf Go.RowKit Go.Maps Go.Sort
def Tryz.sortF_ren : Go.Shelf.Ren := ⟨fun | 14 => 68 | 20 => 78 | 21 => 79 | 22 => 80 | 23 => 81 | 24 => 82 | 25 => 83 | 26 => 84 | 27 => 85 | 46 => 99 | 47 => 100 | 48 => 101 | 49 => 102 | 50 => 103 | 15 => 69 | 57 => 108 | 28 => 86 | 29 => 87 | n => n,fun | 24 => 40 | 22 => 38 | 3 => 3 | 25 => 98 | 4 => 4 | 0 => 0 | 46 => 121 | 45 => 120 | 50 => 125 | 66 => 139 | 39 => 112 | 55 => 130 | 70 => 143 | 76 => 147 | 77 => 148 | 53 => 128 | 5 => 5 | 9 => 9 | n => n,fun | n => n⟩
theorem Tryz.sortF : Go.Proofs.SlLaysF.n14 Tryz.prog Tryz.sortF_ren := {
 mixed := by kernel_rfl
 f14 := ⟨Tryz.f68.name,by decide,Tryz.func68.trans (congrArg some (by kernel_rfl))⟩
 f15 := Tryz.func69.trans (congrArg some (by kernel_rfl))
 f20 := ⟨Tryz.f78.name,by decide,Tryz.func78.trans (congrArg some (by kernel_rfl))⟩
 f21 := ⟨Tryz.f79.name,by decide,Tryz.func79.trans (congrArg some (by kernel_rfl))⟩
 f22 := ⟨Tryz.f80.name,by decide,Tryz.func80.trans (congrArg some (by kernel_rfl))⟩
 f23 := ⟨Tryz.f81.name,by decide,Tryz.func81.trans (congrArg some (by kernel_rfl))⟩
 f24 := ⟨Tryz.f82.name,by decide,Tryz.func82.trans (congrArg some (by kernel_rfl))⟩
 f25 := ⟨Tryz.f83.name,by decide,Tryz.func83.trans (congrArg some (by kernel_rfl))⟩
 f26 := ⟨Tryz.f84.name,by decide,Tryz.func84.trans (congrArg some (by kernel_rfl))⟩
 f27 := ⟨Tryz.f85.name,by decide,Tryz.func85.trans (congrArg some (by kernel_rfl))⟩
 f28 := Tryz.func86.trans (congrArg some (by kernel_rfl))
 f29 := Tryz.func87.trans (congrArg some (by kernel_rfl))
 f46 := ⟨Tryz.f99.name,by decide,Tryz.func99.trans (congrArg some (by kernel_rfl))⟩
 f47 := Tryz.func100.trans (congrArg some (by kernel_rfl))
 f48 := Tryz.func101.trans (congrArg some (by kernel_rfl))
 f49 := ⟨Tryz.f102.name,by decide,Tryz.func102.trans (congrArg some (by kernel_rfl))⟩
 f50 := ⟨Tryz.f103.name,by decide,Tryz.func103.trans (congrArg some (by kernel_rfl))⟩
 f57 := ⟨Tryz.f108.name,by decide,Tryz.func108.trans (congrArg some (by kernel_rfl))⟩
 t0 := Tryz.underlying0
 a0 := Tryz.isAgg0
 z0 := Tryz.sizeOf0
 v0 := Tryz.zeroValue0
 t3 := Tryz.underlying3
 a3 := Tryz.isAgg3
 z3 := Tryz.sizeOf3
 v3 := Tryz.zeroValue3
 t4 := Tryz.underlying4
 a4 := Tryz.isAgg4
 z4 := Tryz.sizeOf4
 v4 := Tryz.zeroValue4
 t5 := Tryz.underlying5
 a5 := Tryz.isAgg5
 z5 := Tryz.sizeOf5
 v5 := Tryz.zeroValue5
 t9 := Tryz.underlying9
 a9 := Tryz.isAgg9
 z9 := Tryz.sizeOf9
 v9 := Tryz.zeroValue9
 t22 := Tryz.underlying38
 a22 := Tryz.isAgg38
 z22 := Tryz.sizeOf38
 v22 := Tryz.zeroValue38
 a24 := Tryz.isAgg40
 z24 := Tryz.sizeOf40
 t25 := Tryz.underlying98
 a25 := Tryz.isAgg98
 z25 := Tryz.sizeOf98
 v25 := Tryz.zeroValue98
 t39 := Tryz.underlying112
 a39 := Tryz.isAgg112
 z39 := Tryz.sizeOf112
 v39 := Tryz.zeroValue112
 t45 := Tryz.underlying120
 a45 := Tryz.isAgg120
 z45 := Tryz.sizeOf120
 v45 := Tryz.zeroValue120
 t46 := Tryz.underlying121
 a46 := Tryz.isAgg121
 z46 := Tryz.sizeOf121
 v46 := Tryz.zeroValue121
 t50 := Tryz.underlying125
 a50 := Tryz.isAgg125
 z50 := Tryz.sizeOf125
 v50 := Tryz.zeroValue125
 t53 := Tryz.underlying128
 a53 := Tryz.isAgg128
 z53 := Tryz.sizeOf128
 v53 := Tryz.zeroValue128
 t55 := Tryz.underlying130
 a55 := Tryz.isAgg130
 z55 := Tryz.sizeOf130
 v55 := Tryz.zeroValue130
 t66 := Tryz.underlying139
 a66 := Tryz.isAgg139
 z66 := Tryz.sizeOf139
 v66 := Tryz.zeroValue139
 t70 := Tryz.underlying143
 a70 := Tryz.isAgg143
 z70 := Tryz.sizeOf143
 v70 := Tryz.zeroValue143
 t76 := Tryz.underlying147
 a76 := Tryz.isAgg147
 z76 := Tryz.sizeOf147
 v76 := Tryz.zeroValue147
 t77 := Tryz.underlying148
 a77 := Tryz.isAgg148
 z77 := Tryz.sizeOf148
 v77 := Tryz.zeroValue148 }
def Tryz.bitsF_ren : Go.Shelf.Ren := ⟨fun | 15 => 69 | 28 => 86 | 29 => 87 | n => n,fun | 39 => 112 | 3 => 3 | 53 => 128 | 55 => 130 | 4 => 4 | 5 => 5 | 9 => 9 | n => n,fun | n => n⟩
theorem Tryz.bitsF : Go.Proofs.SlLaysF0.n15 Tryz.prog Tryz.bitsF_ren := {
 mixed := by kernel_rfl
 f15 := Tryz.func69.trans (congrArg some (by kernel_rfl))
 f28 := Tryz.func86.trans (congrArg some (by kernel_rfl))
 f29 := Tryz.func87.trans (congrArg some (by kernel_rfl))
 t3 := Tryz.underlying3
 a3 := Tryz.isAgg3
 z3 := Tryz.sizeOf3
 v3 := Tryz.zeroValue3
 t4 := Tryz.underlying4
 a4 := Tryz.isAgg4
 z4 := Tryz.sizeOf4
 v4 := Tryz.zeroValue4
 t5 := Tryz.underlying5
 a5 := Tryz.isAgg5
 z5 := Tryz.sizeOf5
 v5 := Tryz.zeroValue5
 t9 := Tryz.underlying9
 a9 := Tryz.isAgg9
 z9 := Tryz.sizeOf9
 v9 := Tryz.zeroValue9
 t39 := Tryz.underlying112
 a39 := Tryz.isAgg112
 z39 := Tryz.sizeOf112
 v39 := Tryz.zeroValue112
 t53 := Tryz.underlying128
 a53 := Tryz.isAgg128
 z53 := Tryz.sizeOf128
 v53 := Tryz.zeroValue128
 t55 := Tryz.underlying130
 a55 := Tryz.isAgg130
 z55 := Tryz.sizeOf130
 v55 := Tryz.zeroValue130 }
def Tryz.keysA0_ren : Go.Shelf.Ren := ⟨fun | 7 => 50 | 10 => 67 | n => n,fun | 23 => 54 | 26 => 2 | 3 => 72 | 28 => 93 | 0 => 0 | 27 => 92 | 33 => 102 | 4 => 4 | n => n,fun | n => n⟩
theorem Tryz.keysA0 : Go.Proofs.SlLaysZI.n7 Tryz.prog Tryz.keysA0_ren := {
 mixed := by kernel_rfl
 f7 := ⟨Tryz.f50.name,by decide,Tryz.func50.trans (congrArg some (by kernel_rfl))⟩
 f10 := ⟨Tryz.f67.name,by decide,Tryz.func67.trans (congrArg some (by kernel_rfl))⟩
 t0 := Tryz.underlying0
 a0 := Tryz.isAgg0
 z0 := Tryz.sizeOf0
 v0 := Tryz.zeroValue0
 t4 := Tryz.underlying4
 a4 := Tryz.isAgg4
 z4 := Tryz.sizeOf4
 v4 := Tryz.zeroValue4
 t23 := Tryz.underlying54
 a23 := Tryz.isAgg54
 z23 := Tryz.sizeOf54
 v23 := Tryz.zeroValue54
 t26 := Tryz.underlying2
 a26 := Tryz.isAgg2
 z26 := Tryz.sizeOf2
 v26 := Tryz.zeroValue2
 t27 := Tryz.underlying92
 a27 := Tryz.isAgg92
 z27 := Tryz.sizeOf92
 v27 := Tryz.zeroValue92
 t28 := Tryz.underlying93
 a28 := Tryz.isAgg93
 z28 := Tryz.sizeOf93
 v28 := Tryz.zeroValue93
 t33 := Tryz.underlying102
 a33 := Tryz.isAgg102
 z33 := Tryz.sizeOf102
 v33 := Tryz.zeroValue102 }
def Tryz.sortedA_ren : Go.Shelf.Ren := ⟨fun | 6 => 49 | 8 => 65 | 9 => 66 | 11 => 76 | 13 => 69 | 12 => 77 | 23 => 86 | 24 => 87 | 14 => 90 | 15 => 91 | 16 => 92 | 17 => 93 | 18 => 94 | 19 => 95 | 20 => 96 | 21 => 97 | 22 => 98 | 25 => 104 | 26 => 100 | 27 => 101 | 28 => 105 | 29 => 106 | 30 => 107 | 31 => 109 | n => n,fun | 26 => 2 | 28 => 93 | 24 => 42 | 0 => 0 | 3 => 3 | 37 => 112 | 48 => 128 | 50 => 130 | 4 => 4 | 40 => 121 | 39 => 120 | 45 => 125 | 5 => 5 | 9 => 9 | 51 => 139 | 55 => 143 | 57 => 147 | 58 => 148 | 33 => 102 | n => n,fun | n => n⟩
theorem Tryz.sortedA : Go.Proofs.SlLaysZI.n6 Tryz.prog Tryz.sortedA_ren := {
 mixed := by kernel_rfl
 f6 := ⟨Tryz.f49.name,by decide,Tryz.func49.trans (congrArg some (by kernel_rfl))⟩
 f8 := ⟨Tryz.f65.name,by decide,Tryz.func65.trans (congrArg some (by kernel_rfl))⟩
 f11 := ⟨Tryz.f76.name,by decide,Tryz.func76.trans (congrArg some (by kernel_rfl))⟩
 t0 := Tryz.underlying0
 a0 := Tryz.isAgg0
 z0 := Tryz.sizeOf0
 v0 := Tryz.zeroValue0
 t24 := Tryz.underlying42
 a24 := Tryz.isAgg42
 z24 := Tryz.sizeOf42
 v24 := Tryz.zeroValue42
 t26 := Tryz.underlying2
 a26 := Tryz.isAgg2
 z26 := Tryz.sizeOf2
 v26 := Tryz.zeroValue2
 t28 := Tryz.underlying93
 a28 := Tryz.isAgg93
 z28 := Tryz.sizeOf93
 v28 := Tryz.zeroValue93
 i26 := by kernel_rfl }
def Tryz.sortA_ren : Go.Shelf.Ren := ⟨fun | 5 => 66 | 8 => 69 | 7 => 77 | 19 => 86 | 20 => 87 | 10 => 90 | 11 => 91 | 12 => 92 | 13 => 93 | 14 => 94 | 15 => 95 | 16 => 96 | 17 => 97 | 18 => 98 | 30 => 104 | 31 => 100 | 32 => 101 | 33 => 105 | 34 => 106 | 35 => 107 | 40 => 109 | n => n,fun | 23 => 42 | 25 => 2 | 3 => 3 | 32 => 112 | 22 => 42 | 0 => 0 | 44 => 128 | 46 => 130 | 4 => 4 | 36 => 121 | 35 => 120 | 41 => 125 | 5 => 5 | 9 => 9 | 53 => 139 | 57 => 143 | 63 => 147 | 64 => 148 | n => n,fun | n => n⟩
theorem Tryz.sortA : Go.Proofs.SlLaysM.n5 Tryz.prog Tryz.sortA_ren := {
 mixed := by kernel_rfl
 f5 := ⟨Tryz.f66.name,by decide,Tryz.func66.trans (congrArg some (by kernel_rfl))⟩
 f7 := ⟨Tryz.f77.name,by decide,Tryz.func77.trans (congrArg some (by kernel_rfl))⟩
 f8 := Tryz.func69.trans (congrArg some (by kernel_rfl))
 f10 := ⟨Tryz.f90.name,by decide,Tryz.func90.trans (congrArg some (by kernel_rfl))⟩
 f11 := ⟨Tryz.f91.name,by decide,Tryz.func91.trans (congrArg some (by kernel_rfl))⟩
 f12 := ⟨Tryz.f92.name,by decide,Tryz.func92.trans (congrArg some (by kernel_rfl))⟩
 f13 := ⟨Tryz.f93.name,by decide,Tryz.func93.trans (congrArg some (by kernel_rfl))⟩
 f14 := ⟨Tryz.f94.name,by decide,Tryz.func94.trans (congrArg some (by kernel_rfl))⟩
 f15 := ⟨Tryz.f95.name,by decide,Tryz.func95.trans (congrArg some (by kernel_rfl))⟩
 f16 := ⟨Tryz.f96.name,by decide,Tryz.func96.trans (congrArg some (by kernel_rfl))⟩
 f17 := ⟨Tryz.f97.name,by decide,Tryz.func97.trans (congrArg some (by kernel_rfl))⟩
 f18 := ⟨Tryz.f98.name,by decide,Tryz.func98.trans (congrArg some (by kernel_rfl))⟩
 f19 := Tryz.func86.trans (congrArg some (by kernel_rfl))
 f20 := Tryz.func87.trans (congrArg some (by kernel_rfl))
 f30 := ⟨Tryz.f104.name,by decide,Tryz.func104.trans (congrArg some (by kernel_rfl))⟩
 f31 := Tryz.func100.trans (congrArg some (by kernel_rfl))
 f32 := Tryz.func101.trans (congrArg some (by kernel_rfl))
 f33 := ⟨Tryz.f105.name,by decide,Tryz.func105.trans (congrArg some (by kernel_rfl))⟩
 f34 := ⟨Tryz.f106.name,by decide,Tryz.func106.trans (congrArg some (by kernel_rfl))⟩
 f35 := ⟨Tryz.f107.name,by decide,Tryz.func107.trans (congrArg some (by kernel_rfl))⟩
 f40 := ⟨Tryz.f109.name,by decide,Tryz.func109.trans (congrArg some (by kernel_rfl))⟩
 t0 := Tryz.underlying0
 a0 := Tryz.isAgg0
 z0 := Tryz.sizeOf0
 v0 := Tryz.zeroValue0
 t3 := Tryz.underlying3
 a3 := Tryz.isAgg3
 z3 := Tryz.sizeOf3
 v3 := Tryz.zeroValue3
 t4 := Tryz.underlying4
 a4 := Tryz.isAgg4
 z4 := Tryz.sizeOf4
 v4 := Tryz.zeroValue4
 t5 := Tryz.underlying5
 a5 := Tryz.isAgg5
 z5 := Tryz.sizeOf5
 v5 := Tryz.zeroValue5
 t9 := Tryz.underlying9
 a9 := Tryz.isAgg9
 z9 := Tryz.sizeOf9
 v9 := Tryz.zeroValue9
 t22 := Tryz.underlying42
 a22 := Tryz.isAgg42
 z22 := Tryz.sizeOf42
 v22 := Tryz.zeroValue42
 t23 := Tryz.underlying42
 a23 := Tryz.isAgg42
 z23 := Tryz.sizeOf42
 v23 := Tryz.zeroValue42
 t25 := Tryz.underlying2
 a25 := Tryz.isAgg2
 z25 := Tryz.sizeOf2
 v25 := Tryz.zeroValue2
 t32 := Tryz.underlying112
 a32 := Tryz.isAgg112
 z32 := Tryz.sizeOf112
 v32 := Tryz.zeroValue112
 t35 := Tryz.underlying120
 a35 := Tryz.isAgg120
 z35 := Tryz.sizeOf120
 v35 := Tryz.zeroValue120
 t36 := Tryz.underlying121
 a36 := Tryz.isAgg121
 z36 := Tryz.sizeOf121
 v36 := Tryz.zeroValue121
 t41 := Tryz.underlying125
 a41 := Tryz.isAgg125
 z41 := Tryz.sizeOf125
 v41 := Tryz.zeroValue125
 t44 := Tryz.underlying128
 a44 := Tryz.isAgg128
 z44 := Tryz.sizeOf128
 v44 := Tryz.zeroValue128
 t46 := Tryz.underlying130
 a46 := Tryz.isAgg130
 z46 := Tryz.sizeOf130
 v46 := Tryz.zeroValue130
 t53 := Tryz.underlying139
 a53 := Tryz.isAgg139
 z53 := Tryz.sizeOf139
 v53 := Tryz.zeroValue139
 t57 := Tryz.underlying143
 a57 := Tryz.isAgg143
 z57 := Tryz.sizeOf143
 v57 := Tryz.zeroValue143
 t63 := Tryz.underlying147
 a63 := Tryz.isAgg147
 z63 := Tryz.sizeOf147
 v63 := Tryz.zeroValue147
 t64 := Tryz.underlying148
 a64 := Tryz.isAgg148
 z64 := Tryz.sizeOf148
 v64 := Tryz.zeroValue148 }
theorem Tryz.sortsA (m : Nat) : AnyZI.SortsIn Tryz.prog Tryz.sortedA_ren Fence.wide m :=
 ⟨fun blk off cap ss W hH hblk hsz => callsIn_wide.2 (AnyM.slices_Sort_int Tryz.sortA blk off cap ss W hH hblk hsz),
  fun p cap W => callsIn_wide.2 (AnyM.slices_Sort_int_none Tryz.sortA p cap W)⟩
end Go.Proofs
namespace Go.Proofs.YtmkbnbpblhoekaaGreat
open Go.Xr
def Hb : Task -> Option Out := orElse (sortHook 68 53) (orElse (bitsHook 69) (sortedHook 49 67))
def slotsG : List Nat := [15,16,74,75,76,77,78,79,80,81,82,83,84,85,86,87,88,89,90,91]
def slotsD : List Nat := [8,33,34,35,36,37,38,39,40,41,42,43,44,45,46,47,48,49,50,51,52,53,54,55,56,57,58]
def heldLen (h : Heap) : V -> Nat
 | .ptr ho _ _ => match h.cells? ho with
  | some c => lenS (c.cs.getD 0 .undef)
  | none => 0
 | _ => 0
def lenAt (h : Heap) (ces : List (Int × V)) (k : Int) : Nat := match hasKey k ces with
 | some v => heldLen h v
 | none => 0
def dropOut (h : Heap) (oi mo : Nat) : V -> Heap
 | .ptr o _ _ => match h.get mo,h.get o with
  | some (.map _ es _),some (.cells c) => match c.cs.getD 0 .undef,c.cs.getD 2 .undef with
   | .map cm,.int k n => match h.get cm with
    | some (.map kd ces ins) => ((h.put o (.cells { c with cs := c.cs.set 2 (.int k (n - ((es.map fun p => lenAt h ces p.1).sum : Nat))) })).put cm (.map kd (ces.filter fun p => (hasKey p.1 es).isNone) ins)).put oi (.dead true)
    | _ => h
   | _,_ => h
  | _,_ => h
 | _ => h
def W06 : Pick := fun m _ t d h => match rd t m.it with
 | .iter oi => match m.tnx with
  | 74 => [(.ret,(anyAll t slotsG).set 6 (.int .i64 61),d,h.put oi (.dead true)),(.exit m.L,anyAll t slotsG,d,h.put oi (.dead true))]
  | 33 => match h.get oi with
   | some (.miter (some mo) _ _ _) => [(.exit m.L,anyAll t slotsD,d,dropOut h oi mo (sO t 0))]
   | _ => []
  | _ => []
 | _ => []
noncomputable def H0 : Task -> Option Out := orElse Hb (pickHook xprog Hb W06)
theorem Hb_ok [RoLim] : HookOk Tryz.prog Hb :=
 orElse_sound (sortHook_sound (ρ := Tryz.sortF_ren) Tryz.sortF Tryz.func68 ⟨fun e => absurd (beq_iff_eq.2 e) (by decide),rfl⟩ (enters_of Tryz.func53 (by kernel_rfl) rfl) order_w)
  (orElse_sound (bitsHook_sound (ρ := Tryz.bitsF_ren) Tryz.bitsF Tryz.func69 ⟨fun e => absurd (beq_iff_eq.2 e) (by decide),rfl⟩)
   (sortedHook_sound (ρK := Tryz.keysA0_ren) (ρS := Tryz.sortedA_ren) { Tryz.keysA0 with } Tryz.sortedA Tryz.sortsA (enters_of Tryz.func66 (by kernel_rfl) rfl) (enters_of Tryz.func67 (by kernel_rfl) rfl) Tryz.func49 ⟨fun e => absurd (beq_iff_eq.2 e) (by decide),rfl⟩))
theorem H0_ok [RoLim] : HookOk Tryz.prog H0 :=
 orElse_sound Hb_ok (pickHook_sound (ev_sound (by kernel_rfl) xprog_ok Hb_ok))
theorem H0_some {k : Task} {r : Out} (h : Hb k = some r) : H0 k = some r := by
 unfold H0 orElse
 rw [h]
theorem H0_call {dk : Bool} {f : Nat} {args : List V} {h : Heap} (hb : Hb (.call dk f args h) = none) : H0 (.call dk f args h) = none := by
 unfold H0 orElse
 rw [hb]
 rfl
theorem sorted_off {f : Nat} (hf : Nat.beq f 49 = false) (dk : Bool) (args : List V) (h : Heap) : sortedHook 49 67 (.call dk f args h) = none := by
 unfold sortedHook
 split
 ·rename_i e; cases e; simp [hf]
 ·rfl
theorem freeb (f : Nat) (hf : (Nat.beq f 68 || Nat.beq f 69 || Nat.beq f 49) = false) (dk : Bool) (args : List V) (h : Heap) : Hb (.call dk f args h) = none := by
 simp only [Bool.or_eq_false_iff] at hf
 obtain ⟨⟨h2,h3⟩,h4⟩ := hf
 have e2 : sortHook 68 53 (.call dk f args h) = none := by
  unfold sortHook
  split
  ·rename_i e; cases e; simp [h2]
  ·rfl
 have e3 : bitsHook 69 (.call dk f args h) = none := by
  unfold bitsHook
  split
  ·rename_i e; cases e; simp [h3]
  ·rfl
 have e4 := sorted_off h4 dk args h
 unfold Hb orElse
 rw [e2]
 simp only
 rw [e3]
 exact e4
theorem free (f : Nat) (hf : (Nat.beq f 68 || Nat.beq f 69 || Nat.beq f 49) = false) (dk : Bool) (args : List V) (h : Heap) : H0 (.call dk f args h) = none := H0_call (freeb f hf dk args h)
theorem freeb_code (c : XCode) (rnd : Option Nat) (t : Tr V) (d : List XDef) (h : Heap) : Hb (.code c rnd t d h) = none := by
 unfold Hb orElse sortHook bitsHook sortedHook
 rfl
theorem frC (c : XCode) (rnd : Option Nat) (t : Tr V) (d : List XDef) (h : Heap) (hp : parseLoop c = none := by rfl) : H0 (.code c rnd t d h) = none := by
 unfold H0 orElse
 rw [freeb_code]
 simp only [pickHook,hp]
theorem pick_code (c : XCode) (rnd : Option Nat) (t : Tr V) (d : List XDef) (h : Heap) : H0 (.code c rnd t d h) = pickHook xprog Hb W06 (.code c rnd t d h) := by
 unfold H0 orElse
 rw [freeb_code]
open Go.Xr
def I32ok (l : Int) : Prop := -2147483648 <= l /\ l <= 2147483647
theorem variable_ok (l : Int) (h1 : -2147483648 <= l) (h2 : l <= 2147483647) (h : Heap) : EvCall xprog H0 51 [.int .i32 l] h fun v h' => v = .int .i64 (litVar l) /\ h' = h := by
 refine s_call (fn := xf51) rfl (free _ rfl ..) ?_
 simp -implicitDefEqProofs only [xf51,argsFrom_cons,argsFrom_nil]
 repeat' ((first | refine Z0 rfl ?_ | refine Z1 rfl ?_ | refine Z2 ?_ | refine Z3 ?_ | refine Z4 ?_ | refine Z5 ?_ | refine Z6 ?_ | refine Z7 ?_ | refine Z8 ?_ | refine Z9 (fun hif => ?_) (fun hif => ?_) | refine Za (fun hif => ?_) (fun hif => ?_) | refine Zb (fun hif => ?_) (fun hif => ?_) | (refine Zc ?_ ?_; omega) | (refine Zd ?_ ?_; omega) | (refine Ze ?_ ?_; omega)) <;>
  (try simp -implicitDefEqProofs (disch := first | assumption | omega) only [sx,sb,sd,se,xwS,xwO,xwI,oEv,xres,o1f,Nat.reduceAdd,Nat.reduceEqDiff,Nat.reduceSub, ↓reduceIte,reduceCtorEq,wrap_i64, *]))
 all_goals simp only [litVar, *,if_true,if_false,and_self]
theorem Var_ok (l : Int) (h1 : -2147483648 <= l) (h2 : l <= 2147483647) (h : Heap) : EvCall xprog H0 33 [.int .i32 l] h fun v h' => v = .int .i64 (litVar l) /\ h' = h := by
 refine s_call (fn := xf33) rfl (free _ rfl ..) ?_
 simp -implicitDefEqProofs only [xf33,argsFrom_cons,argsFrom_nil]
 repeat' ((first | refine Z0 rfl ?_ | refine Z1 rfl ?_ | refine Z2 ?_ | refine Z3 ?_ | refine Z4 ?_ | refine Z5 ?_ | refine Z6 ?_ | refine Z7 ?_ | refine Z8 ?_ | refine Z9 (fun hif => ?_) (fun hif => ?_) | refine Za (fun hif => ?_) (fun hif => ?_) | refine Zb (fun hif => ?_) (fun hif => ?_) | (refine Zc ?_ ?_; omega) | (refine Zd ?_ ?_; omega) | (refine Ze ?_ ?_; omega) | (refine (eCi (variable_ok _ h1 h2 _)).2 ?_)) <;>
  (try simp -implicitDefEqProofs (disch := first | assumption | omega) only [sx,sb,sd,se,xwS,xwO,xwI,oEv,xres,o1f,Nat.reduceAdd,Nat.reduceEqDiff,Nat.reduceSub, ↓reduceIte,reduceCtorEq, *]))
 all_goals exact ⟨rfl,rfl⟩
theorem rVar_ok (l : Int) (h1 : -2147483648 <= l) (h2 : l <= 2147483647) (h : Heap) : EvCall xprog H0 36 [.int .i32 l] h fun v h' => v = .int .i64 (litVar l) /\ h' = h := by
 refine s_call (fn := xf36) rfl (free _ rfl ..) ?_
 simp -implicitDefEqProofs only [xf36,argsFrom_cons,argsFrom_nil]
 repeat' ((first | refine Z0 rfl ?_ | refine Z1 rfl ?_ | refine Z2 ?_ | refine Z3 ?_ | refine Z4 ?_ | refine Z5 ?_ | refine Z6 ?_ | refine Z7 ?_ | refine Z8 ?_ | refine Z9 (fun hif => ?_) (fun hif => ?_) | refine Za (fun hif => ?_) (fun hif => ?_) | refine Zb (fun hif => ?_) (fun hif => ?_) | (refine Zc ?_ ?_; omega) | (refine Zd ?_ ?_; omega) | (refine Ze ?_ ?_; omega)) <;>
  (try simp -implicitDefEqProofs (disch := first | assumption | omega) only [sx,sb,sd,se,xwS,xwO,xwI,oEv,xres,o1f,Nat.reduceAdd,Nat.reduceEqDiff,Nat.reduceSub, ↓reduceIte,reduceCtorEq,wrap_i64, *]))
 all_goals simp only [litVar, *,if_true,if_false,and_self]
theorem Sl.lit {h : Heap} {c : V} {xs : List Int} (hc : Sl h c (xs.map (.int .i32))) {i : Nat} (hi : i < xs.length) : rCs h (objS c) (genS c) (offS c + i) 1 = some [.int .i32 (xs[i])] := hc.at (by simp [hi])
theorem Has_ok {h : Heap} {c : V} {xs : List Int} (hc : Sl h c (xs.map (.int .i32))) (hlen : xs.length <= 9223372036854775806) (l : Int) : EvCall xprog H0 63 [c,.int .i32 l] h fun v h' => v = .bool (decide (l ∈ xs)) /\ h' = h := by
 refine s_call (fn := xf63) rfl (free _ rfl ..) ?_
 have hl := hc.len
 have hr := hc.row
 simp only [List.length_map] at hl
 simp -implicitDefEqProofs only [xf63,argsFrom_cons,argsFrom_nil]
 repeat' ((first | refine Z0 rfl ?_ | refine Z1 rfl ?_ | refine Z2 ?_ | refine Z3 ?_ | refine Z4 ?_ | refine Z5 ?_ | refine Z6 ?_ | refine Z7 ?_ | refine Z8 ?_ | refine Z9 (fun hif => ?_) (fun hif => ?_) | refine Za (fun hif => ?_) (fun hif => ?_) | refine Zb (fun hif => ?_) (fun hif => ?_) | (refine Zc ?_ ?_; omega) | (refine Zd ?_ ?_; omega) | (refine Ze ?_ ?_; omega)) <;>
  (try simp -implicitDefEqProofs (disch := first | assumption | omega) only [sx,sb,sd,se,xwS,xwO,xwI,oEv,xres,o1f,Nat.reduceAdd,Nat.reduceEqDiff,Nat.reduceSub, ↓reduceIte,reduceCtorEq,wrap_i64, *]))
 refine s_while (fun n t d h' => ∃ i : Nat,i + n = xs.length /\ sO t 5 = .int .i64 i /\ sO t 0 = c /\ sO t 1 = .int .i32 l /\ d = [] /\ h' = h /\ ∀ j (hj : j < xs.length),j < i -> xs[j] ≠ l) (fun _ _ _ => frC ..) xs.length ⟨0,by omega,by simp [sSe],by simp [sSe],by simp [sSe],rfl,rfl,fun j _ hj => by omega⟩ ?_
 rintro n t d h' ⟨i,a1,a2,a3,a4,rfl,rfl,a5⟩
 have rx : ∀ (hi : i < xs.length),rCs h' (objS c) (genS c) (offS c + i) 1 = some [.int .i32 (xs[i])] := fun hi => Sl.lit hc hi
 repeat' ((first | refine Z0 rfl ?_ | refine Z1 rfl ?_ | refine Z2 ?_ | refine Z3 ?_ | refine Z4 ?_ | refine Z5 ?_ | refine Z6 ?_ | refine Z7 ?_ | refine Z8 ?_ | refine Z9 (fun hif => ?_) (fun hif => ?_) | refine Za (fun hif => ?_) (fun hif => ?_) | refine Zb (fun hif => ?_) (fun hif => ?_) | (refine Zc ?_ ?_; omega) | (refine Zd ?_ ?_; omega) | (refine Ze ?_ ?_; omega)) <;>
  (try simp -implicitDefEqProofs (disch := first | assumption | omega) only [sx,sb,sd,se,xwS,xwO,xwI,oEv,xres,o1f,Nat.reduceAdd,Nat.reduceEqDiff,Nat.reduceSub, ↓reduceIte,reduceCtorEq,wrap_i64,Nat.zero_add,Int.toNat_natCast, *]))
 ·exact congrArg V.bool (decide_eq_true (by subst hif; exact List.getElem_mem _)).symm
 ·refine ⟨n - 1,by omega,i + 1,by omega,by simp,fun j hj hlt => ?_⟩
  rcases Nat.lt_succ_iff_lt_or_eq.1 hlt with h | rfl
  ·exact a5 j hj h
  ·exact hif
 ·refine congrArg V.bool (decide_eq_false fun hm => ?_).symm
  obtain ⟨j,hj,e⟩ := List.getElem_of_mem hm
  exact a5 j hj (by omega) e
theorem Index_ok {h : Heap} {c : V} {xs : List Int} (hc : Sl h c (xs.map (.int .i32))) (hlen : xs.length <= 9223372036854775806) (l : Int) : EvCall xprog H0 73 [c,.int .i32 l] h fun v h' => (∃ r : Int,v = .int .i64 r /\ (0 <= r ↔ l ∈ xs)) /\ h' = h := by
 refine s_call (fn := xf73) rfl (free _ rfl ..) ?_
 have hl := hc.len
 have hr := hc.row
 simp only [List.length_map] at hl
 simp -implicitDefEqProofs only [xf73,argsFrom_cons,argsFrom_nil]
 repeat' ((first | refine Z0 rfl ?_ | refine Z1 rfl ?_ | refine Z2 ?_ | refine Z3 ?_ | refine Z4 ?_ | refine Z5 ?_ | refine Z6 ?_ | refine Z7 ?_ | refine Z8 ?_ | refine Z9 (fun hif => ?_) (fun hif => ?_) | refine Za (fun hif => ?_) (fun hif => ?_) | refine Zb (fun hif => ?_) (fun hif => ?_) | (refine Zc ?_ ?_; omega) | (refine Zd ?_ ?_; omega) | (refine Ze ?_ ?_; omega)) <;>
  (try simp -implicitDefEqProofs (disch := first | assumption | omega) only [sx,sb,sd,se,xwS,xwO,xwI,oEv,xres,o1f,Nat.reduceAdd,Nat.reduceEqDiff,Nat.reduceSub, ↓reduceIte,reduceCtorEq,wrap_i64, *]))
 refine s_while (fun n t d h' => ∃ i : Nat,i + n = xs.length /\ sO t 8 = .int .i64 i /\ sO t 7 = .int .i64 xs.length /\ sO t 0 = c /\ sO t 1 = .int .i32 l /\ d = [] /\ h' = h /\ ∀ j (hj : j < xs.length),j < i -> xs[j] ≠ l) (fun _ _ _ => frC ..) xs.length ⟨0,by omega,by simp [sSe],by simp [sSe],by simp [sSe],by simp [sSe],rfl,rfl,fun j _ hj => by omega⟩ ?_
 rintro n t d h' ⟨i,a1,a2,a2',a3,a4,rfl,rfl,a5⟩
 have rx : ∀ (hi : i < xs.length),rCs h' (objS c) (genS c) (offS c + i) 1 = some [.int .i32 (xs[i])] := fun hi => Sl.lit hc hi
 repeat' ((first | refine Z0 rfl ?_ | refine Z1 rfl ?_ | refine Z2 ?_ | refine Z3 ?_ | refine Z4 ?_ | refine Z5 ?_ | refine Z6 ?_ | refine Z7 ?_ | refine Z8 ?_ | refine Z9 (fun hif => ?_) (fun hif => ?_) | refine Za (fun hif => ?_) (fun hif => ?_) | refine Zb (fun hif => ?_) (fun hif => ?_) | (refine Zc ?_ ?_; omega) | (refine Zd ?_ ?_; omega) | (refine Ze ?_ ?_; omega)) <;>
  (try simp -implicitDefEqProofs (disch := first | assumption | omega) only [sx,sb,sd,se,xwS,xwO,xwI,oEv,xres,o1f,Nat.reduceAdd,Nat.reduceEqDiff,Nat.reduceSub, ↓reduceIte,reduceCtorEq,wrap_i64,Nat.zero_add,Int.toNat_natCast, *]))
 ·exact ⟨_,rfl,fun _ => by subst hif; exact List.getElem_mem _,fun _ => by omega⟩
 ·refine ⟨n - 1,by omega,i + 1,by omega,by simp,fun j hj hlt => ?_⟩
  rcases Nat.lt_succ_iff_lt_or_eq.1 hlt with h | rfl
  ·exact a5 j hj h
  ·exact fun e => hif e.symm
 ·refine ⟨_,rfl,fun h => by omega,fun hm => ?_⟩
  obtain ⟨j,hj,e⟩ := List.getElem_of_mem hm
  exact absurd e (a5 j hj (by omega))
theorem Contains_ok {h : Heap} {c : V} {xs : List Int} (hc : Sl h c (xs.map (.int .i32))) (hlen : xs.length <= 9223372036854775806) (l : Int) : EvCall xprog H0 60 [c,.int .i32 l] h fun v h' => v = .bool (decide (l ∈ xs)) /\ h' = h := by
 refine s_call (fn := xf60) rfl (free _ rfl ..) ?_
 have hr := hc.row
 simp -implicitDefEqProofs only [xf60,argsFrom_cons,argsFrom_nil]
 repeat' ((first | refine Z0 rfl ?_ | refine Z1 rfl ?_ | refine Z2 ?_ | refine Z3 ?_ | refine Z4 ?_ | refine Z5 ?_ | refine Z6 ?_ | refine Z7 ?_ | refine Z8 ?_ | refine Z9 (fun hif => ?_) (fun hif => ?_) | refine Za (fun hif => ?_) (fun hif => ?_) | refine Zb (fun hif => ?_) (fun hif => ?_) | (refine Zc ?_ ?_; omega) | (refine Zd ?_ ?_; omega) | (refine Ze ?_ ?_; omega) | ((refine eAc (Index_ok hc hlen l) ?_; rintro _ _ ⟨⟨r,rfl,hr⟩,rfl⟩))) <;>
  (try simp -implicitDefEqProofs (disch := first | assumption | omega) only [sx,sb,sd,se,xwS,xwO,xwI,oEv,xres,o1f,Nat.reduceAdd,Nat.reduceEqDiff,Nat.reduceSub, ↓reduceIte,reduceCtorEq, *]))
theorem before_ok (a b : Int) (ha : I32ok a) (hb : I32ok b) (h : Heap) : EvCall xprog H0 75 [.int .i32 a,.int .i32 b] h fun v h' => v = .bool (litBefore a b) /\ h' = h := by
 refine s_call (fn := xf75) rfl (free _ rfl ..) ?_
 obtain ⟨ha1,ha2⟩ := ha
 obtain ⟨hb1,hb2⟩ := hb
 simp -implicitDefEqProofs only [xf75,argsFrom_cons,argsFrom_nil]
 repeat' ((first | refine Z0 rfl ?_ | refine Z1 rfl ?_ | refine Z2 ?_ | refine Z3 ?_ | refine Z4 ?_ | refine Z5 ?_ | refine Z6 ?_ | refine Z7 ?_ | refine Z8 ?_ | refine Z9 (fun hif => ?_) (fun hif => ?_) | refine Za (fun hif => ?_) (fun hif => ?_) | refine Zb (fun hif => ?_) (fun hif => ?_) | (refine Zc ?_ ?_; omega) | (refine Zd ?_ ?_; omega) | (refine Ze ?_ ?_; omega) | (refine (eCi (rVar_ok a ha1 ha2 _)).2 ?_) | (refine (eCi (rVar_ok b hb1 hb2 _)).2 ?_)) <;>
  (try simp -implicitDefEqProofs (disch := first | assumption | omega) only [sx,sb,sd,se,xwS,xwO,xwI,oEv,xres,o1f,Nat.reduceAdd,Nat.reduceEqDiff,Nat.reduceSub, ↓reduceIte,reduceCtorEq, *]))
 all_goals simp [litBefore, *]
def litFine (l : Int) : Bool := decide (l ≠ 0 /\ -1048576 <= l /\ l <= 1048576)
theorem Lit_ok (l : Int) (h : Heap) : EvCall xprog H0 43 [.int .i32 l] h fun v h' => v = .bool (litFine l) /\ h' = h := by
 refine s_call (fn := xf43) rfl (free _ rfl ..) ?_
 simp -implicitDefEqProofs only [xf43,argsFrom_cons,argsFrom_nil]
 repeat' ((first | refine Z0 rfl ?_ | refine Z1 rfl ?_ | refine Z2 ?_ | refine Z3 ?_ | refine Z4 ?_ | refine Z5 ?_ | refine Z6 ?_ | refine Z7 ?_ | refine Z8 ?_ | refine Z9 (fun hif => ?_) (fun hif => ?_) | refine Za (fun hif => ?_) (fun hif => ?_) | refine Zb (fun hif => ?_) (fun hif => ?_) | (refine Zc ?_ ?_; omega) | (refine Zd ?_ ?_; omega) | (refine Ze ?_ ?_; omega)) <;>
  (try simp -implicitDefEqProofs (disch := first | assumption | omega) only [sx,sb,sd,se,xwS,xwO,xwI,oEv,xres,o1f,Nat.reduceAdd,Nat.reduceEqDiff,Nat.reduceSub, ↓reduceIte,reduceCtorEq, *]))
 all_goals simp only [litFine,Int.negSucc_eq] at *
 all_goals simp [*]
 all_goals omega
open Go.Xr
def Own (b : Nat) (h : Heap) (v : V) (xs : List V) : Prop := (xs = [] /\ (v = .nils \/ ∃ o g off,v = .slice o g off 0 (.exact 0))) \/ ∃ o g r,b <= o /\ o < h.next /\ v = .slice o g 0 xs.length (.rest 0 1) /\ h.get o = some (grownObj xs g r 1)
theorem Own.len {b : Nat} {h : Heap} {v : V} {xs : List V} (hs : Own b h v xs) : lenS v = xs.length := by
 rcases hs with ⟨rfl,rfl | ⟨o,g,off,rfl⟩⟩ | ⟨o,g,r,_,_,rfl,_⟩ <;> rfl
theorem Own.row {b : Nat} {h : Heap} {v : V} {xs : List V} (hs : Own b h v xs) : rowS v = true := by
 rcases hs with ⟨rfl,rfl | ⟨o,g,off,rfl⟩⟩ | ⟨o,g,r,_,_,rfl,_⟩ <;> rfl
theorem Own.sl {b : Nat} {h : Heap} {v : V} {xs : List V} (hs : Own b h v xs) : Sl h v xs := by
 rcases hs with ⟨rfl,rfl | ⟨o,g,off,rfl⟩⟩ | ⟨o,g,r,_,hlt,rfl,hg⟩
 ·exact .inl ⟨rfl,rfl⟩
 ·exact .inr ⟨_,_,_,_,rfl,fun q => by cases q⟩
 ·exact .inr ⟨o,g,0,_,rfl,fun _ => ⟨hlt,by rw [readCells_grown hg (by omega)]; simp⟩⟩
theorem Clone_ok {h : Heap} {c : V} {xs : List V} (hc : Sl h c xs) (h1 : ∀ x ∈ xs,x.one = true) (hb : xs.length * 4 <= 140737488355328) : EvCall xprog H0 35 [c] h fun v h' => Own h.next h' v xs /\ Ext h h' := by
 refine s_call (fn := xf35) rfl (free _ rfl ..) ?_
 rcases hc with ⟨rfl,rfl⟩ | ⟨o,g,off,cap,rfl,h2⟩
 ·simp -implicitDefEqProofs only [xf35,argsFrom_cons,argsFrom_nil]
  repeat' ((first | refine Z0 rfl ?_ | refine Z1 rfl ?_ | refine Z2 ?_ | refine Z3 ?_ | refine Z4 ?_ | refine Z5 ?_ | refine Z6 ?_ | refine Z7 ?_ | refine Z8 ?_ | refine Z9 (fun hif => ?_) (fun hif => ?_) | refine Za (fun hif => ?_) (fun hif => ?_) | refine Zb (fun hif => ?_) (fun hif => ?_) | (refine Zc ?_ ?_; omega) | (refine Zd ?_ ?_; omega) | (refine Ze ?_ ?_; omega)) <;>
   (try simp -implicitDefEqProofs (disch := first | assumption | omega) only [sx,sb,sd,se,xwS,xwO,xwI,oEv,xres,o1f,Nat.reduceAdd,Nat.reduceEqDiff,Nat.reduceSub, ↓reduceIte,reduceCtorEq,nilS,rowS, *]))
  exact ⟨.inl ⟨rfl,.inl rfl⟩,Ext.refl _⟩
 ·have hc : Sl (nCs h [] 1 false) (.slice o g off xs.length cap) xs := .inr ⟨o,g,off,cap,rfl,fun hp => ⟨Nat.lt_succ_of_lt (h2 hp).1,by rw [readCells_get ((Ext.new h [] 1 false).get o (h2 hp).1)]; exact (h2 hp).2⟩⟩
  simp -implicitDefEqProofs only [xf35,argsFrom_cons,argsFrom_nil]
  repeat' ((first | refine Z0 rfl ?_ | refine Z1 rfl ?_ | refine Z2 ?_ | refine Z3 ?_ | refine Z4 ?_ | refine Z5 ?_ | refine Z6 ?_ | refine Z7 ?_ | refine Z8 ?_ | refine Z9 (fun hif => ?_) (fun hif => ?_) | refine Za (fun hif => ?_) (fun hif => ?_) | refine Zb (fun hif => ?_) (fun hif => ?_) | (refine Zc ?_ ?_; omega) | (refine Zd ?_ ?_; omega) | (refine Ze ?_ ?_; omega) | ((refine x_append_new hc ⟨_,get_new ..,_,rfl,Nat.le_refl _⟩ hb ?_ ?_ <;> intro hne))) <;>
   (try simp -implicitDefEqProofs (disch := first | assumption | omega) only [sx,sb,sd,se,xwS,xwO,xwI,oEv,xres,o1f,Nat.reduceAdd,Nat.reduceEqDiff,Nat.reduceSub, ↓reduceIte,reduceCtorEq,nilS,rowS, *]))
  ·exact ⟨.inl ⟨rfl,.inr ⟨_,_,_,rfl⟩⟩,Ext.new ..⟩
  ·exact ⟨.inr ⟨h.next + 1,0,[],by omega,Nat.lt_succ_self _,rfl,by rw [Heap.get_push]; exact if_pos rfl⟩,(Ext.new ..).trans (Ext.push ..)⟩
theorem bits_ok (n : Nat) (hn : n <= 9223372036854775807) (h : Heap) : EvCall xprog H0 69 [.int .u64 n] h fun v h' => v = .int .i64 (Lib.bitLen n) /\ h' = h := by
 refine ⟨1,.int .i64 (Lib.bitLen n),h,?_,rfl,rfl⟩
 have : H0 (.call false 69 [.int .u64 n] h) = some (.call (.int .i64 (Lib.bitLen n)) h) := by
  refine H0_some ?_
  have e : bitsHook 69 (.call false 69 [.int .u64 n] h) = some (.call (.int .i64 (Lib.bitLen n)) h) := by
   unfold bitsHook
   have : (Nat.beq 69 69 && decide ((0 : Int) <= (n : Int) /\ (n : Int) <= 18446744073709551615)) = true := by
    rw [Nat.beq_refl,Bool.true_and,decide_eq_true_eq]
    omega
   simp only [this,Int.toNat_natCast]
  unfold Hb orElse
  have e2 : sortHook 68 53 (.call false 69 [.int .u64 n] h) = none := rfl
  rw [e2]
  simp only
  first
   | exact e
   | rw [e]
 simp only [ev,evStep,this]
theorem insertion_none (x : V) (f : V) (h : Heap) : EvCall xprog H0 78 [x,.int .i64 0,.int .i64 0,f] h fun v h' => h' = h := by
 refine s_call (fn := xf78) rfl (free _ rfl ..) ?_
 simp -implicitDefEqProofs only [xf78,argsFrom_cons,argsFrom_nil]
 repeat' ((first | refine Z0 rfl ?_ | refine Z1 rfl ?_ | refine Z2 ?_ | refine Z3 ?_ | refine Z4 ?_ | refine Z5 ?_ | refine Z6 ?_ | refine Z7 ?_ | refine Z8 ?_ | refine Z9 (fun hif => ?_) (fun hif => ?_) | refine Za (fun hif => ?_) (fun hif => ?_) | refine Zb (fun hif => ?_) (fun hif => ?_) | (refine Zc ?_ ?_; omega) | (refine Zd ?_ ?_; omega) | (refine Ze ?_ ?_; omega)) <;>
  (try simp -implicitDefEqProofs (disch := first | assumption | omega) only [sx,sb,sd,se,xwS,xwO,xwI,oEv,xres,o1f,Nat.reduceAdd,Nat.reduceEqDiff,Nat.reduceSub, ↓reduceIte,reduceCtorEq,wrap_i64, *]))
 refine s_while (fun n t d h' => sO t 8 = .int .i64 1 /\ sO t 2 = .int .i64 0 /\ d = [] /\ h' = h) (fun _ _ _ => frC ..) 0 ⟨by simp [sSe],by simp [sSe],rfl,rfl⟩ ?_
 rintro n t d h' ⟨a1,a2,rfl,rfl⟩
 repeat' ((first | refine Z0 rfl ?_ | refine Z1 rfl ?_ | refine Z2 ?_ | refine Z3 ?_ | refine Z4 ?_ | refine Z5 ?_ | refine Z6 ?_ | refine Z7 ?_ | refine Z8 ?_ | refine Z9 (fun hif => ?_) (fun hif => ?_) | refine Za (fun hif => ?_) (fun hif => ?_) | refine Zb (fun hif => ?_) (fun hif => ?_) | (refine Zc ?_ ?_; omega) | (refine Zd ?_ ?_; omega) | (refine Ze ?_ ?_; omega)) <;>
  (try simp -implicitDefEqProofs (disch := first | assumption | omega) only [sx,sb,sd,se,xwS,xwO,xwI,oEv,xres,o1f,Nat.reduceAdd,Nat.reduceEqDiff,Nat.reduceSub, ↓reduceIte,reduceCtorEq,wrap_i64, *]))
theorem sort_none (x : V) (lim : Int) (f : V) (h : Heap) : EvCall xprog H0 68 [x,.int .i64 0,.int .i64 0,.int .i64 lim,f] h fun v h' => h' = h := by
 refine s_call (fn := xf68) rfl (H0_call ?_) ?_
 ·have e2 : sortHook 68 53 (.call false 68 [x,.int .i64 0,.int .i64 0,.int .i64 lim,f] h) = none := by
   unfold sortHook
   split
   ·rename_i heq
    cases heq
    split
    ·rfl
    ·rename_i hb
     simp only [Bool.and_eq_true,decide_eq_true_eq] at hb
     omega
   ·rfl
  have e3 : bitsHook 69 (.call false 68 [x,.int .i64 0,.int .i64 0,.int .i64 lim,f] h) = none := by
   unfold bitsHook
   split
   ·rename_i heq; cases heq
   ·rfl
  unfold Hb orElse
  rw [e2]
  first
   | exact e3
   | (simp only; rw [e3]; exact sorted_off rfl ..)
 simp -implicitDefEqProofs only [xf68,argsFrom_cons,argsFrom_nil]
 repeat' ((first | refine Z0 rfl ?_ | refine Z1 rfl ?_ | refine Z2 ?_ | refine Z3 ?_ | refine Z4 ?_ | refine Z5 ?_ | refine Z6 ?_ | refine Z7 ?_ | refine Z8 ?_ | refine Z9 (fun hif => ?_) (fun hif => ?_) | refine Za (fun hif => ?_) (fun hif => ?_) | refine Zb (fun hif => ?_) (fun hif => ?_) | (refine Zc ?_ ?_; omega) | (refine Zd ?_ ?_; omega) | (refine Ze ?_ ?_; omega)) <;>
  (try simp -implicitDefEqProofs (disch := first | assumption | omega) only [sx,sb,sd,se,xwS,xwO,xwI,oEv,xres,o1f,Nat.reduceAdd,Nat.reduceEqDiff,Nat.reduceSub, ↓reduceIte,reduceCtorEq,wrap_i64, *]))
 refine s_while (fun n t d h' => sO t 0 = x /\ sO t 1 = .int .i64 0 /\ sO t 2 = .int .i64 0 /\ sO t 4 = f /\ d = [] /\ h' = h) (fun _ _ _ => frC ..) 0 ⟨by simp [sSe],by simp [sSe],by simp [sSe],by simp [sSe],rfl,rfl⟩ ?_
 rintro n t d h' ⟨a1,a2,a3,a4,rfl,rfl⟩
 repeat' ((first | refine Z0 rfl ?_ | refine Z1 rfl ?_ | refine Z2 ?_ | refine Z3 ?_ | refine Z4 ?_ | refine Z5 ?_ | refine Z6 ?_ | refine Z7 ?_ | refine Z8 ?_ | refine Z9 (fun hif => ?_) (fun hif => ?_) | refine Za (fun hif => ?_) (fun hif => ?_) | refine Zb (fun hif => ?_) (fun hif => ?_) | (refine Zc ?_ ?_; omega) | (refine Zd ?_ ?_; omega) | (refine Ze ?_ ?_; omega) | ((refine eAc (insertion_none _ _ _) ?_; rintro _ _ rfl))) <;>
  (try simp -implicitDefEqProofs (disch := first | assumption | omega) only [sx,sb,sd,se,xwS,xwO,xwI,oEv,xres,o1f,Nat.reduceAdd,Nat.reduceEqDiff,Nat.reduceSub, ↓reduceIte,reduceCtorEq,wrap_i64, *]))
theorem ones_ints {k : IntKind} (xs : List Int) : (xs.map (V.int k)).all V.one = true := by
 rw [List.all_eq_true]
 intro x hx
 obtain ⟨n,_,rfl⟩ := List.mem_map.1 hx
 rfl
theorem sort_some {h : Heap} {o g : Nat} {r : List Nat} {xs : List Int} (hg : h.get o = some (grownObj (xs.map (.int .i32)) g r 1)) (hx : ∀ x ∈ xs,I32ok x) (hp : 0 < xs.length) (hl : xs.length <= 1000000000) (lim : Nat) (hlim : lim <= 4611686018427387903) :
  EvCall xprog H0 68 [.slice o g 0 xs.length (.rest 0 1),.int .i64 0,.int .i64 xs.length,.int .i64 lim,.func 53 [] []] h fun v h' => h' = h.put o (grownObj ((sortLits xs).map (.int .i32)) g [] 1) := by
 obtain ⟨k,hk⟩ : ∃ k,xs.length = k + 1 := ⟨xs.length - 1,by omega⟩
 have hsl : (sortLits xs).length = xs.length := (sortLits_perm xs).length_eq
 have hrd : rCs h o g 0 (k + 1) = some (xs.map (.int .i32)) := by
  rw [readCells_grown hg (by simp; omega),List.drop_zero,List.take_of_length_le (by simp; omega)]
 have hwr : writeCells h o g 0 ((sortLits xs).map (.int .i32)) = some (h.put o (grownObj ((sortLits xs).map (.int .i32)) g [] 1)) := writeCells_grown hg (by simp [hsl]) (ones_ints _)
 rw [hk]
 have e2 : sortHook 68 53 (.call false 68 [.slice o g 0 (k + 1) (.rest 0 1),.int .i64 0,.int .i64 ((k + 1 : Nat) : Int),.int .i64 (lim : Int),.func 53 [] []] h) = some (.call (.tup []) (h.put o (grownObj ((sortLits xs).map (.int .i32)) g [] 1))) := by
  have c1 : (Nat.beq 68 68 && Nat.beq 53 53 && decide ((0 : Int) = 0) && decide (((k + 1 : Nat) : Int) = ((k + 1 : Nat) : Int)) && Nat.ble lim 4611686018427387903) = true := by
   simp [Nat.ble_eq_true_of_le hlim]
  show (match (Nat.beq _ _ && Nat.beq _ _ && decide _ && decide _ && Nat.ble lim 4611686018427387903) with | false => none | true => _) = _
  rw [c1]
  simp only
  rw [hrd]
  simp only
  rw [litsOf_map hx]
  have c2 : Nat.ble (k + 1) 4611686018427387903 = true := Nat.ble_eq_true_of_le (by omega)
  rw [c2]
  simp only
  rw [hwr]
 refine ⟨1,.tup [],_,?_,rfl⟩
 have : H0 (.call false 68 [.slice o g 0 (k + 1) (.rest 0 1),.int .i64 0,.int .i64 ((k + 1 : Nat) : Int),.int .i64 (lim : Int),.func 53 [] []] h) = some (.call (.tup []) (h.put o (grownObj ((sortLits xs).map (.int .i32)) g [] 1))) := by
  refine H0_some ?_
  unfold Hb orElse
  rw [e2]
 simp only [ev,evStep,this]
theorem SortFunc_ok {b : Nat} {h : Heap} {v : V} {xs : List Int} (hv : Own b h v (xs.map (.int .i32))) (hx : ∀ x ∈ xs,I32ok x) (hl : xs.length <= 1000000000) :
  EvCall xprog H0 52 [v,.func 53 [] []] h fun _ h' => Own b h' v ((sortLits xs).map (.int .i32)) /\ But (fun o => b <= o) h h' := by
 refine s_call (fn := xf52) rfl (free _ rfl ..) ?_
 have hsl : (sortLits xs).length = xs.length := (sortLits_perm xs).length_eq
 have hrow := hv.row
 have hlen := hv.len
 simp only [List.length_map] at hlen
 have hwrap : IntKind.u64.wrap (xs.length : Int) = xs.length := by simp [IntKind.wrap,IntKind.bits,IntKind.signed]; omega
 have bl := bits_ok xs.length (by omega)
 rcases hv with ⟨h0,h1⟩ | ⟨o,g,r,hb,hlt,rfl,hg⟩
 ·have : xs = [] := by simpa using h0
  subst this
  simp -implicitDefEqProofs only [xf52,argsFrom_cons,argsFrom_nil]
  repeat' ((first | refine Z0 rfl ?_ | refine Z1 rfl ?_ | refine Z2 ?_ | refine Z3 ?_ | refine Z4 ?_ | refine Z5 ?_ | refine Z6 ?_ | refine Z7 ?_ | refine Z8 ?_ | refine Z9 (fun hif => ?_) (fun hif => ?_) | refine Za (fun hif => ?_) (fun hif => ?_) | refine Zb (fun hif => ?_) (fun hif => ?_) | (refine Zc ?_ ?_; omega) | (refine Zd ?_ ?_; omega) | (refine Ze ?_ ?_; omega) | (refine (eCi (bl _)).2 ?_) | ((refine eAc (sort_none _ _ _ _) ?_; rintro _ _ rfl))) <;>
   (try simp -implicitDefEqProofs (disch := first | assumption | omega) only [sx,sb,sd,se,xwS,xwO,xwI,oEv,xres,o1f,Nat.reduceAdd,Nat.reduceEqDiff,Nat.reduceSub, ↓reduceIte,reduceCtorEq,hwrap, *]))
  exact ⟨.inl ⟨rfl,h1⟩,But.refl _ _⟩
 ·have hlm : (xs.map (V.int .i32)).length = xs.length := by simp
  have hls : ((sortLits xs).map (V.int .i32)).length = xs.length := by simp [hsl]
  rw [hlm] at hrow hlen ⊢
  have hpos : 0 < xs.length -> EvCall xprog H0 68 [.slice o g 0 xs.length (.rest 0 1),.int .i64 0,.int .i64 xs.length,.int .i64 (Lib.bitLen xs.length),.func 53 [] []] h fun v h' => h' = h.put o (grownObj ((sortLits xs).map (.int .i32)) g [] 1) := fun hp => sort_some hg hx hp hl _ (by
   have := Lib.bitLen_le xs.length 62 (by omega) (by omega)
   omega)
  by_cases hp : 0 < xs.length
  ·have hs := hpos hp
   simp -implicitDefEqProofs only [xf52,argsFrom_cons,argsFrom_nil]
   repeat' ((first | refine Z0 rfl ?_ | refine Z1 rfl ?_ | refine Z2 ?_ | refine Z3 ?_ | refine Z4 ?_ | refine Z5 ?_ | refine Z6 ?_ | refine Z7 ?_ | refine Z8 ?_ | refine Z9 (fun hif => ?_) (fun hif => ?_) | refine Za (fun hif => ?_) (fun hif => ?_) | refine Zb (fun hif => ?_) (fun hif => ?_) | (refine Zc ?_ ?_; omega) | (refine Zd ?_ ?_; omega) | (refine Ze ?_ ?_; omega) | (refine (eCi (bl _)).2 ?_) | ((refine eAc hs ?_; rintro _ _ rfl))) <;>
    (try simp -implicitDefEqProofs (disch := first | assumption | omega) only [sx,sb,sd,se,xwS,xwO,xwI,oEv,xres,o1f,Nat.reduceAdd,Nat.reduceEqDiff,Nat.reduceSub, ↓reduceIte,reduceCtorEq,hwrap, *]))
   refine ⟨.inr ⟨o,g,[],hb,hlt,by rw [hls],by rw [Heap.get_put,if_pos rfl]⟩,Nat.le_refl _,fun o' ho' hq => ?_⟩
   rw [Heap.get_put,if_neg]
   rintro rfl
   exact hq hb
  ·have : xs = [] := List.eq_nil_of_length_eq_zero (by omega)
   subst this
   simp -implicitDefEqProofs only [xf52,argsFrom_cons,argsFrom_nil]
   repeat' ((first | refine Z0 rfl ?_ | refine Z1 rfl ?_ | refine Z2 ?_ | refine Z3 ?_ | refine Z4 ?_ | refine Z5 ?_ | refine Z6 ?_ | refine Z7 ?_ | refine Z8 ?_ | refine Z9 (fun hif => ?_) (fun hif => ?_) | refine Za (fun hif => ?_) (fun hif => ?_) | refine Zb (fun hif => ?_) (fun hif => ?_) | (refine Zc ?_ ?_; omega) | (refine Zd ?_ ?_; omega) | (refine Ze ?_ ?_; omega) | (refine (eCi (bl _)).2 ?_) | ((refine eAc (sort_none _ _ _ _) ?_; rintro _ _ rfl))) <;>
    (try simp -implicitDefEqProofs (disch := first | assumption | omega) only [sx,sb,sd,se,xwS,xwO,xwI,oEv,xres,o1f,Nat.reduceAdd,Nat.reduceEqDiff,Nat.reduceSub, ↓reduceIte,reduceCtorEq,hwrap, *]))
   exact ⟨.inr ⟨o,g,r,hb,hlt,rfl,hg⟩,But.refl _ _⟩
open Go.Xr
def cpt (xs : List Int) : Nat -> List Int
 | 0 => []
 | p + 1 => if p ≠ 0 /\ xs.getD p 0 = xs.getD (p - 1) 0 then cpt xs p else cpt xs p ++ [xs.getD p 0]
def Kept (p : Prop) : Prop := p
theorem cpt_len (xs : List Int) : ∀ p,(cpt xs p).length <= p
 | 0 => Nat.le_refl _
 | p + 1 => by
  have := cpt_len xs p
  unfold cpt
  split
  ·omega
  ·simp; omega
def OwnP (b : Nat) (h : Heap) (v : V) (ys : List V) : Prop := (ys = [] /\ (v = .nils \/ ∃ o g off,v = .slice o g off 0 (.exact 0))) \/ ∃ o g r cs,b <= o /\ o < h.next /\ v = .slice o g 0 ys.length (.rest 0 1) /\ h.get o = some (grownObj cs g r 1) /\ cs.take ys.length = ys /\ ys.length <= cs.length
set_option maxHeartbeats 4000000 in
theorem Compact_ok {b : Nat} {h : Heap} {v : V} {xs : List Int} (hv : Own b h v (xs.map (.int .i32))) (hl : xs.length <= 1000000000) :
  EvCall xprog H0 54 [v] h fun v' h' => OwnP b h' v' ((cpt xs xs.length).map (.int .i32)) /\ But (fun o => b <= o) h h' := by
 refine s_call (fn := xf54) rfl (free _ rfl ..) ?_
 have hrow := hv.row
 have hlen := hv.len
 simp only [List.length_map] at hlen
 by_cases h2 : xs.length < 2
 ·have hsame : cpt xs xs.length = xs := by
   match xs,h2 with
   | [],_ => rfl
   | [x],_ => rfl
  simp -implicitDefEqProofs only [xf54,argsFrom_cons,argsFrom_nil]
  repeat' ((first | refine Z0 rfl ?_ | refine Z1 rfl ?_ | refine Z2 ?_ | refine Z3 ?_ | refine Z4 ?_ | refine Z5 ?_ | refine Z6 ?_ | refine Z7 ?_ | refine Z8 ?_ | refine Z9 (fun hif => ?_) (fun hif => ?_) | refine Za (fun hif => ?_) (fun hif => ?_) | refine Zb (fun hif => ?_) (fun hif => ?_) | (refine Zc ?_ ?_; omega) | (refine Zd ?_ ?_; omega) | (refine Ze ?_ ?_; omega)) <;>
   (try simp -implicitDefEqProofs (disch := first | assumption | omega) only [sx,sb,sd,se,xwS,xwO,xwI,oEv,xres,o1f,Nat.reduceAdd,Nat.reduceEqDiff,Nat.reduceSub, ↓reduceIte,reduceCtorEq, *]))
  ·refine ⟨?_,But.refl _ _⟩
   rcases hv with ⟨h0,h1⟩ | ⟨o,g,r,hb,hlt,rfl,hg⟩
   ·exact .inl ⟨h0,h1⟩
   ·exact .inr ⟨o,g,r,_,hb,hlt,rfl,hg,List.take_of_length_le (Nat.le_refl _),Nat.le_refl _⟩
  ·exfalso; omega
 ·rcases hv with ⟨h0,h1⟩ | ⟨o,g,r,hb,hlt,rfl,hg⟩
  ·simp at h0; subst h0; simp at h2
  ·have hlm : (xs.map (V.int .i32)).length = xs.length := by simp
   rw [hlm] at hrow hlen ⊢
   simp -implicitDefEqProofs only [xf54,argsFrom_cons,argsFrom_nil]
   repeat' ((first | refine Z0 rfl ?_ | refine Z1 rfl ?_ | refine Z2 ?_ | refine Z3 ?_ | refine Z4 ?_ | refine Z5 ?_ | refine Z6 ?_ | refine Z7 ?_ | refine Z8 ?_ | refine Z9 (fun hif => ?_) (fun hif => ?_) | refine Za (fun hif => ?_) (fun hif => ?_) | refine Zb (fun hif => ?_) (fun hif => ?_) | (refine Zc ?_ ?_; omega) | (refine Zd ?_ ?_; omega) | (refine Ze ?_ ?_; omega)) <;>
    (try simp -implicitDefEqProofs (disch := first | assumption | omega) only [sx,sb,sd,se,xwS,xwO,xwI,oEv,xres,o1f,Nat.reduceAdd,Nat.reduceEqDiff,Nat.reduceSub, ↓reduceIte,reduceCtorEq, *]))
   ·exfalso; omega
   refine s_while (fun n t d h' => ∃ i : Nat,i + n = xs.length /\ 1 <= i /\ sO t 3 = .int .i64 i /\ sO t 0 = .slice o g 0 xs.length (.rest 0 1) /\ d = [] /\ h' = h /\ cpt xs i = xs.take i) (fun _ _ _ => frC ..) (xs.length - 1) ⟨1,by omega,by omega,by simp [sSe],by simp [sSe],rfl,rfl,by
    match xs,h2 with
    | [],h2 => simp at h2
    | x :: xs,_ => rfl⟩ ?_
   rintro n t d h' ⟨i,a1,a1',a2,a3,rfl,rfl,a4⟩
   have rx : ∀ (j : Nat) (hj : j < xs.length),rCs h' o g j 1 = some [.int .i32 (xs[j])] := fun j hj => by
    rw [readCells_grown hg (by simp; omega),List.drop_eq_getElem_cons (by simpa using hj)]
    simp
   have rx1 : i < xs.length -> rCs h' o g i 1 = some [.int .i32 (xs.getD i 0)] := fun hi => by rw [rx i hi]; simp [hi]
   have rx2 : i < xs.length -> rCs h' o g (i - 1) 1 = some [.int .i32 (xs.getD (i - 1) 0)] := fun hi => by rw [rx (i - 1) (by omega)]; simp [show i - 1 < xs.length by omega]
   have et : ((i : Int) - 1).toNat = i - 1 := by omega
   repeat' ((first | refine Z0 rfl ?_ | refine Z1 rfl ?_ | refine Z2 ?_ | refine Z3 ?_ | refine Z4 ?_ | refine Z5 ?_ | refine Z6 ?_ | refine Z7 ?_ | refine Z8 ?_ | refine Z9 (fun hif => ?_) (fun hif => ?_) | refine Za (fun hif => ?_) (fun hif => ?_) | refine Zb (fun hif => ?_) (fun hif => ?_) | (refine Zc ?_ ?_; omega) | (refine Zd ?_ ?_; omega) | (refine Ze ?_ ?_; omega) | (refine x_slc_lo (by omega) (by omega) ?_)) <;>
    (try simp -implicitDefEqProofs (disch := first | assumption | omega) only [sx,sb,sd,se,xwS,xwO,xwI,oEv,xres,o1f,Nat.reduceAdd,Nat.reduceEqDiff,Nat.reduceSub, ↓reduceIte,reduceCtorEq,wrap_i64,Nat.zero_add,Int.toNat_natCast,et,objS,genS,offS,lenS,rowS, *]))
   ·have hi : i < xs.length := by omega
    have hd : xs.getD i 0 = xs.getD (i - 1) 0 := by simpa [hi,show i - 1 < xs.length by omega] using hif
    have hc1 : cpt xs (i + 1) = cpt xs i := by
     rw [cpt,if_pos ⟨by omega,hd⟩]
    have hlx : (xs.take i).length = i := by simp; omega
    refine s_while (fun n t d h2 => ∃ (q k : Nat) (cs : List Int) (r2 : List Nat),i + q + n = xs.length /\ 1 <= q /\ sO t 5 = .int .i64 q /\ sO t 3 = .int .i64 k /\ sO t 0 = .slice o g 0 xs.length (.rest 0 1) /\ sO t 4 = .slice o g i (xs.length - i) (.rest i 1) /\ d = [] /\ h2.next = h'.next /\ (∀ o',o' ≠ o -> h2.get o' = h'.get o') /\ h2.get o = some (grownObj (cs.map (.int .i32)) g r2 1) /\ cs.length = xs.length /\ k + 1 <= i + q /\ k = (cpt xs (i + q)).length /\ cs.take k = cpt xs (i + q) /\ ∀ j,i + q <= j + 1 -> cs.getD j 0 = xs.getD j 0) (fun _ _ _ => frC ..) (xs.length - (i + 1))
     ⟨1,i,xs,r,by omega,by omega,by simp [sSe],by simp [sSe,a2],by simp [sSe,a3],by simp [sSe],rfl,rfl,fun _ _ => rfl,hg,rfl,by omega,by rw [hc1,a4,hlx],by rw [hc1,a4],fun _ _ => rfl⟩ ?_
    rintro n2 t2 d2 h2 ⟨q,k,cs,r2,b1,b2,b3,b4,b5,b6,rfl,b7,b8,b9,b10,b11,b12,b13,b14⟩
    have ry : ∀ (j : Nat),j < xs.length -> rCs h2 o g j 1 = some [.int .i32 (cs.getD j 0)] := fun j hj => by
     rw [readCells_grown b9 (by simp; omega),List.drop_eq_getElem_cons (by simp; omega)]
     simp [show j < cs.length by omega]
    have ry1 : i + q < xs.length -> rCs h2 o g (i + q) 1 = some [.int .i32 (xs.getD (i + q) 0)] := fun hq => by rw [ry _ hq,b14 _ (by omega)]
    have ry2 : i + q < xs.length -> rCs h2 o g (i + (q - 1)) 1 = some [.int .i32 (xs.getD (i + q - 1) 0)] := fun hq => by rw [ry _ (by omega),b14 _ (by omega),show i + (q - 1) = i + q - 1 by omega]
    have ew : i + q < xs.length -> writeCells h2 o g k [.int .i32 (xs.getD (i + q) 0)] = some (h2.put o (grownObj ((cs.map (V.int .i32)).set k (.int .i32 (xs.getD (i + q) 0))) g [] 1)) := fun hq => writeCell_grown b9 (by simp; omega) rfl
    have hrl : (repl (xs.length - k) [V.int .i32 0]).length = xs.length - k := by simp [repl]
    have hro : (repl (xs.length - k) [V.int .i32 0]).all V.one = true := by
     rw [List.all_eq_true]
     intro x hx
     simp only [repl,List.mem_flatten,List.mem_replicate] at hx
     obtain ⟨l,⟨_,rfl⟩,hx⟩ := hx
     rw [List.mem_singleton.1 hx]
     rfl
    have hclr : writeCells h2 o g k (repl (xs.length - k) [V.int .i32 0]) = some (h2.put o (grownObj ((cs.map (V.int .i32)).take k ++ repl (xs.length - k) [V.int .i32 0]) g [] 1)) := writeTail_grown b9 (by rw [hrl]; simp; omega) hro
    have et2 : ((q : Int) - 1).toNat = q - 1 := by omega
    have kb : Kept (k = (cpt xs (i + q)).length /\ cs.take k = cpt xs (i + q) /\ ∀ j,i + q <= j + 1 -> cs.getD j 0 = xs.getD j 0) := ⟨b12,b13,b14⟩
    clear b12 b13 b14 ry
    repeat' ((first | refine Z0 rfl ?_ | refine Z1 rfl ?_ | refine Z2 ?_ | refine Z3 ?_ | refine Z4 ?_ | refine Z5 ?_ | refine Z6 ?_ | refine Z7 ?_ | refine Z8 ?_ | refine Z9 (fun hif => ?_) (fun hif => ?_) | refine Za (fun hif => ?_) (fun hif => ?_) | refine Zb (fun hif => ?_) (fun hif => ?_) | (refine Zc ?_ ?_; omega) | (refine Zd ?_ ?_; omega) | (refine Ze ?_ ?_; omega) | (refine x_slc_lo (by omega) (by omega) ?_) | (refine x_slc_hi (by omega) (by omega) ?_) | (refine x_clear (fun h0 => absurd h0 (by omega)) (fun _ => ⟨_,hclr,?_⟩))) <;>
     (try simp -implicitDefEqProofs (disch := first | assumption | omega) only [sx,sb,sd,se,xwS,xwO,xwI,oEv,xres,o1f,Nat.reduceAdd,Nat.reduceEqDiff,Nat.reduceSub, ↓reduceIte,reduceCtorEq,si,wrap_i64,Nat.zero_add,Int.toNat_natCast,et2,objS,genS,offS,lenS,rowS, *]))
    ·obtain ⟨c1,c2,c3⟩ := kb
     have hq : i + q < xs.length := by omega
     have hst : cpt xs (i + q + 1) = cpt xs (i + q) ++ [xs.getD (i + q) 0] := by
      rw [cpt,if_neg]
      rintro ⟨_,h⟩
      simp only [Bool.not_eq_true',decide_eq_false_iff_not] at hif
      exact hif h
     refine ⟨n2 - 1,by omega,q + 1,k + 1,cs.set k (xs.getD (i + q) 0),[],by omega,by omega,by simp,by simp,b7,fun o' ho' => by rw [Heap.get_put,if_neg ho']; exact b8 o' ho',by rw [Heap.get_put,if_pos rfl,List.map_set],by simpa using b10,by omega,?_,?_,fun j hj => ?_⟩
     ·rw [<- Nat.add_assoc,hst,List.length_append, <- c1]; rfl
     ·rw [<- Nat.add_assoc,hst,List.take_add_one,List.take_set,List.set_eq_of_length_le (by simp; omega),c2,List.getElem?_set_self (by omega)]
      rfl
     ·rw [<- c3 j (by omega),List.getD_eq_getElem?_getD,List.getElem?_set_ne (by omega),List.getD_eq_getElem?_getD]
    ·obtain ⟨c1,c2,c3⟩ := kb
     have hq : i + q < xs.length := by omega
     have hst : cpt xs (i + q + 1) = cpt xs (i + q) := by
      simp only [Bool.not_eq_false',decide_eq_true_eq] at hif
      rw [cpt,if_pos ⟨by omega,hif⟩]
     exact ⟨n2 - 1,by omega,q + 1,k,cs,r2,by omega,by omega,by simp,rfl,b8,rfl,b10,by omega,by rw [<- Nat.add_assoc,hst]; exact c1,by rw [<- Nat.add_assoc,hst]; exact c2,fun j hj => c3 j (by omega)⟩
    ·obtain ⟨c1,c2,c3⟩ := kb
     have hq : i + q = xs.length := by omega
     rw [hq] at c1 c2
     have hly : ((cpt xs xs.length).map (V.int .i32)).length = k := by simp [c1]
     have hkl : k <= cs.length := by omega
     refine ⟨.inr ⟨o,g,[],_,hb,?_,by rw [hly],by rw [Heap.get_put,if_pos rfl],?_,?_⟩,?_,fun o' ho' hs => ?_⟩
     ·show o < h2.next
      omega
     ·rw [hly,List.take_append_of_le_length (by simp; omega),List.take_take,Nat.min_self, <- List.map_take,c2]
     ·rw [hly]
      simp
      omega
     ·show h'.next <= h2.next
      omega
     ·have hne : o' ≠ o := by rintro rfl; exact hs hb
      rw [Heap.get_put,if_neg hne]
      exact b8 o' hne
   ·have hi : i < xs.length := by omega
    have hst : cpt xs (i + 1) = cpt xs i ++ [xs.getD i 0] := by
     rw [cpt,if_neg]
     rintro ⟨_,h⟩
     refine hif ?_
     simpa [hi,show i - 1 < xs.length by omega] using h
    refine ⟨n - 1,by omega,i + 1,by omega,by omega,by simp,?_⟩
    rw [hst,a4,List.take_add_one]
    simp [hi]
   ·have hi : i = xs.length := by omega
    rw [hi,List.take_length] at a4
    rw [a4]
    exact ⟨.inr ⟨o,g,r,_,hb,hlt,by rw [hlm],hg,List.take_of_length_le (Nat.le_refl _),Nat.le_refl _⟩,But.refl _ _⟩
open Go.Xr
theorem OwnP.len {b : Nat} {h : Heap} {v : V} {xs : List V} (hs : OwnP b h v xs) : lenS v = xs.length := by
 rcases hs with ⟨rfl,rfl | ⟨o,g,off,rfl⟩⟩ | ⟨o,g,r,cs,_,_,rfl,_⟩ <;> rfl
theorem OwnP.row {b : Nat} {h : Heap} {v : V} {xs : List V} (hs : OwnP b h v xs) : rowS v = true := by
 rcases hs with ⟨rfl,rfl | ⟨o,g,off,rfl⟩⟩ | ⟨o,g,r,cs,_,_,rfl,_⟩ <;> rfl
theorem OwnP.sl {b : Nat} {h : Heap} {v : V} {xs : List V} (hs : OwnP b h v xs) : Sl h v xs := by
 rcases hs with ⟨rfl,rfl | ⟨o,g,off,rfl⟩⟩ | ⟨o,g,r,cs,_,hlt,rfl,hg,ht,hle⟩
 ·exact .inl ⟨rfl,rfl⟩
 ·exact .inr ⟨_,_,_,_,rfl,fun q => by cases q⟩
 ·exact .inr ⟨o,g,0,_,rfl,fun _ => ⟨hlt,by rw [readCells_grown hg (by omega),List.drop_zero,ht]⟩⟩
theorem ext_but {a b c : Heap} (h1 : Ext a b) (h2 : But (fun o => a.next <= o) b c) : Ext a c := ⟨Nat.le_trans h1.next h2.next,fun o ho => (h2.get o (Nat.lt_of_lt_of_le ho h1.next) (by omega)).trans (h1.get o ho)⟩
def nrm (xs : List Int) : List Int := cpt (sortLits xs) (sortLits xs).length
def bothAt (ys : List Int) (i : Nat) : Bool := decide (0 < i /\ 0 < ys.getD i 0 /\ ys.getD i 0 = -ys.getD (i - 1) 0)
def bothN (ys : List Int) (n : Nat) : Bool := (List.range n).any (bothAt ys)
theorem bothN_succ (ys : List Int) (n : Nat) : bothN ys (n + 1) = (bothN ys n || bothAt ys n) := by
 unfold bothN
 rw [List.range_succ,List.any_append]
 simp
theorem wrap_neg {x y : Int} (hx : I32ok x) (hy : 0 < y) (hy2 : y <= 2147483647) : (y = IntKind.i32.wrap (-x)) ↔ y = -x := by
 by_cases h : x = -2147483648
 ·subst h
  have : IntKind.i32.wrap (-(-2147483648)) = -2147483648 := by decide
  rw [this]
  omega
 ·rw [wrap_i32 (by have := hx.1; have := hx.2; omega) (by have := hx.1; omega)]
theorem mem_cpt {xs : List Int} : ∀ {p : Nat} {x : Int},x ∈ cpt xs p -> p <= xs.length -> x ∈ xs
 | 0,x,h,_ => by cases h
 | p + 1,x,h,hp => by
  unfold cpt at h
  split at h
  ·exact mem_cpt h (by omega)
  ·rcases List.mem_append.1 h with h | h
   ·exact mem_cpt h (by omega)
   ·rw [List.mem_singleton.1 h,List.getD_eq_getElem?_getD,List.getElem?_eq_getElem (by omega)]
    exact List.getElem_mem _
theorem nrm_mem {xs : List Int} {x : Int} (h : x ∈ nrm xs) : x ∈ xs := (sortLits_perm xs).mem_iff.1 (mem_cpt h (Nat.le_refl _))
end Go.Proofs.YtmkbnbpblhoekaaGreat

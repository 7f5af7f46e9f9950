/- The functions of the program in X's code, printed by a program of ours; each is what the program's own is turned to. -/
import Derived.Test.YtdegagpgjejomaaGreatProg
import Derived.Test.YtdegagpgjejomaaGreatXc
import Derived.KernelRfl
namespace Go.Proofs.YtdegagpgjejomaaGreat
open Go.Xr
/-- cmp.isNaN[int] -/
def xf86 : XFunc := ⟨(.seq (.region false [⟨⟨.mv (.const (.bool false)), some 2, none⟩, []⟩])
  (.seq (.region false [⟨⟨.mv (.slot 0), some 3, none⟩, []⟩,
    ⟨⟨.mv (.slot 0), some 4, none⟩, []⟩,
    ⟨⟨.bin .neq 3 .num (.slot 3) (.slot 4), some 5, none⟩, []⟩,
    ⟨⟨.mv (.slot 5), some 2, none⟩, []⟩])
  .ret)),
  [.tmp 2]⟩
theorem xf86_ok : compFunc Tryz.prog Tryz.f86 = some xf86 := by kernel_rfl
/-- cmp.isNaN[threshing/api.Lit] -/
def xf87 : XFunc := ⟨(.seq (.region false [⟨⟨.mv (.const (.bool false)), some 2, none⟩, []⟩])
  (.seq (.region false [⟨⟨.mv (.slot 0), some 3, none⟩, []⟩,
    ⟨⟨.mv (.slot 0), some 4, none⟩, []⟩,
    ⟨⟨.bin .neq 24 .num (.slot 3) (.slot 4), some 5, none⟩, []⟩,
    ⟨⟨.mv (.slot 5), some 2, none⟩, []⟩])
  .ret)),
  [.tmp 2]⟩
theorem xf87_ok : compFunc Tryz.prog Tryz.f87 = some xf87 := by kernel_rfl
/-- container/heap.down -/
def xf88 : XFunc := ⟨(.seq (.region false [⟨⟨.mv (.const (.bool false)), some 6, none⟩, []⟩])
  (.seq (.region false [⟨⟨.mv (.slot 1), some 11, none⟩, []⟩,
    ⟨⟨.mv (.slot 11), some 7, none⟩, []⟩])
  (.seq (.block 0 (.loop (.block 1 (.seq (.region false [⟨⟨.mv (.slot 7), some 12, none⟩, []⟩,
     ⟨⟨.bin .mul 3 .num (.const (.int .i64 (.ofNat 2))) (.slot 12), some 13, none⟩, []⟩,
     ⟨⟨.bin .add 3 .num (.slot 13) (.const (.int .i64 (.ofNat 1))), some 14, none⟩, []⟩,
     ⟨⟨.mv (.slot 14), some 8, none⟩, []⟩])
   (.seq (.seq (.region false [⟨⟨.mv (.slot 8), some 15, none⟩, []⟩,
     ⟨⟨.mv (.slot 2), some 16, none⟩, []⟩,
     ⟨⟨.bin .geq 3 .num (.slot 15) (.slot 16), some 17, none⟩, []⟩,
     ⟨⟨.mv (.slot 17), some 18, none⟩, []⟩,
     ⟨⟨.mv (.slot 8), some 19, some (18, false)⟩, []⟩,
     ⟨⟨.bin .lss 3 .num (.slot 19) (.const (.int .i64 (.ofNat 0))), some 20, some (18, false)⟩, []⟩,
     ⟨⟨.pick (.slot 18) (.const (.bool true)) (.slot 20), some 21, none⟩, []⟩])
   (.cond (.slot 21)
    (.exit 0)
    .skip))
   (.seq (.region false [⟨⟨.mv (.slot 8), some 22, none⟩, []⟩,
     ⟨⟨.mv (.slot 22), some 9, none⟩, []⟩])
   (.seq (.seq (.region false [⟨⟨.mv (.slot 8), some 23, none⟩, []⟩,
     ⟨⟨.bin .add 3 .num (.slot 23) (.const (.int .i64 (.ofNat 1))), some 24, none⟩, []⟩,
     ⟨⟨.mv (.slot 24), some 10, none⟩, []⟩])
   (.seq (.region false [⟨⟨.mv (.slot 10), some 25, none⟩, []⟩,
     ⟨⟨.mv (.slot 2), some 26, none⟩, []⟩,
     ⟨⟨.bin .lss 3 .num (.slot 25) (.slot 26), some 27, none⟩, []⟩,
     ⟨⟨.mv (.slot 27), some 28, none⟩, []⟩,
     ⟨⟨.mv (.slot 0), some 29, some (28, true)⟩, []⟩,
     ⟨⟨.mv (.slot 10), some 30, some (28, true)⟩, []⟩,
     ⟨⟨.mv (.slot 8), some 31, some (28, true)⟩, []⟩,
     ⟨⟨.invoke (.slot 29) [(115, 124, none), (119, 124, some (false, 1))] [(.slot 30), (.slot 31)], some 32, some (28, true)⟩, []⟩,
     ⟨⟨.pick (.slot 28) (.slot 32) (.const (.bool false)), some 33, none⟩, []⟩])
   (.cond (.slot 33)
    (.region false [⟨⟨.mv (.slot 10), some 34, none⟩, []⟩,
      ⟨⟨.mv (.slot 34), some 9, none⟩, []⟩])
    .skip)))
   (.seq (.seq (.region false [⟨⟨.mv (.slot 0), some 35, none⟩, []⟩,
     ⟨⟨.mv (.slot 9), some 36, none⟩, []⟩,
     ⟨⟨.mv (.slot 7), some 37, none⟩, []⟩,
     ⟨⟨.invoke (.slot 35) [(115, 124, none), (119, 124, some (false, 1))] [(.slot 36), (.slot 37)], some 38, none⟩, []⟩,
     ⟨⟨.un .not (.slot 38), some 39, none⟩, []⟩])
   (.cond (.slot 39)
    (.exit 0)
    .skip))
   (.seq (.region false [⟨⟨.mv (.slot 0), some 40, none⟩, []⟩,
     ⟨⟨.mv (.slot 7), some 41, none⟩, []⟩,
     ⟨⟨.mv (.slot 9), some 42, none⟩, []⟩,
     ⟨⟨.invoke (.slot 40) [(115, 125, none), (119, 125, some (false, 1))] [(.slot 41), (.slot 42)], some 43, none⟩, []⟩])
   (.region false [⟨⟨.mv (.slot 9), some 44, none⟩, []⟩,
     ⟨⟨.mv (.slot 44), some 7, none⟩, []⟩]))))))))))
  (.seq (.region false [⟨⟨.mv (.slot 7), some 45, none⟩, []⟩,
    ⟨⟨.mv (.slot 1), some 46, none⟩, []⟩,
    ⟨⟨.bin .gtr 3 .num (.slot 45) (.slot 46), some 47, none⟩, []⟩,
    ⟨⟨.mv (.slot 47), some 6, none⟩, []⟩])
  .ret)))),
  [.tmp 6]⟩
theorem xf88_ok : compFunc Tryz.prog Tryz.f88 = some xf88 := by kernel_rfl
/-- container/heap.Push -/
def xf89 : XFunc := ⟨(.seq (.region false [⟨⟨.mv (.slot 0), some 4, none⟩, []⟩,
    ⟨⟨.mv (.slot 1), some 5, none⟩, []⟩,
    ⟨⟨.invoke (.slot 4) [(119, 127, none)] [(.slot 5)], some 6, none⟩, []⟩])
  (.region false [⟨⟨.mv (.slot 0), some 7, none⟩, []⟩,
    ⟨⟨.mv (.slot 0), some 8, none⟩, []⟩,
    ⟨⟨.invoke (.slot 8) [(17, 119, none), (115, 90, none), (119, 90, some (false, 1))] [], some 9, none⟩, []⟩,
    ⟨⟨.bin .sub 3 .num (.slot 9) (.const (.int .i64 (.ofNat 1))), some 10, none⟩, []⟩,
    ⟨⟨.call (.const (.func 103 [] [])) [(.slot 7), (.slot 10)], some 11, none⟩, []⟩])),
  []⟩
theorem xf89_ok : compFunc Tryz.prog Tryz.f89 = some xf89 := by kernel_rfl
/-- (threshing/unit.ids).Len -/
def xf90 : XFunc := ⟨(.seq (.region false [⟨⟨.mv (.const (.int .i64 (.ofNat 0))), some 2, none⟩, []⟩])
  (.seq (.region false [⟨⟨.mv (.slot 0), some 3, none⟩, []⟩,
    ⟨⟨.len .slice (.slot 3), some 4, none⟩, []⟩,
    ⟨⟨.mv (.slot 4), some 2, none⟩, []⟩])
  .ret)),
  [.tmp 2]⟩
theorem xf90_ok : compFunc Tryz.prog Tryz.f90 = some xf90 := by kernel_rfl
/-- container/heap.Pop -/
def xf91 : XFunc := ⟨(.seq (.region false [⟨⟨.mv (.const .nili), some 2, none⟩, []⟩])
  (.seq (.region false [⟨⟨.mv (.slot 0), some 4, none⟩, []⟩,
    ⟨⟨.invoke (.slot 4) [(17, 119, none), (115, 90, none), (119, 90, some (false, 1))] [], some 5, none⟩, []⟩,
    ⟨⟨.bin .sub 3 .num (.slot 5) (.const (.int .i64 (.ofNat 1))), some 6, none⟩, []⟩,
    ⟨⟨.mv (.slot 6), some 3, none⟩, []⟩])
  (.seq (.region false [⟨⟨.mv (.slot 0), some 7, none⟩, []⟩,
    ⟨⟨.mv (.slot 3), some 8, none⟩, []⟩,
    ⟨⟨.invoke (.slot 7) [(115, 125, none), (119, 125, some (false, 1))] [(.const (.int .i64 (.ofNat 0))), (.slot 8)], some 9, none⟩, []⟩])
  (.seq (.region false [⟨⟨.mv (.slot 0), some 10, none⟩, []⟩,
    ⟨⟨.mv (.slot 3), some 11, none⟩, []⟩,
    ⟨⟨.call (.const (.func 88 [] [])) [(.slot 10), (.const (.int .i64 (.ofNat 0))), (.slot 11)], some 12, none⟩, []⟩])
  (.seq (.region false [⟨⟨.mv (.slot 0), some 13, none⟩, []⟩,
    ⟨⟨.invoke (.slot 13) [(119, 126, none)] [], some 14, none⟩, []⟩,
    ⟨⟨.mv (.slot 14), some 2, none⟩, []⟩])
  .ret))))),
  [.tmp 2]⟩
theorem xf91_ok : compFunc Tryz.prog Tryz.f91 = some xf91 := by kernel_rfl
/-- (*threshing/unit.state).next$1 -/
def xf92 : XFunc := ⟨(.seq (.region false [⟨⟨.mv (.const (.bool false)), some 3, none⟩, []⟩])
  (.seq (.region false [⟨⟨.load false 1 (.slot 1), some 4, none⟩, []⟩,
    ⟨⟨.nilCheck (.slot 4), some 5, none⟩, []⟩,
    ⟨⟨.faddr 3 (.slot 5), some 6, none⟩, []⟩,
    ⟨⟨.load false 1 (.slot 6), some 7, none⟩, []⟩,
    ⟨⟨.mv (.slot 0), some 8, none⟩, []⟩,
    ⟨⟨.lookup .i32 (.bool false) (.slot 7) (.slot 8) false, some 9, none⟩, []⟩,
    ⟨⟨.mv (.slot 9), some 3, none⟩, []⟩])
  .ret)),
  [.tmp 3]⟩
theorem xf92_ok : compFunc Tryz.prog Tryz.f92 = some xf92 := by kernel_rfl
/-- (*threshing/unit.state).next$2 -/
def xf93 : XFunc := ⟨(.seq (.region false [⟨⟨.mv (.const (.bool false)), some 3, none⟩, []⟩])
  (.seq (.region false [⟨⟨.load false 1 (.slot 1), some 4, none⟩, []⟩,
    ⟨⟨.nilCheck (.slot 4), some 5, none⟩, []⟩,
    ⟨⟨.faddr 3 (.slot 5), some 6, none⟩, []⟩,
    ⟨⟨.load false 1 (.slot 6), some 7, none⟩, []⟩,
    ⟨⟨.mv (.slot 0), some 8, none⟩, []⟩,
    ⟨⟨.un .neg (.slot 8), some 9, none⟩, []⟩,
    ⟨⟨.lookup .i32 (.bool false) (.slot 7) (.slot 9) false, some 10, none⟩, []⟩,
    ⟨⟨.un .not (.slot 10), some 11, none⟩, []⟩,
    ⟨⟨.mv (.slot 11), some 3, none⟩, []⟩])
  .ret)),
  [.tmp 3]⟩
theorem xf93_ok : compFunc Tryz.prog Tryz.f93 = some xf93 := by kernel_rfl
/-- slices.siftDownOrdered[int64] -/
def xf94 : XFunc := ⟨(.seq (.region false [⟨⟨.mv (.slot 1), some 10, none⟩, []⟩,
    ⟨⟨.mv (.slot 10), some 8, none⟩, []⟩])
  (.block 0 (.loop (.block 1 (.seq (.region false [⟨⟨.mv (.slot 8), some 11, none⟩, []⟩,
     ⟨⟨.bin .mul 3 .num (.const (.int .i64 (.ofNat 2))) (.slot 11), some 12, none⟩, []⟩,
     ⟨⟨.bin .add 3 .num (.slot 12) (.const (.int .i64 (.ofNat 1))), some 13, none⟩, []⟩,
     ⟨⟨.mv (.slot 13), some 9, none⟩, []⟩])
   (.seq (.seq (.region false [⟨⟨.mv (.slot 9), some 14, none⟩, []⟩,
     ⟨⟨.mv (.slot 2), some 15, none⟩, []⟩,
     ⟨⟨.bin .geq 3 .num (.slot 14) (.slot 15), some 16, none⟩, []⟩])
   (.cond (.slot 16)
    (.exit 0)
    .skip))
   (.seq (.seq (.region true [⟨⟨.mv (.slot 9), some 17, none⟩, []⟩,
     ⟨⟨.bin .add 3 .num (.slot 17) (.const (.int .i64 (.ofNat 1))), some 18, none⟩, []⟩,
     ⟨⟨.mv (.slot 2), some 19, none⟩, []⟩,
     ⟨⟨.bin .lss 3 .num (.slot 18) (.slot 19), some 20, none⟩, []⟩,
     ⟨⟨.mv (.slot 20), some 21, none⟩, []⟩,
     ⟨⟨.mv (.slot 0), some 22, some (21, true)⟩, []⟩,
     ⟨⟨.mv (.slot 3), some 23, some (21, true)⟩, []⟩,
     ⟨⟨.mv (.slot 9), some 24, some (21, true)⟩, []⟩,
     ⟨⟨.bin .add 3 .num (.slot 23) (.slot 24), some 25, some (21, true)⟩, []⟩,
     ⟨⟨.iaddr 1 (.slot 22) (.slot 25), some 26, some (21, true)⟩, []⟩,
     ⟨⟨.load false 1 (.slot 26), some 27, some (21, true)⟩, []⟩,
     ⟨⟨.mv (.slot 0), some 28, some (21, true)⟩, []⟩,
     ⟨⟨.mv (.slot 3), some 29, some (21, true)⟩, []⟩,
     ⟨⟨.mv (.slot 9), some 30, some (21, true)⟩, []⟩,
     ⟨⟨.bin .add 3 .num (.slot 29) (.slot 30), some 31, some (21, true)⟩, []⟩,
     ⟨⟨.bin .add 3 .num (.slot 31) (.const (.int .i64 (.ofNat 1))), some 32, some (21, true)⟩, []⟩,
     ⟨⟨.iaddr 1 (.slot 28) (.slot 32), some 33, some (21, true)⟩, []⟩,
     ⟨⟨.load false 1 (.slot 33), some 34, some (21, true)⟩, []⟩,
     ⟨⟨.call (.const (.func 73 [] [])) [(.slot 27), (.slot 34)], some 35, some (21, true)⟩, []⟩,
     ⟨⟨.pick (.slot 21) (.slot 35) (.const (.bool false)), some 36, none⟩, []⟩])
   (.cond (.slot 36)
    (.region false [⟨⟨.mv (.slot 9), some 37, none⟩, []⟩,
      ⟨⟨.bin .add 3 .num (.slot 37) (.const (.int .i64 (.ofNat 1))), some 38, none⟩, []⟩,
      ⟨⟨.mv (.slot 38), some 9, none⟩, []⟩])
    .skip))
   (.seq (.seq (.region true [⟨⟨.mv (.slot 0), some 39, none⟩, []⟩,
     ⟨⟨.mv (.slot 3), some 40, none⟩, []⟩,
     ⟨⟨.mv (.slot 8), some 41, none⟩, []⟩,
     ⟨⟨.bin .add 3 .num (.slot 40) (.slot 41), some 42, none⟩, []⟩,
     ⟨⟨.iaddr 1 (.slot 39) (.slot 42), some 43, none⟩, []⟩,
     ⟨⟨.load false 1 (.slot 43), some 44, none⟩, []⟩,
     ⟨⟨.mv (.slot 0), some 45, none⟩, []⟩,
     ⟨⟨.mv (.slot 3), some 46, none⟩, []⟩,
     ⟨⟨.mv (.slot 9), some 47, none⟩, []⟩,
     ⟨⟨.bin .add 3 .num (.slot 46) (.slot 47), some 48, none⟩, []⟩,
     ⟨⟨.iaddr 1 (.slot 45) (.slot 48), some 49, none⟩, []⟩,
     ⟨⟨.load false 1 (.slot 49), some 50, none⟩, []⟩,
     ⟨⟨.call (.const (.func 73 [] [])) [(.slot 44), (.slot 50)], some 51, none⟩, []⟩,
     ⟨⟨.un .not (.slot 51), some 52, none⟩, []⟩])
   (.cond (.slot 52)
    .ret
    .skip))
   (.seq (.region true [⟨⟨.mv (.slot 0), some 53, none⟩, []⟩,
     ⟨⟨.mv (.slot 3), some 54, none⟩, []⟩,
     ⟨⟨.mv (.slot 8), some 55, none⟩, []⟩,
     ⟨⟨.bin .add 3 .num (.slot 54) (.slot 55), some 56, none⟩, []⟩,
     ⟨⟨.mv (.slot 0), some 57, none⟩, []⟩,
     ⟨⟨.mv (.slot 3), some 58, none⟩, []⟩,
     ⟨⟨.mv (.slot 9), some 59, none⟩, []⟩,
     ⟨⟨.bin .add 3 .num (.slot 58) (.slot 59), some 60, none⟩, []⟩,
     ⟨⟨.mv (.slot 0), some 61, none⟩, []⟩,
     ⟨⟨.mv (.slot 3), some 62, none⟩, []⟩,
     ⟨⟨.mv (.slot 9), some 63, none⟩, []⟩,
     ⟨⟨.bin .add 3 .num (.slot 62) (.slot 63), some 64, none⟩, []⟩,
     ⟨⟨.iaddr 1 (.slot 61) (.slot 64), some 65, none⟩, []⟩,
     ⟨⟨.load false 1 (.slot 65), some 66, none⟩, []⟩,
     ⟨⟨.mv (.slot 0), some 67, none⟩, []⟩,
     ⟨⟨.mv (.slot 3), some 68, none⟩, []⟩,
     ⟨⟨.mv (.slot 8), some 69, none⟩, []⟩,
     ⟨⟨.bin .add 3 .num (.slot 68) (.slot 69), some 70, none⟩, []⟩,
     ⟨⟨.iaddr 1 (.slot 67) (.slot 70), some 71, none⟩, []⟩,
     ⟨⟨.load false 1 (.slot 71), some 72, none⟩, []⟩,
     ⟨⟨.iaddr 1 (.slot 53) (.slot 56), some 73, none⟩, []⟩,
     ⟨⟨.store 1 (.slot 73) (.slot 66), none, none⟩, []⟩,
     ⟨⟨.iaddr 1 (.slot 57) (.slot 60), some 74, none⟩, []⟩,
     ⟨⟨.store 1 (.slot 74) (.slot 72), none, none⟩, []⟩])
   (.region false [⟨⟨.mv (.slot 9), some 75, none⟩, []⟩,
     ⟨⟨.mv (.slot 75), some 8, none⟩, []⟩])))))))))),
  []⟩
theorem xf94_ok : compFunc Tryz.prog Tryz.f94 = some xf94 := by kernel_rfl
/-- slices.nextPowerOfTwo -/
def xf95 : XFunc := ⟨(.seq (.region false [⟨⟨.mv (.const (.int .u64 (.ofNat 0))), some 2, none⟩, []⟩])
  (.seq (.region false [⟨⟨.mv (.slot 0), some 3, none⟩, []⟩,
    ⟨⟨.conv .u64 (.slot 3), some 4, none⟩, []⟩,
    ⟨⟨.call (.const (.func 55 [] [])) [(.slot 4)], some 5, none⟩, []⟩,
    ⟨⟨.bin .shl 107 .num (.const (.int .u64 (.ofNat 1))) (.slot 5), some 6, none⟩, []⟩,
    ⟨⟨.mv (.slot 6), some 2, none⟩, []⟩])
  .ret)),
  [.tmp 2]⟩
theorem xf95_ok : compFunc Tryz.prog Tryz.f95 = some xf95 := by kernel_rfl
/-- (*slices.xorshift).Next -/
def xf96 : XFunc := ⟨(.seq (.region false [⟨⟨.mv (.const (.int .u64 (.ofNat 0))), some 2, none⟩, []⟩])
  (.seq (.region true [⟨⟨.mv (.slot 0), some 3, none⟩, []⟩,
    ⟨⟨.nilCheck (.slot 3), some 4, none⟩, []⟩,
    ⟨⟨.load false 1 (.slot 4), some 5, none⟩, []⟩,
    ⟨⟨.mv (.slot 0), some 6, none⟩, []⟩,
    ⟨⟨.nilCheck (.slot 6), some 7, none⟩, []⟩,
    ⟨⟨.load false 1 (.slot 7), some 8, none⟩, []⟩,
    ⟨⟨.bin .shl 149 .num (.slot 8) (.const (.int .u64 (.ofNat 13))), some 9, none⟩, []⟩,
    ⟨⟨.bin .xor 149 .num (.slot 5) (.slot 9), some 10, none⟩, []⟩,
    ⟨⟨.nilCheck (.slot 3), some 11, none⟩, []⟩,
    ⟨⟨.store 1 (.slot 11) (.slot 10), none, none⟩, []⟩])
  (.seq (.region true [⟨⟨.mv (.slot 0), some 12, none⟩, []⟩,
    ⟨⟨.nilCheck (.slot 12), some 13, none⟩, []⟩,
    ⟨⟨.load false 1 (.slot 13), some 14, none⟩, []⟩,
    ⟨⟨.mv (.slot 0), some 15, none⟩, []⟩,
    ⟨⟨.nilCheck (.slot 15), some 16, none⟩, []⟩,
    ⟨⟨.load false 1 (.slot 16), some 17, none⟩, []⟩,
    ⟨⟨.bin .shr 149 .num (.slot 17) (.const (.int .u64 (.ofNat 7))), some 18, none⟩, []⟩,
    ⟨⟨.bin .xor 149 .num (.slot 14) (.slot 18), some 19, none⟩, []⟩,
    ⟨⟨.nilCheck (.slot 12), some 20, none⟩, []⟩,
    ⟨⟨.store 1 (.slot 20) (.slot 19), none, none⟩, []⟩])
  (.seq (.region true [⟨⟨.mv (.slot 0), some 21, none⟩, []⟩,
    ⟨⟨.nilCheck (.slot 21), some 22, none⟩, []⟩,
    ⟨⟨.load false 1 (.slot 22), some 23, none⟩, []⟩,
    ⟨⟨.mv (.slot 0), some 24, none⟩, []⟩,
    ⟨⟨.nilCheck (.slot 24), some 25, none⟩, []⟩,
    ⟨⟨.load false 1 (.slot 25), some 26, none⟩, []⟩,
    ⟨⟨.bin .shl 149 .num (.slot 26) (.const (.int .u64 (.ofNat 17))), some 27, none⟩, []⟩,
    ⟨⟨.bin .xor 149 .num (.slot 23) (.slot 27), some 28, none⟩, []⟩,
    ⟨⟨.nilCheck (.slot 21), some 29, none⟩, []⟩,
    ⟨⟨.store 1 (.slot 29) (.slot 28), none, none⟩, []⟩])
  (.seq (.region false [⟨⟨.mv (.slot 0), some 30, none⟩, []⟩,
    ⟨⟨.nilCheck (.slot 30), some 31, none⟩, []⟩,
    ⟨⟨.load false 1 (.slot 31), some 32, none⟩, []⟩,
    ⟨⟨.mv (.slot 32), some 2, none⟩, []⟩])
  .ret))))),
  [.tmp 2]⟩
theorem xf96_ok : compFunc Tryz.prog Tryz.f96 = some xf96 := by kernel_rfl
/-- slices.medianAdjacentOrdered[int64] -/
def xf97 : XFunc := ⟨(.seq (.region false [⟨⟨.mv (.const (.int .i64 (.ofNat 0))), some 6, none⟩, []⟩])
  (.seq (.region false [⟨⟨.mv (.slot 0), some 7, none⟩, []⟩,
    ⟨⟨.mv (.slot 1), some 8, none⟩, []⟩,
    ⟨⟨.bin .sub 3 .num (.slot 8) (.const (.int .i64 (.ofNat 1))), some 9, none⟩, []⟩,
    ⟨⟨.mv (.slot 1), some 10, none⟩, []⟩,
    ⟨⟨.mv (.slot 1), some 11, none⟩, []⟩,
    ⟨⟨.bin .add 3 .num (.slot 11) (.const (.int .i64 (.ofNat 1))), some 12, none⟩, []⟩,
    ⟨⟨.mv (.slot 2), some 13, none⟩, []⟩,
    ⟨⟨.call (.const (.func 98 [] [])) [(.slot 7), (.slot 9), (.slot 10), (.slot 12), (.slot 13)], some 14, none⟩, []⟩,
    ⟨⟨.mv (.slot 14), some 6, none⟩, []⟩])
  .ret)),
  [.tmp 6]⟩
theorem xf97_ok : compFunc Tryz.prog Tryz.f97 = some xf97 := by kernel_rfl
/-- slices.medianOrdered[int64] -/
def xf98 : XFunc := ⟨(.seq (.region false [⟨⟨.mv (.const (.int .i64 (.ofNat 0))), some 10, none⟩, []⟩])
  (.seq (.region false [⟨⟨.mv (.slot 0), some 12, none⟩, []⟩,
    ⟨⟨.mv (.slot 1), some 13, none⟩, []⟩,
    ⟨⟨.mv (.slot 2), some 14, none⟩, []⟩,
    ⟨⟨.mv (.slot 4), some 15, none⟩, []⟩,
    ⟨⟨.call (.const (.func 104 [] [])) [(.slot 12), (.slot 13), (.slot 14), (.slot 15)], some 16, none⟩, []⟩,
    ⟨⟨.mv (.slot 16), some 11, none⟩, []⟩,
    ⟨⟨.extract (.slot 11) 0, some 17, none⟩, []⟩,
    ⟨⟨.extract (.slot 11) 1, some 18, none⟩, []⟩,
    ⟨⟨.mv (.slot 17), some 1, none⟩, []⟩,
    ⟨⟨.mv (.slot 18), some 2, none⟩, []⟩])
  (.seq (.region false [⟨⟨.mv (.slot 0), some 20, none⟩, []⟩,
    ⟨⟨.mv (.slot 2), some 21, none⟩, []⟩,
    ⟨⟨.mv (.slot 3), some 22, none⟩, []⟩,
    ⟨⟨.mv (.slot 4), some 23, none⟩, []⟩,
    ⟨⟨.call (.const (.func 104 [] [])) [(.slot 20), (.slot 21), (.slot 22), (.slot 23)], some 24, none⟩, []⟩,
    ⟨⟨.mv (.slot 24), some 19, none⟩, []⟩,
    ⟨⟨.extract (.slot 19) 0, some 25, none⟩, []⟩,
    ⟨⟨.extract (.slot 19) 1, some 26, none⟩, []⟩,
    ⟨⟨.mv (.slot 25), some 2, none⟩, []⟩,
    ⟨⟨.mv (.slot 26), some 3, none⟩, []⟩])
  (.seq (.region false [⟨⟨.mv (.slot 0), some 28, none⟩, []⟩,
    ⟨⟨.mv (.slot 1), some 29, none⟩, []⟩,
    ⟨⟨.mv (.slot 2), some 30, none⟩, []⟩,
    ⟨⟨.mv (.slot 4), some 31, none⟩, []⟩,
    ⟨⟨.call (.const (.func 104 [] [])) [(.slot 28), (.slot 29), (.slot 30), (.slot 31)], some 32, none⟩, []⟩,
    ⟨⟨.mv (.slot 32), some 27, none⟩, []⟩,
    ⟨⟨.extract (.slot 27) 0, some 33, none⟩, []⟩,
    ⟨⟨.extract (.slot 27) 1, some 34, none⟩, []⟩,
    ⟨⟨.mv (.slot 33), some 1, none⟩, []⟩,
    ⟨⟨.mv (.slot 34), some 2, none⟩, []⟩])
  (.seq (.region false [⟨⟨.mv (.slot 2), some 35, none⟩, []⟩,
    ⟨⟨.mv (.slot 35), some 10, none⟩, []⟩])
  .ret))))),
  [.tmp 10]⟩
theorem xf98_ok : compFunc Tryz.prog Tryz.f98 = some xf98 := by kernel_rfl
/-- cmp.isNaN[int64] -/
def xf99 : XFunc := ⟨(.seq (.region false [⟨⟨.mv (.const (.bool false)), some 2, none⟩, []⟩])
  (.seq (.region false [⟨⟨.mv (.slot 0), some 3, none⟩, []⟩,
    ⟨⟨.mv (.slot 0), some 4, none⟩, []⟩,
    ⟨⟨.bin .neq 2 .num (.slot 3) (.slot 4), some 5, none⟩, []⟩,
    ⟨⟨.mv (.slot 5), some 2, none⟩, []⟩])
  .ret)),
  [.tmp 2]⟩
theorem xf99_ok : compFunc Tryz.prog Tryz.f99 = some xf99 := by kernel_rfl
/-- slices.siftDownCmpFunc[threshing/api.Lit] -/
def xf100 : XFunc := ⟨(.seq (.region false [⟨⟨.mv (.slot 1), some 12, none⟩, []⟩,
    ⟨⟨.mv (.slot 12), some 10, none⟩, []⟩])
  (.block 0 (.loop (.block 1 (.seq (.region false [⟨⟨.mv (.slot 10), some 13, none⟩, []⟩,
     ⟨⟨.bin .mul 3 .num (.const (.int .i64 (.ofNat 2))) (.slot 13), some 14, none⟩, []⟩,
     ⟨⟨.bin .add 3 .num (.slot 14) (.const (.int .i64 (.ofNat 1))), some 15, none⟩, []⟩,
     ⟨⟨.mv (.slot 15), some 11, none⟩, []⟩])
   (.seq (.seq (.region false [⟨⟨.mv (.slot 11), some 16, none⟩, []⟩,
     ⟨⟨.mv (.slot 2), some 17, none⟩, []⟩,
     ⟨⟨.bin .geq 3 .num (.slot 16) (.slot 17), some 18, none⟩, []⟩])
   (.cond (.slot 18)
    (.exit 0)
    .skip))
   (.seq (.seq (.region true [⟨⟨.mv (.slot 11), some 19, none⟩, []⟩,
     ⟨⟨.bin .add 3 .num (.slot 19) (.const (.int .i64 (.ofNat 1))), some 20, none⟩, []⟩,
     ⟨⟨.mv (.slot 2), some 21, none⟩, []⟩,
     ⟨⟨.bin .lss 3 .num (.slot 20) (.slot 21), some 22, none⟩, []⟩,
     ⟨⟨.mv (.slot 22), some 23, none⟩, []⟩,
     ⟨⟨.mv (.slot 4), some 24, some (23, true)⟩, []⟩,
     ⟨⟨.mv (.slot 0), some 25, some (23, true)⟩, []⟩,
     ⟨⟨.mv (.slot 3), some 26, some (23, true)⟩, []⟩,
     ⟨⟨.mv (.slot 11), some 27, some (23, true)⟩, []⟩,
     ⟨⟨.bin .add 3 .num (.slot 26) (.slot 27), some 28, some (23, true)⟩, []⟩,
     ⟨⟨.iaddr 1 (.slot 25) (.slot 28), some 29, some (23, true)⟩, []⟩,
     ⟨⟨.load false 1 (.slot 29), some 30, some (23, true)⟩, []⟩,
     ⟨⟨.mv (.slot 0), some 31, some (23, true)⟩, []⟩,
     ⟨⟨.mv (.slot 3), some 32, some (23, true)⟩, []⟩,
     ⟨⟨.mv (.slot 11), some 33, some (23, true)⟩, []⟩,
     ⟨⟨.bin .add 3 .num (.slot 32) (.slot 33), some 34, some (23, true)⟩, []⟩,
     ⟨⟨.bin .add 3 .num (.slot 34) (.const (.int .i64 (.ofNat 1))), some 35, some (23, true)⟩, []⟩,
     ⟨⟨.iaddr 1 (.slot 31) (.slot 35), some 36, some (23, true)⟩, []⟩,
     ⟨⟨.load false 1 (.slot 36), some 37, some (23, true)⟩, []⟩,
     ⟨⟨.call (.slot 24) [(.slot 30), (.slot 37)], some 38, some (23, true)⟩, []⟩,
     ⟨⟨.bin .lss 3 .num (.slot 38) (.const (.int .i64 (.ofNat 0))), some 39, some (23, true)⟩, []⟩,
     ⟨⟨.pick (.slot 23) (.slot 39) (.const (.bool false)), some 40, none⟩, []⟩])
   (.cond (.slot 40)
    (.region false [⟨⟨.mv (.slot 11), some 41, none⟩, []⟩,
      ⟨⟨.bin .add 3 .num (.slot 41) (.const (.int .i64 (.ofNat 1))), some 42, none⟩, []⟩,
      ⟨⟨.mv (.slot 42), some 11, none⟩, []⟩])
    .skip))
   (.seq (.seq (.region true [⟨⟨.mv (.slot 4), some 43, none⟩, []⟩,
     ⟨⟨.mv (.slot 0), some 44, none⟩, []⟩,
     ⟨⟨.mv (.slot 3), some 45, none⟩, []⟩,
     ⟨⟨.mv (.slot 10), some 46, none⟩, []⟩,
     ⟨⟨.bin .add 3 .num (.slot 45) (.slot 46), some 47, none⟩, []⟩,
     ⟨⟨.iaddr 1 (.slot 44) (.slot 47), some 48, none⟩, []⟩,
     ⟨⟨.load false 1 (.slot 48), some 49, none⟩, []⟩,
     ⟨⟨.mv (.slot 0), some 50, none⟩, []⟩,
     ⟨⟨.mv (.slot 3), some 51, none⟩, []⟩,
     ⟨⟨.mv (.slot 11), some 52, none⟩, []⟩,
     ⟨⟨.bin .add 3 .num (.slot 51) (.slot 52), some 53, none⟩, []⟩,
     ⟨⟨.iaddr 1 (.slot 50) (.slot 53), some 54, none⟩, []⟩,
     ⟨⟨.load false 1 (.slot 54), some 55, none⟩, []⟩,
     ⟨⟨.call (.slot 43) [(.slot 49), (.slot 55)], some 56, none⟩, []⟩,
     ⟨⟨.bin .lss 3 .num (.slot 56) (.const (.int .i64 (.ofNat 0))), some 57, none⟩, []⟩,
     ⟨⟨.un .not (.slot 57), some 58, none⟩, []⟩])
   (.cond (.slot 58)
    .ret
    .skip))
   (.seq (.region true [⟨⟨.mv (.slot 0), some 59, none⟩, []⟩,
     ⟨⟨.mv (.slot 3), some 60, none⟩, []⟩,
     ⟨⟨.mv (.slot 10), some 61, none⟩, []⟩,
     ⟨⟨.bin .add 3 .num (.slot 60) (.slot 61), some 62, none⟩, []⟩,
     ⟨⟨.mv (.slot 0), some 63, none⟩, []⟩,
     ⟨⟨.mv (.slot 3), some 64, none⟩, []⟩,
     ⟨⟨.mv (.slot 11), some 65, none⟩, []⟩,
     ⟨⟨.bin .add 3 .num (.slot 64) (.slot 65), some 66, none⟩, []⟩,
     ⟨⟨.mv (.slot 0), some 67, none⟩, []⟩,
     ⟨⟨.mv (.slot 3), some 68, none⟩, []⟩,
     ⟨⟨.mv (.slot 11), some 69, none⟩, []⟩,
     ⟨⟨.bin .add 3 .num (.slot 68) (.slot 69), some 70, none⟩, []⟩,
     ⟨⟨.iaddr 1 (.slot 67) (.slot 70), some 71, none⟩, []⟩,
     ⟨⟨.load false 1 (.slot 71), some 72, none⟩, []⟩,
     ⟨⟨.mv (.slot 0), some 73, none⟩, []⟩,
     ⟨⟨.mv (.slot 3), some 74, none⟩, []⟩,
     ⟨⟨.mv (.slot 10), some 75, none⟩, []⟩,
     ⟨⟨.bin .add 3 .num (.slot 74) (.slot 75), some 76, none⟩, []⟩,
     ⟨⟨.iaddr 1 (.slot 73) (.slot 76), some 77, none⟩, []⟩,
     ⟨⟨.load false 1 (.slot 77), some 78, none⟩, []⟩,
     ⟨⟨.iaddr 1 (.slot 59) (.slot 62), some 79, none⟩, []⟩,
     ⟨⟨.store 1 (.slot 79) (.slot 72), none, none⟩, []⟩,
     ⟨⟨.iaddr 1 (.slot 63) (.slot 66), some 80, none⟩, []⟩,
     ⟨⟨.store 1 (.slot 80) (.slot 78), none, none⟩, []⟩])
   (.region false [⟨⟨.mv (.slot 11), some 81, none⟩, []⟩,
     ⟨⟨.mv (.slot 81), some 10, none⟩, []⟩])))))))))),
  []⟩
theorem xf100_ok : compFunc Tryz.prog Tryz.f100 = some xf100 := by kernel_rfl
/-- slices.medianAdjacentCmpFunc[threshing/api.Lit] -/
def xf101 : XFunc := ⟨(.seq (.region false [⟨⟨.mv (.const (.int .i64 (.ofNat 0))), some 8, none⟩, []⟩])
  (.seq (.region false [⟨⟨.mv (.slot 0), some 9, none⟩, []⟩,
    ⟨⟨.mv (.slot 1), some 10, none⟩, []⟩,
    ⟨⟨.bin .sub 3 .num (.slot 10) (.const (.int .i64 (.ofNat 1))), some 11, none⟩, []⟩,
    ⟨⟨.mv (.slot 1), some 12, none⟩, []⟩,
    ⟨⟨.mv (.slot 1), some 13, none⟩, []⟩,
    ⟨⟨.bin .add 3 .num (.slot 13) (.const (.int .i64 (.ofNat 1))), some 14, none⟩, []⟩,
    ⟨⟨.mv (.slot 2), some 15, none⟩, []⟩,
    ⟨⟨.mv (.slot 3), some 16, none⟩, []⟩,
    ⟨⟨.call (.const (.func 102 [] [])) [(.slot 9), (.slot 11), (.slot 12), (.slot 14), (.slot 15), (.slot 16)], some 17, none⟩, []⟩,
    ⟨⟨.mv (.slot 17), some 8, none⟩, []⟩])
  .ret)),
  [.tmp 8]⟩
theorem xf101_ok : compFunc Tryz.prog Tryz.f101 = some xf101 := by kernel_rfl
/-- slices.medianCmpFunc[threshing/api.Lit] -/
def xf102 : XFunc := ⟨(.seq (.region false [⟨⟨.mv (.const (.int .i64 (.ofNat 0))), some 12, none⟩, []⟩])
  (.seq (.region false [⟨⟨.mv (.slot 0), some 14, none⟩, []⟩,
    ⟨⟨.mv (.slot 1), some 15, none⟩, []⟩,
    ⟨⟨.mv (.slot 2), some 16, none⟩, []⟩,
    ⟨⟨.mv (.slot 4), some 17, none⟩, []⟩,
    ⟨⟨.mv (.slot 5), some 18, none⟩, []⟩,
    ⟨⟨.call (.const (.func 105 [] [])) [(.slot 14), (.slot 15), (.slot 16), (.slot 17), (.slot 18)], some 19, none⟩, []⟩,
    ⟨⟨.mv (.slot 19), some 13, none⟩, []⟩,
    ⟨⟨.extract (.slot 13) 0, some 20, none⟩, []⟩,
    ⟨⟨.extract (.slot 13) 1, some 21, none⟩, []⟩,
    ⟨⟨.mv (.slot 20), some 1, none⟩, []⟩,
    ⟨⟨.mv (.slot 21), some 2, none⟩, []⟩])
  (.seq (.region false [⟨⟨.mv (.slot 0), some 23, none⟩, []⟩,
    ⟨⟨.mv (.slot 2), some 24, none⟩, []⟩,
    ⟨⟨.mv (.slot 3), some 25, none⟩, []⟩,
    ⟨⟨.mv (.slot 4), some 26, none⟩, []⟩,
    ⟨⟨.mv (.slot 5), some 27, none⟩, []⟩,
    ⟨⟨.call (.const (.func 105 [] [])) [(.slot 23), (.slot 24), (.slot 25), (.slot 26), (.slot 27)], some 28, none⟩, []⟩,
    ⟨⟨.mv (.slot 28), some 22, none⟩, []⟩,
    ⟨⟨.extract (.slot 22) 0, some 29, none⟩, []⟩,
    ⟨⟨.extract (.slot 22) 1, some 30, none⟩, []⟩,
    ⟨⟨.mv (.slot 29), some 2, none⟩, []⟩,
    ⟨⟨.mv (.slot 30), some 3, none⟩, []⟩])
  (.seq (.region false [⟨⟨.mv (.slot 0), some 32, none⟩, []⟩,
    ⟨⟨.mv (.slot 1), some 33, none⟩, []⟩,
    ⟨⟨.mv (.slot 2), some 34, none⟩, []⟩,
    ⟨⟨.mv (.slot 4), some 35, none⟩, []⟩,
    ⟨⟨.mv (.slot 5), some 36, none⟩, []⟩,
    ⟨⟨.call (.const (.func 105 [] [])) [(.slot 32), (.slot 33), (.slot 34), (.slot 35), (.slot 36)], some 37, none⟩, []⟩,
    ⟨⟨.mv (.slot 37), some 31, none⟩, []⟩,
    ⟨⟨.extract (.slot 31) 0, some 38, none⟩, []⟩,
    ⟨⟨.extract (.slot 31) 1, some 39, none⟩, []⟩,
    ⟨⟨.mv (.slot 38), some 1, none⟩, []⟩,
    ⟨⟨.mv (.slot 39), some 2, none⟩, []⟩])
  (.seq (.region false [⟨⟨.mv (.slot 2), some 40, none⟩, []⟩,
    ⟨⟨.mv (.slot 40), some 12, none⟩, []⟩])
  .ret))))),
  [.tmp 12]⟩
theorem xf102_ok : compFunc Tryz.prog Tryz.f102 = some xf102 := by kernel_rfl
/-- container/heap.up -/
def xf103 : XFunc := ⟨(.block 0 (.loop (.block 1 (.seq (.region false [⟨⟨.mv (.slot 1), some 5, none⟩, []⟩,
     ⟨⟨.bin .sub 3 .num (.slot 5) (.const (.int .i64 (.ofNat 1))), some 6, none⟩, []⟩,
     ⟨⟨.bin .quo 3 .num (.slot 6) (.const (.int .i64 (.ofNat 2))), some 7, none⟩, []⟩,
     ⟨⟨.mv (.slot 7), some 4, none⟩, []⟩])
   (.seq (.seq (.region false [⟨⟨.mv (.slot 4), some 8, none⟩, []⟩,
     ⟨⟨.mv (.slot 1), some 9, none⟩, []⟩,
     ⟨⟨.bin .eql 3 .num (.slot 8) (.slot 9), some 10, none⟩, []⟩,
     ⟨⟨.mv (.slot 10), some 11, none⟩, []⟩,
     ⟨⟨.mv (.slot 0), some 12, some (11, false)⟩, []⟩,
     ⟨⟨.mv (.slot 1), some 13, some (11, false)⟩, []⟩,
     ⟨⟨.mv (.slot 4), some 14, some (11, false)⟩, []⟩,
     ⟨⟨.invoke (.slot 12) [(115, 124, none), (119, 124, some (false, 1))] [(.slot 13), (.slot 14)], some 15, some (11, false)⟩, []⟩,
     ⟨⟨.un .not (.slot 15), some 16, some (11, false)⟩, []⟩,
     ⟨⟨.pick (.slot 11) (.const (.bool true)) (.slot 16), some 17, none⟩, []⟩])
   (.cond (.slot 17)
    (.exit 0)
    .skip))
   (.seq (.region false [⟨⟨.mv (.slot 0), some 18, none⟩, []⟩,
     ⟨⟨.mv (.slot 4), some 19, none⟩, []⟩,
     ⟨⟨.mv (.slot 1), some 20, none⟩, []⟩,
     ⟨⟨.invoke (.slot 18) [(115, 125, none), (119, 125, some (false, 1))] [(.slot 19), (.slot 20)], some 21, none⟩, []⟩])
   (.region false [⟨⟨.mv (.slot 4), some 22, none⟩, []⟩,
     ⟨⟨.mv (.slot 22), some 1, none⟩, []⟩]))))))),
  []⟩
theorem xf103_ok : compFunc Tryz.prog Tryz.f103 = some xf103 := by kernel_rfl
/-- slices.order2Ordered[int64] -/
def xf104 : XFunc := ⟨(.seq (.region false [⟨⟨.mv (.const (.int .i64 (.ofNat 0))), some 8, none⟩, []⟩,
    ⟨⟨.mv (.const (.int .i64 (.ofNat 0))), some 9, none⟩, []⟩])
  (.seq (.seq (.region true [⟨⟨.mv (.slot 0), some 10, none⟩, []⟩,
    ⟨⟨.mv (.slot 2), some 11, none⟩, []⟩,
    ⟨⟨.iaddr 1 (.slot 10) (.slot 11), some 12, none⟩, []⟩,
    ⟨⟨.load false 1 (.slot 12), some 13, none⟩, []⟩,
    ⟨⟨.mv (.slot 0), some 14, none⟩, []⟩,
    ⟨⟨.mv (.slot 1), some 15, none⟩, []⟩,
    ⟨⟨.iaddr 1 (.slot 14) (.slot 15), some 16, none⟩, []⟩,
    ⟨⟨.load false 1 (.slot 16), some 17, none⟩, []⟩,
    ⟨⟨.call (.const (.func 73 [] [])) [(.slot 13), (.slot 17)], some 18, none⟩, []⟩])
  (.cond (.slot 18)
   (.seq (.region false [⟨⟨.mv (.slot 3), some 19, none⟩, []⟩,
     ⟨⟨.nilCheck (.slot 19), some 20, none⟩, []⟩,
     ⟨⟨.load false 1 (.slot 20), some 21, none⟩, []⟩,
     ⟨⟨.bin .add 3 .num (.slot 21) (.const (.int .i64 (.ofNat 1))), some 22, none⟩, []⟩,
     ⟨⟨.nilCheck (.slot 19), some 23, none⟩, []⟩,
     ⟨⟨.store 1 (.slot 23) (.slot 22), none, none⟩, []⟩])
   (.seq (.region false [⟨⟨.mv (.slot 2), some 24, none⟩, []⟩,
     ⟨⟨.mv (.slot 1), some 25, none⟩, []⟩,
     ⟨⟨.mv (.slot 24), some 8, none⟩, []⟩,
     ⟨⟨.mv (.slot 25), some 9, none⟩, []⟩])
   .ret))
   .skip))
  (.seq (.region false [⟨⟨.mv (.slot 1), some 26, none⟩, []⟩,
    ⟨⟨.mv (.slot 2), some 27, none⟩, []⟩,
    ⟨⟨.mv (.slot 26), some 8, none⟩, []⟩,
    ⟨⟨.mv (.slot 27), some 9, none⟩, []⟩])
  .ret))),
  [.tmp 8, .tmp 9]⟩
theorem xf104_ok : compFunc Tryz.prog Tryz.f104 = some xf104 := by kernel_rfl
/-- slices.order2CmpFunc[threshing/api.Lit] -/
def xf105 : XFunc := ⟨(.seq (.region false [⟨⟨.mv (.const (.int .i64 (.ofNat 0))), some 10, none⟩, []⟩,
    ⟨⟨.mv (.const (.int .i64 (.ofNat 0))), some 11, none⟩, []⟩])
  (.seq (.seq (.region true [⟨⟨.mv (.slot 4), some 12, none⟩, []⟩,
    ⟨⟨.mv (.slot 0), some 13, none⟩, []⟩,
    ⟨⟨.mv (.slot 2), some 14, none⟩, []⟩,
    ⟨⟨.iaddr 1 (.slot 13) (.slot 14), some 15, none⟩, []⟩,
    ⟨⟨.load false 1 (.slot 15), some 16, none⟩, []⟩,
    ⟨⟨.mv (.slot 0), some 17, none⟩, []⟩,
    ⟨⟨.mv (.slot 1), some 18, none⟩, []⟩,
    ⟨⟨.iaddr 1 (.slot 17) (.slot 18), some 19, none⟩, []⟩,
    ⟨⟨.load false 1 (.slot 19), some 20, none⟩, []⟩,
    ⟨⟨.call (.slot 12) [(.slot 16), (.slot 20)], some 21, none⟩, []⟩,
    ⟨⟨.bin .lss 3 .num (.slot 21) (.const (.int .i64 (.ofNat 0))), some 22, none⟩, []⟩])
  (.cond (.slot 22)
   (.seq (.region false [⟨⟨.mv (.slot 3), some 23, none⟩, []⟩,
     ⟨⟨.nilCheck (.slot 23), some 24, none⟩, []⟩,
     ⟨⟨.load false 1 (.slot 24), some 25, none⟩, []⟩,
     ⟨⟨.bin .add 3 .num (.slot 25) (.const (.int .i64 (.ofNat 1))), some 26, none⟩, []⟩,
     ⟨⟨.nilCheck (.slot 23), some 27, none⟩, []⟩,
     ⟨⟨.store 1 (.slot 27) (.slot 26), none, none⟩, []⟩])
   (.seq (.region false [⟨⟨.mv (.slot 2), some 28, none⟩, []⟩,
     ⟨⟨.mv (.slot 1), some 29, none⟩, []⟩,
     ⟨⟨.mv (.slot 28), some 10, none⟩, []⟩,
     ⟨⟨.mv (.slot 29), some 11, none⟩, []⟩])
   .ret))
   .skip))
  (.seq (.region false [⟨⟨.mv (.slot 1), some 30, none⟩, []⟩,
    ⟨⟨.mv (.slot 2), some 31, none⟩, []⟩,
    ⟨⟨.mv (.slot 30), some 10, none⟩, []⟩,
    ⟨⟨.mv (.slot 31), some 11, none⟩, []⟩])
  .ret))),
  [.tmp 10, .tmp 11]⟩
theorem xf105_ok : compFunc Tryz.prog Tryz.f105 = some xf105 := by kernel_rfl
/-- (threshing/unit.ids).Less -/
def xf124 : XFunc := ⟨(.seq (.region false [⟨⟨.mv (.const (.bool false)), some 6, none⟩, []⟩])
  (.seq (.region true [⟨⟨.mv (.slot 0), some 7, none⟩, []⟩,
    ⟨⟨.mv (.slot 1), some 8, none⟩, []⟩,
    ⟨⟨.iaddr 1 (.slot 7) (.slot 8), some 9, none⟩, []⟩,
    ⟨⟨.load false 1 (.slot 9), some 10, none⟩, []⟩,
    ⟨⟨.mv (.slot 0), some 11, none⟩, []⟩,
    ⟨⟨.mv (.slot 2), some 12, none⟩, []⟩,
    ⟨⟨.iaddr 1 (.slot 11) (.slot 12), some 13, none⟩, []⟩,
    ⟨⟨.load false 1 (.slot 13), some 14, none⟩, []⟩,
    ⟨⟨.bin .lss 2 .num (.slot 10) (.slot 14), some 15, none⟩, []⟩,
    ⟨⟨.mv (.slot 15), some 6, none⟩, []⟩])
  .ret)),
  [.tmp 6]⟩
theorem xf124_ok : compFunc Tryz.prog Tryz.f124 = some xf124 := by kernel_rfl
/-- (threshing/unit.ids).Swap -/
def xf125 : XFunc := ⟨(.region true [⟨⟨.mv (.slot 0), some 6, none⟩, []⟩,
    ⟨⟨.mv (.slot 1), some 7, none⟩, []⟩,
    ⟨⟨.mv (.slot 0), some 8, none⟩, []⟩,
    ⟨⟨.mv (.slot 2), some 9, none⟩, []⟩,
    ⟨⟨.mv (.slot 0), some 10, none⟩, []⟩,
    ⟨⟨.mv (.slot 2), some 11, none⟩, []⟩,
    ⟨⟨.iaddr 1 (.slot 10) (.slot 11), some 12, none⟩, []⟩,
    ⟨⟨.load false 1 (.slot 12), some 13, none⟩, []⟩,
    ⟨⟨.mv (.slot 0), some 14, none⟩, []⟩,
    ⟨⟨.mv (.slot 1), some 15, none⟩, []⟩,
    ⟨⟨.iaddr 1 (.slot 14) (.slot 15), some 16, none⟩, []⟩,
    ⟨⟨.load false 1 (.slot 16), some 17, none⟩, []⟩,
    ⟨⟨.iaddr 1 (.slot 6) (.slot 7), some 18, none⟩, []⟩,
    ⟨⟨.store 1 (.slot 18) (.slot 13), none, none⟩, []⟩,
    ⟨⟨.iaddr 1 (.slot 8) (.slot 9), some 19, none⟩, []⟩,
    ⟨⟨.store 1 (.slot 19) (.slot 17), none, none⟩, []⟩]),
  []⟩
theorem xf125_ok : compFunc Tryz.prog Tryz.f125 = some xf125 := by kernel_rfl
/-- (*threshing/unit.ids).Pop -/
def xf126 : XFunc := ⟨(.seq (.region false [⟨⟨.mv (.const .nili), some 2, none⟩, []⟩])
  (.seq (.region true [⟨⟨.mv (.slot 0), some 4, none⟩, []⟩,
    ⟨⟨.nilCheck (.slot 4), some 5, none⟩, []⟩,
    ⟨⟨.load false 1 (.slot 5), some 6, none⟩, []⟩,
    ⟨⟨.mv (.slot 0), some 7, none⟩, []⟩,
    ⟨⟨.nilCheck (.slot 7), some 8, none⟩, []⟩,
    ⟨⟨.load false 1 (.slot 8), some 9, none⟩, []⟩,
    ⟨⟨.len .slice (.slot 9), some 10, none⟩, []⟩,
    ⟨⟨.bin .sub 3 .num (.slot 10) (.const (.int .i64 (.ofNat 1))), some 11, none⟩, []⟩,
    ⟨⟨.iaddr 1 (.slot 6) (.slot 11), some 12, none⟩, []⟩,
    ⟨⟨.load false 1 (.slot 12), some 13, none⟩, []⟩,
    ⟨⟨.mv (.slot 13), some 3, none⟩, []⟩])
  (.seq (.region true [⟨⟨.mv (.slot 0), some 14, none⟩, []⟩,
    ⟨⟨.mv (.slot 0), some 15, none⟩, []⟩,
    ⟨⟨.nilCheck (.slot 15), some 16, none⟩, []⟩,
    ⟨⟨.load false 1 (.slot 16), some 17, none⟩, []⟩,
    ⟨⟨.mv (.slot 0), some 18, none⟩, []⟩,
    ⟨⟨.nilCheck (.slot 18), some 19, none⟩, []⟩,
    ⟨⟨.load false 1 (.slot 19), some 20, none⟩, []⟩,
    ⟨⟨.len .slice (.slot 20), some 21, none⟩, []⟩,
    ⟨⟨.bin .sub 3 .num (.slot 21) (.const (.int .i64 (.ofNat 1))), some 22, none⟩, []⟩,
    ⟨⟨.slc 1 (.slot 17) none (some (.slot 22)) none, some 23, none⟩, []⟩,
    ⟨⟨.nilCheck (.slot 14), some 24, none⟩, []⟩,
    ⟨⟨.store 1 (.slot 24) (.slot 23), none, none⟩, []⟩])
  (.seq (.region false [⟨⟨.mv (.slot 3), some 25, none⟩, []⟩,
    ⟨⟨.mkif 2 (.slot 25), some 26, none⟩, []⟩,
    ⟨⟨.mv (.slot 26), some 2, none⟩, []⟩])
  .ret)))),
  [.tmp 2]⟩
theorem xf126_ok : compFunc Tryz.prog Tryz.f126 = some xf126 := by kernel_rfl
/-- (*threshing/unit.ids).Push -/
def xf127 : XFunc := ⟨(.region true [⟨⟨.mv (.slot 0), some 4, none⟩, []⟩,
    ⟨⟨.mv (.slot 0), some 5, none⟩, []⟩,
    ⟨⟨.nilCheck (.slot 5), some 6, none⟩, []⟩,
    ⟨⟨.load false 1 (.slot 6), some 7, none⟩, []⟩,
    ⟨⟨.mv (.slot 1), some 8, none⟩, []⟩,
    ⟨⟨.tassert 2 (.int .i64 (.ofNat 0)) false (.slot 8), some 9, none⟩, []⟩,
    ⟨⟨.bslice 1 [(.int .i64 (.ofNat 0))] [(0, 1, (.slot 9))] 1, some 10, none⟩, [⟨.load false 1 (.slot 6), some 7, none⟩]⟩,
    ⟨⟨.append 1 8 (.slot 7) (.slot 10), some 11, none⟩, []⟩,
    ⟨⟨.nilCheck (.slot 4), some 12, none⟩, []⟩,
    ⟨⟨.store 1 (.slot 12) (.slot 11), none, none⟩, []⟩]),
  []⟩
theorem xf127_ok : compFunc Tryz.prog Tryz.f127 = some xf127 := by kernel_rfl
end Go.Proofs.YtdegagpgjejomaaGreat

/- The functions of the program in X's code, printed by a program of ours; each is what the program's own is turned to. -/
import Derived.Test.YtogolfiljijhlaaProg
import Derived.Test.YtogolfiljijhlaaW0
import Derived.KernelRfl
namespace Go.Proofs.Ytogolfiljijhlaa
open Go.Xr
/- math/bits.Len32 -/
def r78_0 : List XLine := [⟨⟨.mv (.const (.int .i64 (.ofNat 0))), some 2, none⟩, []⟩]
def r78_1 : List XLine := [⟨⟨.mv (.slot 0), some 3, none⟩, []⟩,
  ⟨⟨.bin .geq 126 .num (.slot 3) (.const (.int .u32 (.ofNat 65536))), some 4, none⟩, []⟩]
def r78_2 : List XLine := [⟨⟨.mv (.slot 0), some 5, none⟩, []⟩,
  ⟨⟨.bin .shr 126 .num (.slot 5) (.const (.int .u64 (.ofNat 16))), some 6, none⟩, []⟩,
  ⟨⟨.mv (.slot 6), some 0, none⟩, []⟩]
def r78_3 : List XLine := [⟨⟨.mv (.const (.int .i64 (.ofNat 16))), some 2, none⟩, []⟩]
def r78_4 : List XLine := [⟨⟨.mv (.slot 0), some 7, none⟩, []⟩,
  ⟨⟨.bin .geq 126 .num (.slot 7) (.const (.int .u32 (.ofNat 256))), some 8, none⟩, []⟩]
def r78_5 : List XLine := [⟨⟨.mv (.slot 0), some 9, none⟩, []⟩,
  ⟨⟨.bin .shr 126 .num (.slot 9) (.const (.int .u64 (.ofNat 8))), some 10, none⟩, []⟩,
  ⟨⟨.mv (.slot 10), some 0, none⟩, []⟩]
def r78_6 : List XLine := [⟨⟨.mv (.slot 2), some 11, none⟩, []⟩,
  ⟨⟨.bin .add 3 .num (.slot 11) (.const (.int .i64 (.ofNat 8))), some 12, none⟩, []⟩,
  ⟨⟨.mv (.slot 12), some 2, none⟩, []⟩]
def r78_7 : List XLine := [⟨⟨.mv (.slot 2), some 13, none⟩, []⟩,
  ⟨⟨.mv (.slot 0), some 14, none⟩, []⟩,
  ⟨⟨.conv .u8 (.slot 14), some 15, none⟩, []⟩,
  ⟨⟨.sidx (.const (.str ⟨⟨[0, 1, 2, 2, 3, 3, 3, 3, 4, 4, 4, 4, 4, 4, 4, 4, 5, 5, 5, 5, 5, 5, 5, 5, 5, 5, 5, 5, 5, 5, 5, 5, 6, 6, 6, 6, 6, 6, 6, 6, 6, 6, 6, 6, 6, 6, 6, 6, 6, 6, 6, 6, 6, 6, 6, 6, 6, 6, 6, 6, 6, 6, 6, 6, 7, 7, 7, 7, 7, 7, 7, 7, 7, 7, 7, 7, 7, 7, 7, 7, 7, 7, 7, 7, 7, 7, 7, 7, 7, 7, 7, 7, 7, 7, 7, 7, 7, 7, 7, 7, 7, 7, 7, 7, 7, 7, 7, 7, 7, 7, 7, 7, 7, 7, 7, 7, 7, 7, 7, 7, 7, 7, 7, 7, 7, 7, 7, 7, 8, 8, 8, 8, 8, 8, 8, 8, 8, 8, 8, 8, 8, 8, 8, 8, 8, 8, 8, 8, 8, 8, 8, 8, 8, 8, 8, 8, 8, 8, 8, 8, 8, 8, 8, 8, 8, 8, 8, 8, 8, 8, 8, 8, 8, 8, 8, 8, 8, 8, 8, 8, 8, 8, 8, 8, 8, 8, 8, 8, 8, 8, 8, 8, 8, 8, 8, 8, 8, 8, 8, 8, 8, 8, 8, 8, 8, 8, 8, 8, 8, 8, 8, 8, 8, 8, 8, 8, 8, 8, 8, 8, 8, 8, 8, 8, 8, 8, 8, 8, 8, 8, 8, 8, 8, 8, 8, 8, 8, 8, 8, 8, 8, 8, 8, 8, 8, 8, 8, 8, 8, 8, 8, 8, 8, 8, 8, 8]⟩⟩)) (.slot 15), some 16, none⟩, []⟩,
  ⟨⟨.conv .i64 (.slot 16), some 17, none⟩, []⟩,
  ⟨⟨.bin .add 3 .num (.slot 13) (.slot 17), some 18, none⟩, []⟩,
  ⟨⟨.mv (.slot 18), some 2, none⟩, []⟩]
def xf78 : XFunc := ⟨(.seq (.region false r78_0)
  (.seq (.seq (.region false r78_1)
  (.cond (.slot 4)
  (.seq (.region false r78_2)
  (.region false r78_3))
  .skip))
  (.seq (.seq (.region false r78_4)
  (.cond (.slot 8)
  (.seq (.region false r78_5)
  (.region false r78_6))
  .skip))
  (.seq (.region false r78_7)
  .ret)))),
  [.tmp 2]⟩
theorem xf78_ok : compFunc Try.prog Try.f78 = some xf78 := by kernel_rfl
/- math/bits.Len64 -/
def r79_0 : List XLine := [⟨⟨.mv (.const (.int .i64 (.ofNat 0))), some 2, none⟩, []⟩]
def r79_1 : List XLine := [⟨⟨.mv (.slot 0), some 3, none⟩, []⟩,
  ⟨⟨.bin .geq 128 .num (.slot 3) (.const (.int .u64 (.ofNat 4294967296))), some 4, none⟩, []⟩]
def r79_2 : List XLine := [⟨⟨.mv (.slot 0), some 5, none⟩, []⟩,
  ⟨⟨.bin .shr 128 .num (.slot 5) (.const (.int .u64 (.ofNat 32))), some 6, none⟩, []⟩,
  ⟨⟨.mv (.slot 6), some 0, none⟩, []⟩]
def r79_3 : List XLine := [⟨⟨.mv (.const (.int .i64 (.ofNat 32))), some 2, none⟩, []⟩]
def r79_4 : List XLine := [⟨⟨.mv (.slot 0), some 7, none⟩, []⟩,
  ⟨⟨.bin .geq 128 .num (.slot 7) (.const (.int .u64 (.ofNat 65536))), some 8, none⟩, []⟩]
def r79_5 : List XLine := [⟨⟨.mv (.slot 0), some 9, none⟩, []⟩,
  ⟨⟨.bin .shr 128 .num (.slot 9) (.const (.int .u64 (.ofNat 16))), some 10, none⟩, []⟩,
  ⟨⟨.mv (.slot 10), some 0, none⟩, []⟩]
def r79_6 : List XLine := [⟨⟨.mv (.slot 2), some 11, none⟩, []⟩,
  ⟨⟨.bin .add 3 .num (.slot 11) (.const (.int .i64 (.ofNat 16))), some 12, none⟩, []⟩,
  ⟨⟨.mv (.slot 12), some 2, none⟩, []⟩]
def r79_7 : List XLine := [⟨⟨.mv (.slot 0), some 13, none⟩, []⟩,
  ⟨⟨.bin .geq 128 .num (.slot 13) (.const (.int .u64 (.ofNat 256))), some 14, none⟩, []⟩]
def r79_8 : List XLine := [⟨⟨.mv (.slot 0), some 15, none⟩, []⟩,
  ⟨⟨.bin .shr 128 .num (.slot 15) (.const (.int .u64 (.ofNat 8))), some 16, none⟩, []⟩,
  ⟨⟨.mv (.slot 16), some 0, none⟩, []⟩]
def r79_9 : List XLine := [⟨⟨.mv (.slot 2), some 17, none⟩, []⟩,
  ⟨⟨.bin .add 3 .num (.slot 17) (.const (.int .i64 (.ofNat 8))), some 18, none⟩, []⟩,
  ⟨⟨.mv (.slot 18), some 2, none⟩, []⟩]
def r79_10 : List XLine := [⟨⟨.mv (.slot 2), some 19, none⟩, []⟩,
  ⟨⟨.mv (.slot 0), some 20, none⟩, []⟩,
  ⟨⟨.conv .u8 (.slot 20), some 21, none⟩, []⟩,
  ⟨⟨.sidx (.const (.str ⟨⟨[0, 1, 2, 2, 3, 3, 3, 3, 4, 4, 4, 4, 4, 4, 4, 4, 5, 5, 5, 5, 5, 5, 5, 5, 5, 5, 5, 5, 5, 5, 5, 5, 6, 6, 6, 6, 6, 6, 6, 6, 6, 6, 6, 6, 6, 6, 6, 6, 6, 6, 6, 6, 6, 6, 6, 6, 6, 6, 6, 6, 6, 6, 6, 6, 7, 7, 7, 7, 7, 7, 7, 7, 7, 7, 7, 7, 7, 7, 7, 7, 7, 7, 7, 7, 7, 7, 7, 7, 7, 7, 7, 7, 7, 7, 7, 7, 7, 7, 7, 7, 7, 7, 7, 7, 7, 7, 7, 7, 7, 7, 7, 7, 7, 7, 7, 7, 7, 7, 7, 7, 7, 7, 7, 7, 7, 7, 7, 7, 8, 8, 8, 8, 8, 8, 8, 8, 8, 8, 8, 8, 8, 8, 8, 8, 8, 8, 8, 8, 8, 8, 8, 8, 8, 8, 8, 8, 8, 8, 8, 8, 8, 8, 8, 8, 8, 8, 8, 8, 8, 8, 8, 8, 8, 8, 8, 8, 8, 8, 8, 8, 8, 8, 8, 8, 8, 8, 8, 8, 8, 8, 8, 8, 8, 8, 8, 8, 8, 8, 8, 8, 8, 8, 8, 8, 8, 8, 8, 8, 8, 8, 8, 8, 8, 8, 8, 8, 8, 8, 8, 8, 8, 8, 8, 8, 8, 8, 8, 8, 8, 8, 8, 8, 8, 8, 8, 8, 8, 8, 8, 8, 8, 8, 8, 8, 8, 8, 8, 8, 8, 8, 8, 8, 8, 8, 8, 8]⟩⟩)) (.slot 21), some 22, none⟩, []⟩,
  ⟨⟨.conv .i64 (.slot 22), some 23, none⟩, []⟩,
  ⟨⟨.bin .add 3 .num (.slot 19) (.slot 23), some 24, none⟩, []⟩,
  ⟨⟨.mv (.slot 24), some 2, none⟩, []⟩]
def xf79 : XFunc := ⟨(.seq (.region false r79_0)
  (.seq (.seq (.region false r79_1)
  (.cond (.slot 4)
  (.seq (.region false r79_2)
  (.region false r79_3))
  .skip))
  (.seq (.seq (.region false r79_4)
  (.cond (.slot 8)
  (.seq (.region false r79_5)
  (.region false r79_6))
  .skip))
  (.seq (.seq (.region false r79_7)
  (.cond (.slot 14)
  (.seq (.region false r79_8)
  (.region false r79_9))
  .skip))
  (.seq (.region false r79_10)
  .ret))))),
  [.tmp 2]⟩
theorem xf79_ok : compFunc Try.prog Try.f79 = some xf79 := by kernel_rfl
/- cmp.isNaN[int] -/
def r80_0 : List XLine := [⟨⟨.mv (.const (.bool false)), some 2, none⟩, []⟩]
def r80_1 : List XLine := [⟨⟨.mv (.slot 0), some 3, none⟩, []⟩,
  ⟨⟨.mv (.slot 0), some 4, none⟩, []⟩,
  ⟨⟨.bin .neq 3 .num (.slot 3) (.slot 4), some 5, none⟩, []⟩,
  ⟨⟨.mv (.slot 5), some 2, none⟩, []⟩]
def xf80 : XFunc := ⟨(.seq (.region false r80_0)
  (.seq (.region false r80_1)
  .ret)),
  [.tmp 2]⟩
theorem xf80_ok : compFunc Try.prog Try.f80 = some xf80 := by kernel_rfl
/- cmp.isNaN[threshing/api.Lit] -/
def r81_0 : List XLine := [⟨⟨.mv (.const (.bool false)), some 2, none⟩, []⟩]
def r81_1 : List XLine := [⟨⟨.mv (.slot 0), some 3, none⟩, []⟩,
  ⟨⟨.mv (.slot 0), some 4, none⟩, []⟩,
  ⟨⟨.bin .neq 24 .num (.slot 3) (.slot 4), some 5, none⟩, []⟩,
  ⟨⟨.mv (.slot 5), some 2, none⟩, []⟩]
def xf81 : XFunc := ⟨(.seq (.region false r81_0)
  (.seq (.region false r81_1)
  .ret)),
  [.tmp 2]⟩
theorem xf81_ok : compFunc Try.prog Try.f81 = some xf81 := by kernel_rfl
/- slices.insertionSortOrdered[int64] -/
def r82_0 : List XLine := [⟨⟨.mv (.slot 1), some 8, none⟩, []⟩,
  ⟨⟨.bin .add 3 .num (.slot 8) (.const (.int .i64 (.ofNat 1))), some 9, none⟩, []⟩,
  ⟨⟨.mv (.slot 9), some 6, none⟩, []⟩]
def r82_1 : List XLine := [⟨⟨.mv (.slot 6), some 10, none⟩, []⟩,
  ⟨⟨.mv (.slot 2), some 11, none⟩, []⟩,
  ⟨⟨.bin .lss 3 .num (.slot 10) (.slot 11), some 12, none⟩, []⟩]
def r82_2 : List XLine := [⟨⟨.mv (.slot 6), some 15, none⟩, []⟩,
  ⟨⟨.mv (.slot 15), some 7, none⟩, []⟩]
def r82_3 : List XLine := [⟨⟨.mv (.slot 7), some 16, none⟩, []⟩,
  ⟨⟨.mv (.slot 1), some 17, none⟩, []⟩,
  ⟨⟨.bin .gtr 3 .num (.slot 16) (.slot 17), some 18, none⟩, []⟩,
  ⟨⟨.mv (.slot 18), some 19, none⟩, []⟩,
  ⟨⟨.mv (.slot 0), some 20, some (19, true)⟩, []⟩,
  ⟨⟨.mv (.slot 7), some 21, some (19, true)⟩, []⟩,
  ⟨⟨.iaddr 1 (.slot 20) (.slot 21), some 22, some (19, true)⟩, []⟩,
  ⟨⟨.load false 1 (.slot 22), some 23, some (19, true)⟩, []⟩,
  ⟨⟨.mv (.slot 0), some 24, some (19, true)⟩, []⟩,
  ⟨⟨.mv (.slot 7), some 25, some (19, true)⟩, []⟩,
  ⟨⟨.bin .sub 3 .num (.slot 25) (.const (.int .i64 (.ofNat 1))), some 26, some (19, true)⟩, []⟩,
  ⟨⟨.iaddr 1 (.slot 24) (.slot 26), some 27, some (19, true)⟩, []⟩,
  ⟨⟨.load false 1 (.slot 27), some 28, some (19, true)⟩, []⟩,
  ⟨⟨.call (.const (.func 88 [] [])) [(.slot 23), (.slot 28)], some 29, some (19, true)⟩, []⟩,
  ⟨⟨.pick (.slot 19) (.slot 29) (.const (.bool false)), some 30, none⟩, []⟩]
def r82_4 : List XLine := [⟨⟨.mv (.slot 0), some 33, none⟩, []⟩,
  ⟨⟨.mv (.slot 7), some 34, none⟩, []⟩,
  ⟨⟨.mv (.slot 0), some 35, none⟩, []⟩,
  ⟨⟨.mv (.slot 7), some 36, none⟩, []⟩,
  ⟨⟨.bin .sub 3 .num (.slot 36) (.const (.int .i64 (.ofNat 1))), some 37, none⟩, []⟩,
  ⟨⟨.mv (.slot 0), some 38, none⟩, []⟩,
  ⟨⟨.mv (.slot 7), some 39, none⟩, []⟩,
  ⟨⟨.bin .sub 3 .num (.slot 39) (.const (.int .i64 (.ofNat 1))), some 40, none⟩, []⟩,
  ⟨⟨.iaddr 1 (.slot 38) (.slot 40), some 41, none⟩, []⟩,
  ⟨⟨.load false 1 (.slot 41), some 42, none⟩, []⟩,
  ⟨⟨.mv (.slot 0), some 43, none⟩, []⟩,
  ⟨⟨.mv (.slot 7), some 44, none⟩, []⟩,
  ⟨⟨.iaddr 1 (.slot 43) (.slot 44), some 45, none⟩, []⟩,
  ⟨⟨.load false 1 (.slot 45), some 46, none⟩, []⟩,
  ⟨⟨.iaddr 1 (.slot 33) (.slot 34), some 47, none⟩, []⟩,
  ⟨⟨.store 1 (.slot 47) (.slot 42), none, none⟩, []⟩,
  ⟨⟨.iaddr 1 (.slot 35) (.slot 37), some 48, none⟩, []⟩,
  ⟨⟨.store 1 (.slot 48) (.slot 46), none, none⟩, []⟩]
def r82_5 : List XLine := [⟨⟨.mv (.slot 7), some 31, none⟩, []⟩,
  ⟨⟨.bin .sub 3 .num (.slot 31) (.const (.int .i64 (.ofNat 1))), some 32, none⟩, []⟩,
  ⟨⟨.mv (.slot 32), some 7, none⟩, []⟩]
def r82_6 : List XLine := [⟨⟨.mv (.slot 6), some 13, none⟩, []⟩,
  ⟨⟨.bin .add 3 .num (.slot 13) (.const (.int .i64 (.ofNat 1))), some 14, none⟩, []⟩,
  ⟨⟨.mv (.slot 14), some 6, none⟩, []⟩]
def xf82 : XFunc := ⟨(.seq (.region false r82_0)
  (.block 0 (.loop (.seq (.seq (.region false r82_1)
  (.cond (.slot 12)
  .skip
  (.exit 0)))
  (.seq (.block 1 (.seq (.region false r82_2)
  (.block 2 (.loop (.seq (.seq (.region true r82_3)
  (.cond (.slot 30)
  .skip
  (.exit 2)))
  (.seq (.block 3 (.region true r82_4))
  (.region false r82_5)))))))
  (.region false r82_6)))))),
  []⟩
theorem xf82_ok : compFunc Try.prog Try.f82 = some xf82 := by kernel_rfl
/- slices.heapSortOrdered[int64] -/
def r83_0 : List XLine := [⟨⟨.mv (.slot 1), some 11, none⟩, []⟩,
  ⟨⟨.mv (.slot 11), some 6, none⟩, []⟩]
def r83_1 : List XLine := [⟨⟨.mv (.const (.int .i64 (.ofNat 0))), some 7, none⟩, []⟩]
def r83_2 : List XLine := [⟨⟨.mv (.slot 2), some 12, none⟩, []⟩,
  ⟨⟨.mv (.slot 1), some 13, none⟩, []⟩,
  ⟨⟨.bin .sub 3 .num (.slot 12) (.slot 13), some 14, none⟩, []⟩,
  ⟨⟨.mv (.slot 14), some 8, none⟩, []⟩]
def r83_3 : List XLine := [⟨⟨.mv (.slot 8), some 15, none⟩, []⟩,
  ⟨⟨.bin .sub 3 .num (.slot 15) (.const (.int .i64 (.ofNat 1))), some 16, none⟩, []⟩,
  ⟨⟨.bin .quo 3 .num (.slot 16) (.const (.int .i64 (.ofNat 2))), some 17, none⟩, []⟩,
  ⟨⟨.mv (.slot 17), some 9, none⟩, []⟩]
def r83_4 : List XLine := [⟨⟨.mv (.slot 9), some 18, none⟩, []⟩,
  ⟨⟨.bin .geq 3 .num (.slot 18) (.const (.int .i64 (.ofNat 0))), some 19, none⟩, []⟩]
def r83_5 : List XLine := [⟨⟨.mv (.slot 0), some 22, none⟩, []⟩,
  ⟨⟨.mv (.slot 9), some 23, none⟩, []⟩,
  ⟨⟨.mv (.slot 8), some 24, none⟩, []⟩,
  ⟨⟨.mv (.slot 6), some 25, none⟩, []⟩,
  ⟨⟨.call (.const (.func 96 [] [])) [(.slot 22), (.slot 23), (.slot 24), (.slot 25)], some 26, none⟩, []⟩]
def r83_6 : List XLine := [⟨⟨.mv (.slot 9), some 20, none⟩, []⟩,
  ⟨⟨.bin .sub 3 .num (.slot 20) (.const (.int .i64 (.ofNat 1))), some 21, none⟩, []⟩,
  ⟨⟨.mv (.slot 21), some 9, none⟩, []⟩]
def r83_7 : List XLine := [⟨⟨.mv (.slot 8), some 27, none⟩, []⟩,
  ⟨⟨.bin .sub 3 .num (.slot 27) (.const (.int .i64 (.ofNat 1))), some 28, none⟩, []⟩,
  ⟨⟨.mv (.slot 28), some 10, none⟩, []⟩]
def r83_8 : List XLine := [⟨⟨.mv (.slot 10), some 29, none⟩, []⟩,
  ⟨⟨.bin .geq 3 .num (.slot 29) (.const (.int .i64 (.ofNat 0))), some 30, none⟩, []⟩]
def r83_9 : List XLine := [⟨⟨.mv (.slot 0), some 33, none⟩, []⟩,
  ⟨⟨.mv (.slot 6), some 34, none⟩, []⟩,
  ⟨⟨.mv (.slot 0), some 35, none⟩, []⟩,
  ⟨⟨.mv (.slot 6), some 36, none⟩, []⟩,
  ⟨⟨.mv (.slot 10), some 37, none⟩, []⟩,
  ⟨⟨.bin .add 3 .num (.slot 36) (.slot 37), some 38, none⟩, []⟩,
  ⟨⟨.mv (.slot 0), some 39, none⟩, []⟩,
  ⟨⟨.mv (.slot 6), some 40, none⟩, []⟩,
  ⟨⟨.mv (.slot 10), some 41, none⟩, []⟩,
  ⟨⟨.bin .add 3 .num (.slot 40) (.slot 41), some 42, none⟩, []⟩,
  ⟨⟨.iaddr 1 (.slot 39) (.slot 42), some 43, none⟩, []⟩,
  ⟨⟨.load false 1 (.slot 43), some 44, none⟩, []⟩,
  ⟨⟨.mv (.slot 0), some 45, none⟩, []⟩,
  ⟨⟨.mv (.slot 6), some 46, none⟩, []⟩,
  ⟨⟨.iaddr 1 (.slot 45) (.slot 46), some 47, none⟩, []⟩,
  ⟨⟨.load false 1 (.slot 47), some 48, none⟩, []⟩,
  ⟨⟨.iaddr 1 (.slot 33) (.slot 34), some 49, none⟩, []⟩,
  ⟨⟨.store 1 (.slot 49) (.slot 44), none, none⟩, []⟩,
  ⟨⟨.iaddr 1 (.slot 35) (.slot 38), some 50, none⟩, []⟩,
  ⟨⟨.store 1 (.slot 50) (.slot 48), none, none⟩, []⟩]
def r83_10 : List XLine := [⟨⟨.mv (.slot 0), some 51, none⟩, []⟩,
  ⟨⟨.mv (.slot 7), some 52, none⟩, []⟩,
  ⟨⟨.mv (.slot 10), some 53, none⟩, []⟩,
  ⟨⟨.mv (.slot 6), some 54, none⟩, []⟩,
  ⟨⟨.call (.const (.func 96 [] [])) [(.slot 51), (.slot 52), (.slot 53), (.slot 54)], some 55, none⟩, []⟩]
def r83_11 : List XLine := [⟨⟨.mv (.slot 10), some 31, none⟩, []⟩,
  ⟨⟨.bin .sub 3 .num (.slot 31) (.const (.int .i64 (.ofNat 1))), some 32, none⟩, []⟩,
  ⟨⟨.mv (.slot 32), some 10, none⟩, []⟩]
def xf83 : XFunc := ⟨(.seq (.region false r83_0)
  (.seq (.region false r83_1)
  (.seq (.region false r83_2)
  (.seq (.seq (.region false r83_3)
  (.block 0 (.loop (.seq (.seq (.region false r83_4)
  (.cond (.slot 19)
  .skip
  (.exit 0)))
  (.seq (.block 1 (.region false r83_5))
  (.region false r83_6))))))
  (.seq (.region false r83_7)
  (.block 2 (.loop (.seq (.seq (.region false r83_8)
  (.cond (.slot 30)
  .skip
  (.exit 2)))
  (.seq (.block 3 (.seq (.region true r83_9)
  (.region false r83_10)))
  (.region false r83_11)))))))))),
  []⟩
theorem xf83_ok : compFunc Try.prog Try.f83 = some xf83 := by kernel_rfl
/- slices.breakPatternsOrdered[int64] -/
def r84_0 : List XLine := [⟨⟨.mv (.slot 2), some 11, none⟩, []⟩,
  ⟨⟨.mv (.slot 1), some 12, none⟩, []⟩,
  ⟨⟨.bin .sub 3 .num (.slot 11) (.slot 12), some 13, none⟩, []⟩,
  ⟨⟨.mv (.slot 13), some 6, none⟩, []⟩]
def r84_1 : List XLine := [⟨⟨.mv (.slot 6), some 14, none⟩, []⟩,
  ⟨⟨.bin .geq 3 .num (.slot 14) (.const (.int .i64 (.ofNat 8))), some 15, none⟩, []⟩]
def r84_2 : List XLine := [⟨⟨.mv (.slot 6), some 16, none⟩, []⟩,
  ⟨⟨.conv .u64 (.slot 16), some 17, none⟩, []⟩,
  ⟨⟨.alloc [(.int .u64 (.ofNat 0))], some 7, none⟩, []⟩,
  ⟨⟨.store 1 (.slot 7) (.slot 17), none, none⟩, []⟩]
def r84_3 : List XLine := [⟨⟨.mv (.slot 6), some 18, none⟩, []⟩,
  ⟨⟨.call (.const (.func 92 [] [])) [(.slot 18)], some 19, none⟩, []⟩,
  ⟨⟨.mv (.slot 19), some 8, none⟩, []⟩]
def r84_4 : List XLine := [⟨⟨.mv (.slot 1), some 20, none⟩, []⟩,
  ⟨⟨.mv (.slot 6), some 21, none⟩, []⟩,
  ⟨⟨.bin .quo 3 .num (.slot 21) (.const (.int .i64 (.ofNat 4))), some 22, none⟩, []⟩,
  ⟨⟨.bin .mul 3 .num (.slot 22) (.const (.int .i64 (.ofNat 2))), some 23, none⟩, []⟩,
  ⟨⟨.bin .add 3 .num (.slot 20) (.slot 23), some 24, none⟩, []⟩,
  ⟨⟨.bin .sub 3 .num (.slot 24) (.const (.int .i64 (.ofNat 1))), some 25, none⟩, []⟩,
  ⟨⟨.mv (.slot 25), some 9, none⟩, []⟩]
def r84_5 : List XLine := [⟨⟨.mv (.slot 9), some 26, none⟩, []⟩,
  ⟨⟨.mv (.slot 1), some 27, none⟩, []⟩,
  ⟨⟨.mv (.slot 6), some 28, none⟩, []⟩,
  ⟨⟨.bin .quo 3 .num (.slot 28) (.const (.int .i64 (.ofNat 4))), some 29, none⟩, []⟩,
  ⟨⟨.bin .mul 3 .num (.slot 29) (.const (.int .i64 (.ofNat 2))), some 30, none⟩, []⟩,
  ⟨⟨.bin .add 3 .num (.slot 27) (.slot 30), some 31, none⟩, []⟩,
  ⟨⟨.bin .add 3 .num (.slot 31) (.const (.int .i64 (.ofNat 1))), some 32, none⟩, []⟩,
  ⟨⟨.bin .leq 3 .num (.slot 26) (.slot 32), some 33, none⟩, []⟩]
def r84_6 : List XLine := [⟨⟨.call (.const (.func 93 [] [])) [(.slot 7)], some 36, none⟩, []⟩,
  ⟨⟨.mv (.slot 8), some 37, none⟩, []⟩,
  ⟨⟨.bin .sub 108 .num (.slot 37) (.const (.int .u64 (.ofNat 1))), some 38, none⟩, []⟩,
  ⟨⟨.bin .and 108 .num (.slot 36) (.slot 38), some 39, none⟩, []⟩,
  ⟨⟨.conv .i64 (.slot 39), some 40, none⟩, []⟩,
  ⟨⟨.mv (.slot 40), some 10, none⟩, []⟩]
def r84_7 : List XLine := [⟨⟨.mv (.slot 10), some 41, none⟩, []⟩,
  ⟨⟨.mv (.slot 6), some 42, none⟩, []⟩,
  ⟨⟨.bin .geq 3 .num (.slot 41) (.slot 42), some 43, none⟩, []⟩]
def r84_8 : List XLine := [⟨⟨.mv (.slot 10), some 44, none⟩, []⟩,
  ⟨⟨.mv (.slot 6), some 45, none⟩, []⟩,
  ⟨⟨.bin .sub 3 .num (.slot 44) (.slot 45), some 46, none⟩, []⟩,
  ⟨⟨.mv (.slot 46), some 10, none⟩, []⟩]
def r84_9 : List XLine := [⟨⟨.mv (.slot 0), some 47, none⟩, []⟩,
  ⟨⟨.mv (.slot 9), some 48, none⟩, []⟩,
  ⟨⟨.mv (.slot 0), some 49, none⟩, []⟩,
  ⟨⟨.mv (.slot 1), some 50, none⟩, []⟩,
  ⟨⟨.mv (.slot 10), some 51, none⟩, []⟩,
  ⟨⟨.bin .add 3 .num (.slot 50) (.slot 51), some 52, none⟩, []⟩,
  ⟨⟨.mv (.slot 0), some 53, none⟩, []⟩,
  ⟨⟨.mv (.slot 1), some 54, none⟩, []⟩,
  ⟨⟨.mv (.slot 10), some 55, none⟩, []⟩,
  ⟨⟨.bin .add 3 .num (.slot 54) (.slot 55), some 56, none⟩, []⟩,
  ⟨⟨.iaddr 1 (.slot 53) (.slot 56), some 57, none⟩, []⟩,
  ⟨⟨.load false 1 (.slot 57), some 58, none⟩, []⟩,
  ⟨⟨.mv (.slot 0), some 59, none⟩, []⟩,
  ⟨⟨.mv (.slot 9), some 60, none⟩, []⟩,
  ⟨⟨.iaddr 1 (.slot 59) (.slot 60), some 61, none⟩, []⟩,
  ⟨⟨.load false 1 (.slot 61), some 62, none⟩, []⟩,
  ⟨⟨.iaddr 1 (.slot 47) (.slot 48), some 63, none⟩, []⟩,
  ⟨⟨.store 1 (.slot 63) (.slot 58), none, none⟩, []⟩,
  ⟨⟨.iaddr 1 (.slot 49) (.slot 52), some 64, none⟩, []⟩,
  ⟨⟨.store 1 (.slot 64) (.slot 62), none, none⟩, []⟩]
def r84_10 : List XLine := [⟨⟨.mv (.slot 9), some 34, none⟩, []⟩,
  ⟨⟨.bin .add 3 .num (.slot 34) (.const (.int .i64 (.ofNat 1))), some 35, none⟩, []⟩,
  ⟨⟨.mv (.slot 35), some 9, none⟩, []⟩]
def xf84 : XFunc := ⟨(.seq (.region false r84_0)
  (.seq (.region false r84_1)
  (.cond (.slot 15)
  (.seq (.region false r84_2)
  (.seq (.region false r84_3)
  (.seq (.region false r84_4)
  (.block 0 (.loop (.seq (.seq (.region false r84_5)
  (.cond (.slot 33)
  .skip
  (.exit 0)))
  (.seq (.block 1 (.seq (.region false r84_6)
  (.seq (.seq (.region false r84_7)
  (.cond (.slot 43)
  (.region false r84_8)
  .skip))
  (.region true r84_9))))
  (.region false r84_10))))))))
  .skip))),
  []⟩
theorem xf84_ok : compFunc Try.prog Try.f84 = some xf84 := by kernel_rfl
/- slices.choosePivotOrdered[int64] -/
def r85_0 : List XLine := [⟨⟨.mv (.const (.int .i64 (.ofNat 0))), some 6, none⟩, []⟩,
  ⟨⟨.mv (.const (.int .i64 (.ofNat 0))), some 7, none⟩, []⟩]
def r85_1 : List XLine := [⟨⟨.mv (.slot 2), some 13, none⟩, []⟩,
  ⟨⟨.mv (.slot 1), some 14, none⟩, []⟩,
  ⟨⟨.bin .sub 3 .num (.slot 13) (.slot 14), some 15, none⟩, []⟩,
  ⟨⟨.mv (.slot 15), some 8, none⟩, []⟩]
def r85_2 : List XLine := [⟨⟨.alloc [(.int .i64 (.ofNat 0))], some 9, none⟩, []⟩]
def r85_3 : List XLine := [⟨⟨.mv (.slot 1), some 16, none⟩, []⟩,
  ⟨⟨.mv (.slot 8), some 17, none⟩, []⟩,
  ⟨⟨.bin .quo 3 .num (.slot 17) (.const (.int .i64 (.ofNat 4))), some 18, none⟩, []⟩,
  ⟨⟨.bin .mul 3 .num (.slot 18) (.const (.int .i64 (.ofNat 1))), some 19, none⟩, []⟩,
  ⟨⟨.bin .add 3 .num (.slot 16) (.slot 19), some 20, none⟩, []⟩,
  ⟨⟨.mv (.slot 20), some 10, none⟩, []⟩]
def r85_4 : List XLine := [⟨⟨.mv (.slot 1), some 21, none⟩, []⟩,
  ⟨⟨.mv (.slot 8), some 22, none⟩, []⟩,
  ⟨⟨.bin .quo 3 .num (.slot 22) (.const (.int .i64 (.ofNat 4))), some 23, none⟩, []⟩,
  ⟨⟨.bin .mul 3 .num (.slot 23) (.const (.int .i64 (.ofNat 2))), some 24, none⟩, []⟩,
  ⟨⟨.bin .add 3 .num (.slot 21) (.slot 24), some 25, none⟩, []⟩,
  ⟨⟨.mv (.slot 25), some 11, none⟩, []⟩]
def r85_5 : List XLine := [⟨⟨.mv (.slot 1), some 26, none⟩, []⟩,
  ⟨⟨.mv (.slot 8), some 27, none⟩, []⟩,
  ⟨⟨.bin .quo 3 .num (.slot 27) (.const (.int .i64 (.ofNat 4))), some 28, none⟩, []⟩,
  ⟨⟨.bin .mul 3 .num (.slot 28) (.const (.int .i64 (.ofNat 3))), some 29, none⟩, []⟩,
  ⟨⟨.bin .add 3 .num (.slot 26) (.slot 29), some 30, none⟩, []⟩,
  ⟨⟨.mv (.slot 30), some 12, none⟩, []⟩]
def r85_6 : List XLine := [⟨⟨.mv (.slot 8), some 31, none⟩, []⟩,
  ⟨⟨.bin .geq 3 .num (.slot 31) (.const (.int .i64 (.ofNat 8))), some 32, none⟩, []⟩]
def r85_7 : List XLine := [⟨⟨.mv (.slot 8), some 33, none⟩, []⟩,
  ⟨⟨.bin .geq 3 .num (.slot 33) (.const (.int .i64 (.ofNat 50))), some 34, none⟩, []⟩]
def r85_8 : List XLine := [⟨⟨.mv (.slot 0), some 35, none⟩, []⟩,
  ⟨⟨.mv (.slot 10), some 36, none⟩, []⟩,
  ⟨⟨.call (.const (.func 97 [] [])) [(.slot 35), (.slot 36), (.slot 9)], some 37, none⟩, []⟩,
  ⟨⟨.mv (.slot 37), some 10, none⟩, []⟩]
def r85_9 : List XLine := [⟨⟨.mv (.slot 0), some 38, none⟩, []⟩,
  ⟨⟨.mv (.slot 11), some 39, none⟩, []⟩,
  ⟨⟨.call (.const (.func 97 [] [])) [(.slot 38), (.slot 39), (.slot 9)], some 40, none⟩, []⟩,
  ⟨⟨.mv (.slot 40), some 11, none⟩, []⟩]
def r85_10 : List XLine := [⟨⟨.mv (.slot 0), some 41, none⟩, []⟩,
  ⟨⟨.mv (.slot 12), some 42, none⟩, []⟩,
  ⟨⟨.call (.const (.func 97 [] [])) [(.slot 41), (.slot 42), (.slot 9)], some 43, none⟩, []⟩,
  ⟨⟨.mv (.slot 43), some 12, none⟩, []⟩]
def r85_11 : List XLine := [⟨⟨.mv (.slot 0), some 44, none⟩, []⟩,
  ⟨⟨.mv (.slot 10), some 45, none⟩, []⟩,
  ⟨⟨.mv (.slot 11), some 46, none⟩, []⟩,
  ⟨⟨.mv (.slot 12), some 47, none⟩, []⟩,
  ⟨⟨.call (.const (.func 98 [] [])) [(.slot 44), (.slot 45), (.slot 46), (.slot 47), (.slot 9)], some 48, none⟩, []⟩,
  ⟨⟨.mv (.slot 48), some 11, none⟩, []⟩]
def r85_12 : List XLine := [⟨⟨.load false 1 (.slot 9), some 49, none⟩, []⟩]
def r85_13 : List XLine := [⟨⟨.bin .eql 3 .num (.slot 49) (.const (.int .i64 (.ofNat 0))), some 52, none⟩, []⟩,
  ⟨⟨.mv (.slot 52), some 51, none⟩, []⟩]
def r85_14 : List XLine := [⟨⟨.mv (.slot 11), some 53, none⟩, []⟩,
  ⟨⟨.mv (.slot 53), some 6, none⟩, []⟩,
  ⟨⟨.mv (.const (.int .i64 (.ofNat 1))), some 7, none⟩, []⟩]
def r85_15 : List XLine := [⟨⟨.bin .eql 3 .num (.slot 49) (.const (.int .i64 (.ofNat 12))), some 55, none⟩, []⟩,
  ⟨⟨.mv (.slot 55), some 54, none⟩, []⟩]
def r85_16 : List XLine := [⟨⟨.mv (.slot 11), some 56, none⟩, []⟩,
  ⟨⟨.mv (.slot 56), some 6, none⟩, []⟩,
  ⟨⟨.mv (.const (.int .i64 (.ofNat 2))), some 7, none⟩, []⟩]
def r85_17 : List XLine := [⟨⟨.mv (.slot 11), some 50, none⟩, []⟩,
  ⟨⟨.mv (.slot 50), some 6, none⟩, []⟩,
  ⟨⟨.mv (.const (.int .i64 (.ofNat 0))), some 7, none⟩, []⟩]
def xf85 : XFunc := ⟨(.seq (.region false r85_0)
  (.seq (.region false r85_1)
  (.seq (.region false r85_2)
  (.seq (.region false r85_3)
  (.seq (.region false r85_4)
  (.seq (.region false r85_5)
  (.seq (.seq (.region false r85_6)
  (.cond (.slot 32)
  (.seq (.seq (.region false r85_7)
  (.cond (.slot 34)
  (.seq (.region false r85_8)
  (.seq (.region false r85_9)
  (.region false r85_10)))
  .skip))
  (.region false r85_11))
  .skip))
  (.seq (.region false r85_12)
  (.block 0 (.seq (.region false r85_13)
  (.cond (.slot 51)
  (.seq (.region false r85_14)
  .ret)
  (.seq (.region false r85_15)
  (.cond (.slot 54)
  (.seq (.region false r85_16)
  .ret)
  (.seq (.region false r85_17)
  .ret)))))))))))))),
  [.tmp 6, .tmp 7]⟩
theorem xf85_ok : compFunc Try.prog Try.f85 = some xf85 := by kernel_rfl
/- slices.reverseRangeOrdered[int64] -/
def r86_0 : List XLine := [⟨⟨.mv (.slot 1), some 8, none⟩, []⟩,
  ⟨⟨.mv (.slot 8), some 6, none⟩, []⟩]
def r86_1 : List XLine := [⟨⟨.mv (.slot 2), some 9, none⟩, []⟩,
  ⟨⟨.bin .sub 3 .num (.slot 9) (.const (.int .i64 (.ofNat 1))), some 10, none⟩, []⟩,
  ⟨⟨.mv (.slot 10), some 7, none⟩, []⟩]
def r86_2 : List XLine := [⟨⟨.mv (.slot 6), some 11, none⟩, []⟩,
  ⟨⟨.mv (.slot 7), some 12, none⟩, []⟩,
  ⟨⟨.bin .lss 3 .num (.slot 11) (.slot 12), some 13, none⟩, []⟩]
def r86_3 : List XLine := [⟨⟨.mv (.slot 0), some 14, none⟩, []⟩,
  ⟨⟨.mv (.slot 6), some 15, none⟩, []⟩,
  ⟨⟨.mv (.slot 0), some 16, none⟩, []⟩,
  ⟨⟨.mv (.slot 7), some 17, none⟩, []⟩,
  ⟨⟨.mv (.slot 0), some 18, none⟩, []⟩,
  ⟨⟨.mv (.slot 7), some 19, none⟩, []⟩,
  ⟨⟨.iaddr 1 (.slot 18) (.slot 19), some 20, none⟩, []⟩,
  ⟨⟨.load false 1 (.slot 20), some 21, none⟩, []⟩,
  ⟨⟨.mv (.slot 0), some 22, none⟩, []⟩,
  ⟨⟨.mv (.slot 6), some 23, none⟩, []⟩,
  ⟨⟨.iaddr 1 (.slot 22) (.slot 23), some 24, none⟩, []⟩,
  ⟨⟨.load false 1 (.slot 24), some 25, none⟩, []⟩,
  ⟨⟨.iaddr 1 (.slot 14) (.slot 15), some 26, none⟩, []⟩,
  ⟨⟨.store 1 (.slot 26) (.slot 21), none, none⟩, []⟩,
  ⟨⟨.iaddr 1 (.slot 16) (.slot 17), some 27, none⟩, []⟩,
  ⟨⟨.store 1 (.slot 27) (.slot 25), none, none⟩, []⟩]
def r86_4 : List XLine := [⟨⟨.mv (.slot 6), some 28, none⟩, []⟩,
  ⟨⟨.bin .add 3 .num (.slot 28) (.const (.int .i64 (.ofNat 1))), some 29, none⟩, []⟩,
  ⟨⟨.mv (.slot 29), some 6, none⟩, []⟩]
def r86_5 : List XLine := [⟨⟨.mv (.slot 7), some 30, none⟩, []⟩,
  ⟨⟨.bin .sub 3 .num (.slot 30) (.const (.int .i64 (.ofNat 1))), some 31, none⟩, []⟩,
  ⟨⟨.mv (.slot 31), some 7, none⟩, []⟩]
def xf86 : XFunc := ⟨(.seq (.region false r86_0)
  (.seq (.region false r86_1)
  (.block 0 (.loop (.seq (.seq (.region false r86_2)
  (.cond (.slot 13)
  .skip
  (.exit 0)))
  (.block 1 (.seq (.region true r86_3)
  (.seq (.region false r86_4)
  (.region false r86_5))))))))),
  []⟩
theorem xf86_ok : compFunc Try.prog Try.f86 = some xf86 := by kernel_rfl
/- slices.partialInsertionSortOrdered[int64] -/
def r87_0 : List XLine := [⟨⟨.mv (.const (.bool false)), some 6, none⟩, []⟩]
def r87_1 : List XLine := [⟨⟨.mv (.slot 1), some 11, none⟩, []⟩,
  ⟨⟨.bin .add 3 .num (.slot 11) (.const (.int .i64 (.ofNat 1))), some 12, none⟩, []⟩,
  ⟨⟨.mv (.slot 12), some 7, none⟩, []⟩]
def r87_2 : List XLine := [⟨⟨.mv (.const (.int .i64 (.ofNat 0))), some 8, none⟩, []⟩]
def r87_3 : List XLine := [⟨⟨.mv (.slot 8), some 13, none⟩, []⟩,
  ⟨⟨.bin .lss 3 .num (.slot 13) (.const (.int .i64 (.ofNat 5))), some 14, none⟩, []⟩]
def r87_4 : List XLine := [⟨⟨.mv (.slot 7), some 17, none⟩, []⟩,
  ⟨⟨.mv (.slot 2), some 18, none⟩, []⟩,
  ⟨⟨.bin .lss 3 .num (.slot 17) (.slot 18), some 19, none⟩, []⟩,
  ⟨⟨.mv (.slot 19), some 20, none⟩, []⟩,
  ⟨⟨.mv (.slot 0), some 21, some (20, true)⟩, []⟩,
  ⟨⟨.mv (.slot 7), some 22, some (20, true)⟩, []⟩,
  ⟨⟨.iaddr 1 (.slot 21) (.slot 22), some 23, some (20, true)⟩, []⟩,
  ⟨⟨.load false 1 (.slot 23), some 24, some (20, true)⟩, []⟩,
  ⟨⟨.mv (.slot 0), some 25, some (20, true)⟩, []⟩,
  ⟨⟨.mv (.slot 7), some 26, some (20, true)⟩, []⟩,
  ⟨⟨.bin .sub 3 .num (.slot 26) (.const (.int .i64 (.ofNat 1))), some 27, some (20, true)⟩, []⟩,
  ⟨⟨.iaddr 1 (.slot 25) (.slot 27), some 28, some (20, true)⟩, []⟩,
  ⟨⟨.load false 1 (.slot 28), some 29, some (20, true)⟩, []⟩,
  ⟨⟨.call (.const (.func 88 [] [])) [(.slot 24), (.slot 29)], some 30, some (20, true)⟩, []⟩,
  ⟨⟨.un .not (.slot 30), some 31, some (20, true)⟩, []⟩,
  ⟨⟨.pick (.slot 20) (.slot 31) (.const (.bool false)), some 32, none⟩, []⟩]
def r87_5 : List XLine := [⟨⟨.mv (.slot 7), some 33, none⟩, []⟩,
  ⟨⟨.bin .add 3 .num (.slot 33) (.const (.int .i64 (.ofNat 1))), some 34, none⟩, []⟩,
  ⟨⟨.mv (.slot 34), some 7, none⟩, []⟩]
def r87_6 : List XLine := [⟨⟨.mv (.slot 7), some 35, none⟩, []⟩,
  ⟨⟨.mv (.slot 2), some 36, none⟩, []⟩,
  ⟨⟨.bin .eql 3 .num (.slot 35) (.slot 36), some 37, none⟩, []⟩]
def r87_7 : List XLine := [⟨⟨.mv (.const (.bool true)), some 6, none⟩, []⟩]
def r87_8 : List XLine := [⟨⟨.mv (.slot 2), some 38, none⟩, []⟩,
  ⟨⟨.mv (.slot 1), some 39, none⟩, []⟩,
  ⟨⟨.bin .sub 3 .num (.slot 38) (.slot 39), some 40, none⟩, []⟩,
  ⟨⟨.bin .lss 3 .num (.slot 40) (.const (.int .i64 (.ofNat 50))), some 41, none⟩, []⟩]
def r87_9 : List XLine := [⟨⟨.mv (.const (.bool false)), some 6, none⟩, []⟩]
def r87_10 : List XLine := [⟨⟨.mv (.slot 0), some 42, none⟩, []⟩,
  ⟨⟨.mv (.slot 7), some 43, none⟩, []⟩,
  ⟨⟨.mv (.slot 0), some 44, none⟩, []⟩,
  ⟨⟨.mv (.slot 7), some 45, none⟩, []⟩,
  ⟨⟨.bin .sub 3 .num (.slot 45) (.const (.int .i64 (.ofNat 1))), some 46, none⟩, []⟩,
  ⟨⟨.mv (.slot 0), some 47, none⟩, []⟩,
  ⟨⟨.mv (.slot 7), some 48, none⟩, []⟩,
  ⟨⟨.bin .sub 3 .num (.slot 48) (.const (.int .i64 (.ofNat 1))), some 49, none⟩, []⟩,
  ⟨⟨.iaddr 1 (.slot 47) (.slot 49), some 50, none⟩, []⟩,
  ⟨⟨.load false 1 (.slot 50), some 51, none⟩, []⟩,
  ⟨⟨.mv (.slot 0), some 52, none⟩, []⟩,
  ⟨⟨.mv (.slot 7), some 53, none⟩, []⟩,
  ⟨⟨.iaddr 1 (.slot 52) (.slot 53), some 54, none⟩, []⟩,
  ⟨⟨.load false 1 (.slot 54), some 55, none⟩, []⟩,
  ⟨⟨.iaddr 1 (.slot 42) (.slot 43), some 56, none⟩, []⟩,
  ⟨⟨.store 1 (.slot 56) (.slot 51), none, none⟩, []⟩,
  ⟨⟨.iaddr 1 (.slot 44) (.slot 46), some 57, none⟩, []⟩,
  ⟨⟨.store 1 (.slot 57) (.slot 55), none, none⟩, []⟩]
def r87_11 : List XLine := [⟨⟨.mv (.slot 7), some 58, none⟩, []⟩,
  ⟨⟨.mv (.slot 1), some 59, none⟩, []⟩,
  ⟨⟨.bin .sub 3 .num (.slot 58) (.slot 59), some 60, none⟩, []⟩,
  ⟨⟨.bin .geq 3 .num (.slot 60) (.const (.int .i64 (.ofNat 2))), some 61, none⟩, []⟩]
def r87_12 : List XLine := [⟨⟨.mv (.slot 7), some 62, none⟩, []⟩,
  ⟨⟨.bin .sub 3 .num (.slot 62) (.const (.int .i64 (.ofNat 1))), some 63, none⟩, []⟩,
  ⟨⟨.mv (.slot 63), some 9, none⟩, []⟩]
def r87_13 : List XLine := [⟨⟨.mv (.slot 9), some 64, none⟩, []⟩,
  ⟨⟨.bin .geq 3 .num (.slot 64) (.const (.int .i64 (.ofNat 1))), some 65, none⟩, []⟩]
def r87_14 : List XLine := [⟨⟨.mv (.slot 0), some 68, none⟩, []⟩,
  ⟨⟨.mv (.slot 9), some 69, none⟩, []⟩,
  ⟨⟨.iaddr 1 (.slot 68) (.slot 69), some 70, none⟩, []⟩,
  ⟨⟨.load false 1 (.slot 70), some 71, none⟩, []⟩,
  ⟨⟨.mv (.slot 0), some 72, none⟩, []⟩,
  ⟨⟨.mv (.slot 9), some 73, none⟩, []⟩,
  ⟨⟨.bin .sub 3 .num (.slot 73) (.const (.int .i64 (.ofNat 1))), some 74, none⟩, []⟩,
  ⟨⟨.iaddr 1 (.slot 72) (.slot 74), some 75, none⟩, []⟩,
  ⟨⟨.load false 1 (.slot 75), some 76, none⟩, []⟩,
  ⟨⟨.call (.const (.func 88 [] [])) [(.slot 71), (.slot 76)], some 77, none⟩, []⟩,
  ⟨⟨.un .not (.slot 77), some 78, none⟩, []⟩]
def r87_15 : List XLine := [⟨⟨.mv (.slot 0), some 79, none⟩, []⟩,
  ⟨⟨.mv (.slot 9), some 80, none⟩, []⟩,
  ⟨⟨.mv (.slot 0), some 81, none⟩, []⟩,
  ⟨⟨.mv (.slot 9), some 82, none⟩, []⟩,
  ⟨⟨.bin .sub 3 .num (.slot 82) (.const (.int .i64 (.ofNat 1))), some 83, none⟩, []⟩,
  ⟨⟨.mv (.slot 0), some 84, none⟩, []⟩,
  ⟨⟨.mv (.slot 9), some 85, none⟩, []⟩,
  ⟨⟨.bin .sub 3 .num (.slot 85) (.const (.int .i64 (.ofNat 1))), some 86, none⟩, []⟩,
  ⟨⟨.iaddr 1 (.slot 84) (.slot 86), some 87, none⟩, []⟩,
  ⟨⟨.load false 1 (.slot 87), some 88, none⟩, []⟩,
  ⟨⟨.mv (.slot 0), some 89, none⟩, []⟩,
  ⟨⟨.mv (.slot 9), some 90, none⟩, []⟩,
  ⟨⟨.iaddr 1 (.slot 89) (.slot 90), some 91, none⟩, []⟩,
  ⟨⟨.load false 1 (.slot 91), some 92, none⟩, []⟩,
  ⟨⟨.iaddr 1 (.slot 79) (.slot 80), some 93, none⟩, []⟩,
  ⟨⟨.store 1 (.slot 93) (.slot 88), none, none⟩, []⟩,
  ⟨⟨.iaddr 1 (.slot 81) (.slot 83), some 94, none⟩, []⟩,
  ⟨⟨.store 1 (.slot 94) (.slot 92), none, none⟩, []⟩]
def r87_16 : List XLine := [⟨⟨.mv (.slot 9), some 66, none⟩, []⟩,
  ⟨⟨.bin .sub 3 .num (.slot 66) (.const (.int .i64 (.ofNat 1))), some 67, none⟩, []⟩,
  ⟨⟨.mv (.slot 67), some 9, none⟩, []⟩]
def r87_17 : List XLine := [⟨⟨.mv (.slot 2), some 95, none⟩, []⟩,
  ⟨⟨.mv (.slot 7), some 96, none⟩, []⟩,
  ⟨⟨.bin .sub 3 .num (.slot 95) (.slot 96), some 97, none⟩, []⟩,
  ⟨⟨.bin .geq 3 .num (.slot 97) (.const (.int .i64 (.ofNat 2))), some 98, none⟩, []⟩]
def r87_18 : List XLine := [⟨⟨.mv (.slot 7), some 99, none⟩, []⟩,
  ⟨⟨.bin .add 3 .num (.slot 99) (.const (.int .i64 (.ofNat 1))), some 100, none⟩, []⟩,
  ⟨⟨.mv (.slot 100), some 10, none⟩, []⟩]
def r87_19 : List XLine := [⟨⟨.mv (.slot 10), some 101, none⟩, []⟩,
  ⟨⟨.mv (.slot 2), some 102, none⟩, []⟩,
  ⟨⟨.bin .lss 3 .num (.slot 101) (.slot 102), some 103, none⟩, []⟩]
def r87_20 : List XLine := [⟨⟨.mv (.slot 0), some 106, none⟩, []⟩,
  ⟨⟨.mv (.slot 10), some 107, none⟩, []⟩,
  ⟨⟨.iaddr 1 (.slot 106) (.slot 107), some 108, none⟩, []⟩,
  ⟨⟨.load false 1 (.slot 108), some 109, none⟩, []⟩,
  ⟨⟨.mv (.slot 0), some 110, none⟩, []⟩,
  ⟨⟨.mv (.slot 10), some 111, none⟩, []⟩,
  ⟨⟨.bin .sub 3 .num (.slot 111) (.const (.int .i64 (.ofNat 1))), some 112, none⟩, []⟩,
  ⟨⟨.iaddr 1 (.slot 110) (.slot 112), some 113, none⟩, []⟩,
  ⟨⟨.load false 1 (.slot 113), some 114, none⟩, []⟩,
  ⟨⟨.call (.const (.func 88 [] [])) [(.slot 109), (.slot 114)], some 115, none⟩, []⟩,
  ⟨⟨.un .not (.slot 115), some 116, none⟩, []⟩]
def r87_21 : List XLine := [⟨⟨.mv (.slot 0), some 117, none⟩, []⟩,
  ⟨⟨.mv (.slot 10), some 118, none⟩, []⟩,
  ⟨⟨.mv (.slot 0), some 119, none⟩, []⟩,
  ⟨⟨.mv (.slot 10), some 120, none⟩, []⟩,
  ⟨⟨.bin .sub 3 .num (.slot 120) (.const (.int .i64 (.ofNat 1))), some 121, none⟩, []⟩,
  ⟨⟨.mv (.slot 0), some 122, none⟩, []⟩,
  ⟨⟨.mv (.slot 10), some 123, none⟩, []⟩,
  ⟨⟨.bin .sub 3 .num (.slot 123) (.const (.int .i64 (.ofNat 1))), some 124, none⟩, []⟩,
  ⟨⟨.iaddr 1 (.slot 122) (.slot 124), some 125, none⟩, []⟩,
  ⟨⟨.load false 1 (.slot 125), some 126, none⟩, []⟩,
  ⟨⟨.mv (.slot 0), some 127, none⟩, []⟩,
  ⟨⟨.mv (.slot 10), some 128, none⟩, []⟩,
  ⟨⟨.iaddr 1 (.slot 127) (.slot 128), some 129, none⟩, []⟩,
  ⟨⟨.load false 1 (.slot 129), some 130, none⟩, []⟩,
  ⟨⟨.iaddr 1 (.slot 117) (.slot 118), some 131, none⟩, []⟩,
  ⟨⟨.store 1 (.slot 131) (.slot 126), none, none⟩, []⟩,
  ⟨⟨.iaddr 1 (.slot 119) (.slot 121), some 132, none⟩, []⟩,
  ⟨⟨.store 1 (.slot 132) (.slot 130), none, none⟩, []⟩]
def r87_22 : List XLine := [⟨⟨.mv (.slot 10), some 104, none⟩, []⟩,
  ⟨⟨.bin .add 3 .num (.slot 104) (.const (.int .i64 (.ofNat 1))), some 105, none⟩, []⟩,
  ⟨⟨.mv (.slot 105), some 10, none⟩, []⟩]
def r87_23 : List XLine := [⟨⟨.mv (.slot 8), some 15, none⟩, []⟩,
  ⟨⟨.bin .add 3 .num (.slot 15) (.const (.int .i64 (.ofNat 1))), some 16, none⟩, []⟩,
  ⟨⟨.mv (.slot 16), some 8, none⟩, []⟩]
def r87_24 : List XLine := [⟨⟨.mv (.const (.bool false)), some 6, none⟩, []⟩]
def xf87 : XFunc := ⟨(.seq (.region false r87_0)
  (.seq (.region false r87_1)
  (.seq (.seq (.region false r87_2)
  (.block 0 (.loop (.seq (.seq (.region false r87_3)
  (.cond (.slot 14)
  .skip
  (.exit 0)))
  (.seq (.block 1 (.seq (.block 2 (.loop (.seq (.seq (.region true r87_4)
  (.cond (.slot 32)
  .skip
  (.exit 2)))
  (.block 3 (.region false r87_5)))))
  (.seq (.seq (.region false r87_6)
  (.cond (.slot 37)
  (.seq (.region false r87_7)
  .ret)
  .skip))
  (.seq (.seq (.region false r87_8)
  (.cond (.slot 41)
  (.seq (.region false r87_9)
  .ret)
  .skip))
  (.seq (.region true r87_10)
  (.seq (.seq (.region false r87_11)
  (.cond (.slot 61)
  (.seq (.region false r87_12)
  (.block 4 (.loop (.seq (.seq (.region false r87_13)
  (.cond (.slot 65)
  .skip
  (.exit 4)))
  (.seq (.block 5 (.seq (.seq (.region true r87_14)
  (.cond (.slot 78)
  (.exit 4)
  .skip))
  (.region true r87_15)))
  (.region false r87_16))))))
  .skip))
  (.seq (.region false r87_17)
  (.cond (.slot 98)
  (.seq (.region false r87_18)
  (.block 6 (.loop (.seq (.seq (.region false r87_19)
  (.cond (.slot 103)
  .skip
  (.exit 6)))
  (.seq (.block 7 (.seq (.seq (.region true r87_20)
  (.cond (.slot 116)
  (.exit 6)
  .skip))
  (.region true r87_21)))
  (.region false r87_22))))))
  .skip))))))))
  (.region false r87_23))))))
  (.seq (.region false r87_24)
  .ret)))),
  [.tmp 6]⟩
theorem xf87_ok : compFunc Try.prog Try.f87 = some xf87 := by kernel_rfl
/- cmp.Less[int64] -/
def r88_0 : List XLine := [⟨⟨.mv (.const (.bool false)), some 4, none⟩, []⟩]
def r88_1 : List XLine := [⟨⟨.mv (.slot 0), some 5, none⟩, []⟩,
  ⟨⟨.call (.const (.func 99 [] [])) [(.slot 5)], some 6, none⟩, []⟩,
  ⟨⟨.mv (.slot 6), some 7, none⟩, []⟩,
  ⟨⟨.mv (.slot 1), some 8, some (7, true)⟩, []⟩,
  ⟨⟨.call (.const (.func 99 [] [])) [(.slot 8)], some 9, some (7, true)⟩, []⟩,
  ⟨⟨.un .not (.slot 9), some 10, some (7, true)⟩, []⟩,
  ⟨⟨.pick (.slot 7) (.slot 10) (.const (.bool false)), some 11, none⟩, []⟩,
  ⟨⟨.mv (.slot 11), some 12, none⟩, []⟩,
  ⟨⟨.mv (.slot 0), some 13, some (12, false)⟩, []⟩,
  ⟨⟨.mv (.slot 1), some 14, some (12, false)⟩, []⟩,
  ⟨⟨.bin .lss 2 .num (.slot 13) (.slot 14), some 15, some (12, false)⟩, []⟩,
  ⟨⟨.pick (.slot 12) (.const (.bool true)) (.slot 15), some 16, none⟩, []⟩,
  ⟨⟨.mv (.slot 16), some 4, none⟩, []⟩]
def xf88 : XFunc := ⟨(.seq (.region false r88_0)
  (.seq (.region false r88_1)
  .ret)),
  [.tmp 4]⟩
theorem xf88_ok : compFunc Try.prog Try.f88 = some xf88 := by kernel_rfl
/- slices.partitionEqualOrdered[int64] -/
def r89_0 : List XLine := [⟨⟨.mv (.const (.int .i64 (.ofNat 0))), some 8, none⟩, []⟩]
def r89_1 : List XLine := [⟨⟨.mv (.slot 0), some 11, none⟩, []⟩,
  ⟨⟨.mv (.slot 1), some 12, none⟩, []⟩,
  ⟨⟨.mv (.slot 0), some 13, none⟩, []⟩,
  ⟨⟨.mv (.slot 3), some 14, none⟩, []⟩,
  ⟨⟨.mv (.slot 0), some 15, none⟩, []⟩,
  ⟨⟨.mv (.slot 3), some 16, none⟩, []⟩,
  ⟨⟨.iaddr 1 (.slot 15) (.slot 16), some 17, none⟩, []⟩,
  ⟨⟨.load false 1 (.slot 17), some 18, none⟩, []⟩,
  ⟨⟨.mv (.slot 0), some 19, none⟩, []⟩,
  ⟨⟨.mv (.slot 1), some 20, none⟩, []⟩,
  ⟨⟨.iaddr 1 (.slot 19) (.slot 20), some 21, none⟩, []⟩,
  ⟨⟨.load false 1 (.slot 21), some 22, none⟩, []⟩,
  ⟨⟨.iaddr 1 (.slot 11) (.slot 12), some 23, none⟩, []⟩,
  ⟨⟨.store 1 (.slot 23) (.slot 18), none, none⟩, []⟩,
  ⟨⟨.iaddr 1 (.slot 13) (.slot 14), some 24, none⟩, []⟩,
  ⟨⟨.store 1 (.slot 24) (.slot 22), none, none⟩, []⟩]
def r89_2 : List XLine := [⟨⟨.mv (.slot 1), some 25, none⟩, []⟩,
  ⟨⟨.bin .add 3 .num (.slot 25) (.const (.int .i64 (.ofNat 1))), some 26, none⟩, []⟩,
  ⟨⟨.mv (.slot 2), some 27, none⟩, []⟩,
  ⟨⟨.bin .sub 3 .num (.slot 27) (.const (.int .i64 (.ofNat 1))), some 28, none⟩, []⟩,
  ⟨⟨.mv (.slot 26), some 9, none⟩, []⟩,
  ⟨⟨.mv (.slot 28), some 10, none⟩, []⟩]
def r89_3 : List XLine := [⟨⟨.mv (.slot 9), some 29, none⟩, []⟩,
  ⟨⟨.mv (.slot 10), some 30, none⟩, []⟩,
  ⟨⟨.bin .leq 3 .num (.slot 29) (.slot 30), some 31, none⟩, []⟩,
  ⟨⟨.mv (.slot 31), some 32, none⟩, []⟩,
  ⟨⟨.mv (.slot 0), some 33, some (32, true)⟩, []⟩,
  ⟨⟨.mv (.slot 1), some 34, some (32, true)⟩, []⟩,
  ⟨⟨.iaddr 1 (.slot 33) (.slot 34), some 35, some (32, true)⟩, []⟩,
  ⟨⟨.load false 1 (.slot 35), some 36, some (32, true)⟩, []⟩,
  ⟨⟨.mv (.slot 0), some 37, some (32, true)⟩, []⟩,
  ⟨⟨.mv (.slot 9), some 38, some (32, true)⟩, []⟩,
  ⟨⟨.iaddr 1 (.slot 37) (.slot 38), some 39, some (32, true)⟩, []⟩,
  ⟨⟨.load false 1 (.slot 39), some 40, some (32, true)⟩, []⟩,
  ⟨⟨.call (.const (.func 88 [] [])) [(.slot 36), (.slot 40)], some 41, some (32, true)⟩, []⟩,
  ⟨⟨.un .not (.slot 41), some 42, some (32, true)⟩, []⟩,
  ⟨⟨.pick (.slot 32) (.slot 42) (.const (.bool false)), some 43, none⟩, []⟩]
def r89_4 : List XLine := [⟨⟨.mv (.slot 9), some 44, none⟩, []⟩,
  ⟨⟨.bin .add 3 .num (.slot 44) (.const (.int .i64 (.ofNat 1))), some 45, none⟩, []⟩,
  ⟨⟨.mv (.slot 45), some 9, none⟩, []⟩]
def r89_5 : List XLine := [⟨⟨.mv (.slot 9), some 46, none⟩, []⟩,
  ⟨⟨.mv (.slot 10), some 47, none⟩, []⟩,
  ⟨⟨.bin .leq 3 .num (.slot 46) (.slot 47), some 48, none⟩, []⟩,
  ⟨⟨.mv (.slot 48), some 49, none⟩, []⟩,
  ⟨⟨.mv (.slot 0), some 50, some (49, true)⟩, []⟩,
  ⟨⟨.mv (.slot 1), some 51, some (49, true)⟩, []⟩,
  ⟨⟨.iaddr 1 (.slot 50) (.slot 51), some 52, some (49, true)⟩, []⟩,
  ⟨⟨.load false 1 (.slot 52), some 53, some (49, true)⟩, []⟩,
  ⟨⟨.mv (.slot 0), some 54, some (49, true)⟩, []⟩,
  ⟨⟨.mv (.slot 10), some 55, some (49, true)⟩, []⟩,
  ⟨⟨.iaddr 1 (.slot 54) (.slot 55), some 56, some (49, true)⟩, []⟩,
  ⟨⟨.load false 1 (.slot 56), some 57, some (49, true)⟩, []⟩,
  ⟨⟨.call (.const (.func 88 [] [])) [(.slot 53), (.slot 57)], some 58, some (49, true)⟩, []⟩,
  ⟨⟨.pick (.slot 49) (.slot 58) (.const (.bool false)), some 59, none⟩, []⟩]
def r89_6 : List XLine := [⟨⟨.mv (.slot 10), some 60, none⟩, []⟩,
  ⟨⟨.bin .sub 3 .num (.slot 60) (.const (.int .i64 (.ofNat 1))), some 61, none⟩, []⟩,
  ⟨⟨.mv (.slot 61), some 10, none⟩, []⟩]
def r89_7 : List XLine := [⟨⟨.mv (.slot 9), some 62, none⟩, []⟩,
  ⟨⟨.mv (.slot 10), some 63, none⟩, []⟩,
  ⟨⟨.bin .gtr 3 .num (.slot 62) (.slot 63), some 64, none⟩, []⟩]
def r89_8 : List XLine := [⟨⟨.mv (.slot 0), some 65, none⟩, []⟩,
  ⟨⟨.mv (.slot 9), some 66, none⟩, []⟩,
  ⟨⟨.mv (.slot 0), some 67, none⟩, []⟩,
  ⟨⟨.mv (.slot 10), some 68, none⟩, []⟩,
  ⟨⟨.mv (.slot 0), some 69, none⟩, []⟩,
  ⟨⟨.mv (.slot 10), some 70, none⟩, []⟩,
  ⟨⟨.iaddr 1 (.slot 69) (.slot 70), some 71, none⟩, []⟩,
  ⟨⟨.load false 1 (.slot 71), some 72, none⟩, []⟩,
  ⟨⟨.mv (.slot 0), some 73, none⟩, []⟩,
  ⟨⟨.mv (.slot 9), some 74, none⟩, []⟩,
  ⟨⟨.iaddr 1 (.slot 73) (.slot 74), some 75, none⟩, []⟩,
  ⟨⟨.load false 1 (.slot 75), some 76, none⟩, []⟩,
  ⟨⟨.iaddr 1 (.slot 65) (.slot 66), some 77, none⟩, []⟩,
  ⟨⟨.store 1 (.slot 77) (.slot 72), none, none⟩, []⟩,
  ⟨⟨.iaddr 1 (.slot 67) (.slot 68), some 78, none⟩, []⟩,
  ⟨⟨.store 1 (.slot 78) (.slot 76), none, none⟩, []⟩]
def r89_9 : List XLine := [⟨⟨.mv (.slot 9), some 79, none⟩, []⟩,
  ⟨⟨.bin .add 3 .num (.slot 79) (.const (.int .i64 (.ofNat 1))), some 80, none⟩, []⟩,
  ⟨⟨.mv (.slot 80), some 9, none⟩, []⟩]
def r89_10 : List XLine := [⟨⟨.mv (.slot 10), some 81, none⟩, []⟩,
  ⟨⟨.bin .sub 3 .num (.slot 81) (.const (.int .i64 (.ofNat 1))), some 82, none⟩, []⟩,
  ⟨⟨.mv (.slot 82), some 10, none⟩, []⟩]
def r89_11 : List XLine := [⟨⟨.mv (.slot 9), some 83, none⟩, []⟩,
  ⟨⟨.mv (.slot 83), some 8, none⟩, []⟩]
def xf89 : XFunc := ⟨(.seq (.region false r89_0)
  (.seq (.region true r89_1)
  (.seq (.region false r89_2)
  (.seq (.block 0 (.loop (.block 1 (.seq (.block 2 (.loop (.seq (.seq (.region true r89_3)
  (.cond (.slot 43)
  .skip
  (.exit 2)))
  (.block 3 (.region false r89_4)))))
  (.seq (.block 4 (.loop (.seq (.seq (.region true r89_5)
  (.cond (.slot 59)
  .skip
  (.exit 4)))
  (.block 5 (.region false r89_6)))))
  (.seq (.seq (.region false r89_7)
  (.cond (.slot 64)
  (.exit 0)
  .skip))
  (.seq (.region true r89_8)
  (.seq (.region false r89_9)
  (.region false r89_10)))))))))
  (.seq (.region false r89_11)
  .ret))))),
  [.tmp 8]⟩
theorem xf89_ok : compFunc Try.prog Try.f89 = some xf89 := by kernel_rfl
/- slices.partitionOrdered[int64] -/
def r90_0 : List XLine := [⟨⟨.mv (.const (.int .i64 (.ofNat 0))), some 8, none⟩, []⟩,
  ⟨⟨.mv (.const (.bool false)), some 9, none⟩, []⟩]
def r90_1 : List XLine := [⟨⟨.mv (.slot 0), some 12, none⟩, []⟩,
  ⟨⟨.mv (.slot 1), some 13, none⟩, []⟩,
  ⟨⟨.mv (.slot 0), some 14, none⟩, []⟩,
  ⟨⟨.mv (.slot 3), some 15, none⟩, []⟩,
  ⟨⟨.mv (.slot 0), some 16, none⟩, []⟩,
  ⟨⟨.mv (.slot 3), some 17, none⟩, []⟩,
  ⟨⟨.iaddr 1 (.slot 16) (.slot 17), some 18, none⟩, []⟩,
  ⟨⟨.load false 1 (.slot 18), some 19, none⟩, []⟩,
  ⟨⟨.mv (.slot 0), some 20, none⟩, []⟩,
  ⟨⟨.mv (.slot 1), some 21, none⟩, []⟩,
  ⟨⟨.iaddr 1 (.slot 20) (.slot 21), some 22, none⟩, []⟩,
  ⟨⟨.load false 1 (.slot 22), some 23, none⟩, []⟩,
  ⟨⟨.iaddr 1 (.slot 12) (.slot 13), some 24, none⟩, []⟩,
  ⟨⟨.store 1 (.slot 24) (.slot 19), none, none⟩, []⟩,
  ⟨⟨.iaddr 1 (.slot 14) (.slot 15), some 25, none⟩, []⟩,
  ⟨⟨.store 1 (.slot 25) (.slot 23), none, none⟩, []⟩]
def r90_2 : List XLine := [⟨⟨.mv (.slot 1), some 26, none⟩, []⟩,
  ⟨⟨.bin .add 3 .num (.slot 26) (.const (.int .i64 (.ofNat 1))), some 27, none⟩, []⟩,
  ⟨⟨.mv (.slot 2), some 28, none⟩, []⟩,
  ⟨⟨.bin .sub 3 .num (.slot 28) (.const (.int .i64 (.ofNat 1))), some 29, none⟩, []⟩,
  ⟨⟨.mv (.slot 27), some 10, none⟩, []⟩,
  ⟨⟨.mv (.slot 29), some 11, none⟩, []⟩]
def r90_3 : List XLine := [⟨⟨.mv (.slot 10), some 30, none⟩, []⟩,
  ⟨⟨.mv (.slot 11), some 31, none⟩, []⟩,
  ⟨⟨.bin .leq 3 .num (.slot 30) (.slot 31), some 32, none⟩, []⟩,
  ⟨⟨.mv (.slot 32), some 33, none⟩, []⟩,
  ⟨⟨.mv (.slot 0), some 34, some (33, true)⟩, []⟩,
  ⟨⟨.mv (.slot 10), some 35, some (33, true)⟩, []⟩,
  ⟨⟨.iaddr 1 (.slot 34) (.slot 35), some 36, some (33, true)⟩, []⟩,
  ⟨⟨.load false 1 (.slot 36), some 37, some (33, true)⟩, []⟩,
  ⟨⟨.mv (.slot 0), some 38, some (33, true)⟩, []⟩,
  ⟨⟨.mv (.slot 1), some 39, some (33, true)⟩, []⟩,
  ⟨⟨.iaddr 1 (.slot 38) (.slot 39), some 40, some (33, true)⟩, []⟩,
  ⟨⟨.load false 1 (.slot 40), some 41, some (33, true)⟩, []⟩,
  ⟨⟨.call (.const (.func 88 [] [])) [(.slot 37), (.slot 41)], some 42, some (33, true)⟩, []⟩,
  ⟨⟨.pick (.slot 33) (.slot 42) (.const (.bool false)), some 43, none⟩, []⟩]
def r90_4 : List XLine := [⟨⟨.mv (.slot 10), some 44, none⟩, []⟩,
  ⟨⟨.bin .add 3 .num (.slot 44) (.const (.int .i64 (.ofNat 1))), some 45, none⟩, []⟩,
  ⟨⟨.mv (.slot 45), some 10, none⟩, []⟩]
def r90_5 : List XLine := [⟨⟨.mv (.slot 10), some 46, none⟩, []⟩,
  ⟨⟨.mv (.slot 11), some 47, none⟩, []⟩,
  ⟨⟨.bin .leq 3 .num (.slot 46) (.slot 47), some 48, none⟩, []⟩,
  ⟨⟨.mv (.slot 48), some 49, none⟩, []⟩,
  ⟨⟨.mv (.slot 0), some 50, some (49, true)⟩, []⟩,
  ⟨⟨.mv (.slot 11), some 51, some (49, true)⟩, []⟩,
  ⟨⟨.iaddr 1 (.slot 50) (.slot 51), some 52, some (49, true)⟩, []⟩,
  ⟨⟨.load false 1 (.slot 52), some 53, some (49, true)⟩, []⟩,
  ⟨⟨.mv (.slot 0), some 54, some (49, true)⟩, []⟩,
  ⟨⟨.mv (.slot 1), some 55, some (49, true)⟩, []⟩,
  ⟨⟨.iaddr 1 (.slot 54) (.slot 55), some 56, some (49, true)⟩, []⟩,
  ⟨⟨.load false 1 (.slot 56), some 57, some (49, true)⟩, []⟩,
  ⟨⟨.call (.const (.func 88 [] [])) [(.slot 53), (.slot 57)], some 58, some (49, true)⟩, []⟩,
  ⟨⟨.un .not (.slot 58), some 59, some (49, true)⟩, []⟩,
  ⟨⟨.pick (.slot 49) (.slot 59) (.const (.bool false)), some 60, none⟩, []⟩]
def r90_6 : List XLine := [⟨⟨.mv (.slot 11), some 61, none⟩, []⟩,
  ⟨⟨.bin .sub 3 .num (.slot 61) (.const (.int .i64 (.ofNat 1))), some 62, none⟩, []⟩,
  ⟨⟨.mv (.slot 62), some 11, none⟩, []⟩]
def r90_7 : List XLine := [⟨⟨.mv (.slot 10), some 63, none⟩, []⟩,
  ⟨⟨.mv (.slot 11), some 64, none⟩, []⟩,
  ⟨⟨.bin .gtr 3 .num (.slot 63) (.slot 64), some 65, none⟩, []⟩]
def r90_8 : List XLine := [⟨⟨.mv (.slot 0), some 66, none⟩, []⟩,
  ⟨⟨.mv (.slot 11), some 67, none⟩, []⟩,
  ⟨⟨.mv (.slot 0), some 68, none⟩, []⟩,
  ⟨⟨.mv (.slot 1), some 69, none⟩, []⟩,
  ⟨⟨.mv (.slot 0), some 70, none⟩, []⟩,
  ⟨⟨.mv (.slot 1), some 71, none⟩, []⟩,
  ⟨⟨.iaddr 1 (.slot 70) (.slot 71), some 72, none⟩, []⟩,
  ⟨⟨.load false 1 (.slot 72), some 73, none⟩, []⟩,
  ⟨⟨.mv (.slot 0), some 74, none⟩, []⟩,
  ⟨⟨.mv (.slot 11), some 75, none⟩, []⟩,
  ⟨⟨.iaddr 1 (.slot 74) (.slot 75), some 76, none⟩, []⟩,
  ⟨⟨.load false 1 (.slot 76), some 77, none⟩, []⟩,
  ⟨⟨.iaddr 1 (.slot 66) (.slot 67), some 78, none⟩, []⟩,
  ⟨⟨.store 1 (.slot 78) (.slot 73), none, none⟩, []⟩,
  ⟨⟨.iaddr 1 (.slot 68) (.slot 69), some 79, none⟩, []⟩,
  ⟨⟨.store 1 (.slot 79) (.slot 77), none, none⟩, []⟩]
def r90_9 : List XLine := [⟨⟨.mv (.slot 11), some 80, none⟩, []⟩,
  ⟨⟨.mv (.slot 80), some 8, none⟩, []⟩,
  ⟨⟨.mv (.const (.bool true)), some 9, none⟩, []⟩]
def r90_10 : List XLine := [⟨⟨.mv (.slot 0), some 81, none⟩, []⟩,
  ⟨⟨.mv (.slot 10), some 82, none⟩, []⟩,
  ⟨⟨.mv (.slot 0), some 83, none⟩, []⟩,
  ⟨⟨.mv (.slot 11), some 84, none⟩, []⟩,
  ⟨⟨.mv (.slot 0), some 85, none⟩, []⟩,
  ⟨⟨.mv (.slot 11), some 86, none⟩, []⟩,
  ⟨⟨.iaddr 1 (.slot 85) (.slot 86), some 87, none⟩, []⟩,
  ⟨⟨.load false 1 (.slot 87), some 88, none⟩, []⟩,
  ⟨⟨.mv (.slot 0), some 89, none⟩, []⟩,
  ⟨⟨.mv (.slot 10), some 90, none⟩, []⟩,
  ⟨⟨.iaddr 1 (.slot 89) (.slot 90), some 91, none⟩, []⟩,
  ⟨⟨.load false 1 (.slot 91), some 92, none⟩, []⟩,
  ⟨⟨.iaddr 1 (.slot 81) (.slot 82), some 93, none⟩, []⟩,
  ⟨⟨.store 1 (.slot 93) (.slot 88), none, none⟩, []⟩,
  ⟨⟨.iaddr 1 (.slot 83) (.slot 84), some 94, none⟩, []⟩,
  ⟨⟨.store 1 (.slot 94) (.slot 92), none, none⟩, []⟩]
def r90_11 : List XLine := [⟨⟨.mv (.slot 10), some 95, none⟩, []⟩,
  ⟨⟨.bin .add 3 .num (.slot 95) (.const (.int .i64 (.ofNat 1))), some 96, none⟩, []⟩,
  ⟨⟨.mv (.slot 96), some 10, none⟩, []⟩]
def r90_12 : List XLine := [⟨⟨.mv (.slot 11), some 97, none⟩, []⟩,
  ⟨⟨.bin .sub 3 .num (.slot 97) (.const (.int .i64 (.ofNat 1))), some 98, none⟩, []⟩,
  ⟨⟨.mv (.slot 98), some 11, none⟩, []⟩]
def r90_13 : List XLine := [⟨⟨.mv (.slot 10), some 99, none⟩, []⟩,
  ⟨⟨.mv (.slot 11), some 100, none⟩, []⟩,
  ⟨⟨.bin .leq 3 .num (.slot 99) (.slot 100), some 101, none⟩, []⟩,
  ⟨⟨.mv (.slot 101), some 102, none⟩, []⟩,
  ⟨⟨.mv (.slot 0), some 103, some (102, true)⟩, []⟩,
  ⟨⟨.mv (.slot 10), some 104, some (102, true)⟩, []⟩,
  ⟨⟨.iaddr 1 (.slot 103) (.slot 104), some 105, some (102, true)⟩, []⟩,
  ⟨⟨.load false 1 (.slot 105), some 106, some (102, true)⟩, []⟩,
  ⟨⟨.mv (.slot 0), some 107, some (102, true)⟩, []⟩,
  ⟨⟨.mv (.slot 1), some 108, some (102, true)⟩, []⟩,
  ⟨⟨.iaddr 1 (.slot 107) (.slot 108), some 109, some (102, true)⟩, []⟩,
  ⟨⟨.load false 1 (.slot 109), some 110, some (102, true)⟩, []⟩,
  ⟨⟨.call (.const (.func 88 [] [])) [(.slot 106), (.slot 110)], some 111, some (102, true)⟩, []⟩,
  ⟨⟨.pick (.slot 102) (.slot 111) (.const (.bool false)), some 112, none⟩, []⟩]
def r90_14 : List XLine := [⟨⟨.mv (.slot 10), some 113, none⟩, []⟩,
  ⟨⟨.bin .add 3 .num (.slot 113) (.const (.int .i64 (.ofNat 1))), some 114, none⟩, []⟩,
  ⟨⟨.mv (.slot 114), some 10, none⟩, []⟩]
def r90_15 : List XLine := [⟨⟨.mv (.slot 10), some 115, none⟩, []⟩,
  ⟨⟨.mv (.slot 11), some 116, none⟩, []⟩,
  ⟨⟨.bin .leq 3 .num (.slot 115) (.slot 116), some 117, none⟩, []⟩,
  ⟨⟨.mv (.slot 117), some 118, none⟩, []⟩,
  ⟨⟨.mv (.slot 0), some 119, some (118, true)⟩, []⟩,
  ⟨⟨.mv (.slot 11), some 120, some (118, true)⟩, []⟩,
  ⟨⟨.iaddr 1 (.slot 119) (.slot 120), some 121, some (118, true)⟩, []⟩,
  ⟨⟨.load false 1 (.slot 121), some 122, some (118, true)⟩, []⟩,
  ⟨⟨.mv (.slot 0), some 123, some (118, true)⟩, []⟩,
  ⟨⟨.mv (.slot 1), some 124, some (118, true)⟩, []⟩,
  ⟨⟨.iaddr 1 (.slot 123) (.slot 124), some 125, some (118, true)⟩, []⟩,
  ⟨⟨.load false 1 (.slot 125), some 126, some (118, true)⟩, []⟩,
  ⟨⟨.call (.const (.func 88 [] [])) [(.slot 122), (.slot 126)], some 127, some (118, true)⟩, []⟩,
  ⟨⟨.un .not (.slot 127), some 128, some (118, true)⟩, []⟩,
  ⟨⟨.pick (.slot 118) (.slot 128) (.const (.bool false)), some 129, none⟩, []⟩]
def r90_16 : List XLine := [⟨⟨.mv (.slot 11), some 130, none⟩, []⟩,
  ⟨⟨.bin .sub 3 .num (.slot 130) (.const (.int .i64 (.ofNat 1))), some 131, none⟩, []⟩,
  ⟨⟨.mv (.slot 131), some 11, none⟩, []⟩]
def r90_17 : List XLine := [⟨⟨.mv (.slot 10), some 132, none⟩, []⟩,
  ⟨⟨.mv (.slot 11), some 133, none⟩, []⟩,
  ⟨⟨.bin .gtr 3 .num (.slot 132) (.slot 133), some 134, none⟩, []⟩]
def r90_18 : List XLine := [⟨⟨.mv (.slot 0), some 135, none⟩, []⟩,
  ⟨⟨.mv (.slot 10), some 136, none⟩, []⟩,
  ⟨⟨.mv (.slot 0), some 137, none⟩, []⟩,
  ⟨⟨.mv (.slot 11), some 138, none⟩, []⟩,
  ⟨⟨.mv (.slot 0), some 139, none⟩, []⟩,
  ⟨⟨.mv (.slot 11), some 140, none⟩, []⟩,
  ⟨⟨.iaddr 1 (.slot 139) (.slot 140), some 141, none⟩, []⟩,
  ⟨⟨.load false 1 (.slot 141), some 142, none⟩, []⟩,
  ⟨⟨.mv (.slot 0), some 143, none⟩, []⟩,
  ⟨⟨.mv (.slot 10), some 144, none⟩, []⟩,
  ⟨⟨.iaddr 1 (.slot 143) (.slot 144), some 145, none⟩, []⟩,
  ⟨⟨.load false 1 (.slot 145), some 146, none⟩, []⟩,
  ⟨⟨.iaddr 1 (.slot 135) (.slot 136), some 147, none⟩, []⟩,
  ⟨⟨.store 1 (.slot 147) (.slot 142), none, none⟩, []⟩,
  ⟨⟨.iaddr 1 (.slot 137) (.slot 138), some 148, none⟩, []⟩,
  ⟨⟨.store 1 (.slot 148) (.slot 146), none, none⟩, []⟩]
def r90_19 : List XLine := [⟨⟨.mv (.slot 10), some 149, none⟩, []⟩,
  ⟨⟨.bin .add 3 .num (.slot 149) (.const (.int .i64 (.ofNat 1))), some 150, none⟩, []⟩,
  ⟨⟨.mv (.slot 150), some 10, none⟩, []⟩]
def r90_20 : List XLine := [⟨⟨.mv (.slot 11), some 151, none⟩, []⟩,
  ⟨⟨.bin .sub 3 .num (.slot 151) (.const (.int .i64 (.ofNat 1))), some 152, none⟩, []⟩,
  ⟨⟨.mv (.slot 152), some 11, none⟩, []⟩]
def r90_21 : List XLine := [⟨⟨.mv (.slot 0), some 153, none⟩, []⟩,
  ⟨⟨.mv (.slot 11), some 154, none⟩, []⟩,
  ⟨⟨.mv (.slot 0), some 155, none⟩, []⟩,
  ⟨⟨.mv (.slot 1), some 156, none⟩, []⟩,
  ⟨⟨.mv (.slot 0), some 157, none⟩, []⟩,
  ⟨⟨.mv (.slot 1), some 158, none⟩, []⟩,
  ⟨⟨.iaddr 1 (.slot 157) (.slot 158), some 159, none⟩, []⟩,
  ⟨⟨.load false 1 (.slot 159), some 160, none⟩, []⟩,
  ⟨⟨.mv (.slot 0), some 161, none⟩, []⟩,
  ⟨⟨.mv (.slot 11), some 162, none⟩, []⟩,
  ⟨⟨.iaddr 1 (.slot 161) (.slot 162), some 163, none⟩, []⟩,
  ⟨⟨.load false 1 (.slot 163), some 164, none⟩, []⟩,
  ⟨⟨.iaddr 1 (.slot 153) (.slot 154), some 165, none⟩, []⟩,
  ⟨⟨.store 1 (.slot 165) (.slot 160), none, none⟩, []⟩,
  ⟨⟨.iaddr 1 (.slot 155) (.slot 156), some 166, none⟩, []⟩,
  ⟨⟨.store 1 (.slot 166) (.slot 164), none, none⟩, []⟩]
def r90_22 : List XLine := [⟨⟨.mv (.slot 11), some 167, none⟩, []⟩,
  ⟨⟨.mv (.slot 167), some 8, none⟩, []⟩,
  ⟨⟨.mv (.const (.bool false)), some 9, none⟩, []⟩]
def xf90 : XFunc := ⟨(.seq (.region false r90_0)
  (.seq (.region true r90_1)
  (.seq (.region false r90_2)
  (.seq (.block 0 (.loop (.seq (.seq (.region true r90_3)
  (.cond (.slot 43)
  .skip
  (.exit 0)))
  (.block 1 (.region false r90_4)))))
  (.seq (.block 2 (.loop (.seq (.seq (.region true r90_5)
  (.cond (.slot 60)
  .skip
  (.exit 2)))
  (.block 3 (.region false r90_6)))))
  (.seq (.seq (.region false r90_7)
  (.cond (.slot 65)
  (.seq (.region true r90_8)
  (.seq (.region false r90_9)
  .ret))
  .skip))
  (.seq (.region true r90_10)
  (.seq (.region false r90_11)
  (.seq (.region false r90_12)
  (.seq (.block 4 (.loop (.block 5 (.seq (.block 6 (.loop (.seq (.seq (.region true r90_13)
  (.cond (.slot 112)
  .skip
  (.exit 6)))
  (.block 7 (.region false r90_14)))))
  (.seq (.block 8 (.loop (.seq (.seq (.region true r90_15)
  (.cond (.slot 129)
  .skip
  (.exit 8)))
  (.block 9 (.region false r90_16)))))
  (.seq (.seq (.region false r90_17)
  (.cond (.slot 134)
  (.exit 4)
  .skip))
  (.seq (.region true r90_18)
  (.seq (.region false r90_19)
  (.region false r90_20)))))))))
  (.seq (.region true r90_21)
  (.seq (.region false r90_22)
  .ret)))))))))))),
  [.tmp 8, .tmp 9]⟩
theorem xf90_ok : compFunc Try.prog Try.f90 = some xf90 := by kernel_rfl
/- slices.siftDownCmpFunc[threshing/api.Lit] -/
def r91_0 : List XLine := [⟨⟨.mv (.slot 1), some 12, none⟩, []⟩,
  ⟨⟨.mv (.slot 12), some 10, none⟩, []⟩]
def r91_1 : List XLine := [⟨⟨.mv (.slot 10), some 13, none⟩, []⟩,
  ⟨⟨.bin .mul 3 .num (.const (.int .i64 (.ofNat 2))) (.slot 13), some 14, none⟩, []⟩,
  ⟨⟨.bin .add 3 .num (.slot 14) (.const (.int .i64 (.ofNat 1))), some 15, none⟩, []⟩,
  ⟨⟨.mv (.slot 15), some 11, none⟩, []⟩]
def r91_2 : List XLine := [⟨⟨.mv (.slot 11), some 16, none⟩, []⟩,
  ⟨⟨.mv (.slot 2), some 17, none⟩, []⟩,
  ⟨⟨.bin .geq 3 .num (.slot 16) (.slot 17), some 18, none⟩, []⟩]
def r91_3 : List XLine := [⟨⟨.mv (.slot 11), some 19, none⟩, []⟩,
  ⟨⟨.bin .add 3 .num (.slot 19) (.const (.int .i64 (.ofNat 1))), some 20, none⟩, []⟩,
  ⟨⟨.mv (.slot 2), some 21, none⟩, []⟩,
  ⟨⟨.bin .lss 3 .num (.slot 20) (.slot 21), some 22, none⟩, []⟩,
  ⟨⟨.mv (.slot 22), some 23, none⟩, []⟩,
  ⟨⟨.mv (.slot 4), some 24, some (23, true)⟩, []⟩,
  ⟨⟨.mv (.slot 0), some 25, some (23, true)⟩, []⟩,
  ⟨⟨.mv (.slot 3), some 26, some (23, true)⟩, []⟩,
  ⟨⟨.mv (.slot 11), some 27, some (23, true)⟩, []⟩,
  ⟨⟨.bin .add 3 .num (.slot 26) (.slot 27), some 28, some (23, true)⟩, []⟩,
  ⟨⟨.iaddr 1 (.slot 25) (.slot 28), some 29, some (23, true)⟩, []⟩,
  ⟨⟨.load false 1 (.slot 29), some 30, some (23, true)⟩, []⟩,
  ⟨⟨.mv (.slot 0), some 31, some (23, true)⟩, []⟩,
  ⟨⟨.mv (.slot 3), some 32, some (23, true)⟩, []⟩,
  ⟨⟨.mv (.slot 11), some 33, some (23, true)⟩, []⟩,
  ⟨⟨.bin .add 3 .num (.slot 32) (.slot 33), some 34, some (23, true)⟩, []⟩,
  ⟨⟨.bin .add 3 .num (.slot 34) (.const (.int .i64 (.ofNat 1))), some 35, some (23, true)⟩, []⟩,
  ⟨⟨.iaddr 1 (.slot 31) (.slot 35), some 36, some (23, true)⟩, []⟩,
  ⟨⟨.load false 1 (.slot 36), some 37, some (23, true)⟩, []⟩,
  ⟨⟨.call (.slot 24) [(.slot 30), (.slot 37)], some 38, some (23, true)⟩, []⟩,
  ⟨⟨.bin .lss 3 .num (.slot 38) (.const (.int .i64 (.ofNat 0))), some 39, some (23, true)⟩, []⟩,
  ⟨⟨.pick (.slot 23) (.slot 39) (.const (.bool false)), some 40, none⟩, []⟩]
def r91_4 : List XLine := [⟨⟨.mv (.slot 11), some 41, none⟩, []⟩,
  ⟨⟨.bin .add 3 .num (.slot 41) (.const (.int .i64 (.ofNat 1))), some 42, none⟩, []⟩,
  ⟨⟨.mv (.slot 42), some 11, none⟩, []⟩]
def r91_5 : List XLine := [⟨⟨.mv (.slot 4), some 43, none⟩, []⟩,
  ⟨⟨.mv (.slot 0), some 44, none⟩, []⟩,
  ⟨⟨.mv (.slot 3), some 45, none⟩, []⟩,
  ⟨⟨.mv (.slot 10), some 46, none⟩, []⟩,
  ⟨⟨.bin .add 3 .num (.slot 45) (.slot 46), some 47, none⟩, []⟩,
  ⟨⟨.iaddr 1 (.slot 44) (.slot 47), some 48, none⟩, []⟩,
  ⟨⟨.load false 1 (.slot 48), some 49, none⟩, []⟩,
  ⟨⟨.mv (.slot 0), some 50, none⟩, []⟩,
  ⟨⟨.mv (.slot 3), some 51, none⟩, []⟩,
  ⟨⟨.mv (.slot 11), some 52, none⟩, []⟩,
  ⟨⟨.bin .add 3 .num (.slot 51) (.slot 52), some 53, none⟩, []⟩,
  ⟨⟨.iaddr 1 (.slot 50) (.slot 53), some 54, none⟩, []⟩,
  ⟨⟨.load false 1 (.slot 54), some 55, none⟩, []⟩,
  ⟨⟨.call (.slot 43) [(.slot 49), (.slot 55)], some 56, none⟩, []⟩,
  ⟨⟨.bin .lss 3 .num (.slot 56) (.const (.int .i64 (.ofNat 0))), some 57, none⟩, []⟩,
  ⟨⟨.un .not (.slot 57), some 58, none⟩, []⟩]
def r91_6 : List XLine := [⟨⟨.mv (.slot 0), some 59, none⟩, []⟩,
  ⟨⟨.mv (.slot 3), some 60, none⟩, []⟩,
  ⟨⟨.mv (.slot 10), some 61, none⟩, []⟩,
  ⟨⟨.bin .add 3 .num (.slot 60) (.slot 61), some 62, none⟩, []⟩,
  ⟨⟨.mv (.slot 0), some 63, none⟩, []⟩,
  ⟨⟨.mv (.slot 3), some 64, none⟩, []⟩,
  ⟨⟨.mv (.slot 11), some 65, none⟩, []⟩,
  ⟨⟨.bin .add 3 .num (.slot 64) (.slot 65), some 66, none⟩, []⟩,
  ⟨⟨.mv (.slot 0), some 67, none⟩, []⟩,
  ⟨⟨.mv (.slot 3), some 68, none⟩, []⟩,
  ⟨⟨.mv (.slot 11), some 69, none⟩, []⟩,
  ⟨⟨.bin .add 3 .num (.slot 68) (.slot 69), some 70, none⟩, []⟩,
  ⟨⟨.iaddr 1 (.slot 67) (.slot 70), some 71, none⟩, []⟩,
  ⟨⟨.load false 1 (.slot 71), some 72, none⟩, []⟩,
  ⟨⟨.mv (.slot 0), some 73, none⟩, []⟩,
  ⟨⟨.mv (.slot 3), some 74, none⟩, []⟩,
  ⟨⟨.mv (.slot 10), some 75, none⟩, []⟩,
  ⟨⟨.bin .add 3 .num (.slot 74) (.slot 75), some 76, none⟩, []⟩,
  ⟨⟨.iaddr 1 (.slot 73) (.slot 76), some 77, none⟩, []⟩,
  ⟨⟨.load false 1 (.slot 77), some 78, none⟩, []⟩,
  ⟨⟨.iaddr 1 (.slot 59) (.slot 62), some 79, none⟩, []⟩,
  ⟨⟨.store 1 (.slot 79) (.slot 72), none, none⟩, []⟩,
  ⟨⟨.iaddr 1 (.slot 63) (.slot 66), some 80, none⟩, []⟩,
  ⟨⟨.store 1 (.slot 80) (.slot 78), none, none⟩, []⟩]
def r91_7 : List XLine := [⟨⟨.mv (.slot 11), some 81, none⟩, []⟩,
  ⟨⟨.mv (.slot 81), some 10, none⟩, []⟩]
def xf91 : XFunc := ⟨(.seq (.region false r91_0)
  (.block 0 (.loop (.block 1 (.seq (.region false r91_1)
  (.seq (.seq (.region false r91_2)
  (.cond (.slot 18)
  (.exit 0)
  .skip))
  (.seq (.seq (.region true r91_3)
  (.cond (.slot 40)
  (.region false r91_4)
  .skip))
  (.seq (.seq (.region true r91_5)
  (.cond (.slot 58)
  .ret
  .skip))
  (.seq (.region true r91_6)
  (.region false r91_7)))))))))),
  []⟩
theorem xf91_ok : compFunc Try.prog Try.f91 = some xf91 := by kernel_rfl
/- slices.nextPowerOfTwo -/
def r92_0 : List XLine := [⟨⟨.mv (.const (.int .u64 (.ofNat 0))), some 2, none⟩, []⟩]
def r92_1 : List XLine := [⟨⟨.mv (.slot 0), some 3, none⟩, []⟩,
  ⟨⟨.conv .u64 (.slot 3), some 4, none⟩, []⟩,
  ⟨⟨.call (.const (.func 58 [] [])) [(.slot 4)], some 5, none⟩, []⟩,
  ⟨⟨.bin .shl 108 .num (.const (.int .u64 (.ofNat 1))) (.slot 5), some 6, none⟩, []⟩,
  ⟨⟨.mv (.slot 6), some 2, none⟩, []⟩]
def xf92 : XFunc := ⟨(.seq (.region false r92_0)
  (.seq (.region false r92_1)
  .ret)),
  [.tmp 2]⟩
theorem xf92_ok : compFunc Try.prog Try.f92 = some xf92 := by kernel_rfl
/- (*slices.xorshift).Next -/
def r93_0 : List XLine := [⟨⟨.mv (.const (.int .u64 (.ofNat 0))), some 2, none⟩, []⟩]
def r93_1 : List XLine := [⟨⟨.mv (.slot 0), some 3, none⟩, []⟩,
  ⟨⟨.nilCheck (.slot 3), some 4, none⟩, []⟩,
  ⟨⟨.load false 1 (.slot 4), some 5, none⟩, []⟩,
  ⟨⟨.mv (.slot 0), some 6, none⟩, []⟩,
  ⟨⟨.nilCheck (.slot 6), some 7, none⟩, []⟩,
  ⟨⟨.load false 1 (.slot 7), some 8, none⟩, []⟩,
  ⟨⟨.bin .shl 137 .num (.slot 8) (.const (.int .u64 (.ofNat 13))), some 9, none⟩, []⟩,
  ⟨⟨.bin .xor 137 .num (.slot 5) (.slot 9), some 10, none⟩, []⟩,
  ⟨⟨.nilCheck (.slot 3), some 11, none⟩, []⟩,
  ⟨⟨.store 1 (.slot 11) (.slot 10), none, none⟩, []⟩]
def r93_2 : List XLine := [⟨⟨.mv (.slot 0), some 12, none⟩, []⟩,
  ⟨⟨.nilCheck (.slot 12), some 13, none⟩, []⟩,
  ⟨⟨.load false 1 (.slot 13), some 14, none⟩, []⟩,
  ⟨⟨.mv (.slot 0), some 15, none⟩, []⟩,
  ⟨⟨.nilCheck (.slot 15), some 16, none⟩, []⟩,
  ⟨⟨.load false 1 (.slot 16), some 17, none⟩, []⟩,
  ⟨⟨.bin .shr 137 .num (.slot 17) (.const (.int .u64 (.ofNat 7))), some 18, none⟩, []⟩,
  ⟨⟨.bin .xor 137 .num (.slot 14) (.slot 18), some 19, none⟩, []⟩,
  ⟨⟨.nilCheck (.slot 12), some 20, none⟩, []⟩,
  ⟨⟨.store 1 (.slot 20) (.slot 19), none, none⟩, []⟩]
def r93_3 : List XLine := [⟨⟨.mv (.slot 0), some 21, none⟩, []⟩,
  ⟨⟨.nilCheck (.slot 21), some 22, none⟩, []⟩,
  ⟨⟨.load false 1 (.slot 22), some 23, none⟩, []⟩,
  ⟨⟨.mv (.slot 0), some 24, none⟩, []⟩,
  ⟨⟨.nilCheck (.slot 24), some 25, none⟩, []⟩,
  ⟨⟨.load false 1 (.slot 25), some 26, none⟩, []⟩,
  ⟨⟨.bin .shl 137 .num (.slot 26) (.const (.int .u64 (.ofNat 17))), some 27, none⟩, []⟩,
  ⟨⟨.bin .xor 137 .num (.slot 23) (.slot 27), some 28, none⟩, []⟩,
  ⟨⟨.nilCheck (.slot 21), some 29, none⟩, []⟩,
  ⟨⟨.store 1 (.slot 29) (.slot 28), none, none⟩, []⟩]
def r93_4 : List XLine := [⟨⟨.mv (.slot 0), some 30, none⟩, []⟩,
  ⟨⟨.nilCheck (.slot 30), some 31, none⟩, []⟩,
  ⟨⟨.load false 1 (.slot 31), some 32, none⟩, []⟩,
  ⟨⟨.mv (.slot 32), some 2, none⟩, []⟩]
def xf93 : XFunc := ⟨(.seq (.region false r93_0)
  (.seq (.region true r93_1)
  (.seq (.region true r93_2)
  (.seq (.region true r93_3)
  (.seq (.region false r93_4)
  .ret))))),
  [.tmp 2]⟩
theorem xf93_ok : compFunc Try.prog Try.f93 = some xf93 := by kernel_rfl
end Go.Proofs.Ytogolfiljijhlaa
